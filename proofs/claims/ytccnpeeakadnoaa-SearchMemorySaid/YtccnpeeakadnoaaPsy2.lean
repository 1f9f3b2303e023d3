/- The walks of the functions (printed by a program of ours). -/
import Derived.Test.YtccnpeeakadnoaaPsy1
import Derived.Test.YtccnpeeakadnoaaPsyVeC
import Derived.Test.YtccnpeeakadnoaaPsyISy
import Derived.Test.YtccnpeeakadnoaaPsyVeN
import Derived.Test.YtccnpeeakadnoaaPsyVeM
set_option linter.unusedVariables false
set_option linter.unusedSimpArgs false
set_option linter.unusedSectionVars false
/-! (KSy4) -/

set_option maxRecDepth 100000
set_option maxHeartbeats 4000000
set_option linter.unusedVariables false
namespace Go.Vd
open Go.Proofs
attribute [local irreducible] wpSeq wpOrd aWp
theorem c_search_From {H : AH} {hd_First : Value} {fp_First : Fp} {hd_To : Value} {fp_To : Fp} {hd_Weight : Value} {fp_Weight : Fp} {First : List (Int)} {To : List (Int)} {Weight : List (Int)} {s : Int} {r : List (Int) × Er}
    (wf : WF H) (h_First : Sq (encI .i64) 1 H hd_First First fp_First) (h_To : Sq (encI .i64) 1 H hd_To To fp_To) (h_Weight : Sq (encI .i64) 1 H hd_Weight Weight fp_Weight) (hr : z_search_From First To Weight s = some r) :
    ACalls Try.prog 10 #[.agg #[hd_First, hd_To, hd_Weight], i_ s] H fun v H' => ∃ (s3 : Value) (f4 : Fp) (v7 : Value) (f8 : Fp), v = .tuple #[s3, v7] ∧ FrS [] H H' ∧ Ow (encI .u64) 1 H' s3 r.1 f4 ∧ Ev 122 235 H' v7 r.2 f8 ∧ Inn [] H f4 ∧ Inn [] H f8 ∧ Dj f4 f8 := by
 refine acalls_of_body mixed Try.func10 rfl (Nat.le_of_ble_eq_true rfl) ?_
 unfold z_search_From at hr
 refine w_seqk fun _ k12 => g_' ?_
 refine s_rwl wf [hd_First, hd_To, hd_Weight] (one_cons (h_First.one1) (one_cons (h_To.one1) (one_cons (h_Weight.one1) (one_nil)))) (by kernel_rfl) fun b13 H14 e15 hb16 r17 => ?_
 refine q_ (.slice none 0 0) (q_ (.nilIface) (s_nil (k12 _ _ (w_seqk fun _ k19 => w_seqk fun _ k20 => g_' ?_))))
 refine l_' (.agg #[hd_First, hd_To, hd_Weight]) (aLoad Try.prog 27 (pt_ b13 0) H14) (r17.ld (by kernel_rfl)) ?_
 refine q_ (i_ s) ?_
 refine s_owk (enc := (encI .i64)) (sz := 1) e15.wf [s] 1 (by decide) (fun _ _ => rfl) (fun _ _ => rfl) rfl (by kernel_rfl) fun s21 f22 H23 e24 hf25 hm26 => ?_
 obtain ⟨a27, n28, c29, rfl⟩ := hm26.form
 have u31 := ((h_First.ext e15).ext e24)
 have u32 := ((h_To.ext e15).ext e24)
 have u33 := ((h_Weight.ext e15).ext e24)
 obtain ⟨y34, hy35, r36⟩ := bind_some hr
 refine s_ck 58 #[.agg #[hd_First, hd_To, hd_Weight], .slice a27 n28 c29] (by kernel_rfl) (c_search_node e24.wf u31 u32 u33 hm26.sq hy35) ?_
 rintro v37 H39 ⟨_, f38, rfl, e40, m41, i42⟩
 refine q_ (v37) (s_nil (k20 _ _ (w_seqk fun _ k44 => g_' (q_ (v37) ?_))))
 rcases (m41).cases with ⟨h45, rfl⟩ | ⟨h45, t46, x47, rfl⟩
 ·have r48 := ite_t h45 r36
  refine q_ (.bool false) (s_nil (k44 _ _ ?_))
  refine w_cond false (by kernel_rfl) rfl (fun h => by cases h) (fun _ => ?_)
  refine w_skip (k19 _ _ (w_seqk fun _ k49 => ?_))
  refine w_draw [0, 1, 2, 3, 4, 5, 6] (by kernel_rfl) ?_
  have u50 := ((r17.ext e24).frS e40 Dj.nil_l)
  refine d_fl (.agg #[hd_First, hd_To, hd_Weight]) (x := aLoad Try.prog 27 (pt_ b13 0) H39) (by kernel_rfl) (u50.ld (by kernel_rfl)) ?_
  refine e_' (i_ s) ?_
  obtain ⟨y51, hy52, r53⟩ := bind_some r48
  refine d_ck 60 #[] (by kernel_rfl) (c_search_free e40.wf hy52) ?_
  rintro _ H54 ⟨rfl, e55⟩
  have u56 := (u50.frS e55 Dj.nil_l)
  refine ⟨st_ql (y := aLoad Try.prog 27 (pt_ b13 0) H54) (by kernel_rfl) (u56.ld (by kernel_rfl)) (st_nil), ?_⟩
  have u57 := ((u31.fr e40 Dj.nil_l).fr e55 Dj.nil_l)
  have u58 := ((u32.fr e40 Dj.nil_l).fr e55 Dj.nil_l)
  have u59 := ((u33.fr e40 Dj.nil_l).fr e55 Dj.nil_l)
  obtain ⟨y60, hy61, r62⟩ := bind_some r53
  refine d_ck 59 #[.agg #[hd_First, hd_To, hd_Weight], i_ s, .agg #[i_ 4611686018427387904, i_ 4611686018427387904, .int .u64 18446744073709551615]] (by kernel_rfl) (c_search_run e55.wf u57 u58 u59 hy61) ?_
  rintro _ H76 ⟨s63, f64, s65, f66, b67, s68, f69, b70, s71, f72, s73, f74, b75, rfl, e77, m78, m79, m80, m81, m82, m83, m84, m85, i86, i87, i88, i89, i90, i91, i92, i93, d94, d95, d96, d97, d98, d99, d100, d101, d102, d103, d104, d105, d106, d107, d108, d109, d110, d111, d112, d113, d114, d115, d116, d117, d118, d119, d120, d121⟩
  obtain ⟨a130, n131, c132, rfl⟩ := m78.form
  obtain ⟨a133, n134, c135, rfl⟩ := m79.form
  obtain ⟨a136, n137, c138, rfl⟩ := m81.form
  obtain ⟨a139, n140, c141, rfl⟩ := m83.form
  obtain ⟨a142, n143, c144, rfl⟩ := m84.form
  refine ⟨st_anc (by kernel_rfl) (st_nil), ?_⟩
  have u145 := (u57.fr e77 Dj.nil_l)
  have u146 := (u58.fr e77 Dj.nil_l)
  have u147 := (u59.fr e77 Dj.nil_l)
  obtain ⟨y148, hy149, r150⟩ := bind_some r62
  refine d_ck 61 #[pt_ b75 0] (by kernel_rfl) (c_search_state_all e77.wf u145 u146 u147 m78.sq m79.sq m80 m81.sq m82 m83.sq m84.sq m85 hy149) ?_
  rintro s151 H153 ⟨_, f152, rfl, e154, m155, i156⟩
  obtain ⟨a158, n159, c160, rfl⟩ := m155.form
  refine ⟨st_anc (by kernel_rfl) (st_nil), ?_⟩
  refine e_' (.slice a158 n159 c160) (e_' (.nilIface) ?_)
  refine d_nil ?_
  refine k49 _ _ ?_
  refine w_ret ?_
  refine b_ret (fn := Try.f10) (vs := [.slice a158 n159 c160, .nilIface]) (aRes_tmp (by kernel_rfl) (aRes_tmp (by kernel_rfl) (rfl))) ?_
  obtain rfl := Option.some.inj r150
  exact ⟨(.slice a158 n159 c160), f152, (.nilIface), [], rfl, (FrS.step wf (FrS.step wf (FrS.step wf (FrS.step wf (((FrS.refl (W := []) wf).extR e15).extR e24) e40 Inn.nil) e55 Inn.nil) e77 Inn.nil) e154 Inn.nil), m155, Ev.nil, (i156.fresh (ntr (ntr (ntr (ntr e15.next e24.next) e40.next) e55.next) e77.next)), Inn.nil, Dj.nil_r⟩
 have r161 := ite_f h45 r36
 refine l_' (.bool true) (aBin Try.prog .neq 31 (.tmp 11) (.const .nilIface) (.iface t46 x47) .nilIface) (aBin_nnil (by kernel_rfl)) ?_
 refine s_nil (k44 _ _ ?_)
 refine w_cond true (by kernel_rfl) rfl (fun _ => ?_) (fun h => by cases h)
 refine w_seqk fun _ k162 => g_' (q_ (.iface t46 x47) (q_ (.slice none 0 0) (q_ (.iface t46 x47) (s_nil (k162 _ _ ?_)))))
 refine w_ret (th_ret ?_)
 refine b_ret (fn := Try.f10) (vs := [.slice none 0 0, .iface t46 x47]) (aRes_tmp (by kernel_rfl) (aRes_tmp (by kernel_rfl) (rfl))) ?_
 obtain rfl := Option.some.inj r161
 exact ⟨(.slice none 0 0), [], (.iface t46 x47), f38, rfl, (FrS.step wf (((FrS.refl (W := []) wf).extR e15).extR e24) e40 Inn.nil), (Ow.nil (by decide)), m41, Inn.nil, (i42.fresh (ntr e15.next e24.next)), Dj.nil_l⟩
theorem c_search_Matrix {H : AH} {hd_First : Value} {fp_First : Fp} {hd_To : Value} {fp_To : Fp} {hd_Weight : Value} {fp_Weight : Fp} {First : List (Int)} {To : List (Int)} {Weight : List (Int)} {r : List (List (Int)) × Er}
    (wf : WF H) (h_First : Sq (encI .i64) 1 H hd_First First fp_First) (h_To : Sq (encI .i64) 1 H hd_To To fp_To) (h_Weight : Sq (encI .i64) 1 H hd_Weight Weight fp_Weight) (hr : z_search_Matrix First To Weight = some r) :
    ACalls Try.prog 11 #[.agg #[hd_First, hd_To, hd_Weight]] H fun v H' => ∃ (s3 : Value) (f4 : Fp) (v7 : Value) (f8 : Fp), v = .tuple #[s3, v7] ∧ FrS [] H H' ∧ Nst (CR.sl (encI .u64) 1) H' s3 r.1 f4 ∧ Ev 122 235 H' v7 r.2 f8 ∧ Inn [] H f4 ∧ Inn [] H f8 ∧ Dj f4 f8 := by
 refine acalls_of_body mixed Try.func11 rfl (Nat.le_of_ble_eq_true rfl) ?_
 unfold z_search_Matrix at hr
 refine w_seqk fun _ k12 => g_' ?_
 refine s_rwl wf [hd_First, hd_To, hd_Weight] (one_cons (h_First.one1) (one_cons (h_To.one1) (one_cons (h_Weight.one1) (one_nil)))) (by kernel_rfl) fun b13 H14 e15 hb16 r17 => ?_
 refine q_ (.slice none 0 0) (q_ (.nilIface) (s_nil (k12 _ _ (w_seqk fun _ k19 => w_seqk fun _ k20 => g_' ?_))))
 refine l_' (.agg #[hd_First, hd_To, hd_Weight]) (aLoad Try.prog 27 (pt_ b13 0) H14) (r17.ld (by kernel_rfl)) ?_
 have u21 := (h_First.ext e15)
 have u22 := (h_To.ext e15)
 have u23 := (h_Weight.ext e15)
 obtain ⟨y24, hy25, r26⟩ := bind_some hr
 refine s_ck 62 #[.agg #[hd_First, hd_To, hd_Weight]] (by kernel_rfl) (c_csr_Check e15.wf u21 u22 u23 hy25) ?_
 rintro v27 H29 ⟨_, f28, rfl, e30, m31, i32⟩
 refine q_ (v27) (s_nil (k20 _ _ (w_seqk fun _ k34 => g_' (q_ (v27) ?_))))
 rcases (m31).cases with ⟨h35, rfl⟩ | ⟨h35, t36, x37, rfl⟩
 ·have r38 := ite_t h35 r26
  refine q_ (.bool false) (s_nil (k34 _ _ ?_))
  refine w_cond false (by kernel_rfl) rfl (fun h => by cases h) (fun _ => ?_)
  refine w_skip (k19 _ _ (w_seqk fun _ k39 => g_' ?_))
  have u40 := (r17.frS e30 Dj.nil_l)
  refine l_' (.agg #[hd_First, hd_To, hd_Weight]) (aLoad Try.prog 27 (pt_ b13 0) H29) (u40.ld (by kernel_rfl)) ?_
  have u41 := (u21.fr e30 Dj.nil_l)
  have u42 := (u22.fr e30 Dj.nil_l)
  have u43 := (u23.fr e30 Dj.nil_l)
  obtain ⟨y44, hy45, r46⟩ := bind_some r38
  refine s_ck 63 #[.agg #[hd_First, hd_To, hd_Weight]] (by kernel_rfl) (c_search_nodes e30.wf u41 u42 u43 hy45) ?_
  rintro _ H47 ⟨rfl, e48⟩
  refine q_ (i_ y44) (s_nil (k39 _ _ (w_seqk fun _ k49 => w_seqk fun _ k50 => g_' (q_ (i_ y44) (q_ (i_ y44) ?_)))))
  obtain ⟨g51, r52⟩ := G_some r46
  refine w_' (y44 * y44) (wrap64 g51) ?_
  refine q_ (.bool (decide ((y44 * y44) > 1048576))) (s_nil (k50 _ _ ?_))
  refine w_condp ((y44 * y44) > 1048576) (by kernel_rfl) rfl (fun h53 => ?_) (fun h53 => ?_)
  ·have r54 := ite_t h53 r52
   refine w_seqk fun _ k55 => g_' (q_ (.iface 122 (i_ 9)) (q_ (.slice none 0 0) (q_ (.iface 122 (i_ 9)) (s_nil (k55 _ _ ?_)))))
   refine w_ret (th_ret ?_)
   refine b_ret (fn := Try.f11) (vs := [.slice none 0 0, .iface 122 (i_ 9)]) (aRes_tmp (by kernel_rfl) (aRes_tmp (by kernel_rfl) (rfl))) ?_
   obtain rfl := Option.some.inj r54
   exact ⟨(.slice none 0 0), [], (.iface 122 (i_ 9)), [], rfl, (FrS.step wf (FrS.step wf ((FrS.refl (W := []) wf).extR e15) e30 Inn.nil) e48 Inn.nil), Nst.nil, Ev.no, Inn.nil, Inn.nil, Dj.nil_l⟩
  have r56 := ite_f h53 r52
  refine w_skip (k49 _ _ (w_seqk fun _ k57 => g_' (q_ (.slice none 0 0) (s_nil (k57 _ _ (w_seqk fun _ k58 => w_seqk fun _ k59 => g_' (q_ (i_ y44) (q_ (i_ 0) (s_nil (k59 _ _ ?_))))))))))
  obtain ⟨o60, hx61, r62⟩ := bind_some r56
  refine w_mid (fun α H63 => ∃ (s67 : Value) (f68 : Fp), Has α [(6, s67)] ∧ FrS [] H47 H63 ∧ Nst (CR.sl (encI .u64) 1) H63 s67 o60 f68 ∧ Inn [] H47 f68) (fun _ k70 => ?_) (fun α H63 hM => ?_)
  ·refine w_block ?_
   obtain ⟨n72, hn73⟩ := loopO_iff.1 hx61
   refine w_loopn (fun n α H74 => ∃ (i0 : Int), ∃ (l1 : List (List (Int))), ∃ (s78 : Value), ∃ (f79 : Fp), iterO (fun zz_ => z_search_Matrix_l0 First To Weight y44 zz_.1 zz_.2) n (i0, l1) = some o60 ∧ Has α [(1, pt_ b13 0), (6, s78), (20, i_ y44), (21, i_ i0)] ∧ FrS [] H47 H74 ∧ Nst (CR.sl (encI .u64) 1) H74 s78 l1 f79 ∧ Inn [] H47 f79) n72 ⟨0, [], (.slice none 0 0), [], hn73, ha_, (FrS.refl (W := []) e48.wf), Nst.nil, Inn.nil⟩ ?_
   rintro n72 α H74 ⟨i0, l1, s78, f79, hi82, hh81, e75, m77, i80⟩ K87 k87
   obtain ⟨n83, z84, rfl, hz85, hn86⟩ := iter_succ hi82
   obtain ⟨β, rfl⟩ := has_ex hh81
   clear hh81
   replace hz85 : z_search_Matrix_l0 First To Weight y44 i0 l1 = some z84 := hz85
   unfold z_search_Matrix_l0 at hz85
   obtain ⟨a88, n89, c90, rfl⟩ := m77.form
   refine w_seqk fun _ k91 => g_' (q_ (.bool (decide (i0 < y44))) (s_nil (k91 _ _ (w_seqk fun _ k92 => ?_))))
   refine w_condp (i0 < y44) (by kernel_rfl) rfl (fun h93 => ?_) (fun h93 => ?_)
   ·have r94 := ite_t h93 hz85
    refine w_skip (k92 _ _ (w_seqk fun _ k95 => w_block (w_seqk fun _ k96 => g_' (q_ (i_ i0) (q_ (i_ i0) (s_nil (k96 _ _ ?_)))))))
    refine w_draw [0, 1, 2, 3, 4, 5, 6, 7, 8] (by kernel_rfl) ?_
    refine e_' (.slice a88 n89 c90) ?_
    have u97 := ((u40.frS e48 Dj.nil_l).frS e75 Dj.nil_l)
    refine d_fl (.agg #[hd_First, hd_To, hd_Weight]) (x := aLoad Try.prog 27 (pt_ b13 0) H74) (by kernel_rfl) (u97.ld (by kernel_rfl)) ?_
    refine e_' (i_ i0) ?_
    obtain ⟨y98, hy99, r100⟩ := bind_some r94
    refine d_ck 60 #[] (by kernel_rfl) (c_search_free e75.wf hy99) ?_
    rintro _ H101 ⟨rfl, e102⟩
    have u103 := (u97.frS e102 Dj.nil_l)
    refine ⟨st_ql (y := aLoad Try.prog 27 (pt_ b13 0) H101) (by kernel_rfl) (u103.ld (by kernel_rfl)) (st_nil), ?_⟩
    have u104 := (((u41.fr e48 Dj.nil_l).fr e75 Dj.nil_l).fr e102 Dj.nil_l)
    have u105 := (((u42.fr e48 Dj.nil_l).fr e75 Dj.nil_l).fr e102 Dj.nil_l)
    have u106 := (((u43.fr e48 Dj.nil_l).fr e75 Dj.nil_l).fr e102 Dj.nil_l)
    obtain ⟨y107, hy108, r109⟩ := bind_some r100
    refine d_ck 59 #[.agg #[hd_First, hd_To, hd_Weight], i_ i0, .agg #[i_ 4611686018427387904, i_ 4611686018427387904, .int .u64 18446744073709551615]] (by kernel_rfl) (c_search_run e102.wf u104 u105 u106 hy108) ?_
    rintro _ H123 ⟨s110, f111, s112, f113, b114, s115, f116, b117, s118, f119, s120, f121, b122, rfl, e124, m125, m126, m127, m128, m129, m130, m131, m132, i133, i134, i135, i136, i137, i138, i139, i140, d141, d142, d143, d144, d145, d146, d147, d148, d149, d150, d151, d152, d153, d154, d155, d156, d157, d158, d159, d160, d161, d162, d163, d164, d165, d166, d167, d168⟩
    obtain ⟨a177, n178, c179, rfl⟩ := m125.form
    obtain ⟨a180, n181, c182, rfl⟩ := m126.form
    obtain ⟨a183, n184, c185, rfl⟩ := m128.form
    obtain ⟨a186, n187, c188, rfl⟩ := m130.form
    obtain ⟨a189, n190, c191, rfl⟩ := m131.form
    refine ⟨st_anc (by kernel_rfl) (st_nil), ?_⟩
    have u192 := (u104.fr e124 Dj.nil_l)
    have u193 := (u105.fr e124 Dj.nil_l)
    have u194 := (u106.fr e124 Dj.nil_l)
    obtain ⟨y195, hy196, r197⟩ := bind_some r109
    refine d_ck 61 #[pt_ b122 0] (by kernel_rfl) (c_search_state_all e124.wf u192 u193 u194 m125.sq m126.sq m127 m128.sq m129 m130.sq m131.sq m132 hy196) ?_
    rintro s198 H200 ⟨_, f199, rfl, e201, m202, i203⟩
    obtain ⟨a205, n206, c207, rfl⟩ := m202.form
    refine ⟨st_anc (by kernel_rfl) (st_nil), ?_⟩
    refine d_lsl e201.wf [.slice a205 n206 c207] 1 (one_cons (m202.one1) (one_nil)) (by kernel_rfl) fun b208 H209 e210 hb211 r212 => ?_
    have u214 := ((((m77.fr e102 Dj.nil_l).fr e124 Dj.nil_l).fr e201 Dj.nil_l).ext e210)
    have u215 := (m202.ext e210)
    obtain ⟨g216, r217⟩ := G_some r197
    obtain ⟨s218, H219, f220, q224, e221, hm222, hf223⟩ := Nst.append1 (P := Try.prog) (C := (CR.sl (encI .u64) 1)) 24 e210.wf u214 r212 (cr_sl_mk u215) (Dj.symm (i203.djn (m77.lt.le (ntr e102.next e124.next)))) (at_ := #[34, 34]) rfl rfl (by kernel_rfl) (by kernel_rfl) (by decide) (by have := g216; first | omega | (simp at this ⊢; omega))
    obtain ⟨a225, n226, c227, rfl⟩ := hm222.form
    have w229 := hf223.grow2 (i203.fresh (Nat.le_refl _)) (ntr e201.next e210.next)
    refine d_ek (.slice a225 n226 c227) (by kernel_rfl) (q224) (st_anc (by kernel_rfl) (st_nil)) ?_
    refine e_' (.slice a225 n226 c227) ?_
    refine d_nil ?_
    refine k95 _ _ (g_' ?_)
    obtain ⟨g230, r231⟩ := G_some r217
    refine w_' (i0 + 1) (wrap64 g230) ?_
    refine q_ (i_ (i0 + 1)) (s_nil ?_)
    obtain rfl := Option.some.inj r231
    exact k87 n83 _ _ (Nat.lt_succ_self _) ⟨(i0 + 1), (l1 ++ [y195]), (.slice a225 n226 c227), f220, hn86, ha_, (FrS.step e48.wf ((FrS.step e48.wf (FrS.step e48.wf (FrS.step e48.wf (FrS.step e48.wf (FrS.refl (W := []) e48.wf) e75 Inn.nil) e102 Inn.nil) e124 Inn.nil) e201 Inn.nil).extR e210) e221 (i80.fresh (Nat.le_refl _))), hm222, (Inn.trans (i80.fresh (Nat.le_refl _)) (ntr (ntr e75.next e102.next) e124.next) w229)⟩
   have r232 := ite_f h93 hz85
   refine w_exit (th_exit (th_exit (bl_eq ?_)))
   obtain rfl := Option.some.inj r232
   obtain rfl := it_inr hn86
   exact k70 _ _ ⟨(.slice a88 n89 c90), f79, ha_, (FrS.step e48.wf (FrS.refl (W := []) e48.wf) e75 Inn.nil), m77, (i80.fresh (Nat.le_refl _))⟩
  obtain ⟨s67, f68, hh71, e64, m66, i69⟩ := hM
  obtain ⟨β, rfl⟩ := has_ex hh71
  clear hh71
  obtain ⟨a233, n234, c235, rfl⟩ := m66.form
  refine k58 _ _ (w_seqk fun _ k236 => g_' (q_ (.slice a233 n234 c235) (q_ (.slice a233 n234 c235) (q_ (.nilIface) (s_nil (k236 _ _ ?_))))))
  refine w_ret ?_
  refine b_ret (fn := Try.f11) (vs := [.slice a233 n234 c235, .nilIface]) (aRes_tmp (by kernel_rfl) (aRes_tmp (by kernel_rfl) (rfl))) ?_
  obtain rfl := Option.some.inj r62
  exact ⟨(.slice a233 n234 c235), f68, (.nilIface), [], rfl, (FrS.step wf (FrS.step wf (FrS.step wf ((FrS.refl (W := []) wf).extR e15) e30 Inn.nil) e48 Inn.nil) e64 Inn.nil), m66, Ev.nil, (i69.fresh (ntr (ntr e15.next e30.next) e48.next)), Inn.nil, Dj.nil_r⟩
 have r237 := ite_f h35 r26
 refine l_' (.bool true) (aBin Try.prog .neq 31 (.tmp 10) (.const .nilIface) (.iface t36 x37) .nilIface) (aBin_nnil (by kernel_rfl)) ?_
 refine s_nil (k34 _ _ ?_)
 refine w_cond true (by kernel_rfl) rfl (fun _ => ?_) (fun h => by cases h)
 refine w_seqk fun _ k238 => g_' (q_ (.iface t36 x37) (q_ (.slice none 0 0) (q_ (.iface t36 x37) (s_nil (k238 _ _ ?_)))))
 refine w_ret (th_ret ?_)
 refine b_ret (fn := Try.f11) (vs := [.slice none 0 0, .iface t36 x37]) (aRes_tmp (by kernel_rfl) (aRes_tmp (by kernel_rfl) (rfl))) ?_
 obtain rfl := Option.some.inj r237
 exact ⟨(.slice none 0 0), [], (.iface t36 x37), f28, rfl, (FrS.step wf ((FrS.refl (W := []) wf).extR e15) e30 Inn.nil), Nst.nil, m31, Inn.nil, (i32.fresh e15.next), Dj.nil_l⟩
theorem c_search_state_parents {H : AH} {b_st : Nat} {hd_st_ : Value} {fp_st_ : Fp} {hd_st_2 : Value} {fp_st_2 : Fp} {hd_st_3 : Value} {fp_st_3 : Fp} {b_st_4 : Nat} {hd_st_5 : Value} {fp_st_5 : Fp} {hd_st_6 : Value} {fp_st_6 : Fp} {b_st_7 : Nat} {hd_st_8 : Value} {fp_st_8 : Fp} {hd_st_11 : Value} {fp_st_11 : Fp} {hd_st_12 : Value} {fp_st_12 : Fp} {st_ : List (Int)} {st_2 : List (Int)} {st_3 : List (Int)} {st_5 : List (Int × Int)} {st_6 : List (Int)} {st_8 : List (Int × Int)} {st_9 : Int} {st_10 : Int} {st_11 : List (Int)} {st_12 : List (Bool)} {s : Int} {r : List (Int)}
    (wf : WF H) (h_st_ : Sq (encI .i64) 1 H hd_st_ st_ fp_st_) (h_st_2 : Sq (encI .i64) 1 H hd_st_2 st_2 fp_st_2) (h_st_3 : Sq (encI .i64) 1 H hd_st_3 st_3 fp_st_3) (h_st_5 : Sq enc_u64_u32 2 H hd_st_5 st_5 fp_st_5) (h_st_6 : Sq (encI .i64) 1 H hd_st_6 st_6 fp_st_6) (h_st_4 : Row H b_st_4 [hd_st_5, hd_st_6]) (h_st_8 : Sq enc_u64_u32 2 H hd_st_8 st_8 fp_st_8) (h_st_7 : Row H b_st_7 [hd_st_8, .int .u32 st_9, i_ st_10]) (h_st_11 : Sq (encI .i64) 1 H hd_st_11 st_11 fp_st_11) (h_st_12 : Sq encB 1 H hd_st_12 st_12 fp_st_12) (h_st : Row H b_st [hd_st_, hd_st_2, hd_st_3, pt_ b_st_4 0, pt_ b_st_7 0, hd_st_11, hd_st_12]) (hr : z_search_state_parents st_ st_2 st_3 st_5 st_6 st_8 st_9 st_10 st_11 st_12 s = some r) :
    ACalls Try.prog 64 #[pt_ b_st 0, i_ s] H fun v H' => ∃ (s3 : Value) (f4 : Fp), v = s3 ∧ FrS [] H H' ∧ Ow (encI .i64) 1 H' s3 r f4 ∧ Inn [] H f4 := by
 refine acalls_of_body mixed Try.func64 rfl (Nat.le_of_ble_eq_true rfl) ?_
 unfold z_search_state_parents at hr
 refine w_seqk fun _ k6 => g_' (q_ (.slice none 0 0) (s_nil (k6 _ _ (w_seqk fun _ k7 => g_' (q_ (pt_ b_st 0) (q_ (pt_ b_st 0) (q_ (pt_ b_st 0) ?_)))))))
 refine l_' (.agg #[hd_st_, hd_st_2, hd_st_3]) (aLoad Try.prog 27 (pt_ b_st 0) H) (h_st.ld (by kernel_rfl)) ?_
 obtain ⟨y8, hy9, r10⟩ := bind_some hr
 refine s_ck 63 #[.agg #[hd_st_, hd_st_2, hd_st_3]] (by kernel_rfl) (c_search_nodes wf h_st_ h_st_2 h_st_3 hy9) ?_
 rintro _ H11 ⟨rfl, e12⟩
 obtain ⟨g13, r14⟩ := G_some r10
 refine s_mks (t := 22) (m := 8) (l := y8) (c := y8) (enc := (encI .i64)) (sz := 1) e12.wf (0 : Int) (by kernel_rfl) (by decide) g13.1 (Int.le_refl _) (by omega) (by have := g13; omega) (by kernel_rfl) fun s15 f16 H17 e18 hf19 hm20 => ?_
 obtain ⟨a21, n22, c23, rfl⟩ := hm20.form
 have hm20 : Ow (encI .i64) 1 H17 (.slice a21 n22 c23) (List.replicate y8.toNat (0 : Int)) f16 := hm20
 refine q_ (.slice a21 n22 c23) (s_nil (k7 _ _ (w_seqk fun _ k25 => g_' (q_ (pt_ b_st 0) (q_ (pt_ b_st 0) (q_ (pt_ b_st 0) ?_))))))
 have u26 := ((h_st.frS e12 Dj.nil_l).ext e18)
 refine l_' (.agg #[hd_st_, hd_st_2, hd_st_3]) (aLoad Try.prog 27 (pt_ b_st 0) H17) (u26.ld (by kernel_rfl)) ?_
 have u27 := ((h_st_.fr e12 Dj.nil_l).ext e18)
 have u28 := ((h_st_2.fr e12 Dj.nil_l).ext e18)
 have u29 := ((h_st_3.fr e12 Dj.nil_l).ext e18)
 obtain ⟨y30, hy31, r32⟩ := bind_some r14
 refine s_ck 63 #[.agg #[hd_st_, hd_st_2, hd_st_3]] (by kernel_rfl) (c_search_nodes e18.wf u27 u28 u29 hy31) ?_
 rintro _ H33 ⟨rfl, e34⟩
 obtain ⟨g35, r36⟩ := G_some r32
 refine s_mks (t := 22) (m := 8) (l := y30) (c := y30) (enc := (encI .i64)) (sz := 1) e34.wf (0 : Int) (by kernel_rfl) (by decide) g35.1 (Int.le_refl _) (by omega) (by have := g35; omega) (by kernel_rfl) fun s37 f38 H39 e40 hf41 hm42 => ?_
 obtain ⟨a43, n44, c45, rfl⟩ := hm42.form
 have hm42 : Ow (encI .i64) 1 H39 (.slice a43 n44 c45) (List.replicate y30.toNat (0 : Int)) f38 := hm42
 refine q_ (.slice a43 n44 c45) (s_nil (k25 _ _ (w_seqk fun _ k47 => g_' (q_ (.slice a43 n44 c45) (q_ (i_ s) ?_)))))
 obtain ⟨g48, r49⟩ := G_some r36
 refine l_' (elp (.slice a43 n44 c45) 1 s.toNat 0) (aIndexAddr Try.prog 22 (.slice a43 n44 c45) (i_ s)) (hm42.sq.idxb (by kernel_rfl) g48.1 g48.2) ?_
 obtain ⟨H50, q51, e52, hm53⟩ := Ow.store (P := Try.prog) (t := 3) (off := 0) e40.wf hm42 g48.1 g48.2 (i_ 1) [i_ 1] (by kernel_rfl) (by kernel_rfl) rfl 1 (Nat.le_of_ble_eq_true rfl) (by kernel_rfl)
 refine s_ek (undef) (by kernel_rfl) (map_ok q51) ?_
 refine s_nil (k47 _ _ (w_seqk fun _ k54 => g_' (q_ (i_ s) ?_)))
 refine s_owk (enc := (encI .i64)) (sz := 1) e52.wf [s] 1 (by decide) (fun _ _ => rfl) (fun _ _ => rfl) rfl (by kernel_rfl) fun s55 f56 H57 e58 hf59 hm60 => ?_
 obtain ⟨a61, n62, c63, rfl⟩ := hm60.form
 refine q_ (.slice a61 n62 c63) (s_nil (k54 _ _ (w_seqk fun _ k65 => w_seqk fun _ k66 => g_' (q_ (i_ 0) (s_nil (k66 _ _ ?_))))))
 obtain ⟨o67, hx68, r69⟩ := bind_some r49
 refine w_mid (fun α H70 => Has α [(5, .slice a21 n22 c23)] ∧ FrS (f16 ++ (f38 ++ f56)) H57 H70 ∧ Ow (encI .i64) 1 H70 (.slice a21 n22 c23) o67 f16) (fun _ k74 => ?_) (fun α H70 hM => ?_)
 ·refine w_block ?_
  obtain ⟨n76, hn77⟩ := loopO_iff.1 hx68
  have u95 := ((((hm20.fr e34 Dj.nil_l).ext e40).fr e52 (hf41.djn (hm20.lt.le e34.next))).ext e58)
  have u96 := (hm53.ext e58)
  refine w_loopn (fun n α H78 => ∃ (from4 : List (Int)), ∃ (seen5 : List (Int)), ∃ (list6 : List (Int)), ∃ (i7 : Int), ∃ (s86 : Value), ∃ (f87 : Fp), iterO (fun zz_ => z_search_state_parents_l1 st_ st_2 st_3 st_8 st_9 st_10 zz_.1 zz_.2.1 zz_.2.2.1 zz_.2.2.2) n (from4, seen5, list6, i7) = some o67 ∧ Has α [(0, pt_ b_st 0), (5, .slice a21 n22 c23), (6, .slice a43 n44 c45), (7, s86), (8, i_ i7)] ∧ FrS (f16 ++ (f38 ++ f56)) H57 H78 ∧ Ow (encI .i64) 1 H78 (.slice a21 n22 c23) from4 f16 ∧ Ow (encI .i64) 1 H78 (.slice a43 n44 c45) seen5 f38 ∧ Ow (encI .i64) 1 H78 s86 list6 f87 ∧ Inn f56 H57 f87) n76 ⟨(List.replicate y8.toNat (0 : Int)), ((List.replicate y30.toNat (0 : Int)).set s.toNat 1), [s], 0, (.slice a61 n62 c63), f56, hn77, ha_, (FrS.refl (W := (f16 ++ (f38 ++ f56))) e58.wf), u95, u96, hm60, Inn.refl'⟩ ?_
  rintro n76 α H78 ⟨from4, seen5, list6, i7, s86, f87, hi90, hh89, e79, m81, m83, m85, i88⟩ K97 k97
  obtain ⟨n91, z92, rfl, hz93, hn94⟩ := iter_succ hi90
  obtain ⟨β, rfl⟩ := has_ex hh89
  clear hh89
  replace hz93 : z_search_state_parents_l1 st_ st_2 st_3 st_8 st_9 st_10 from4 seen5 list6 i7 = some z92 := hz93
  unfold z_search_state_parents_l1 at hz93
  obtain ⟨a98, n99, c100, rfl⟩ := m85.form
  refine w_seqk fun _ k101 => w_seqk fun _ k102 => g_' (q_ (i_ i7) (q_ (.slice a98 n99 c100) ?_))
  refine l_' (i_ (list6.length : Int)) (aLen Try.prog 22 (.slice a98 n99 c100) H78) (m85.sq.lenb (by kernel_rfl)) ?_
  refine q_ (.bool (decide (i7 < (list6.length : Int)))) (s_nil (k102 _ _ ?_))
  refine w_condp (i7 < (list6.length : Int)) (by kernel_rfl) rfl (fun h103 => ?_) (fun h103 => ?_)
  ·have r104 := ite_t h103 hz93
   refine w_skip (k101 _ _ (w_seqk fun _ k105 => w_block (w_seqk fun _ k106 => g_' (q_ (.slice a98 n99 c100) (q_ (i_ i7) ?_)))))
   obtain ⟨g107, r108⟩ := G_some r104
   refine l_' (elp (.slice a98 n99 c100) 1 i7.toNat 0) (aIndexAddr Try.prog 22 (.slice a98 n99 c100) (i_ i7)) (m85.sq.idxb (by kernel_rfl) g107 h103) ?_
   refine l_' (i_ (gt list6 i7)) (aLoad Try.prog 3 (elp (.slice a98 n99 c100) 1 i7.toNat 0) H78) (m85.sq.ld g107 h103 (by kernel_rfl)) ?_
   refine q_ (i_ (gt list6 i7)) (s_nil (k106 _ _ (w_seqk fun _ k109 => g_' (q_ (pt_ b_st 0) (q_ (pt_ b_st 0) (q_ (pt_ b_st 4) ?_))))))
   have u110 := (((((u26.frS e34 Dj.nil_l).ext e40).frS e52 (hf41.djn (h_st.ltF.le (ntr (ntr e12.next e18.next) e34.next)))).ext e58).frS e79 (Dj.app (hf19.djn (h_st.ltF.le e12.next)) (Dj.app (hf41.djn (h_st.ltF.le (ntr (ntr e12.next e18.next) e34.next))) (hf59.djn (h_st.ltF.le (ntr (ntr (ntr (ntr e12.next e18.next) e34.next) e40.next) e52.next))))))
   refine l_' (pt_ b_st_7 0) (aLoad Try.prog 124 (pt_ b_st 4) H78) (u110.ld (by kernel_rfl)) ?_
   refine q_ (i_ (gt list6 i7)) ?_
   have u111 := (((((((h_st_8.fr e12 Dj.nil_l).ext e18).fr e34 Dj.nil_l).ext e40).fr e52 (hf41.djn (h_st_8.lt.le (ntr (ntr e12.next e18.next) e34.next)))).ext e58).fr e79 (Dj.app (hf19.djn (h_st_8.lt.le e12.next)) (Dj.app (hf41.djn (h_st_8.lt.le (ntr (ntr e12.next e18.next) e34.next))) (hf59.djn (h_st_8.lt.le (ntr (ntr (ntr (ntr e12.next e18.next) e34.next) e40.next) e52.next))))))
   have u112 := (((((((h_st_7.frS e12 Dj.nil_l).ext e18).frS e34 Dj.nil_l).ext e40).frS e52 (hf41.djn (h_st_7.ltF.le (ntr (ntr e12.next e18.next) e34.next)))).ext e58).frS e79 (Dj.app (hf19.djn (h_st_7.ltF.le e12.next)) (Dj.app (hf41.djn (h_st_7.ltF.le (ntr (ntr e12.next e18.next) e34.next))) (hf59.djn (h_st_7.ltF.le (ntr (ntr (ntr (ntr e12.next e18.next) e34.next) e40.next) e52.next))))))
   obtain ⟨y113, hy114, r115⟩ := bind_some r108
   refine s_ck 67 #[pt_ b_st_7 0, i_ (gt list6 i7)] (by kernel_rfl) (c_stamp_Stamp_Get e79.wf u111 u112 hy114) ?_
   rintro _ _ ⟨rfl, rfl⟩
   refine q_ (.tuple #[.int .u64 y113.1, .bool y113.2]) (q_ (.int .u64 y113.1) (q_ (.bool y113.2) (q_ (.int .u64 y113.1) (q_ (.bool y113.2) (s_nil (k109 _ _ (w_seqk fun _ k118 => g_' (q_ (pt_ b_st 0) (q_ (pt_ b_st 0) (q_ (pt_ b_st 0) (q_ (pt_ b_st 0) ?_)))))))))))
   refine l_' (hd_st_) (aLoad Try.prog 22 (pt_ b_st 0) H78) (u110.ld (by kernel_rfl)) ?_
   refine q_ (i_ (gt list6 i7)) ?_
   obtain ⟨g119, r120⟩ := G_some r115
   have u121 := (((((u27.fr e34 Dj.nil_l).ext e40).fr e52 (hf41.djn (h_st_.lt.le (ntr (ntr e12.next e18.next) e34.next)))).ext e58).fr e79 (Dj.app (hf19.djn (h_st_.lt.le e12.next)) (Dj.app (hf41.djn (h_st_.lt.le (ntr (ntr e12.next e18.next) e34.next))) (hf59.djn (h_st_.lt.le (ntr (ntr (ntr (ntr e12.next e18.next) e34.next) e40.next) e52.next))))))
   refine l_' (elp hd_st_ 1 (gt list6 i7).toNat 0) (aIndexAddr Try.prog 22 hd_st_ (i_ (gt list6 i7))) (u121.idxb (by kernel_rfl) g119.1 g119.2) ?_
   refine l_' (i_ (gt st_ (gt list6 i7))) (aLoad Try.prog 3 (elp hd_st_ 1 (gt list6 i7).toNat 0) H78) (u121.ld g119.1 g119.2 (by kernel_rfl)) ?_
   refine q_ (i_ (gt st_ (gt list6 i7))) (s_nil (k118 _ _ ?_))
   obtain ⟨o122, hx123, r124⟩ := bind_some r120
   refine w_mid (fun α H125 => ∃ (s133 : Value) (f134 : Fp), Has α [(0, pt_ b_st 0), (5, .slice a21 n22 c23), (6, .slice a43 n44 c45), (7, s133), (8, i_ i7)] ∧ FrS (f16 ++ (f38 ++ f87)) H78 H125 ∧ Ow (encI .i64) 1 H125 (.slice a21 n22 c23) o122.1 f16 ∧ Ow (encI .i64) 1 H125 (.slice a43 n44 c45) o122.2.1 f38 ∧ Ow (encI .i64) 1 H125 s133 o122.2.2 f134 ∧ Inn f87 H78 f134) (fun _ k136 => ?_) (fun α H125 hM => ?_)
   ·refine w_block ?_
    obtain ⟨n138, hn139⟩ := loopO_iff.1 hx123
    refine w_loopn (fun n α H140 => ∃ (j0 : Int), ∃ (from1 : List (Int)), ∃ (seen2 : List (Int)), ∃ (list3 : List (Int)), ∃ (s148 : Value), ∃ (f149 : Fp), iterO (fun zz_ => z_search_state_parents_l0 st_ st_2 st_3 st_8 st_9 st_10 list6 i7 y113 zz_.1 zz_.2.1 zz_.2.2.1 zz_.2.2.2) n (j0, from1, seen2, list3) = some o122 ∧ Has α [(0, pt_ b_st 0), (5, .slice a21 n22 c23), (6, .slice a43 n44 c45), (7, s148), (8, i_ i7), (9, i_ (gt list6 i7)), (10, .int .u64 y113.1), (12, i_ j0)] ∧ FrS (f16 ++ (f38 ++ f87)) H78 H140 ∧ Ow (encI .i64) 1 H140 (.slice a21 n22 c23) from1 f16 ∧ Ow (encI .i64) 1 H140 (.slice a43 n44 c45) seen2 f38 ∧ Ow (encI .i64) 1 H140 s148 list3 f149 ∧ Inn f87 H78 f149) n138 ⟨(gt st_ (gt list6 i7)), from4, seen5, list6, (.slice a98 n99 c100), f87, hn139, ha_, (FrS.refl (W := (f16 ++ (f38 ++ f87))) e79.wf), m81, m83, m85, Inn.refl'⟩ ?_
    rintro n138 α H140 ⟨j0, from1, seen2, list3, s148, f149, hi152, hh151, e141, m143, m145, m147, i150⟩ K157 k157
    obtain ⟨n153, z154, rfl, hz155, hn156⟩ := iter_succ hi152
    obtain ⟨β, rfl⟩ := has_ex hh151
    clear hh151
    replace hz155 : z_search_state_parents_l0 st_ st_2 st_3 st_8 st_9 st_10 list6 i7 y113 j0 from1 seen2 list3 = some z154 := hz155
    unfold z_search_state_parents_l0 at hz155
    obtain ⟨a158, n159, c160, rfl⟩ := m147.form
    refine w_seqk fun _ k161 => w_seqk fun _ k162 => g_' (q_ (i_ j0) (q_ (pt_ b_st 0) (q_ (pt_ b_st 0) (q_ (pt_ b_st 0) (q_ (pt_ b_st 0) ?_)))))
    have u163 := (u110.frS e141 (Dj.app (hf19.djn (h_st.ltF.le e12.next)) (Dj.app (hf41.djn (h_st.ltF.le (ntr (ntr e12.next e18.next) e34.next))) (i88.dj (hf59.djn (h_st.ltF.le (ntr (ntr (ntr (ntr e12.next e18.next) e34.next) e40.next) e52.next))) (h_st.ltF.le (ntr (ntr (ntr (ntr (ntr e12.next e18.next) e34.next) e40.next) e52.next) e58.next))))))
    refine l_' (hd_st_) (aLoad Try.prog 22 (pt_ b_st 0) H140) (u163.ld (by kernel_rfl)) ?_
    refine q_ (i_ (gt list6 i7)) ?_
    obtain ⟨g164, r165⟩ := G_some hz155
    refine w_' ((gt list6 i7) + 1) (wrap64 (by have := g164; omega)) ?_
    obtain ⟨g166, r167⟩ := G_some r165
    have u168 := (u121.fr e141 (Dj.app (hf19.djn (h_st_.lt.le e12.next)) (Dj.app (hf41.djn (h_st_.lt.le (ntr (ntr e12.next e18.next) e34.next))) (i88.dj (hf59.djn (h_st_.lt.le (ntr (ntr (ntr (ntr e12.next e18.next) e34.next) e40.next) e52.next))) (h_st_.lt.le (ntr (ntr (ntr (ntr (ntr e12.next e18.next) e34.next) e40.next) e52.next) e58.next))))))
    refine l_' (elp hd_st_ 1 ((gt list6 i7) + 1).toNat 0) (aIndexAddr Try.prog 22 hd_st_ (i_ ((gt list6 i7) + 1))) (u168.idxb (by kernel_rfl) g166.1 g166.2) ?_
    refine l_' (i_ (gt st_ ((gt list6 i7) + 1))) (aLoad Try.prog 3 (elp hd_st_ 1 ((gt list6 i7) + 1).toNat 0) H140) (u168.ld g166.1 g166.2 (by kernel_rfl)) ?_
    refine q_ (.bool (decide (j0 < (gt st_ ((gt list6 i7) + 1))))) (s_nil (k162 _ _ ?_))
    refine w_condp (j0 < (gt st_ ((gt list6 i7) + 1))) (by kernel_rfl) rfl (fun h169 => ?_) (fun h169 => ?_)
    ·have r170 := ite_t h169 r167
     refine w_skip (k161 _ _ (w_seqk fun _ k171 => w_block (w_seqk fun _ k172 => g_' (q_ (pt_ b_st 0) (q_ (pt_ b_st 0) (q_ (pt_ b_st 0) (q_ (pt_ b_st 1) ?_)))))))
     refine l_' (hd_st_2) (aLoad Try.prog 22 (pt_ b_st 1) H140) (u163.ld (by kernel_rfl)) ?_
     refine q_ (i_ j0) ?_
     obtain ⟨g173, r174⟩ := G_some r170
     have u175 := ((((((u28.fr e34 Dj.nil_l).ext e40).fr e52 (hf41.djn (h_st_2.lt.le (ntr (ntr e12.next e18.next) e34.next)))).ext e58).fr e79 (Dj.app (hf19.djn (h_st_2.lt.le e12.next)) (Dj.app (hf41.djn (h_st_2.lt.le (ntr (ntr e12.next e18.next) e34.next))) (hf59.djn (h_st_2.lt.le (ntr (ntr (ntr (ntr e12.next e18.next) e34.next) e40.next) e52.next)))))).fr e141 (Dj.app (hf19.djn (h_st_2.lt.le e12.next)) (Dj.app (hf41.djn (h_st_2.lt.le (ntr (ntr e12.next e18.next) e34.next))) (i88.dj (hf59.djn (h_st_2.lt.le (ntr (ntr (ntr (ntr e12.next e18.next) e34.next) e40.next) e52.next))) (h_st_2.lt.le (ntr (ntr (ntr (ntr (ntr e12.next e18.next) e34.next) e40.next) e52.next) e58.next))))))
     refine l_' (elp hd_st_2 1 j0.toNat 0) (aIndexAddr Try.prog 22 hd_st_2 (i_ j0)) (u175.idxb (by kernel_rfl) g173.1 g173.2) ?_
     refine l_' (i_ (gt st_2 j0)) (aLoad Try.prog 3 (elp hd_st_2 1 j0.toNat 0) H140) (u175.ld g173.1 g173.2 (by kernel_rfl)) ?_
     refine q_ (i_ (gt st_2 j0)) (s_nil (k172 _ _ (w_seqk fun _ k176 => g_' (q_ (pt_ b_st 0) (q_ (pt_ b_st 0) (q_ (pt_ b_st 4) ?_))))))
     refine l_' (pt_ b_st_7 0) (aLoad Try.prog 124 (pt_ b_st 4) H140) (u163.ld (by kernel_rfl)) ?_
     refine q_ (i_ (gt st_2 j0)) ?_
     have u177 := (u111.fr e141 (Dj.app (hf19.djn (h_st_8.lt.le e12.next)) (Dj.app (hf41.djn (h_st_8.lt.le (ntr (ntr e12.next e18.next) e34.next))) (i88.dj (hf59.djn (h_st_8.lt.le (ntr (ntr (ntr (ntr e12.next e18.next) e34.next) e40.next) e52.next))) (h_st_8.lt.le (ntr (ntr (ntr (ntr (ntr e12.next e18.next) e34.next) e40.next) e52.next) e58.next))))))
     have u178 := (u112.frS e141 (Dj.app (hf19.djn (h_st_7.ltF.le e12.next)) (Dj.app (hf41.djn (h_st_7.ltF.le (ntr (ntr e12.next e18.next) e34.next))) (i88.dj (hf59.djn (h_st_7.ltF.le (ntr (ntr (ntr (ntr e12.next e18.next) e34.next) e40.next) e52.next))) (h_st_7.ltF.le (ntr (ntr (ntr (ntr (ntr e12.next e18.next) e34.next) e40.next) e52.next) e58.next))))))
     obtain ⟨y179, hy180, r181⟩ := bind_some r174
     refine s_ck 67 #[pt_ b_st_7 0, i_ (gt st_2 j0)] (by kernel_rfl) (c_stamp_Stamp_Get e141.wf u177 u178 hy180) ?_
     rintro _ _ ⟨rfl, rfl⟩
     refine q_ (.tuple #[.int .u64 y179.1, .bool y179.2]) (q_ (.int .u64 y179.1) (q_ (.bool y179.2) (q_ (.int .u64 y179.1) (q_ (.bool y179.2) (s_nil (k176 _ _ (w_seqk fun _ k184 => ?_)))))))
     obtain ⟨o185, hx186, r187⟩ := bind_some r181
     refine w_mid (fun α H188 => Has α [(0, pt_ b_st 0), (5, .slice a21 n22 c23), (6, .slice a43 n44 c45), (7, .slice a158 n159 c160), (8, i_ i7), (9, i_ (gt list6 i7)), (10, .int .u64 y113.1), (12, i_ j0), (13, i_ (gt st_2 j0)), (109, .bool o185)] ∧ H140 = H188) (fun _ k190 => ?_) (fun α H188 hM => ?_)
     ·refine g_' (q_ (.slice a43 n44 c45) (q_ (i_ (gt st_2 j0)) ?_))
      obtain ⟨g192, r193⟩ := G_some hx186
      refine l_' (elp (.slice a43 n44 c45) 1 (gt st_2 j0).toNat 0) (aIndexAddr Try.prog 22 (.slice a43 n44 c45) (i_ (gt st_2 j0))) (m145.sq.idxb (by kernel_rfl) g192.1 g192.2) ?_
      refine l_' (i_ (gt seen2 (gt st_2 j0))) (aLoad Try.prog 3 (elp (.slice a43 n44 c45) 1 (gt st_2 j0).toNat 0) H140) (m145.sq.ld g192.1 g192.2 (by kernel_rfl)) ?_
      refine s_b ((gt seen2 (gt st_2 j0)) = 0) (by kernel_rfl) (fun h194 => ?_) (fun h194 => ?_)
      ·have r195 := ite_t h194 r193
       refine q_ (.bool true) (q_ (.int .u64 y179.1) (q_ (.int .u64 y113.1) (q_ (pt_ b_st 0) (q_ (pt_ b_st 0) (q_ (pt_ b_st 0) (q_ (pt_ b_st 2) ?_))))))
       refine l_' (hd_st_3) (aLoad Try.prog 22 (pt_ b_st 2) H140) (u163.ld (by kernel_rfl)) ?_
       refine q_ (i_ j0) ?_
       obtain ⟨g196, r197⟩ := G_some r195
       have u198 := ((((((u29.fr e34 Dj.nil_l).ext e40).fr e52 (hf41.djn (h_st_3.lt.le (ntr (ntr e12.next e18.next) e34.next)))).ext e58).fr e79 (Dj.app (hf19.djn (h_st_3.lt.le e12.next)) (Dj.app (hf41.djn (h_st_3.lt.le (ntr (ntr e12.next e18.next) e34.next))) (hf59.djn (h_st_3.lt.le (ntr (ntr (ntr (ntr e12.next e18.next) e34.next) e40.next) e52.next)))))).fr e141 (Dj.app (hf19.djn (h_st_3.lt.le e12.next)) (Dj.app (hf41.djn (h_st_3.lt.le (ntr (ntr e12.next e18.next) e34.next))) (i88.dj (hf59.djn (h_st_3.lt.le (ntr (ntr (ntr (ntr e12.next e18.next) e34.next) e40.next) e52.next))) (h_st_3.lt.le (ntr (ntr (ntr (ntr (ntr e12.next e18.next) e34.next) e40.next) e52.next) e58.next))))))
       refine l_' (elp hd_st_3 1 j0.toNat 0) (aIndexAddr Try.prog 22 hd_st_3 (i_ j0)) (u198.idxb (by kernel_rfl) g173.1 g196) ?_
       refine l_' (i_ (gt st_3 j0)) (aLoad Try.prog 3 (elp hd_st_3 1 j0.toNat 0) H140) (u198.ld g173.1 g196 (by kernel_rfl)) ?_
       obtain ⟨g199, r200⟩ := G_some r197
       refine s_w ((gt st_3 j0)) (k := .u64) (x := (gt st_3 j0)) (by kernel_rfl) (wrapu64 g199) ?_
       obtain ⟨g201, r202⟩ := G_some r200
       refine s_w ((y113.1 + (gt st_3 j0))) (k := .u64) (x := (y113.1 + (gt st_3 j0))) (by kernel_rfl) (wrapu64 g201) ?_
       refine q_ (.bool (decide (y179.1 = (y113.1 + (gt st_3 j0))))) (q_ (.bool (decide (y179.1 = (y113.1 + (gt st_3 j0))))) (s_nil ?_))
       obtain rfl := Option.some.inj r202
       exact k190 _ _ ⟨ha_, rfl⟩
      have r203 := ite_f h194 r193
      refine q_ (.bool false) (n_' (n_' (n_' (n_' (n_' (n_' (n_' (n_' (n_' (n_' (n_' (n_' (n_' (q_ (.bool false) (s_nil ?_)))))))))))))))
      obtain rfl := Option.some.inj r203
      exact k190 _ _ ⟨ha_, rfl⟩
     obtain ⟨hh191, rfl⟩ := hM
     obtain ⟨β, rfl⟩ := has_ex hh191
     clear hh191
     refine k184 _ _ ?_
     refine w_cond (o185) (by kernel_rfl) rfl (fun h204 => ?_) (fun h204 => ?_)
     ·have r205 := ite_t h204 r187
      refine w_seqk fun _ k206 => g_' (q_ (.slice a43 n44 c45) (q_ (i_ (gt st_2 j0)) ?_))
      obtain ⟨g207, r208⟩ := G_some r205
      refine l_' (elp (.slice a43 n44 c45) 1 (gt st_2 j0).toNat 0) (aIndexAddr Try.prog 22 (.slice a43 n44 c45) (i_ (gt st_2 j0))) (m145.sq.idxb (by kernel_rfl) g207.1 g207.2) ?_
      obtain ⟨H209, q210, e211, hm212⟩ := Ow.store (P := Try.prog) (t := 3) (off := 0) e141.wf m145 g207.1 g207.2 (i_ 1) [i_ 1] (by kernel_rfl) (by kernel_rfl) rfl 1 (Nat.le_of_ble_eq_true rfl) (by kernel_rfl)
      refine s_ek (undef) (by kernel_rfl) (map_ok q210) ?_
      refine s_nil (k206 _ _ (w_seqk fun _ k213 => g_' (q_ (.slice a21 n22 c23) (q_ (i_ (gt st_2 j0)) (q_ (i_ (gt list6 i7)) ?_)))))
      obtain ⟨g214, r215⟩ := G_some r208
      have u216 := (m143.fr e211 (hf41.djn (hm20.lt.le e34.next)))
      refine l_' (elp (.slice a21 n22 c23) 1 (gt st_2 j0).toNat 0) (aIndexAddr Try.prog 22 (.slice a21 n22 c23) (i_ (gt st_2 j0))) (u216.sq.idxb (by kernel_rfl) g207.1 g214) ?_
      obtain ⟨H217, q218, e219, hm220⟩ := Ow.store (P := Try.prog) (t := 3) (off := 0) e211.wf u216 g207.1 g214 (i_ (gt list6 i7)) [i_ (gt list6 i7)] (by kernel_rfl) (by kernel_rfl) rfl (gt list6 i7) (Nat.le_of_ble_eq_true rfl) (by kernel_rfl)
      refine s_ek (undef) (by kernel_rfl) (map_ok q218) ?_
      refine s_nil (k213 _ _ (g_' (q_ (.slice a158 n159 c160) (q_ (i_ (gt st_2 j0)) ?_))))
      refine s_owk (enc := (encI .i64)) (sz := 1) e219.wf [(gt st_2 j0)] 1 (by decide) (fun _ _ => rfl) (fun _ _ => rfl) rfl (by kernel_rfl) fun s221 f222 H223 e224 hf225 hm226 => ?_
      obtain ⟨a227, n228, c229, rfl⟩ := hm226.form
      have u231 := (((m147.fr e211 (Dj.symm (i150.dj (i88.dj (hf59.djn (hm42.lt.le e52.next)) (hm42.lt.le (ntr e52.next e58.next))) (hm42.lt.le (ntr (ntr e52.next e58.next) e79.next))))).fr e219 (Dj.symm (i150.dj (i88.dj (hf59.djn (hm20.lt.le (ntr (ntr e34.next e40.next) e52.next))) (hm20.lt.le (ntr (ntr (ntr e34.next e40.next) e52.next) e58.next))) (hm20.lt.le (ntr (ntr (ntr (ntr e34.next e40.next) e52.next) e58.next) e79.next))))).ext e224)
      obtain ⟨g232, r233⟩ := G_some r215
      obtain ⟨s234, H235, f236, q240, e237, hm238, hf239⟩ := Ow.append (P := Try.prog) 8 e224.wf u231 hm226.sq (fun _ _ => rfl) (at_ := #[22, 22]) rfl rfl (by kernel_rfl) (by kernel_rfl) (by decide) (by have := g232; first | omega | (simp only [List.length_cons, List.length_nil] at this ⊢; omega) | (simp at this ⊢; omega))
      obtain ⟨a241, n242, c243, rfl⟩ := hm238.form
      refine s_ek (.slice a241 n242 c243) (by kernel_rfl) (q240) ?_
      refine q_ (.slice a241 n242 c243) (s_nil (k171 _ _ (g_' (q_ (i_ j0) ?_))))
      obtain ⟨g245, r246⟩ := G_some r233
      refine w_' (j0 + 1) (wrap64 (by have := g245; omega)) ?_
      refine q_ (i_ (j0 + 1)) (s_nil ?_)
      have u247 := ((hm220.ext e224).fr e237 (i150.dj (i88.dj (hf59.djn (hm20.lt.le (ntr (ntr e34.next e40.next) e52.next))) (hm20.lt.le (ntr (ntr (ntr e34.next e40.next) e52.next) e58.next))) (hm20.lt.le (ntr (ntr (ntr (ntr e34.next e40.next) e52.next) e58.next) e79.next))))
      have u248 := (((hm212.fr e219 (Dj.symm (hf41.djn (hm20.lt.le e34.next)))).ext e224).fr e237 (i150.dj (i88.dj (hf59.djn (hm42.lt.le e52.next)) (hm42.lt.le (ntr e52.next e58.next))) (hm42.lt.le (ntr (ntr e52.next e58.next) e79.next))))
      obtain rfl := Option.some.inj r246
      exact k157 n153 _ _ (Nat.lt_succ_self _) ⟨(j0 + 1), (from1.set (gt st_2 j0).toNat (gt list6 i7)), (seen2.set (gt st_2 j0).toNat 1), (list3 ++ [(gt st_2 j0)]), (.slice a241 n242 c243), f236, hn156, ha_, (FrS.step e79.wf ((FrS.step e79.wf (FrS.step e79.wf (FrS.step e79.wf (FrS.refl (W := (f16 ++ (f38 ++ f87))) e79.wf) e141 (Inn.app Inn.left (Inn.app (Inn.right Inn.left) (Inn.right (Inn.right Inn.refl'))))) e211 (Inn.right Inn.left)) e219 Inn.left).extR e224) e237 (Inn.trans (Inn.right (Inn.right Inn.refl')) (Nat.le_refl _) i150)), u247, u248, hm238, (Inn.trans (Inn.trans Inn.refl' (Nat.le_refl _) i150) (ntr (ntr (ntr e141.next e211.next) e219.next) e224.next) hf239)⟩
     have r249 := ite_bf h204 r187
     refine w_skip (k171 _ _ (g_' (q_ (i_ j0) ?_)))
     obtain ⟨g250, r251⟩ := G_some r249
     refine w_' (j0 + 1) (wrap64 (by have := g250; omega)) ?_
     refine q_ (i_ (j0 + 1)) (s_nil ?_)
     obtain rfl := Option.some.inj r251
     exact k157 n153 _ _ (Nat.lt_succ_self _) ⟨(j0 + 1), from1, seen2, list3, (.slice a158 n159 c160), f149, hn156, ha_, (FrS.step e79.wf (FrS.refl (W := (f16 ++ (f38 ++ f87))) e79.wf) e141 (Inn.app Inn.left (Inn.app (Inn.right Inn.left) (Inn.right (Inn.right Inn.refl'))))), m143, m145, m147, (Inn.trans Inn.refl' (Nat.le_refl _) i150)⟩
    have r252 := ite_f h169 r167
    refine w_exit (th_exit (th_exit (bl_eq ?_)))
    obtain rfl := Option.some.inj r252
    obtain rfl := it_inr hn156
    exact k136 _ _ ⟨(.slice a158 n159 c160), f149, ha_, (FrS.step e79.wf (FrS.refl (W := (f16 ++ (f38 ++ f87))) e79.wf) e141 (Inn.app Inn.left (Inn.app (Inn.right Inn.left) (Inn.right (Inn.right Inn.refl'))))), m143, m145, m147, (Inn.trans Inn.refl' (Nat.le_refl _) i150)⟩
   obtain ⟨s133, f134, hh137, e126, m128, m130, m132, i135⟩ := hM
   obtain ⟨β, rfl⟩ := has_ex hh137
   clear hh137
   obtain ⟨a253, n254, c255, rfl⟩ := m132.form
   refine k105 _ _ (g_' (q_ (i_ i7) ?_))
   obtain ⟨g256, r257⟩ := G_some r124
   refine w_' (i7 + 1) (wrap64 (by have := g256; omega)) ?_
   refine q_ (i_ (i7 + 1)) (s_nil ?_)
   obtain rfl := Option.some.inj r257
   exact k97 n91 _ _ (Nat.lt_succ_self _) ⟨o122.1, o122.2.1, o122.2.2, (i7 + 1), (.slice a253 n254 c255), f134, hn94, ha_, (FrS.step e58.wf (FrS.step e58.wf (FrS.refl (W := (f16 ++ (f38 ++ f56))) e58.wf) e79 (Inn.app Inn.left (Inn.app (Inn.right Inn.left) (Inn.right (Inn.right Inn.refl'))))) e126 (Inn.app Inn.left (Inn.app (Inn.right Inn.left) (Inn.trans (Inn.right (Inn.right Inn.refl')) (Nat.le_refl _) i88)))), m128, m130, m132, (Inn.trans (Inn.trans Inn.refl' (Nat.le_refl _) i88) e79.next i135)⟩
  have r258 := ite_f h103 hz93
  refine w_exit (th_exit (th_exit (bl_eq ?_)))
  obtain rfl := Option.some.inj r258
  obtain rfl := it_inr hn94
  exact k74 _ _ ⟨ha_, (FrS.step e58.wf (FrS.refl (W := (f16 ++ (f38 ++ f56))) e58.wf) e79 (Inn.app Inn.left (Inn.app (Inn.right Inn.left) (Inn.right (Inn.right Inn.refl'))))), m81⟩
 obtain ⟨hh75, e71, m73⟩ := hM
 obtain ⟨β, rfl⟩ := has_ex hh75
 clear hh75
 refine k65 _ _ (w_seqk fun _ k259 => g_' (q_ (.slice a21 n22 c23) (q_ (.slice a21 n22 c23) (s_nil (k259 _ _ ?_)))))
 refine w_ret ?_
 refine b_ret (fn := Try.f64) (vs := [.slice a21 n22 c23]) (aRes_tmp (by kernel_rfl) (rfl)) ?_
 obtain rfl := Option.some.inj r69
 exact ⟨(.slice a21 n22 c23), f16, rfl, (FrS.step wf ((FrS.step wf ((FrS.step wf ((FrS.step wf (FrS.refl (W := []) wf) e12 Inn.nil).extR e18) e34 Inn.nil).extR e40) e52 (hf41.fresh (ntr (ntr e12.next e18.next) e34.next))).extR e58) e71 (Inn.app (hf19.fresh e12.next) (Inn.app (hf41.fresh (ntr (ntr e12.next e18.next) e34.next)) (hf59.fresh (ntr (ntr (ntr (ntr e12.next e18.next) e34.next) e40.next) e52.next))))), m73, (hf19.fresh e12.next)⟩
theorem c_slices_Reverse {H : AH} {hd_s : Value} {fp_s : Fp} {s : List (Int)} {r : List (Int)}
    (wf : WF H) (h_s : Ow (encI .i64) 1 H hd_s s fp_s) (hr : z_slices_Reverse s = some r) :
    ACalls Try.prog 65 #[hd_s] H fun v H' => v = .tuple #[] ∧ FrS fp_s H H' ∧ Ow (encI .i64) 1 H' hd_s r fp_s := by
 refine acalls_of_body mixed Try.func65 rfl (Nat.le_of_ble_eq_true rfl) ?_
 unfold z_slices_Reverse at hr
 refine w_seqk fun _ k3 => g_' (q_ (hd_s) ?_)
 refine l_' (i_ (s.length : Int)) (aLen Try.prog 22 hd_s H) (h_s.sq.lenb (by kernel_rfl)) ?_
 obtain ⟨g4, r5⟩ := G_some hr
 refine w_' ((s.length : Int) - 1) (wrap64 g4) ?_
 refine q_ (i_ 0) (q_ (i_ ((s.length : Int) - 1)) (s_nil (k3 _ _ ?_)))
 obtain ⟨o6, hx7, r8⟩ := bind_some r5
 refine w_mid (fun α H9 => Has α [] ∧ FrS fp_s H H9 ∧ Ow (encI .i64) 1 H9 hd_s o6 fp_s) (fun _ k13 => ?_) (fun α H9 hM => ?_)
 ·refine w_block ?_
  obtain ⟨n15, hn16⟩ := loopO_iff.1 hx7
  refine w_loopn (fun n α H17 => ∃ (s0 : List (Int)), ∃ (i1 : Int), ∃ (j2 : Int), iterO (fun zz_ => z_slices_Reverse_l0 zz_.1 zz_.2.1 zz_.2.2) n (s0, i1, j2) = some o6 ∧ Has α [(0, hd_s), (2, i_ i1), (3, i_ j2)] ∧ FrS fp_s H H17 ∧ Ow (encI .i64) 1 H17 hd_s s0 fp_s) n15 ⟨s, 0, ((s.length : Int) - 1), hn16, ha_, (FrS.refl (W := fp_s) wf), h_s⟩ ?_
  rintro n15 α H17 ⟨s0, i1, j2, hi22, hh21, e18, m20⟩ K27 k27
  obtain ⟨n23, z24, rfl, hz25, hn26⟩ := iter_succ hi22
  obtain ⟨β, rfl⟩ := has_ex hh21
  clear hh21
  replace hz25 : z_slices_Reverse_l0 s0 i1 j2 = some z24 := hz25
  unfold z_slices_Reverse_l0 at hz25
  refine w_seqk fun _ k28 => w_seqk fun _ k29 => g_' (q_ (i_ i1) (q_ (i_ j2) (q_ (.bool (decide (i1 < j2))) (s_nil (k29 _ _ ?_)))))
  refine w_condp (i1 < j2) (by kernel_rfl) rfl (fun h30 => ?_) (fun h30 => ?_)
  ·have r31 := ite_t h30 hz25
   refine w_skip (k28 _ _ (w_seqk fun _ k32 => w_block ?_))
   refine w_draw [0, 1, 2, 3, 4, 5, 6, 7, 8, 9, 10, 11, 12, 13, 14, 15] (by kernel_rfl) ?_
   refine e_' (hd_s) (e_' (i_ i1) (e_' (hd_s) (e_' (i_ j2) (e_' (hd_s) (e_' (i_ j2) ?_)))))
   obtain ⟨g33, r34⟩ := G_some r31
   refine m_' (elp hd_s 1 j2.toNat 0) (aIndexAddr Try.prog 22 hd_s (i_ j2)) (m20.sq.idxb (by kernel_rfl) g33.1 g33.2) ?_
   refine m_' (i_ (gt s0 j2)) (aLoad Try.prog 3 (elp hd_s 1 j2.toNat 0) H17) (m20.sq.ld g33.1 g33.2 (by kernel_rfl)) ?_
   refine e_' (hd_s) (e_' (i_ i1) ?_)
   obtain ⟨g35, r36⟩ := G_some r34
   refine m_' (elp hd_s 1 i1.toNat 0) (aIndexAddr Try.prog 22 hd_s (i_ i1)) (m20.sq.idxb (by kernel_rfl) g35.1 g35.2) ?_
   refine m_' (i_ (gt s0 i1)) (aLoad Try.prog 3 (elp hd_s 1 i1.toNat 0) H17) (m20.sq.ld g35.1 g35.2 (by kernel_rfl)) ?_
   refine m_' (elp hd_s 1 i1.toNat 0) (aIndexAddr Try.prog 22 hd_s (i_ i1)) (m20.sq.idxb (by kernel_rfl) g35.1 g35.2) ?_
   obtain ⟨H37, q38, e39, hm40⟩ := Ow.store (P := Try.prog) (t := 3) (off := 0) e18.wf m20 g35.1 g35.2 (i_ (gt s0 j2)) [i_ (gt s0 j2)] (by kernel_rfl) (by kernel_rfl) rfl (gt s0 j2) (Nat.le_of_ble_eq_true rfl) (by kernel_rfl)
   refine d_ek (undef) (by kernel_rfl) (map_ok q38) (st_nil) ?_
   obtain ⟨g41, r42⟩ := G_some r36
   refine m_' (elp hd_s 1 j2.toNat 0) (aIndexAddr Try.prog 22 hd_s (i_ j2)) (hm40.sq.idxb (by kernel_rfl) g33.1 g41) ?_
   obtain ⟨H43, q44, e45, hm46⟩ := Ow.store (P := Try.prog) (t := 3) (off := 0) e39.wf hm40 g33.1 g41 (i_ (gt s0 i1)) [i_ (gt s0 i1)] (by kernel_rfl) (by kernel_rfl) rfl (gt s0 i1) (Nat.le_of_ble_eq_true rfl) (by kernel_rfl)
   refine d_ek (undef) (by kernel_rfl) (map_ok q44) (st_nil) ?_
   refine d_nil ?_
   refine k32 _ _ (g_' (q_ (i_ i1) ?_))
   obtain ⟨g47, r48⟩ := G_some r42
   refine w_' (i1 + 1) (wrap64 (by have := g47; omega)) ?_
   refine q_ (i_ j2) ?_
   obtain ⟨g49, r50⟩ := G_some r48
   refine w_' (j2 - 1) (wrap64 g49) ?_
   refine q_ (i_ (i1 + 1)) (q_ (i_ (j2 - 1)) (s_nil ?_))
   obtain rfl := Option.some.inj r50
   exact k27 n23 _ _ (Nat.lt_succ_self _) ⟨((s0.set i1.toNat (gt s0 j2)).set j2.toNat (gt s0 i1)), (i1 + 1), (j2 - 1), hn26, ha_, (FrS.step wf (FrS.step wf (FrS.step wf (FrS.refl (W := fp_s) wf) e18 Inn.refl') e39 Inn.refl') e45 Inn.refl'), hm46⟩
  have r51 := ite_f h30 hz25
  refine w_exit (th_exit (th_exit (bl_eq ?_)))
  obtain rfl := Option.some.inj r51
  obtain rfl := it_inr hn26
  exact k13 _ _ ⟨trivial, (FrS.step wf (FrS.refl (W := fp_s) wf) e18 Inn.refl'), m20⟩
 obtain ⟨hh14, e10, m12⟩ := hM
 obtain ⟨β, rfl⟩ := has_ex hh14
 clear hh14
 refine b_nrm (fn := Try.f65) (vs := []) (rfl) ?_
 obtain rfl := Option.some.inj r8
 exact ⟨rfl, (FrS.step wf (FrS.refl (W := fp_s) wf) e10 Inn.refl'), m12⟩
theorem c_search_Path {H : AH} {hd_First : Value} {fp_First : Fp} {hd_To : Value} {fp_To : Fp} {hd_Weight : Value} {fp_Weight : Fp} {First : List (Int)} {To : List (Int)} {Weight : List (Int)} {s : Int} {t : Int} {r : List (Int) × Er}
    (wf : WF H) (h_First : Sq (encI .i64) 1 H hd_First First fp_First) (h_To : Sq (encI .i64) 1 H hd_To To fp_To) (h_Weight : Sq (encI .i64) 1 H hd_Weight Weight fp_Weight) (hr : z_search_Path First To Weight s t = some r) :
    ACalls Try.prog 12 #[.agg #[hd_First, hd_To, hd_Weight], i_ s, i_ t] H fun v H' => ∃ (s3 : Value) (f4 : Fp) (v7 : Value) (f8 : Fp), v = .tuple #[s3, v7] ∧ FrS [] H H' ∧ Ow (encI .i64) 1 H' s3 r.1 f4 ∧ Ev 122 235 H' v7 r.2 f8 ∧ Inn [] H f4 ∧ Inn [] H f8 ∧ Dj f4 f8 := by
 refine acalls_of_body mixed Try.func12 rfl (Nat.le_of_ble_eq_true rfl) ?_
 unfold z_search_Path at hr
 refine w_seqk fun _ k12 => g_' ?_
 refine s_rwl wf [hd_First, hd_To, hd_Weight] (one_cons (h_First.one1) (one_cons (h_To.one1) (one_cons (h_Weight.one1) (one_nil)))) (by kernel_rfl) fun b13 H14 e15 hb16 r17 => ?_
 refine q_ (.slice none 0 0) (q_ (.nilIface) (s_nil (k12 _ _ (w_seqk fun _ k19 => w_seqk fun _ k20 => g_' ?_))))
 refine l_' (.agg #[hd_First, hd_To, hd_Weight]) (aLoad Try.prog 27 (pt_ b13 0) H14) (r17.ld (by kernel_rfl)) ?_
 refine q_ (i_ s) (q_ (i_ t) ?_)
 refine s_owk (enc := (encI .i64)) (sz := 1) e15.wf [s, t] 2 (by decide) (fun _ _ => rfl) (fun _ _ => rfl) rfl (by kernel_rfl) fun s21 f22 H23 e24 hf25 hm26 => ?_
 obtain ⟨a27, n28, c29, rfl⟩ := hm26.form
 have u31 := ((h_First.ext e15).ext e24)
 have u32 := ((h_To.ext e15).ext e24)
 have u33 := ((h_Weight.ext e15).ext e24)
 obtain ⟨y34, hy35, r36⟩ := bind_some hr
 refine s_ck 58 #[.agg #[hd_First, hd_To, hd_Weight], .slice a27 n28 c29] (by kernel_rfl) (c_search_node e24.wf u31 u32 u33 hm26.sq hy35) ?_
 rintro v37 H39 ⟨_, f38, rfl, e40, m41, i42⟩
 refine q_ (v37) (s_nil (k20 _ _ (w_seqk fun _ k44 => g_' (q_ (v37) ?_))))
 rcases (m41).cases with ⟨h45, rfl⟩ | ⟨h45, t46, x47, rfl⟩
 ·have r48 := ite_t h45 r36
  refine q_ (.bool false) (s_nil (k44 _ _ ?_))
  refine w_cond false (by kernel_rfl) rfl (fun h => by cases h) (fun _ => ?_)
  refine w_skip (k19 _ _ (w_seqk fun _ k49 => ?_))
  refine w_draw [0, 1, 2, 3, 4] (by kernel_rfl) ?_
  have u50 := ((r17.ext e24).frS e40 Dj.nil_l)
  refine d_fl (.agg #[hd_First, hd_To, hd_Weight]) (x := aLoad Try.prog 27 (pt_ b13 0) H39) (by kernel_rfl) (u50.ld (by kernel_rfl)) ?_
  refine e_' (i_ s) ?_
  obtain ⟨y51, hy52, r53⟩ := bind_some r48
  refine d_ck 60 #[] (by kernel_rfl) (c_search_free e40.wf hy52) ?_
  rintro _ H54 ⟨rfl, e55⟩
  have u56 := (u50.frS e55 Dj.nil_l)
  refine ⟨st_ql (y := aLoad Try.prog 27 (pt_ b13 0) H54) (by kernel_rfl) (u56.ld (by kernel_rfl)) (st_nil), ?_⟩
  have u57 := ((u31.fr e40 Dj.nil_l).fr e55 Dj.nil_l)
  have u58 := ((u32.fr e40 Dj.nil_l).fr e55 Dj.nil_l)
  have u59 := ((u33.fr e40 Dj.nil_l).fr e55 Dj.nil_l)
  obtain ⟨y60, hy61, r62⟩ := bind_some r53
  refine d_ck 59 #[.agg #[hd_First, hd_To, hd_Weight], i_ s, .agg #[i_ 4611686018427387904, i_ 4611686018427387904, .int .u64 18446744073709551615]] (by kernel_rfl) (c_search_run e55.wf u57 u58 u59 hy61) ?_
  rintro _ H76 ⟨s63, f64, s65, f66, b67, s68, f69, b70, s71, f72, s73, f74, b75, rfl, e77, m78, m79, m80, m81, m82, m83, m84, m85, i86, i87, i88, i89, i90, i91, i92, i93, d94, d95, d96, d97, d98, d99, d100, d101, d102, d103, d104, d105, d106, d107, d108, d109, d110, d111, d112, d113, d114, d115, d116, d117, d118, d119, d120, d121⟩
  obtain ⟨a130, n131, c132, rfl⟩ := m78.form
  obtain ⟨a133, n134, c135, rfl⟩ := m79.form
  obtain ⟨a136, n137, c138, rfl⟩ := m81.form
  obtain ⟨a139, n140, c141, rfl⟩ := m83.form
  obtain ⟨a142, n143, c144, rfl⟩ := m84.form
  refine ⟨st_anc (by kernel_rfl) (st_nil), ?_⟩
  refine e_' (pt_ b75 0) ?_
  refine d_nil ?_
  refine k49 _ _ (w_seqk fun _ k145 => w_seqk fun _ k146 => g_' (q_ (pt_ b75 0) (q_ (pt_ b75 0) (q_ (pt_ b75 6) ?_))))
  refine l_' (.slice a142 n143 c144) (aLoad Try.prog 125 (pt_ b75 6) H76) (m85.ld (by kernel_rfl)) ?_
  refine q_ (i_ t) ?_
  obtain ⟨g147, r148⟩ := G_some r62
  refine l_' (elp (.slice a142 n143 c144) 1 t.toNat 0) (aIndexAddr Try.prog 125 (.slice a142 n143 c144) (i_ t)) (m84.sq.idxb (by kernel_rfl) g147.1 g147.2) ?_
  refine l_' (.bool (gt y60.2.2.2.2.2.2 t)) (aLoad Try.prog 4 (elp (.slice a142 n143 c144) 1 t.toNat 0) H76) (m84.sq.ld g147.1 g147.2 (by kernel_rfl)) ?_
  refine q_ (.bool (!(gt y60.2.2.2.2.2.2 t))) (s_nil (k146 _ _ ?_))
  refine w_cond ((!(gt y60.2.2.2.2.2.2 t))) (by kernel_rfl) rfl (fun h149 => ?_) (fun h149 => ?_)
  ·have r150 := ite_t h149 r148
   refine w_seqk fun _ k151 => g_' (q_ (.iface 122 (i_ 16)) (q_ (.slice none 0 0) (q_ (.iface 122 (i_ 16)) (s_nil (k151 _ _ ?_)))))
   refine w_ret (th_ret ?_)
   refine b_ret (fn := Try.f12) (vs := [.slice none 0 0, .iface 122 (i_ 16)]) (aRes_tmp (by kernel_rfl) (aRes_tmp (by kernel_rfl) (rfl))) ?_
   obtain rfl := Option.some.inj r150
   exact ⟨(.slice none 0 0), [], (.iface 122 (i_ 16)), [], rfl, (FrS.step wf (FrS.step wf (FrS.step wf (((FrS.refl (W := []) wf).extR e15).extR e24) e40 Inn.nil) e55 Inn.nil) e77 Inn.nil), (Ow.nil (by decide)), Ev.no, Inn.nil, Inn.nil, Dj.nil_l⟩
  have r152 := ite_bf h149 r148
  refine w_skip (k145 _ _ (w_seqk fun _ k153 => g_' (q_ (pt_ b75 0) (q_ (i_ s) ?_))))
  have u154 := (u57.fr e77 Dj.nil_l)
  have u155 := (u58.fr e77 Dj.nil_l)
  have u156 := (u59.fr e77 Dj.nil_l)
  obtain ⟨y157, hy158, r159⟩ := bind_some r152
  refine s_ck 64 #[pt_ b75 0, i_ s] (by kernel_rfl) (c_search_state_parents e77.wf u154 u155 u156 m78.sq m79.sq m80 m81.sq m82 m83.sq m84.sq m85 hy158) ?_
  rintro s160 H162 ⟨_, f161, rfl, e163, m164, i165⟩
  obtain ⟨a167, n168, c169, rfl⟩ := m164.form
  refine q_ (.slice a167 n168 c169) (s_nil (k153 _ _ (w_seqk fun _ k170 => g_' (q_ (i_ t) ?_))))
  refine s_owk (enc := (encI .i64)) (sz := 1) e163.wf [t] 1 (by decide) (fun _ _ => rfl) (fun _ _ => rfl) rfl (by kernel_rfl) fun s171 f172 H173 e174 hf175 hm176 => ?_
  obtain ⟨a177, n178, c179, rfl⟩ := hm176.form
  refine q_ (.slice a177 n178 c179) (s_nil (k170 _ _ (w_seqk fun _ k181 => w_seqk fun _ k182 => g_' (q_ (i_ t) (q_ (i_ t) (s_nil (k182 _ _ ?_)))))))
  obtain ⟨o183, hx184, r185⟩ := bind_some r159
  refine w_mid (fun α H186 => ∃ (s190 : Value) (f191 : Fp), Has α [(11, s190)] ∧ FrS f172 H173 H186 ∧ Ow (encI .i64) 1 H186 s190 o183 f191 ∧ Inn f172 H173 f191) (fun _ k193 => ?_) (fun α H186 hM => ?_)
  ·refine w_block ?_
   obtain ⟨n195, hn196⟩ := loopO_iff.1 hx184
   refine w_loopn (fun n α H197 => ∃ (l0 : List (Int)), ∃ (v1 : Int), ∃ (s201 : Value), ∃ (f202 : Fp), iterO (fun zz_ => z_search_Path_l0 s y157 zz_.1 zz_.2) n (l0, v1) = some o183 ∧ Has α [(1, i_ s), (10, .slice a167 n168 c169), (11, s201), (12, i_ v1)] ∧ FrS f172 H173 H197 ∧ Ow (encI .i64) 1 H197 s201 l0 f202 ∧ Inn f172 H173 f202) n195 ⟨[t], t, (.slice a177 n178 c179), f172, hn196, ha_, (FrS.refl (W := f172) e174.wf), hm176, Inn.refl'⟩ ?_
   rintro n195 α H197 ⟨l0, v1, s201, f202, hi205, hh204, e198, m200, i203⟩ K210 k210
   obtain ⟨n206, z207, rfl, hz208, hn209⟩ := iter_succ hi205
   obtain ⟨β, rfl⟩ := has_ex hh204
   clear hh204
   replace hz208 : z_search_Path_l0 s y157 l0 v1 = some z207 := hz208
   unfold z_search_Path_l0 at hz208
   obtain ⟨a211, n212, c213, rfl⟩ := m200.form
   refine w_seqk fun _ k214 => w_seqk fun _ k215 => g_' (q_ (i_ v1) (q_ (i_ s) (q_ (.bool (!decide (v1 = s))) (s_nil (k215 _ _ ?_)))))
   refine w_condn (v1 = s) (by kernel_rfl) rfl (fun h216 => ?_) (fun h216 => ?_)
   ·have r217 := ite_f h216 hz208
    refine w_skip (k214 _ _ (w_block (w_seqk fun _ k218 => g_' (q_ (.slice a167 n168 c169) (q_ (i_ v1) ?_)))))
    obtain ⟨g219, r220⟩ := G_some r217
    have u221 := ((m164.ext e174).fr e198 (hf175.djn m164.lt))
    refine l_' (elp (.slice a167 n168 c169) 1 v1.toNat 0) (aIndexAddr Try.prog 22 (.slice a167 n168 c169) (i_ v1)) (u221.sq.idxb (by kernel_rfl) g219.1 g219.2) ?_
    refine l_' (i_ (gt y157 v1)) (aLoad Try.prog 3 (elp (.slice a167 n168 c169) 1 v1.toNat 0) H197) (u221.sq.ld g219.1 g219.2 (by kernel_rfl)) ?_
    refine q_ (i_ (gt y157 v1)) (s_nil (k218 _ _ (g_' (q_ (.slice a211 n212 c213) (q_ (i_ (gt y157 v1)) ?_)))))
    refine s_owk (enc := (encI .i64)) (sz := 1) e198.wf [(gt y157 v1)] 1 (by decide) (fun _ _ => rfl) (fun _ _ => rfl) rfl (by kernel_rfl) fun s222 f223 H224 e225 hf226 hm227 => ?_
    obtain ⟨a228, n229, c230, rfl⟩ := hm227.form
    have u232 := (m200.ext e225)
    obtain ⟨g233, r234⟩ := G_some r220
    obtain ⟨s235, H236, f237, q241, e238, hm239, hf240⟩ := Ow.append (P := Try.prog) 8 e225.wf u232 hm227.sq (fun _ _ => rfl) (at_ := #[22, 22]) rfl rfl (by kernel_rfl) (by kernel_rfl) (by decide) (by have := g233; first | omega | (simp only [List.length_cons, List.length_nil] at this ⊢; omega) | (simp at this ⊢; omega))
    obtain ⟨a242, n243, c244, rfl⟩ := hm239.form
    refine s_ek (.slice a242 n243 c244) (by kernel_rfl) (q241) ?_
    refine q_ (.slice a242 n243 c244) (s_nil ?_)
    obtain rfl := Option.some.inj r234
    exact k210 n206 _ _ (Nat.lt_succ_self _) ⟨(l0 ++ [(gt y157 v1)]), (gt y157 v1), (.slice a242 n243 c244), f237, hn209, ha_, (FrS.step e174.wf ((FrS.step e174.wf (FrS.refl (W := f172) e174.wf) e198 Inn.refl').extR e225) e238 (Inn.trans Inn.refl' (Nat.le_refl _) i203)), hm239, (Inn.trans (Inn.trans Inn.refl' (Nat.le_refl _) i203) (ntr e198.next e225.next) hf240)⟩
   have r246 := ite_t h216 hz208
   refine w_exit (th_exit (th_exit (bl_eq ?_)))
   obtain rfl := Option.some.inj r246
   obtain rfl := it_inr hn209
   exact k193 _ _ ⟨(.slice a211 n212 c213), f202, ha_, (FrS.step e174.wf (FrS.refl (W := f172) e174.wf) e198 Inn.refl'), m200, (Inn.trans Inn.refl' (Nat.le_refl _) i203)⟩
  obtain ⟨s190, f191, hh194, e187, m189, i192⟩ := hM
  obtain ⟨β, rfl⟩ := has_ex hh194
  clear hh194
  obtain ⟨a247, n248, c249, rfl⟩ := m189.form
  refine k181 _ _ (w_seqk fun _ k250 => g_' (q_ (.slice a247 n248 c249) ?_))
  obtain ⟨y251, hy252, r253⟩ := bind_some r185
  refine s_ck 65 #[.slice a247 n248 c249] (by kernel_rfl) (c_slices_Reverse e187.wf m189 hy252) ?_
  rintro _ H254 ⟨rfl, e255, m256⟩
  refine s_nil (k250 _ _ (w_seqk fun _ k257 => g_' (q_ (.slice a247 n248 c249) (q_ (.slice a247 n248 c249) (q_ (.nilIface) (s_nil (k257 _ _ ?_)))))))
  refine w_ret ?_
  refine b_ret (fn := Try.f12) (vs := [.slice a247 n248 c249, .nilIface]) (aRes_tmp (by kernel_rfl) (aRes_tmp (by kernel_rfl) (rfl))) ?_
  obtain rfl := Option.some.inj r253
  exact ⟨(.slice a247 n248 c249), f191, (.nilIface), [], rfl, (FrS.step wf (FrS.step wf ((FrS.step wf (FrS.step wf (FrS.step wf (FrS.step wf (((FrS.refl (W := []) wf).extR e15).extR e24) e40 Inn.nil) e55 Inn.nil) e77 Inn.nil) e163 Inn.nil).extR e174) e187 (hf175.fresh (ntr (ntr (ntr (ntr (ntr e15.next e24.next) e40.next) e55.next) e77.next) e163.next))) e255 (Inn.trans (hf175.fresh (ntr (ntr (ntr (ntr (ntr e15.next e24.next) e40.next) e55.next) e77.next) e163.next)) (ntr (ntr (ntr (ntr (ntr (ntr e15.next e24.next) e40.next) e55.next) e77.next) e163.next) e174.next) i192)), m256, Ev.nil, (Inn.trans (hf175.fresh (ntr (ntr (ntr (ntr (ntr e15.next e24.next) e40.next) e55.next) e77.next) e163.next)) (ntr (ntr (ntr (ntr (ntr (ntr e15.next e24.next) e40.next) e55.next) e77.next) e163.next) e174.next) i192), Inn.nil, Dj.nil_r⟩
 have r258 := ite_f h45 r36
 refine l_' (.bool true) (aBin Try.prog .neq 31 (.tmp 18) (.const .nilIface) (.iface t46 x47) .nilIface) (aBin_nnil (by kernel_rfl)) ?_
 refine s_nil (k44 _ _ ?_)
 refine w_cond true (by kernel_rfl) rfl (fun _ => ?_) (fun h => by cases h)
 refine w_seqk fun _ k259 => g_' (q_ (.iface t46 x47) (q_ (.slice none 0 0) (q_ (.iface t46 x47) (s_nil (k259 _ _ ?_)))))
 refine w_ret (th_ret ?_)
 refine b_ret (fn := Try.f12) (vs := [.slice none 0 0, .iface t46 x47]) (aRes_tmp (by kernel_rfl) (aRes_tmp (by kernel_rfl) (rfl))) ?_
 obtain rfl := Option.some.inj r258
 exact ⟨(.slice none 0 0), [], (.iface t46 x47), f38, rfl, (FrS.step wf (((FrS.refl (W := []) wf).extR e15).extR e24) e40 Inn.nil), (Ow.nil (by decide)), m41, Inn.nil, (i42.fresh (ntr e15.next e24.next)), Dj.nil_l⟩
theorem c_stamp_Stamp_All {H : AH} {b_s : Nat} {hd_s_ : Value} {fp_s_ : Fp} {s_ : List (Int × Int)} {s_2 : Int} {s_3 : Int} {r : List (Int)}
    (wf : WF H) (h_s_ : Sq enc_u64_u32 2 H hd_s_ s_ fp_s_) (h_s : Row H b_s [hd_s_, .int .u32 s_2, i_ s_3]) (hr : z_stamp_Stamp_All s_ s_2 s_3 = some r) :
    ACalls Try.prog 66 #[pt_ b_s 0] H fun v H' => ∃ (s3 : Value) (f4 : Fp), v = s3 ∧ FrS [] H H' ∧ Ow (encI .i64) 1 H' s3 r f4 ∧ Inn [] H f4 := by
 refine acalls_of_body mixed Try.func66 rfl (Nat.le_of_ble_eq_true rfl) ?_
 unfold z_stamp_Stamp_All at hr
 refine w_seqk fun _ k6 => g_' (q_ (.slice none 0 0) (s_nil (k6 _ _ (w_seqk fun _ k7 => w_seqk fun _ k8 => g_' (q_ (pt_ b_s 0) (q_ (.bool false) (s_nil (k8 _ _ ?_))))))))
 refine w_cond false (by kernel_rfl) rfl (fun h => by cases h) (fun _ => ?_)
 refine w_skip (k7 _ _ (w_seqk fun _ k9 => g_' (q_ (.slice none 0 0) (s_nil (k9 _ _ (w_seqk fun _ k10 => w_seqk fun _ k11 => g_' (q_ (pt_ b_s 0) (q_ (pt_ b_s 0) (q_ (pt_ b_s 0) ?_)))))))))
 refine l_' (hd_s_) (aLoad Try.prog 189 (pt_ b_s 0) H) (h_s.ld (by kernel_rfl)) ?_
 refine l_' (i_ (s_.length : Int)) (aLen Try.prog 189 hd_s_ H) (h_s_.lenb (by kernel_rfl)) ?_
 refine q_ (i_ 0) (s_nil (k11 _ _ ?_))
 obtain ⟨o12, hx13, r14⟩ := bind_some hr
 refine w_mid (fun α H15 => ∃ (s19 : Value) (f20 : Fp), Has α [(3, s19)] ∧ FrS [] H H15 ∧ Ow (encI .i64) 1 H15 s19 o12 f20 ∧ Inn [] H f20) (fun _ k22 => ?_) (fun α H15 hM => ?_)
 ·refine w_block ?_
  obtain ⟨n24, hn25⟩ := loopO_iff.1 hx13
  refine w_loopn (fun n α H26 => ∃ (i0 : Int), ∃ (l1 : List (Int)), ∃ (s30 : Value), ∃ (f31 : Fp), iterO (fun zz_ => z_stamp_Stamp_All_l0 s_ s_2 zz_.1 zz_.2) n (i0, l1) = some o12 ∧ Has α [(0, pt_ b_s 0), (3, s30), (11, hd_s_), (12, i_ (s_.length : Int)), (13, i_ i0)] ∧ FrS [] H H26 ∧ Ow (encI .i64) 1 H26 s30 l1 f31 ∧ Inn [] H f31) n24 ⟨0, [], (.slice none 0 0), [], hn25, ha_, (FrS.refl (W := []) wf), (Ow.nil (by decide)), Inn.nil⟩ ?_
  rintro n24 α H26 ⟨i0, l1, s30, f31, hi34, hh33, e27, m29, i32⟩ K39 k39
  obtain ⟨n35, z36, rfl, hz37, hn38⟩ := iter_succ hi34
  obtain ⟨β, rfl⟩ := has_ex hh33
  clear hh33
  replace hz37 : z_stamp_Stamp_All_l0 s_ s_2 i0 l1 = some z36 := hz37
  unfold z_stamp_Stamp_All_l0 at hz37
  obtain ⟨a40, n41, c42, rfl⟩ := m29.form
  refine w_seqk fun _ k43 => g_' (q_ (.bool (decide (i0 < (s_.length : Int)))) (s_nil (k43 _ _ (w_seqk fun _ k44 => ?_))))
  refine w_condp (i0 < (s_.length : Int)) (by kernel_rfl) rfl (fun h45 => ?_) (fun h45 => ?_)
  ·have r46 := ite_t h45 hz37
   refine w_skip (k44 _ _ (w_seqk fun _ k47 => w_block (w_seqk fun _ k48 => g_' (q_ (i_ i0) ?_))))
   obtain ⟨g49, r50⟩ := G_some r46
   have u51 := (h_s_.fr e27 Dj.nil_l)
   refine l_' (elp hd_s_ 2 i0.toNat 0) (aIndexAddr Try.prog 189 hd_s_ (i_ i0)) (u51.idxb (by kernel_rfl) g49 h45) ?_
   refine l_' (.agg #[.int .u64 ((gt s_ i0).1), .int .u32 ((gt s_ i0).2)]) (aLoad Try.prog 193 (elp hd_s_ 2 i0.toNat 0) H26) (u51.ld g49 h45 (by kernel_rfl)) ?_
   refine s_rwk e27.wf [.int .u64 0, .int .u32 0] (by kernel_rfl) fun b52 H53 e54 hb55 r56 => ?_
   refine q_ (i_ i0) ?_
   obtain ⟨H58, q59, e60, r61⟩ := Row.store (P := Try.prog) (t := 193) (p := 0) e54.wf r56 (.agg #[.int .u64 ((gt s_ i0).1), .int .u32 ((gt s_ i0).2)]) [.int .u64 ((gt s_ i0).1), .int .u32 ((gt s_ i0).2)] (by kernel_rfl) (by kernel_rfl) (one_cons (rfl) (one_cons (rfl) (one_nil))) (Nat.le_of_ble_eq_true (by kernel_rfl)) [.int .u64 ((gt s_ i0).1), .int .u32 ((gt s_ i0).2)] (by kernel_rfl)
   refine s_ek (undef) (by kernel_rfl) (map_ok q59) ?_
   refine s_nil (k48 _ _ (w_seqk fun _ k62 => ?_))
   refine w_draw [0, 1, 2, 3, 4, 5, 6] (by kernel_rfl) ?_
   refine e_' (pt_ b52 1) ?_
   refine m_' (.int .u32 ((gt s_ i0).2)) (aLoad Try.prog 90 (pt_ b52 1) H58) (r61.ld (by kernel_rfl)) ?_
   refine e_' (pt_ b_s 0) (e_' (pt_ b_s 0) (e_' (pt_ b_s 1) ?_))
   have u63 := (((h_s.frS e27 Dj.nil_l).ext e54).frS e60 (hb55.djn (h_s.ltF.le e27.next)))
   refine m_' (.int .u32 s_2) (aLoad Try.prog 90 (pt_ b_s 1) H58) (u63.ld (by kernel_rfl)) ?_
   refine e_' (.bool (decide (((gt s_ i0).2) = s_2))) ?_
   refine d_nil ?_
   refine k62 _ _ ?_
   refine w_condp (((gt s_ i0).2) = s_2) (by kernel_rfl) rfl (fun h64 => ?_) (fun h64 => ?_)
   ·have r65 := ite_t h64 r50
    refine g_' (q_ (.slice a40 n41 c42) (q_ (i_ i0) ?_))
    refine s_owk (enc := (encI .i64)) (sz := 1) e60.wf [i0] 1 (by decide) (fun _ _ => rfl) (fun _ _ => rfl) rfl (by kernel_rfl) fun s66 f67 H68 e69 hf70 hm71 => ?_
    obtain ⟨a72, n73, c74, rfl⟩ := hm71.form
    have u76 := (((m29.ext e54).fr e60 (hb55.djn m29.lt)).ext e69)
    obtain ⟨g77, r78⟩ := G_some r65
    obtain ⟨s79, H80, f81, q85, e82, hm83, hf84⟩ := Ow.append (P := Try.prog) 8 e69.wf u76 hm71.sq (fun _ _ => rfl) (at_ := #[22, 22]) rfl rfl (by kernel_rfl) (by kernel_rfl) (by decide) (by have := g77; first | omega | (simp only [List.length_cons, List.length_nil] at this ⊢; omega) | (simp at this ⊢; omega))
    obtain ⟨a86, n87, c88, rfl⟩ := hm83.form
    refine s_ek (.slice a86 n87 c88) (by kernel_rfl) (q85) ?_
    refine q_ (.slice a86 n87 c88) (s_nil (k47 _ _ (g_' ?_)))
    obtain ⟨g90, r91⟩ := G_some r78
    refine w_' (i0 + 1) (wrap64 (by have := g90; omega)) ?_
    refine q_ (i_ (i0 + 1)) (s_nil ?_)
    obtain rfl := Option.some.inj r91
    exact k39 n35 _ _ (Nat.lt_succ_self _) ⟨(i0 + 1), (l1 ++ [i0]), (.slice a86 n87 c88), f81, hn38, ha_, (FrS.step wf ((FrS.step wf ((FrS.step wf (FrS.refl (W := []) wf) e27 Inn.nil).extR e54) e60 (hb55.fresh e27.next)).extR e69) e82 (i32.fresh (Nat.le_refl _))), hm83, (Inn.trans (i32.fresh (Nat.le_refl _)) (ntr (ntr (ntr e27.next e54.next) e60.next) e69.next) hf84)⟩
   have r92 := ite_f h64 r50
   refine w_skip (k47 _ _ (g_' ?_))
   obtain ⟨g93, r94⟩ := G_some r92
   refine w_' (i0 + 1) (wrap64 (by have := g93; omega)) ?_
   refine q_ (i_ (i0 + 1)) (s_nil ?_)
   have u95 := ((m29.ext e54).fr e60 (hb55.djn m29.lt))
   obtain rfl := Option.some.inj r94
   exact k39 n35 _ _ (Nat.lt_succ_self _) ⟨(i0 + 1), l1, (.slice a40 n41 c42), f31, hn38, ha_, (FrS.step wf ((FrS.step wf (FrS.refl (W := []) wf) e27 Inn.nil).extR e54) e60 (hb55.fresh e27.next)), u95, (i32.fresh (Nat.le_refl _))⟩
  have r96 := ite_f h45 hz37
  refine w_exit (th_exit (th_exit (bl_eq ?_)))
  obtain rfl := Option.some.inj r96
  obtain rfl := it_inr hn38
  exact k22 _ _ ⟨(.slice a40 n41 c42), f31, ha_, (FrS.step wf (FrS.refl (W := []) wf) e27 Inn.nil), m29, (i32.fresh (Nat.le_refl _))⟩
 obtain ⟨s19, f20, hh23, e16, m18, i21⟩ := hM
 obtain ⟨β, rfl⟩ := has_ex hh23
 clear hh23
 obtain ⟨a97, n98, c99, rfl⟩ := m18.form
 refine k10 _ _ (w_seqk fun _ k100 => g_' (q_ (.slice a97 n98 c99) (q_ (.slice a97 n98 c99) (s_nil (k100 _ _ ?_)))))
 refine w_ret ?_
 refine b_ret (fn := Try.f66) (vs := [.slice a97 n98 c99]) (aRes_tmp (by kernel_rfl) (rfl)) ?_
 obtain rfl := Option.some.inj r14
 exact ⟨(.slice a97 n98 c99), f20, rfl, (FrS.step wf (FrS.refl (W := []) wf) e16 Inn.nil), m18, (i21.fresh (Nat.le_refl _))⟩
end Go.Vd

/-! (KSy5) -/

set_option maxRecDepth 100000
set_option maxHeartbeats 4000000
set_option linter.unusedVariables false
namespace Go.Vd
open Go.Proofs
attribute [local irreducible] wpSeq wpOrd aWp
theorem c_search_Bounded {H : AH} {hd_First : Value} {fp_First : Fp} {hd_To : Value} {fp_To : Fp} {hd_Weight : Value} {fp_Weight : Fp} {First : List (Int)} {To : List (Int)} {Weight : List (Int)} {s : Int} {hops : Int} {settles : Int} {most : Int} {r : List (Int × Int × Int × Bool) × Er}
    (wf : WF H) (h_First : Sq (encI .i64) 1 H hd_First First fp_First) (h_To : Sq (encI .i64) 1 H hd_To To fp_To) (h_Weight : Sq (encI .i64) 1 H hd_Weight Weight fp_Weight) (hr : z_search_Bounded First To Weight s hops settles most = some r) :
    ACalls Try.prog 13 #[.agg #[hd_First, hd_To, hd_Weight], i_ s, i_ hops, i_ settles, .int .u64 most] H fun v H' => ∃ (s3 : Value) (f4 : Fp) (v7 : Value) (f8 : Fp), v = .tuple #[s3, v7] ∧ FrS [] H H' ∧ Ow enc_i64_u64_i64_bool 4 H' s3 r.1 f4 ∧ Ev 122 235 H' v7 r.2 f8 ∧ Inn [] H f4 ∧ Inn [] H f8 ∧ Dj f4 f8 := by
 refine acalls_of_body mixed Try.func13 rfl (Nat.le_of_ble_eq_true rfl) ?_
 unfold z_search_Bounded at hr
 refine w_seqk fun _ k12 => g_' ?_
 refine s_rwl wf [hd_First, hd_To, hd_Weight] (one_cons (h_First.one1) (one_cons (h_To.one1) (one_cons (h_Weight.one1) (one_nil)))) (by kernel_rfl) fun b13 H14 e15 hb16 r17 => ?_
 refine q_ (.slice none 0 0) (q_ (.nilIface) (s_nil (k12 _ _ (w_seqk fun _ k19 => w_seqk fun _ k20 => g_' ?_))))
 refine l_' (.agg #[hd_First, hd_To, hd_Weight]) (aLoad Try.prog 27 (pt_ b13 0) H14) (r17.ld (by kernel_rfl)) ?_
 refine q_ (i_ s) ?_
 refine s_owk (enc := (encI .i64)) (sz := 1) e15.wf [s] 1 (by decide) (fun _ _ => rfl) (fun _ _ => rfl) rfl (by kernel_rfl) fun s21 f22 H23 e24 hf25 hm26 => ?_
 obtain ⟨a27, n28, c29, rfl⟩ := hm26.form
 have u31 := ((h_First.ext e15).ext e24)
 have u32 := ((h_To.ext e15).ext e24)
 have u33 := ((h_Weight.ext e15).ext e24)
 obtain ⟨y34, hy35, r36⟩ := bind_some hr
 refine s_ck 58 #[.agg #[hd_First, hd_To, hd_Weight], .slice a27 n28 c29] (by kernel_rfl) (c_search_node e24.wf u31 u32 u33 hm26.sq hy35) ?_
 rintro v37 H39 ⟨_, f38, rfl, e40, m41, i42⟩
 refine q_ (v37) (s_nil (k20 _ _ (w_seqk fun _ k44 => g_' (q_ (v37) ?_))))
 rcases (m41).cases with ⟨h45, rfl⟩ | ⟨h45, t46, x47, rfl⟩
 ·have r48 := ite_t h45 r36
  refine q_ (.bool false) (s_nil (k44 _ _ ?_))
  refine w_cond false (by kernel_rfl) rfl (fun h => by cases h) (fun _ => ?_)
  refine w_skip (k19 _ _ (w_seqk fun _ k49 => g_' ?_))
  have u50 := ((r17.ext e24).frS e40 Dj.nil_l)
  refine l_' (.agg #[hd_First, hd_To, hd_Weight]) (aLoad Try.prog 27 (pt_ b13 0) H39) (u50.ld (by kernel_rfl)) ?_
  refine q_ (i_ s) (q_ (i_ hops) (q_ (i_ settles) (q_ (.int .u64 most) (q_ (.agg #[i_ hops, i_ settles, .int .u64 most]) ?_))))
  have u51 := (u31.fr e40 Dj.nil_l)
  have u52 := (u32.fr e40 Dj.nil_l)
  have u53 := (u33.fr e40 Dj.nil_l)
  obtain ⟨y54, hy55, r56⟩ := bind_some r48
  refine s_ck 59 #[.agg #[hd_First, hd_To, hd_Weight], i_ s, .agg #[i_ hops, i_ settles, .int .u64 most]] (by kernel_rfl) (c_search_run e40.wf u51 u52 u53 hy55) ?_
  rintro _ H70 ⟨s57, f58, s59, f60, b61, s62, f63, b64, s65, f66, s67, f68, b69, rfl, e71, m72, m73, m74, m75, m76, m77, m78, m79, i80, i81, i82, i83, i84, i85, i86, i87, d88, d89, d90, d91, d92, d93, d94, d95, d96, d97, d98, d99, d100, d101, d102, d103, d104, d105, d106, d107, d108, d109, d110, d111, d112, d113, d114, d115⟩
  obtain ⟨a124, n125, c126, rfl⟩ := m72.form
  obtain ⟨a127, n128, c129, rfl⟩ := m73.form
  obtain ⟨a130, n131, c132, rfl⟩ := m75.form
  obtain ⟨a133, n134, c135, rfl⟩ := m77.form
  obtain ⟨a136, n137, c138, rfl⟩ := m78.form
  refine q_ (pt_ b69 0) (s_nil (k49 _ _ (w_seqk fun _ k139 => g_' (q_ (.slice none 0 0) (s_nil (k139 _ _ (w_seqk fun _ k140 => w_seqk fun _ k141 => g_' (q_ (pt_ b69 0) (q_ (pt_ b69 0) (q_ (pt_ b69 4) ?_))))))))))
  refine l_' (pt_ b64 0) (aLoad Try.prog 124 (pt_ b69 4) H70) (m79.ld (by kernel_rfl)) ?_
  obtain ⟨y142, hy143, r144⟩ := bind_some r56
  refine s_ck 66 #[pt_ b64 0] (by kernel_rfl) (c_stamp_Stamp_All e71.wf m75.sq m76 hy143) ?_
  rintro s145 H147 ⟨_, f146, rfl, e148, m149, i150⟩
  obtain ⟨a152, n153, c154, rfl⟩ := m149.form
  refine l_' (i_ (y142.length : Int)) (aLen Try.prog 22 (.slice a152 n153 c154) H147) (m149.sq.lenb (by kernel_rfl)) ?_
  refine q_ (i_ 0) (s_nil (k141 _ _ ?_))
  obtain ⟨o155, hx156, r157⟩ := bind_some r144
  refine w_mid (fun α H158 => ∃ (s162 : Value) (f163 : Fp), Has α [(14, s162)] ∧ FrS [] H147 H158 ∧ Ow enc_i64_u64_i64_bool 4 H158 s162 o155 f163 ∧ Inn [] H147 f163) (fun _ k165 => ?_) (fun α H158 hM => ?_)
  ·refine w_block ?_
   obtain ⟨n167, hn168⟩ := loopO_iff.1 hx156
   refine w_loopn (fun n α H169 => ∃ (l0 : List (Int × Int × Int × Bool)), ∃ (i1 : Int), ∃ (s173 : Value), ∃ (f174 : Fp), iterO (fun zz_ => z_search_Bounded_l0 y54 y142 zz_.1 zz_.2) n (l0, i1) = some o155 ∧ Has α [(13, pt_ b69 0), (14, s173), (37, .slice a152 n153 c154), (38, i_ (y142.length : Int)), (39, i_ i1)] ∧ FrS [] H147 H169 ∧ Ow enc_i64_u64_i64_bool 4 H169 s173 l0 f174 ∧ Inn [] H147 f174) n167 ⟨[], 0, (.slice none 0 0), [], hn168, ha_, (FrS.refl (W := []) e148.wf), (Ow.nil (by decide)), Inn.nil⟩ ?_
   rintro n167 α H169 ⟨l0, i1, s173, f174, hi177, hh176, e170, m172, i175⟩ K182 k182
   obtain ⟨n178, z179, rfl, hz180, hn181⟩ := iter_succ hi177
   obtain ⟨β, rfl⟩ := has_ex hh176
   clear hh176
   replace hz180 : z_search_Bounded_l0 y54 y142 l0 i1 = some z179 := hz180
   unfold z_search_Bounded_l0 at hz180
   obtain ⟨a183, n184, c185, rfl⟩ := m172.form
   refine w_seqk fun _ k186 => g_' (q_ (.bool (decide (i1 < (y142.length : Int)))) (s_nil (k186 _ _ (w_seqk fun _ k187 => ?_))))
   refine w_condp (i1 < (y142.length : Int)) (by kernel_rfl) rfl (fun h188 => ?_) (fun h188 => ?_)
   ·have r189 := ite_t h188 hz180
    refine w_skip (k187 _ _ (w_seqk fun _ k190 => w_block (w_seqk fun _ k191 => g_' ?_)))
    obtain ⟨g192, r193⟩ := G_some r189
    have u194 := (m149.fr e170 Dj.nil_l)
    refine l_' (elp (.slice a152 n153 c154) 1 i1.toNat 0) (aIndexAddr Try.prog 22 (.slice a152 n153 c154) (i_ i1)) (u194.sq.idxb (by kernel_rfl) g192 h188) ?_
    refine l_' (i_ (gt y142 i1)) (aLoad Try.prog 3 (elp (.slice a152 n153 c154) 1 i1.toNat 0) H169) (u194.sq.ld g192 h188 (by kernel_rfl)) ?_
    refine q_ (i_ (gt y142 i1)) (s_nil (k191 _ _ (w_seqk fun _ k195 => g_' (q_ (pt_ b69 0) (q_ (pt_ b69 0) (q_ (pt_ b69 4) ?_))))))
    have u196 := ((m79.frS e148 Dj.nil_l).frS e170 Dj.nil_l)
    refine l_' (pt_ b64 0) (aLoad Try.prog 124 (pt_ b69 4) H169) (u196.ld (by kernel_rfl)) ?_
    refine q_ (i_ (gt y142 i1)) ?_
    have u197 := ((m75.fr e148 Dj.nil_l).fr e170 Dj.nil_l)
    have u198 := ((m76.frS e148 Dj.nil_l).frS e170 Dj.nil_l)
    obtain ⟨y199, hy200, r201⟩ := bind_some r193
    refine s_ck 67 #[pt_ b64 0, i_ (gt y142 i1)] (by kernel_rfl) (c_stamp_Stamp_Get e170.wf u197.sq u198 hy200) ?_
    rintro _ _ ⟨rfl, rfl⟩
    refine q_ (.tuple #[.int .u64 y199.1, .bool y199.2]) (q_ (.int .u64 y199.1) (q_ (.bool y199.2) (q_ (.int .u64 y199.1) (q_ (.bool y199.2) (s_nil (k195 _ _ ?_))))))
    refine w_draw [0, 1, 2, 3, 4, 5, 6, 7, 8, 9, 10, 11, 12, 13, 14, 15, 16, 17, 18, 19, 20] (by kernel_rfl) ?_
    refine e_' (.slice a183 n184 c185) (e_' (i_ (gt y142 i1)) (e_' (.int .u64 y199.1) (e_' (pt_ b69 0) (e_' (pt_ b69 0) (e_' (pt_ b69 5) ?_)))))
    refine m_' (.slice a133 n134 c135) (aLoad Try.prog 22 (pt_ b69 5) H169) (u196.ld (by kernel_rfl)) ?_
    refine e_' (i_ (gt y142 i1)) ?_
    obtain ⟨g204, r205⟩ := G_some r201
    have u206 := ((m77.fr e148 Dj.nil_l).fr e170 Dj.nil_l)
    refine m_' (elp (.slice a133 n134 c135) 1 (gt y142 i1).toNat 0) (aIndexAddr Try.prog 22 (.slice a133 n134 c135) (i_ (gt y142 i1))) (u206.sq.idxb (by kernel_rfl) g204.1 g204.2) ?_
    refine m_' (i_ (gt y54.2.2.2.2.2.1 (gt y142 i1))) (aLoad Try.prog 3 (elp (.slice a133 n134 c135) 1 (gt y142 i1).toNat 0) H169) (u206.sq.ld g204.1 g204.2 (by kernel_rfl)) ?_
    refine e_' (pt_ b69 0) (e_' (pt_ b69 0) (e_' (pt_ b69 6) ?_))
    refine m_' (.slice a136 n137 c138) (aLoad Try.prog 125 (pt_ b69 6) H169) (u196.ld (by kernel_rfl)) ?_
    refine e_' (i_ (gt y142 i1)) ?_
    obtain ⟨g207, r208⟩ := G_some r205
    have u209 := ((m78.fr e148 Dj.nil_l).fr e170 Dj.nil_l)
    refine m_' (elp (.slice a136 n137 c138) 1 (gt y142 i1).toNat 0) (aIndexAddr Try.prog 125 (.slice a136 n137 c138) (i_ (gt y142 i1))) (u209.sq.idxb (by kernel_rfl) g204.1 g207) ?_
    refine m_' (.bool (gt y54.2.2.2.2.2.2 (gt y142 i1))) (aLoad Try.prog 4 (elp (.slice a136 n137 c138) 1 (gt y142 i1).toNat 0) H169) (u209.sq.ld g204.1 g207 (by kernel_rfl)) ?_
    refine e_' (.agg #[i_ (gt y142 i1), .int .u64 y199.1, i_ (gt y54.2.2.2.2.2.1 (gt y142 i1)), .bool (gt y54.2.2.2.2.2.2 (gt y142 i1))]) ?_
    refine d_owk (enc := enc_i64_u64_i64_bool) (sz := 4) e170.wf [((gt y142 i1), y199.1, (gt y54.2.2.2.2.2.1 (gt y142 i1)), (gt y54.2.2.2.2.2.2 (gt y142 i1)))] 1 (by decide) (fun _ _ => rfl) (fun _ _ => rfl) rfl (by kernel_rfl) fun s210 f211 H212 e213 hf214 hm215 => ?_
    obtain ⟨a216, n217, c218, rfl⟩ := hm215.form
    have u220 := (m172.ext e213)
    obtain ⟨g221, r222⟩ := G_some r208
    obtain ⟨s223, H224, f225, q229, e226, hm227, hf228⟩ := Ow.append (P := Try.prog) 32 e213.wf u220 hm215.sq (fun _ _ => rfl) (at_ := #[39, 39]) rfl rfl (by kernel_rfl) (by kernel_rfl) (by decide) (by have := g221; first | omega | (simp only [List.length_cons, List.length_nil] at this ⊢; omega) | (simp at this ⊢; omega))
    obtain ⟨a230, n231, c232, rfl⟩ := hm227.form
    refine d_ek (.slice a230 n231 c232) (by kernel_rfl) (q229) (st_nil) ?_
    refine e_' (.slice a230 n231 c232) ?_
    refine d_nil ?_
    refine k190 _ _ (g_' ?_)
    obtain ⟨g234, r235⟩ := G_some r222
    refine w_' (i1 + 1) (wrap64 (by have := g234; omega)) ?_
    refine q_ (i_ (i1 + 1)) (s_nil ?_)
    obtain rfl := Option.some.inj r235
    exact k182 n178 _ _ (Nat.lt_succ_self _) ⟨(l0 ++ [((gt y142 i1), y199.1, (gt y54.2.2.2.2.2.1 (gt y142 i1)), (gt y54.2.2.2.2.2.2 (gt y142 i1)))]), (i1 + 1), (.slice a230 n231 c232), f225, hn181, ha_, (FrS.step e148.wf ((FrS.step e148.wf (FrS.refl (W := []) e148.wf) e170 Inn.nil).extR e213) e226 (i175.fresh (Nat.le_refl _))), hm227, (Inn.trans (i175.fresh (Nat.le_refl _)) (ntr e170.next e213.next) hf228)⟩
   have r236 := ite_f h188 hz180
   refine w_exit (th_exit (th_exit (bl_eq ?_)))
   obtain rfl := Option.some.inj r236
   obtain rfl := it_inr hn181
   exact k165 _ _ ⟨(.slice a183 n184 c185), f174, ha_, (FrS.step e148.wf (FrS.refl (W := []) e148.wf) e170 Inn.nil), m172, (i175.fresh (Nat.le_refl _))⟩
  obtain ⟨s162, f163, hh166, e159, m161, i164⟩ := hM
  obtain ⟨β, rfl⟩ := has_ex hh166
  clear hh166
  obtain ⟨a237, n238, c239, rfl⟩ := m161.form
  refine k140 _ _ (w_seqk fun _ k240 => g_' (q_ (.slice a237 n238 c239) (q_ (.slice a237 n238 c239) (q_ (.nilIface) (s_nil (k240 _ _ ?_))))))
  refine w_ret ?_
  refine b_ret (fn := Try.f13) (vs := [.slice a237 n238 c239, .nilIface]) (aRes_tmp (by kernel_rfl) (aRes_tmp (by kernel_rfl) (rfl))) ?_
  obtain rfl := Option.some.inj r157
  exact ⟨(.slice a237 n238 c239), f163, (.nilIface), [], rfl, (FrS.step wf (FrS.step wf (FrS.step wf (FrS.step wf (((FrS.refl (W := []) wf).extR e15).extR e24) e40 Inn.nil) e71 Inn.nil) e148 Inn.nil) e159 Inn.nil), m161, Ev.nil, (i164.fresh (ntr (ntr (ntr (ntr e15.next e24.next) e40.next) e71.next) e148.next)), Inn.nil, Dj.nil_r⟩
 have r241 := ite_f h45 r36
 refine l_' (.bool true) (aBin Try.prog .neq 31 (.tmp 23) (.const .nilIface) (.iface t46 x47) .nilIface) (aBin_nnil (by kernel_rfl)) ?_
 refine s_nil (k44 _ _ ?_)
 refine w_cond true (by kernel_rfl) rfl (fun _ => ?_) (fun h => by cases h)
 refine w_seqk fun _ k242 => g_' (q_ (.iface t46 x47) (q_ (.slice none 0 0) (q_ (.iface t46 x47) (s_nil (k242 _ _ ?_)))))
 refine w_ret (th_ret ?_)
 refine b_ret (fn := Try.f13) (vs := [.slice none 0 0, .iface t46 x47]) (aRes_tmp (by kernel_rfl) (aRes_tmp (by kernel_rfl) (rfl))) ?_
 obtain rfl := Option.some.inj r241
 exact ⟨(.slice none 0 0), [], (.iface t46 x47), f38, rfl, (FrS.step wf (((FrS.refl (W := []) wf).extR e15).extR e24) e40 Inn.nil), (Ow.nil (by decide)), m41, Inn.nil, (i42.fresh (ntr e15.next e24.next)), Dj.nil_l⟩
theorem c_viaductref02_SameInts {H : AH} {hd_a : Value} {fp_a : Fp} {hd_b : Value} {fp_b : Fp} {a : List (Int)} {b : List (Int)} {r : Bool}
    (wf : WF H) (h_a : Sq (encI .i64) 1 H hd_a a fp_a) (h_b : Sq (encI .i64) 1 H hd_b b fp_b) (hr : z_viaductref02_SameInts a b = some r) :
    ACalls Try.prog 45 #[hd_a, hd_b] H fun v H' => v = .bool r ∧ H = H' := by
 refine acalls_of_body mixed Try.func45 rfl (Nat.le_of_ble_eq_true rfl) ?_
 unfold z_viaductref02_SameInts at hr
 refine w_seqk fun _ k1 => g_' (q_ (.bool false) (s_nil (k1 _ _ (w_seqk fun _ k2 => w_seqk fun _ k3 => g_' (q_ (hd_a) ?_)))))
 refine l_' (i_ (a.length : Int)) (aLen Try.prog 22 hd_a H) (h_a.lenb (by kernel_rfl)) ?_
 refine q_ (hd_b) ?_
 refine l_' (i_ (b.length : Int)) (aLen Try.prog 22 hd_b H) (h_b.lenb (by kernel_rfl)) ?_
 refine q_ (.bool (!decide ((a.length : Int) = (b.length : Int)))) (s_nil (k3 _ _ ?_))
 refine w_condn ((a.length : Int) = (b.length : Int)) (by kernel_rfl) rfl (fun h4 => ?_) (fun h4 => ?_)
 ·have r5 := ite_f h4 hr
  refine w_seqk fun _ k6 => g_' (q_ (.bool false) (s_nil (k6 _ _ ?_)))
  refine w_ret (th_ret ?_)
  refine b_ret (fn := Try.f45) (vs := [.bool false]) (aRes_tmp (by kernel_rfl) (rfl)) ?_
  obtain rfl := Option.some.inj r5
  exact ⟨rfl, rfl⟩
 have r7 := ite_t h4 hr
 refine w_skip (k2 _ _ (w_seqk fun _ k8 => w_seqk fun _ k9 => g_' (q_ (hd_a) ?_)))
 refine l_' (i_ (a.length : Int)) (aLen Try.prog 22 hd_a H) (h_a.lenb (by kernel_rfl)) ?_
 refine q_ (i_ 0) (s_nil (k9 _ _ ?_))
 obtain ⟨z13, hx11, r12⟩ := bind_some r7
 refine w_mid (fun α H14 => ∃ o10, z13 = Sum.inr o10 ∧ Has α [] ∧ H = H14) (fun _ k16 => ?_) (fun α H14 hM => ?_)
 ·refine w_block ?_
  obtain ⟨n18, hn19⟩ := loopO_iff.1 hx11
  refine w_loopn (fun n α H20 => ∃ (i0 : Int), iterO (fun zz_ => z_viaductref02_SameInts_l0 a b zz_) n i0 = some z13 ∧ Has α [(0, hd_a), (1, hd_b), (12, i_ (a.length : Int)), (13, i_ i0)] ∧ H = H20) n18 ⟨0, hn19, ha_, rfl⟩ ?_
  rintro n18 α H20 ⟨i0, hi23, hh22, rfl⟩ K28 k28
  obtain ⟨n24, z25, rfl, hz26, hn27⟩ := iter_succ hi23
  obtain ⟨β, rfl⟩ := has_ex hh22
  clear hh22
  replace hz26 : z_viaductref02_SameInts_l0 a b i0 = some z25 := hz26
  unfold z_viaductref02_SameInts_l0 at hz26
  refine w_seqk fun _ k29 => g_' (q_ (.bool (decide (i0 < (a.length : Int)))) (s_nil (k29 _ _ (w_seqk fun _ k30 => ?_))))
  refine w_condp (i0 < (a.length : Int)) (by kernel_rfl) rfl (fun h31 => ?_) (fun h31 => ?_)
  ·have r32 := ite_t h31 hz26
   refine w_skip (k30 _ _ (w_seqk fun _ k33 => w_block (w_seqk fun _ k34 => g_' (q_ (i_ i0) (q_ (i_ i0) (s_nil (k34 _ _ (w_seqk fun _ k35 => ?_))))))))
   refine w_draw [0, 1, 2, 3, 4, 5, 6, 7, 8] (by kernel_rfl) ?_
   refine e_' (hd_a) (e_' (i_ i0) ?_)
   obtain ⟨g36, r37⟩ := G_some r32
   refine m_' (elp hd_a 1 i0.toNat 0) (aIndexAddr Try.prog 22 hd_a (i_ i0)) (h_a.idxb (by kernel_rfl) g36 h31) ?_
   refine m_' (i_ (gt a i0)) (aLoad Try.prog 3 (elp hd_a 1 i0.toNat 0) H) (h_a.ld g36 h31 (by kernel_rfl)) ?_
   refine e_' (hd_b) (e_' (i_ i0) ?_)
   obtain ⟨g38, r39⟩ := G_some r37
   refine m_' (elp hd_b 1 i0.toNat 0) (aIndexAddr Try.prog 22 hd_b (i_ i0)) (h_b.idxb (by kernel_rfl) g36 g38) ?_
   refine m_' (i_ (gt b i0)) (aLoad Try.prog 3 (elp hd_b 1 i0.toNat 0) H) (h_b.ld g36 g38 (by kernel_rfl)) ?_
   refine e_' (.bool (!decide ((gt a i0) = (gt b i0)))) ?_
   refine d_nil ?_
   refine k35 _ _ ?_
   refine w_condn ((gt a i0) = (gt b i0)) (by kernel_rfl) rfl (fun h40 => ?_) (fun h40 => ?_)
   ·have r41 := ite_f h40 r39
    refine w_seqk fun _ k42 => g_' (q_ (.bool false) (s_nil (k42 _ _ ?_)))
    refine w_ret (bl_ret (th_ret (th_ret (bl_ret (th_ret (th_ret ?_))))))
    obtain ⟨v43, hv44, hz45⟩ := map_some r41
    subst hz45
    obtain rfl := it_inr hn27
    have hq46 := elim_inl r12
    rw [hq46] at hv44
    refine b_ret (fn := Try.f45) (vs := [.bool false]) (aRes_tmp (by kernel_rfl) (rfl)) ?_
    obtain rfl := Option.some.inj hv44
    exact ⟨rfl, rfl⟩
   have r47 := ite_t h40 r39
   refine w_skip (k33 _ _ (g_' ?_))
   obtain ⟨g48, r49⟩ := G_some r47
   refine w_' (i0 + 1) (wrap64 (by have := g48; omega)) ?_
   refine q_ (i_ (i0 + 1)) (s_nil ?_)
   obtain rfl := Option.some.inj r49
   exact k28 n24 _ _ (Nat.lt_succ_self _) ⟨(i0 + 1), hn27, ha_, rfl⟩
  have r50 := ite_f h31 hz26
  refine w_exit (th_exit (th_exit (bl_eq ?_)))
  obtain rfl := Option.some.inj r50
  obtain rfl := it_inr hn27
  exact k16 _ _ ⟨_, rfl, trivial, rfl⟩
 obtain ⟨o10, rfl, hh17, rfl⟩ := hM
 have r51 := elim_inr r12
 obtain ⟨β, rfl⟩ := has_ex hh17
 clear hh17
 refine k8 _ _ (w_seqk fun _ k52 => g_' (q_ (.bool true) (s_nil (k52 _ _ ?_))))
 refine w_ret ?_
 refine b_ret (fn := Try.f45) (vs := [.bool true]) (aRes_tmp (by kernel_rfl) (rfl)) ?_
 obtain rfl := Option.some.inj r51
 exact ⟨rfl, rfl⟩
theorem c_viaductref05_Same {H : AH} {hd_First : Value} {fp_First : Fp} {hd_To : Value} {fp_To : Fp} {hd_Weight : Value} {fp_Weight : Fp} {hd_First_ : Value} {fp_First_ : Fp} {hd_To_ : Value} {fp_To_ : Fp} {hd_Weight_ : Value} {fp_Weight_ : Fp} {First : List (Int)} {To : List (Int)} {Weight : List (Int)} {First_ : List (Int)} {To_ : List (Int)} {Weight_ : List (Int)} {r : Bool}
    (wf : WF H) (h_First : Sq (encI .i64) 1 H hd_First First fp_First) (h_To : Sq (encI .i64) 1 H hd_To To fp_To) (h_Weight : Sq (encI .i64) 1 H hd_Weight Weight fp_Weight) (h_First_ : Sq (encI .i64) 1 H hd_First_ First_ fp_First_) (h_To_ : Sq (encI .i64) 1 H hd_To_ To_ fp_To_) (h_Weight_ : Sq (encI .i64) 1 H hd_Weight_ Weight_ fp_Weight_) (hr : z_viaductref05_Same First To Weight First_ To_ Weight_ = some r) :
    ACalls Try.prog 14 #[.agg #[hd_First, hd_To, hd_Weight], .agg #[hd_First_, hd_To_, hd_Weight_]] H fun v H' => v = .bool r ∧ FrS [] H H' := by
 refine acalls_of_body mixed Try.func14 rfl (Nat.le_of_ble_eq_true rfl) ?_
 unfold z_viaductref05_Same at hr
 refine w_seqk fun _ k1 => g_' ?_
 refine s_rwl wf [hd_First, hd_To, hd_Weight] (one_cons (h_First.one1) (one_cons (h_To.one1) (one_cons (h_Weight.one1) (one_nil)))) (by kernel_rfl) fun b2 H3 e4 hb5 r6 => ?_
 have u13 := (h_Weight_.ext e4)
 have u14 := (h_To_.ext e4)
 have u15 := (h_First_.ext e4)
 refine s_rwl e4.wf [hd_First_, hd_To_, hd_Weight_] (one_cons (u15.one1) (one_cons (u14.one1) (one_cons (u13.one1) (one_nil)))) (by kernel_rfl) fun b8 H9 e10 hb11 r12 => ?_
 refine q_ (.bool false) (s_nil (k1 _ _ (w_seqk fun _ k17 => g_' (q_ (pt_ b2 0) ?_))))
 have u18 := (r6.ext e10)
 refine l_' (hd_First) (aLoad Try.prog 22 (pt_ b2 0) H9) (u18.ld (by kernel_rfl)) ?_
 refine q_ (pt_ b8 0) ?_
 refine l_' (hd_First_) (aLoad Try.prog 22 (pt_ b8 0) H9) (r12.ld (by kernel_rfl)) ?_
 have u19 := ((h_First.ext e4).ext e10)
 have u20 := (u15.ext e10)
 obtain ⟨y21, hy22, r23⟩ := bind_some hr
 refine s_ck 45 #[hd_First, hd_First_] (by kernel_rfl) (c_viaductref02_SameInts e10.wf u19 u20 hy22) ?_
 rintro _ _ ⟨rfl, rfl⟩
 by_cases h26 : y21 = true
 ·have r27 := ite_t h26 r23
  rw [h26]
  refine q_ (.bool true) (q_ (pt_ b2 1) ?_)
  refine l_' (hd_To) (aLoad Try.prog 22 (pt_ b2 1) H9) (u18.ld (by kernel_rfl)) ?_
  refine q_ (pt_ b8 1) ?_
  refine l_' (hd_To_) (aLoad Try.prog 22 (pt_ b8 1) H9) (r12.ld (by kernel_rfl)) ?_
  have u29 := ((h_To.ext e4).ext e10)
  have u30 := (u14.ext e10)
  obtain ⟨y31, hy32, r33⟩ := bind_some r27
  refine s_ck 45 #[hd_To, hd_To_] (by kernel_rfl) (c_viaductref02_SameInts e10.wf u29 u30 hy32) ?_
  rintro _ _ ⟨rfl, rfl⟩
  by_cases h36 : y31 = true
  ·have r37 := ite_t h36 r33
   rw [h36]
   refine q_ (.bool true) (q_ (.bool true) (q_ (pt_ b2 2) ?_))
   refine l_' (hd_Weight) (aLoad Try.prog 22 (pt_ b2 2) H9) (u18.ld (by kernel_rfl)) ?_
   refine q_ (pt_ b8 2) ?_
   refine l_' (hd_Weight_) (aLoad Try.prog 22 (pt_ b8 2) H9) (r12.ld (by kernel_rfl)) ?_
   have u39 := ((h_Weight.ext e4).ext e10)
   have u40 := (u13.ext e10)
   obtain ⟨y41, hy42, r43⟩ := bind_some r37
   refine s_ck 45 #[hd_Weight, hd_Weight_] (by kernel_rfl) (c_viaductref02_SameInts e10.wf u39 u40 hy42) ?_
   rintro _ _ ⟨rfl, rfl⟩
   refine q_ (.bool y41) (q_ (.bool y41) (s_nil (k17 _ _ ?_)))
   refine w_ret ?_
   refine b_ret (fn := Try.f14) (vs := [.bool y41]) (aRes_tmp (by kernel_rfl) (rfl)) ?_
   obtain rfl := Option.some.inj r43
   exact ⟨rfl, (((FrS.refl (W := []) wf).extR e4).extR e10)⟩
  have r46 := ite_f h36 r33
  rw [nb h36]
  refine q_ (.bool false) (q_ (.bool false) (n_' (n_' (n_' (n_' (n_' (q_ (.bool false) (q_ (.bool false) (s_nil (k17 _ _ ?_))))))))))
  refine w_ret ?_
  refine b_ret (fn := Try.f14) (vs := [.bool false]) (aRes_tmp (by kernel_rfl) (rfl)) ?_
  obtain rfl := Option.some.inj r46
  exact ⟨rfl, (((FrS.refl (W := []) wf).extR e4).extR e10)⟩
 have r48 := ite_f h26 r23
 rw [nb h26]
 refine q_ (.bool false) (n_' (n_' (n_' (n_' (n_' (q_ (.bool false) (q_ (.bool false) (n_' (n_' (n_' (n_' (n_' (q_ (.bool false) (q_ (.bool false) (s_nil (k17 _ _ ?_))))))))))))))))
 refine w_ret ?_
 refine b_ret (fn := Try.f14) (vs := [.bool false]) (aRes_tmp (by kernel_rfl) (rfl)) ?_
 obtain rfl := Option.some.inj r48
 exact ⟨rfl, (((FrS.refl (W := []) wf).extR e4).extR e10)⟩
theorem c_viaductref05_Node {H : AH} {hd_First : Value} {fp_First : Fp} {hd_To : Value} {fp_To : Fp} {hd_Weight : Value} {fp_Weight : Fp} {First : List (Int)} {To : List (Int)} {Weight : List (Int)} {v_ : Int} {r : Bool}
    (wf : WF H) (h_First : Sq (encI .i64) 1 H hd_First First fp_First) (h_To : Sq (encI .i64) 1 H hd_To To fp_To) (h_Weight : Sq (encI .i64) 1 H hd_Weight Weight fp_Weight) (hr : z_viaductref05_Node First To Weight v_ = some r) :
    ACalls Try.prog 71 #[.agg #[hd_First, hd_To, hd_Weight], i_ v_] H fun v H' => v = .bool r ∧ FrS [] H H' := by
 refine acalls_of_body mixed Try.func71 rfl (Nat.le_of_ble_eq_true rfl) ?_
 unfold z_viaductref05_Node at hr
 refine w_seqk fun _ k1 => g_' ?_
 refine s_rwl wf [hd_First, hd_To, hd_Weight] (one_cons (h_First.one1) (one_cons (h_To.one1) (one_cons (h_Weight.one1) (one_nil)))) (by kernel_rfl) fun b2 H3 e4 hb5 r6 => ?_
 refine q_ (.bool false) (s_nil (k1 _ _ (w_seqk fun _ k8 => g_' (q_ (i_ v_) ?_))))
 refine s_b (v_ ≥ 0) (by kernel_rfl) (fun h9 => ?_) (fun h9 => ?_)
 ·have r10 := ite_t h9 hr
  refine q_ (.bool true) (q_ (i_ v_) (q_ (pt_ b2 0) ?_))
  refine l_' (hd_First) (aLoad Try.prog 22 (pt_ b2 0) H3) (r6.ld (by kernel_rfl)) ?_
  have u11 := (h_First.ext e4)
  refine l_' (i_ (First.length : Int)) (aLen Try.prog 22 hd_First H3) (u11.lenb (by kernel_rfl)) ?_
  obtain ⟨g12, r13⟩ := G_some r10
  refine w_' ((First.length : Int) - 1) (wrap64 g12) ?_
  refine q_ (.bool (decide (v_ < ((First.length : Int) - 1)))) (q_ (.bool (decide (v_ < ((First.length : Int) - 1)))) (q_ (.bool (decide (v_ < ((First.length : Int) - 1)))) (s_nil (k8 _ _ ?_))))
  refine w_ret ?_
  refine b_ret (fn := Try.f71) (vs := [.bool (decide (v_ < ((First.length : Int) - 1)))]) (aRes_tmp (by kernel_rfl) (rfl)) ?_
  obtain rfl := Option.some.inj r13
  exact ⟨rfl, ((FrS.refl (W := []) wf).extR e4)⟩
 have r14 := ite_f h9 hr
 refine q_ (.bool false) (n_' (n_' (n_' (n_' (n_' (n_' (q_ (.bool false) (q_ (.bool false) (s_nil (k8 _ _ ?_))))))))))
 refine w_ret ?_
 refine b_ret (fn := Try.f71) (vs := [.bool false]) (aRes_tmp (by kernel_rfl) (rfl)) ?_
 obtain rfl := Option.some.inj r14
 exact ⟨rfl, ((FrS.refl (W := []) wf).extR e4)⟩
theorem c_viaductref08_node {H : AH} {hd_First : Value} {fp_First : Fp} {hd_To : Value} {fp_To : Fp} {hd_Weight : Value} {fp_Weight : Fp} {First : List (Int)} {To : List (Int)} {Weight : List (Int)} {s : Int} {r : Int × List (Int × Int)}
    (wf : WF H) (h_First : Sq (encI .i64) 1 H hd_First First fp_First) (h_To : Sq (encI .i64) 1 H hd_To To fp_To) (h_Weight : Sq (encI .i64) 1 H hd_Weight Weight fp_Weight) (hr : z_viaductref08_node First To Weight s = some r) :
    ACalls Try.prog 68 #[.agg #[hd_First, hd_To, hd_Weight], i_ s] H fun v H' => ∃ (s3 : Value) (f4 : Fp), v = .agg #[i_ r.1, s3] ∧ FrS [] H H' ∧ Ow enc_i64_i64 2 H' s3 r.2 f4 ∧ Inn [] H f4 := by
 refine acalls_of_body mixed Try.func68 rfl (Nat.le_of_ble_eq_true rfl) ?_
 unfold z_viaductref08_node at hr
 refine w_seqk fun _ k6 => g_' ?_
 refine s_rwl wf [hd_First, hd_To, hd_Weight] (one_cons (h_First.one1) (one_cons (h_To.one1) (one_cons (h_Weight.one1) (one_nil)))) (by kernel_rfl) fun b7 H8 e9 hb10 r11 => ?_
 refine s_rwk e9.wf [i_ 0, .slice none 0 0] (by kernel_rfl) fun b13 H14 e15 hb16 r17 => ?_
 refine s_nil (k6 _ _ (w_seqk fun _ k19 => g_' ?_))
 have u20 := (r11.ext e15)
 refine l_' (.agg #[hd_First, hd_To, hd_Weight]) (aLoad Try.prog 24 (pt_ b7 0) H14) (u20.ld (by kernel_rfl)) ?_
 have u21 := ((h_First.ext e9).ext e15)
 have u22 := ((h_To.ext e9).ext e15)
 have u23 := ((h_Weight.ext e9).ext e15)
 obtain ⟨y24, hy25, r26⟩ := bind_some hr
 refine s_ck 55 #[.agg #[hd_First, hd_To, hd_Weight]] (by kernel_rfl) (c_viaductref05_DocCheck e15.wf u21 u22 u23 hy25) ?_
 rintro _ H29 ⟨s27, f28, rfl, e30, m31, i32⟩
 obtain ⟨a34, n35, c36, rfl⟩ := m31.form
 refine s_rwk e30.wf [i_ 0, .slice none 0 0] (by kernel_rfl) fun b37 H38 e39 hb40 r41 => ?_
 have u47 := (m31.ext e39)
 obtain ⟨H43, q44, e45, r46⟩ := Row.store (P := Try.prog) (t := 46) (p := 0) e39.wf r41 (.agg #[i_ y24.1, .slice a34 n35 c36]) [i_ y24.1, .slice a34 n35 c36] (by kernel_rfl) (by kernel_rfl) (one_cons (rfl) (one_cons (u47.one1) (one_nil))) (Nat.le_of_ble_eq_true (by kernel_rfl)) [i_ y24.1, .slice a34 n35 c36] (by kernel_rfl)
 refine s_ek (undef) (by kernel_rfl) (map_ok q44) ?_
 refine s_nil (k19 _ _ (w_seqk fun _ k48 => w_seqk fun _ k49 => ?_))
 obtain ⟨o50, hx51, r52⟩ := bind_some r26
 refine w_mid (fun α H53 => Has α [(4, pt_ b13 0), (5, pt_ b37 0), (16, .bool o50)] ∧ FrS [] H43 H53) (fun _ k55 => ?_) (fun α H53 hM => ?_)
 ·refine g_' ?_
  refine l_' (.agg #[i_ y24.1, .slice a34 n35 c36]) (aLoad Try.prog 46 (pt_ b37 0) H43) (r46.ld (by kernel_rfl)) ?_
  have u57 := (u47.fr e45 (hb40.djn m31.lt))
  obtain ⟨y58, hy59, r60⟩ := bind_some hx51
  refine s_ck 56 #[.agg #[i_ y24.1, .slice a34 n35 c36]] (by kernel_rfl) (c_viaductref01_Err_Bad e45.wf u57.sq hy59) ?_
  rintro _ H61 ⟨rfl, e62⟩
  by_cases h63 : y58 = true
  ·have r64 := ite_t h63 r60
   rw [h63]
   refine q_ (.bool false) (q_ (.bool false) (n_' (n_' (n_' (n_' (q_ (.bool false) (s_nil ?_)))))))
   obtain rfl := Option.some.inj r64
   exact k55 _ _ ⟨ha_, (FrS.step e45.wf (FrS.refl (W := []) e45.wf) e62 Inn.nil)⟩
  have r66 := ite_f h63 r60
  rw [nb h63]
  refine q_ (.bool true) (q_ (.bool true) ?_)
  have u68 := ((((u20.frS e30 Dj.nil_l).ext e39).frS e45 (hb40.djn (r11.ltF.le (ntr e15.next e30.next)))).frS e62 Dj.nil_l)
  refine l_' (.agg #[hd_First, hd_To, hd_Weight]) (aLoad Try.prog 24 (pt_ b7 0) H61) (u68.ld (by kernel_rfl)) ?_
  refine q_ (i_ s) ?_
  have u69 := ((((u21.fr e30 Dj.nil_l).ext e39).fr e45 (hb40.djn (h_First.lt.le (ntr (ntr e9.next e15.next) e30.next)))).fr e62 Dj.nil_l)
  have u70 := ((((u22.fr e30 Dj.nil_l).ext e39).fr e45 (hb40.djn (h_To.lt.le (ntr (ntr e9.next e15.next) e30.next)))).fr e62 Dj.nil_l)
  have u71 := ((((u23.fr e30 Dj.nil_l).ext e39).fr e45 (hb40.djn (h_Weight.lt.le (ntr (ntr e9.next e15.next) e30.next)))).fr e62 Dj.nil_l)
  obtain ⟨y72, hy73, r74⟩ := bind_some r66
  refine s_ck 71 #[.agg #[hd_First, hd_To, hd_Weight], i_ s] (by kernel_rfl) (c_viaductref05_Node e62.wf u69 u70 u71 hy73) ?_
  rintro _ H75 ⟨rfl, e76⟩
  refine q_ (.bool (!y72)) (q_ (.bool (!y72)) (s_nil ?_))
  obtain rfl := Option.some.inj r74
  exact k55 _ _ ⟨ha_, (FrS.step e45.wf (FrS.step e45.wf (FrS.refl (W := []) e45.wf) e62 Inn.nil) e76 Inn.nil)⟩
 obtain ⟨hh56, e54⟩ := hM
 obtain ⟨β, rfl⟩ := has_ex hh56
 clear hh56
 refine k49 _ _ ?_
 refine w_cond (o50) (by kernel_rfl) rfl (fun h77 => ?_) (fun h77 => ?_)
 ·have r78 := ite_t h77 r52
  refine g_' ?_
  obtain ⟨y79, hy80, r81⟩ := bind_some r78
  refine s_ck 70 #[i_ 7] (by kernel_rfl) (c_viaductref01_E e54.wf hy80) ?_
  rintro _ H82 ⟨rfl, e83⟩
  have u88 := ((r46.frS e54 Dj.nil_l).frS e83 Dj.nil_l)
  obtain ⟨H84, q85, e86, r87⟩ := Row.store (P := Try.prog) (t := 46) (p := 0) e83.wf u88 (.agg #[i_ y79, .slice none 0 0]) [i_ y79, .slice none 0 0] (by kernel_rfl) (by kernel_rfl) (one_cons (rfl) (one_cons (rfl) (one_nil))) (Nat.le_of_ble_eq_true (by kernel_rfl)) [i_ y79, .slice none 0 0] (by kernel_rfl)
  refine s_ek (undef) (by kernel_rfl) (map_ok q85) ?_
  refine s_nil (k48 _ _ (w_seqk fun _ k89 => g_' ?_))
  refine l_' (.agg #[i_ y79, .slice none 0 0]) (aLoad Try.prog 46 (pt_ b37 0) H84) (r87.ld (by kernel_rfl)) ?_
  have u94 := ((((((r17.frS e30 Dj.nil_l).ext e39).frS e45 (hb40.djn (r17.ltF.le e30.next))).frS e54 Dj.nil_l).frS e83 Dj.nil_l).frS e86 (hb40.djn (r17.ltF.le e30.next)))
  obtain ⟨H90, q91, e92, r93⟩ := Row.store (P := Try.prog) (t := 46) (p := 0) e86.wf u94 (.agg #[i_ y79, .slice none 0 0]) [i_ y79, .slice none 0 0] (by kernel_rfl) (by kernel_rfl) (one_cons (rfl) (one_cons (rfl) (one_nil))) (Nat.le_of_ble_eq_true (by kernel_rfl)) [i_ y79, .slice none 0 0] (by kernel_rfl)
  refine s_ek (undef) (by kernel_rfl) (map_ok q91) ?_
  refine s_nil (k89 _ _ ?_)
  refine w_ret ?_
  refine b_ret (fn := Try.f68) (vs := [.agg #[i_ y79, .slice none 0 0]]) (aRes_cell (Eq.trans (b := aLoad Try.prog 46 (pt_ b13 0) H90) (by kernel_rfl) (r93.ld (by kernel_rfl))) (rfl)) ?_
  obtain rfl := Option.some.inj r81
  exact ⟨(.slice none 0 0), [], rfl, (FrS.step wf (FrS.step wf (FrS.step wf (FrS.step wf (FrS.step wf ((FrS.step wf (((FrS.refl (W := []) wf).extR e9).extR e15) e30 Inn.nil).extR e39) e45 (hb40.fresh (ntr (ntr e9.next e15.next) e30.next))) e54 Inn.nil) e83 Inn.nil) e86 (hb40.fresh (ntr (ntr e9.next e15.next) e30.next))) e92 (hb16.fresh e9.next)), (Ow.nil (by decide)), Inn.nil⟩
 have r95 := ite_bf h77 r52
 refine w_skip (k48 _ _ (w_seqk fun _ k96 => g_' ?_))
 have u97 := (r46.frS e54 Dj.nil_l)
 refine l_' (.agg #[i_ y24.1, .slice a34 n35 c36]) (aLoad Try.prog 46 (pt_ b37 0) H53) (u97.ld (by kernel_rfl)) ?_
 have u102 := ((((r17.frS e30 Dj.nil_l).ext e39).frS e45 (hb40.djn (r17.ltF.le e30.next))).frS e54 Dj.nil_l)
 have u103 := ((u47.fr e45 (hb40.djn m31.lt)).fr e54 Dj.nil_l)
 obtain ⟨H98, q99, e100, r101⟩ := Row.store (P := Try.prog) (t := 46) (p := 0) e54.wf u102 (.agg #[i_ y24.1, .slice a34 n35 c36]) [i_ y24.1, .slice a34 n35 c36] (by kernel_rfl) (by kernel_rfl) (one_cons (rfl) (one_cons (u103.one1) (one_nil))) (Nat.le_of_ble_eq_true (by kernel_rfl)) [i_ y24.1, .slice a34 n35 c36] (by kernel_rfl)
 refine s_ek (undef) (by kernel_rfl) (map_ok q99) ?_
 refine s_nil (k96 _ _ ?_)
 refine w_ret ?_
 refine b_ret (fn := Try.f68) (vs := [.agg #[i_ y24.1, .slice a34 n35 c36]]) (aRes_cell (Eq.trans (b := aLoad Try.prog 46 (pt_ b13 0) H98) (by kernel_rfl) (r101.ld (by kernel_rfl))) (rfl)) ?_
 have u104 := (u103.fr e100 (Dj.symm (i32.djn r17.ltF)))
 obtain rfl := Option.some.inj r95
 exact ⟨(.slice a34 n35 c36), f28, rfl, (FrS.step wf (FrS.step wf (FrS.step wf ((FrS.step wf (((FrS.refl (W := []) wf).extR e9).extR e15) e30 Inn.nil).extR e39) e45 (hb40.fresh (ntr (ntr e9.next e15.next) e30.next))) e54 Inn.nil) e100 (hb16.fresh e9.next)), u104, (i32.fresh (ntr e9.next e15.next))⟩
theorem c_viaductref05_Row {H : AH} {hd_First : Value} {fp_First : Fp} {hd_To : Value} {fp_To : Fp} {hd_Weight : Value} {fp_Weight : Fp} {First : List (Int)} {To : List (Int)} {Weight : List (Int)} {v_ : Int} {r : List (Int × Int × Int)}
    (wf : WF H) (h_First : Sq (encI .i64) 1 H hd_First First fp_First) (h_To : Sq (encI .i64) 1 H hd_To To fp_To) (h_Weight : Sq (encI .i64) 1 H hd_Weight Weight fp_Weight) (hr : z_viaductref05_Row First To Weight v_ = some r) :
    ACalls Try.prog 143 #[.agg #[hd_First, hd_To, hd_Weight], i_ v_] H fun v H' => ∃ (s3 : Value) (f4 : Fp), v = s3 ∧ FrS [] H H' ∧ Ow enc_i64_i64_i64 3 H' s3 r f4 ∧ Inn [] H f4 := by
 refine acalls_of_body mixed Try.func143 rfl (Nat.le_of_ble_eq_true rfl) ?_
 unfold z_viaductref05_Row at hr
 refine w_seqk fun _ k6 => g_' ?_
 refine s_rwl wf [hd_First, hd_To, hd_Weight] (one_cons (h_First.one1) (one_cons (h_To.one1) (one_cons (h_Weight.one1) (one_nil)))) (by kernel_rfl) fun b7 H8 e9 hb10 r11 => ?_
 refine q_ (.slice none 0 0) (s_nil (k6 _ _ (w_seqk fun _ k13 => g_' (q_ (.slice none 0 0) (s_nil (k13 _ _ (w_seqk fun _ k14 => w_seqk fun _ k15 => g_' (q_ (pt_ b7 0) ?_))))))))
 refine l_' (hd_First) (aLoad Try.prog 22 (pt_ b7 0) H8) (r11.ld (by kernel_rfl)) ?_
 refine q_ (i_ v_) ?_
 obtain ⟨g16, r17⟩ := G_some hr
 have u18 := (h_First.ext e9)
 refine l_' (elp hd_First 1 v_.toNat 0) (aIndexAddr Try.prog 22 hd_First (i_ v_)) (u18.idxb (by kernel_rfl) g16.1 g16.2) ?_
 refine l_' (i_ (gt First v_)) (aLoad Try.prog 3 (elp hd_First 1 v_.toNat 0) H8) (u18.ld g16.1 g16.2 (by kernel_rfl)) ?_
 refine q_ (i_ (gt First v_)) (s_nil (k15 _ _ ?_))
 obtain ⟨o19, hx20, r21⟩ := bind_some r17
 refine w_mid (fun α H22 => ∃ (s26 : Value) (f27 : Fp), Has α [(5, s26)] ∧ FrS [] H8 H22 ∧ Ow enc_i64_i64_i64 3 H22 s26 o19 f27 ∧ Inn [] H8 f27) (fun _ k29 => ?_) (fun α H22 hM => ?_)
 ·refine w_block ?_
  obtain ⟨n31, hn32⟩ := loopO_iff.1 hx20
  refine w_loopn (fun n α H33 => ∃ (l0 : List (Int × Int × Int)), ∃ (i1 : Int), ∃ (s37 : Value), ∃ (f38 : Fp), iterO (fun zz_ => z_viaductref05_Row_l0 First To Weight v_ zz_.1 zz_.2) n (l0, i1) = some o19 ∧ Has α [(1, i_ v_), (2, pt_ b7 0), (5, s37), (6, i_ i1)] ∧ FrS [] H8 H33 ∧ Ow enc_i64_i64_i64 3 H33 s37 l0 f38 ∧ Inn [] H8 f38) n31 ⟨[], (gt First v_), (.slice none 0 0), [], hn32, ha_, (FrS.refl (W := []) e9.wf), (Ow.nil (by decide)), Inn.nil⟩ ?_
  rintro n31 α H33 ⟨l0, i1, s37, f38, hi41, hh40, e34, m36, i39⟩ K46 k46
  obtain ⟨n42, z43, rfl, hz44, hn45⟩ := iter_succ hi41
  obtain ⟨β, rfl⟩ := has_ex hh40
  clear hh40
  replace hz44 : z_viaductref05_Row_l0 First To Weight v_ l0 i1 = some z43 := hz44
  unfold z_viaductref05_Row_l0 at hz44
  obtain ⟨a47, n48, c49, rfl⟩ := m36.form
  refine w_seqk fun _ k50 => w_seqk fun _ k51 => g_' (q_ (i_ i1) (q_ (pt_ b7 0) ?_))
  have u52 := (r11.frS e34 Dj.nil_l)
  refine l_' (hd_First) (aLoad Try.prog 22 (pt_ b7 0) H33) (u52.ld (by kernel_rfl)) ?_
  refine q_ (i_ v_) ?_
  obtain ⟨g53, r54⟩ := G_some hz44
  refine w_' (v_ + 1) (wrap64 (by have := g53; omega)) ?_
  obtain ⟨g55, r56⟩ := G_some r54
  have u57 := (u18.fr e34 Dj.nil_l)
  refine l_' (elp hd_First 1 (v_ + 1).toNat 0) (aIndexAddr Try.prog 22 hd_First (i_ (v_ + 1))) (u57.idxb (by kernel_rfl) g55.1 g55.2) ?_
  refine l_' (i_ (gt First (v_ + 1))) (aLoad Try.prog 3 (elp hd_First 1 (v_ + 1).toNat 0) H33) (u57.ld g55.1 g55.2 (by kernel_rfl)) ?_
  refine q_ (.bool (decide (i1 < (gt First (v_ + 1))))) (s_nil (k51 _ _ ?_))
  refine w_condp (i1 < (gt First (v_ + 1))) (by kernel_rfl) rfl (fun h58 => ?_) (fun h58 => ?_)
  ·have r59 := ite_t h58 r56
   refine w_skip (k50 _ _ (w_seqk fun _ k60 => w_block ?_))
   refine w_draw [0, 1, 2, 3, 4, 5, 6, 7, 8, 9, 10, 11, 12, 13, 14, 15] (by kernel_rfl) ?_
   refine e_' (.slice a47 n48 c49) (e_' (i_ v_) (e_' (pt_ b7 1) ?_))
   refine m_' (hd_To) (aLoad Try.prog 22 (pt_ b7 1) H33) (u52.ld (by kernel_rfl)) ?_
   refine e_' (i_ i1) ?_
   obtain ⟨g61, r62⟩ := G_some r59
   have u63 := ((h_To.ext e9).fr e34 Dj.nil_l)
   refine m_' (elp hd_To 1 i1.toNat 0) (aIndexAddr Try.prog 22 hd_To (i_ i1)) (u63.idxb (by kernel_rfl) g61.1 g61.2) ?_
   refine m_' (i_ (gt To i1)) (aLoad Try.prog 3 (elp hd_To 1 i1.toNat 0) H33) (u63.ld g61.1 g61.2 (by kernel_rfl)) ?_
   refine e_' (pt_ b7 2) ?_
   refine m_' (hd_Weight) (aLoad Try.prog 22 (pt_ b7 2) H33) (u52.ld (by kernel_rfl)) ?_
   refine e_' (i_ i1) ?_
   obtain ⟨g64, r65⟩ := G_some r62
   have u66 := ((h_Weight.ext e9).fr e34 Dj.nil_l)
   refine m_' (elp hd_Weight 1 i1.toNat 0) (aIndexAddr Try.prog 22 hd_Weight (i_ i1)) (u66.idxb (by kernel_rfl) g61.1 g64) ?_
   refine m_' (i_ (gt Weight i1)) (aLoad Try.prog 3 (elp hd_Weight 1 i1.toNat 0) H33) (u66.ld g61.1 g64 (by kernel_rfl)) ?_
   refine e_' (.agg #[i_ v_, i_ (gt To i1), i_ (gt Weight i1)]) ?_
   refine d_owk (enc := enc_i64_i64_i64) (sz := 3) e34.wf [(v_, (gt To i1), (gt Weight i1))] 1 (by decide) (fun _ _ => rfl) (fun _ _ => rfl) rfl (by kernel_rfl) fun s67 f68 H69 e70 hf71 hm72 => ?_
   obtain ⟨a73, n74, c75, rfl⟩ := hm72.form
   have u77 := (m36.ext e70)
   obtain ⟨g78, r79⟩ := G_some r65
   obtain ⟨s80, H81, f82, q86, e83, hm84, hf85⟩ := Ow.append (P := Try.prog) 24 e70.wf u77 hm72.sq (fun _ _ => rfl) (at_ := #[57, 57]) rfl rfl (by kernel_rfl) (by kernel_rfl) (by decide) (by have := g78; first | omega | (simp only [List.length_cons, List.length_nil] at this ⊢; omega) | (simp at this ⊢; omega))
   obtain ⟨a87, n88, c89, rfl⟩ := hm84.form
   refine d_ek (.slice a87 n88 c89) (by kernel_rfl) (q86) (st_nil) ?_
   refine e_' (.slice a87 n88 c89) ?_
   refine d_nil ?_
   refine k60 _ _ (g_' (q_ (i_ i1) ?_))
   obtain ⟨g91, r92⟩ := G_some r79
   refine w_' (i1 + 1) (wrap64 (by have := g91; omega)) ?_
   refine q_ (i_ (i1 + 1)) (s_nil ?_)
   obtain rfl := Option.some.inj r92
   exact k46 n42 _ _ (Nat.lt_succ_self _) ⟨(l0 ++ [(v_, (gt To i1), (gt Weight i1))]), (i1 + 1), (.slice a87 n88 c89), f82, hn45, ha_, (FrS.step e9.wf ((FrS.step e9.wf (FrS.refl (W := []) e9.wf) e34 Inn.nil).extR e70) e83 (i39.fresh (Nat.le_refl _))), hm84, (Inn.trans (i39.fresh (Nat.le_refl _)) (ntr e34.next e70.next) hf85)⟩
  have r93 := ite_f h58 r56
  refine w_exit (th_exit (th_exit (bl_eq ?_)))
  obtain rfl := Option.some.inj r93
  obtain rfl := it_inr hn45
  exact k29 _ _ ⟨(.slice a47 n48 c49), f38, ha_, (FrS.step e9.wf (FrS.refl (W := []) e9.wf) e34 Inn.nil), m36, (i39.fresh (Nat.le_refl _))⟩
 obtain ⟨s26, f27, hh30, e23, m25, i28⟩ := hM
 obtain ⟨β, rfl⟩ := has_ex hh30
 clear hh30
 obtain ⟨a94, n95, c96, rfl⟩ := m25.form
 refine k14 _ _ (w_seqk fun _ k97 => g_' (q_ (.slice a94 n95 c96) (q_ (.slice a94 n95 c96) (s_nil (k97 _ _ ?_)))))
 refine w_ret ?_
 refine b_ret (fn := Try.f143) (vs := [.slice a94 n95 c96]) (aRes_tmp (by kernel_rfl) (rfl)) ?_
 obtain rfl := Option.some.inj r21
 exact ⟨(.slice a94 n95 c96), f27, rfl, (FrS.step wf ((FrS.refl (W := []) wf).extR e9) e23 Inn.nil), m25, (i28.fresh e9.next)⟩
theorem c_viaductref05_Graph {H : AH} {hd_First : Value} {fp_First : Fp} {hd_To : Value} {fp_To : Fp} {hd_Weight : Value} {fp_Weight : Fp} {First : List (Int)} {To : List (Int)} {Weight : List (Int)} {r : Int × List (Int × Int × Int)}
    (wf : WF H) (h_First : Sq (encI .i64) 1 H hd_First First fp_First) (h_To : Sq (encI .i64) 1 H hd_To To fp_To) (h_Weight : Sq (encI .i64) 1 H hd_Weight Weight fp_Weight) (hr : z_viaductref05_Graph First To Weight = some r) :
    ACalls Try.prog 110 #[.agg #[hd_First, hd_To, hd_Weight]] H fun v H' => ∃ (s3 : Value) (f4 : Fp), v = .agg #[i_ r.1, s3] ∧ FrS [] H H' ∧ Ow enc_i64_i64_i64 3 H' s3 r.2 f4 ∧ Inn [] H f4 := by
 refine acalls_of_body mixed Try.func110 rfl (Nat.le_of_ble_eq_true rfl) ?_
 unfold z_viaductref05_Graph at hr
 refine w_seqk fun _ k6 => g_' ?_
 refine s_rwl wf [hd_First, hd_To, hd_Weight] (one_cons (h_First.one1) (one_cons (h_To.one1) (one_cons (h_Weight.one1) (one_nil)))) (by kernel_rfl) fun b7 H8 e9 hb10 r11 => ?_
 refine s_rwk e9.wf [i_ 0, .slice none 0 0] (by kernel_rfl) fun b13 H14 e15 hb16 r17 => ?_
 refine s_nil (k6 _ _ (w_seqk fun _ k19 => g_' (q_ (pt_ b7 0) ?_)))
 have u20 := (r11.ext e15)
 refine l_' (hd_First) (aLoad Try.prog 22 (pt_ b7 0) H14) (u20.ld (by kernel_rfl)) ?_
 have u21 := ((h_First.ext e9).ext e15)
 refine l_' (i_ (First.length : Int)) (aLen Try.prog 22 hd_First H14) (u21.lenb (by kernel_rfl)) ?_
 obtain ⟨g22, r23⟩ := G_some hr
 refine w_' ((First.length : Int) - 1) (wrap64 g22) ?_
 refine q_ (.agg #[i_ ((First.length : Int) - 1), .slice none 0 0]) ?_
 refine s_rwk e15.wf [i_ 0, .slice none 0 0] (by kernel_rfl) fun b24 H25 e26 hb27 r28 => ?_
 obtain ⟨H30, q31, e32, r33⟩ := Row.store (P := Try.prog) (t := 59) (p := 0) e26.wf r28 (.agg #[i_ ((First.length : Int) - 1), .slice none 0 0]) [i_ ((First.length : Int) - 1), .slice none 0 0] (by kernel_rfl) (by kernel_rfl) (one_cons (rfl) (one_cons (rfl) (one_nil))) (Nat.le_of_ble_eq_true (by kernel_rfl)) [i_ ((First.length : Int) - 1), .slice none 0 0] (by kernel_rfl)
 refine s_ek (undef) (by kernel_rfl) (map_ok q31) ?_
 refine s_nil (k19 _ _ (w_seqk fun _ k34 => w_seqk fun _ k35 => g_' (q_ (i_ 0) (s_nil (k35 _ _ ?_)))))
 obtain ⟨o36, hx37, r38⟩ := bind_some r23
 refine w_mid (fun α H39 => ∃ (s43 : Value) (f44 : Fp), Has α [(2, pt_ b13 0), (3, pt_ b24 0)] ∧ FrS [b24] H30 H39 ∧ Ow enc_i64_i64_i64 3 H39 s43 o36 f44 ∧ Row H39 b24 [i_ ((First.length : Int) - 1), s43] ∧ Inn [] H30 f44) (fun _ k48 => ?_) (fun α H39 hM => ?_)
 ·refine w_block ?_
  obtain ⟨n50, hn51⟩ := loopO_iff.1 hx37
  refine w_loopn (fun n α H52 => ∃ (g0 : List (Int × Int × Int)), ∃ (v1 : Int), ∃ (s56 : Value), ∃ (f57 : Fp), iterO (fun zz_ => z_viaductref05_Graph_l0 First To Weight zz_.1 zz_.2) n (g0, v1) = some o36 ∧ Has α [(1, pt_ b7 0), (2, pt_ b13 0), (3, pt_ b24 0), (4, i_ v1)] ∧ FrS [b24] H30 H52 ∧ Ow enc_i64_i64_i64 3 H52 s56 g0 f57 ∧ Row H52 b24 [i_ ((First.length : Int) - 1), s56] ∧ Inn [] H30 f57) n50 ⟨[], 0, (.slice none 0 0), [], hn51, ha_, (FrS.refl (W := [b24]) e32.wf), (Ow.nil (by decide)), r33, Inn.nil⟩ ?_
  rintro n50 α H52 ⟨g0, v1, s56, f57, hi62, hh61, e53, m55, m59, i60⟩ K67 k67
  obtain ⟨n63, z64, rfl, hz65, hn66⟩ := iter_succ hi62
  obtain ⟨β, rfl⟩ := has_ex hh61
  clear hh61
  replace hz65 : z_viaductref05_Graph_l0 First To Weight g0 v1 = some z64 := hz65
  unfold z_viaductref05_Graph_l0 at hz65
  obtain ⟨a68, n69, c70, rfl⟩ := m55.form
  refine w_seqk fun _ k71 => w_seqk fun _ k72 => g_' (q_ (i_ v1) (q_ (pt_ b24 0) ?_))
  refine l_' (i_ ((First.length : Int) - 1)) (aLoad Try.prog 3 (pt_ b24 0) H52) (m59.ld (by kernel_rfl)) ?_
  refine q_ (.bool (decide (v1 < ((First.length : Int) - 1)))) (s_nil (k72 _ _ ?_))
  refine w_condp (v1 < ((First.length : Int) - 1)) (by kernel_rfl) rfl (fun h73 => ?_) (fun h73 => ?_)
  ·have r74 := ite_t h73 hz65
   refine w_skip (k71 _ _ (w_seqk fun _ k75 => w_block ?_))
   refine w_draw [0, 1, 2, 3, 4, 5, 6, 7] (by kernel_rfl) ?_
   refine e_' (pt_ b24 1) ?_
   refine d_fl (.slice a68 n69 c70) (x := aLoad Try.prog 57 (pt_ b24 1) H52) (by kernel_rfl) (m59.ld (by kernel_rfl)) ?_
   have u76 := (((u20.ext e26).frS e32 (hb27.djn (r11.ltF.le e15.next))).frS e53 (hb27.djn (r11.ltF.le e15.next)))
   refine m_' (.agg #[hd_First, hd_To, hd_Weight]) (aLoad Try.prog 24 (pt_ b7 0) H52) (u76.ld (by kernel_rfl)) ?_
   refine e_' (i_ v1) ?_
   have u77 := (((u21.ext e26).fr e32 (hb27.djn (h_First.lt.le (ntr e9.next e15.next)))).fr e53 (hb27.djn (h_First.lt.le (ntr e9.next e15.next))))
   have u78 := (((((h_To.ext e9).ext e15).ext e26).fr e32 (hb27.djn (h_To.lt.le (ntr e9.next e15.next)))).fr e53 (hb27.djn (h_To.lt.le (ntr e9.next e15.next))))
   have u79 := (((((h_Weight.ext e9).ext e15).ext e26).fr e32 (hb27.djn (h_Weight.lt.le (ntr e9.next e15.next)))).fr e53 (hb27.djn (h_Weight.lt.le (ntr e9.next e15.next))))
   obtain ⟨y80, hy81, r82⟩ := bind_some r74
   refine d_ck 143 #[.agg #[hd_First, hd_To, hd_Weight], i_ v1] (by kernel_rfl) (c_viaductref05_Row e53.wf u77 u78 u79 hy81) ?_
   rintro s83 H85 ⟨_, f84, rfl, e86, m87, i88⟩
   obtain ⟨a90, n91, c92, rfl⟩ := m87.form
   have u93 := (m59.frS e86 Dj.nil_l)
   refine ⟨st_ql (y := aLoad Try.prog 57 (pt_ b24 1) H85) (by kernel_rfl) (u93.ld (by kernel_rfl)) (st_nil), ?_⟩
   have u94 := (m55.fr e86 Dj.nil_l)
   obtain ⟨g95, r96⟩ := G_some r82
   obtain ⟨s97, H98, f99, q103, e100, hm101, hf102⟩ := Ow.append (P := Try.prog) 24 e86.wf u94 m87.sq (fun _ _ => rfl) (at_ := #[57, 57]) rfl rfl (by kernel_rfl) (by kernel_rfl) (by decide) (by have := g95; first | omega | (simp only [List.length_cons, List.length_nil] at this ⊢; omega) | (simp at this ⊢; omega))
   obtain ⟨a104, n105, c106, rfl⟩ := hm101.form
   refine d_ek (.slice a104 n105 c106) (by kernel_rfl) (q103) (st_anc (by kernel_rfl) (st_nil)) ?_
   refine e_' (pt_ b24 1) ?_
   have u112 := (u93.frS e100 (i60.djn (r28.ltF.le e32.next)))
   obtain ⟨H108, q109, e110, r111⟩ := Row.store (P := Try.prog) (t := 57) (p := 1) e100.wf u112 (.slice a104 n105 c106) [.slice a104 n105 c106] (by kernel_rfl) (by kernel_rfl) (one_cons (hm101.one1) (one_nil)) (Nat.le_of_ble_eq_true (by kernel_rfl)) [i_ ((First.length : Int) - 1), .slice a104 n105 c106] (by kernel_rfl)
   refine d_ek (undef) (by kernel_rfl) (map_ok q109) (st_anc (by kernel_rfl) (st_nil)) ?_
   refine d_nil ?_
   refine k75 _ _ (g_' (q_ (i_ v1) ?_))
   obtain ⟨g113, r114⟩ := G_some r96
   refine w_' (v1 + 1) (wrap64 g113) ?_
   refine q_ (i_ (v1 + 1)) (s_nil ?_)
   have u115 := (hm101.fr e110 (Dj.symm (hf102.dj (i60.djn (r28.ltF.le e32.next)) (r28.ltF.le (ntr (ntr e32.next e53.next) e86.next)))))
   obtain rfl := Option.some.inj r114
   exact k67 n63 _ _ (Nat.lt_succ_self _) ⟨(g0 ++ y80), (v1 + 1), (.slice a104 n105 c106), f99, hn66, ha_, (FrS.step e32.wf (FrS.step e32.wf (FrS.step e32.wf (FrS.step e32.wf (FrS.refl (W := [b24]) e32.wf) e53 Inn.refl') e86 Inn.nil) e100 (i60.fresh (Nat.le_refl _))) e110 Inn.refl'), u115, r111, (Inn.trans (i60.fresh (Nat.le_refl _)) (ntr e53.next e86.next) hf102)⟩
  have r116 := ite_f h73 hz65
  refine w_exit (th_exit (th_exit (bl_eq ?_)))
  obtain rfl := Option.some.inj r116
  obtain rfl := it_inr hn66
  exact k48 _ _ ⟨(.slice a68 n69 c70), f57, ha_, (FrS.step e32.wf (FrS.refl (W := [b24]) e32.wf) e53 Inn.refl'), m55, m59, (i60.fresh (Nat.le_refl _))⟩
 obtain ⟨s43, f44, hh49, e40, m42, m46, i47⟩ := hM
 obtain ⟨β, rfl⟩ := has_ex hh49
 clear hh49
 obtain ⟨a117, n118, c119, rfl⟩ := m42.form
 refine k34 _ _ (w_seqk fun _ k120 => g_' ?_)
 refine l_' (.agg #[i_ ((First.length : Int) - 1), .slice a117 n118 c119]) (aLoad Try.prog 59 (pt_ b24 0) H39) (m46.ld (by kernel_rfl)) ?_
 have u125 := (((r17.ext e26).frS e32 (hb27.djn r17.ltF)).frS e40 (hb27.djn r17.ltF))
 obtain ⟨H121, q122, e123, r124⟩ := Row.store (P := Try.prog) (t := 59) (p := 0) e40.wf u125 (.agg #[i_ ((First.length : Int) - 1), .slice a117 n118 c119]) [i_ ((First.length : Int) - 1), .slice a117 n118 c119] (by kernel_rfl) (by kernel_rfl) (one_cons (rfl) (one_cons (m42.one1) (one_nil))) (Nat.le_of_ble_eq_true (by kernel_rfl)) [i_ ((First.length : Int) - 1), .slice a117 n118 c119] (by kernel_rfl)
 refine s_ek (undef) (by kernel_rfl) (map_ok q122) ?_
 refine s_nil (k120 _ _ ?_)
 refine w_ret ?_
 refine b_ret (fn := Try.f110) (vs := [.agg #[i_ ((First.length : Int) - 1), .slice a117 n118 c119]]) (aRes_cell (Eq.trans (b := aLoad Try.prog 59 (pt_ b13 0) H121) (by kernel_rfl) (r124.ld (by kernel_rfl))) (rfl)) ?_
 have u126 := (m42.fr e123 (Dj.symm (i47.djn (r17.ltF.le (ntr e26.next e32.next)))))
 obtain rfl := Option.some.inj r38
 exact ⟨(.slice a117 n118 c119), f44, rfl, (FrS.step wf (FrS.step wf (FrS.step wf ((((FrS.refl (W := []) wf).extR e9).extR e15).extR e26) e32 (hb27.fresh (ntr e9.next e15.next))) e40 (hb27.fresh (ntr e9.next e15.next))) e123 (hb16.fresh e9.next)), u126, (i47.fresh (ntr (ntr (ntr e9.next e15.next) e26.next) e32.next))⟩
theorem c_viaductref08_From {H : AH} {hd_First : Value} {fp_First : Fp} {hd_To : Value} {fp_To : Fp} {hd_Weight : Value} {fp_Weight : Fp} {First : List (Int)} {To : List (Int)} {Weight : List (Int)} {s : Int} {r : List (Int)}
    (wf : WF H) (h_First : Sq (encI .i64) 1 H hd_First First fp_First) (h_To : Sq (encI .i64) 1 H hd_To To fp_To) (h_Weight : Sq (encI .i64) 1 H hd_Weight Weight fp_Weight) (hr : z_viaductref08_From First To Weight s = some r) :
    ACalls Try.prog 69 #[.agg #[hd_First, hd_To, hd_Weight], i_ s] H fun v H' => ∃ (s3 : Value) (f4 : Fp), v = s3 ∧ FrS [] H H' ∧ Ow (encI .u64) 1 H' s3 r f4 ∧ Inn [] H f4 := by
 refine acalls_of_body mixed Try.func69 rfl (Nat.le_of_ble_eq_true rfl) ?_
 unfold z_viaductref08_From at hr
 refine w_seqk fun _ k6 => g_' ?_
 refine s_rwl wf [hd_First, hd_To, hd_Weight] (one_cons (h_First.one1) (one_cons (h_To.one1) (one_cons (h_Weight.one1) (one_nil)))) (by kernel_rfl) fun b7 H8 e9 hb10 r11 => ?_
 refine q_ (.slice none 0 0) (s_nil (k6 _ _ (w_seqk fun _ k13 => g_' ?_)))
 refine l_' (.agg #[hd_First, hd_To, hd_Weight]) (aLoad Try.prog 24 (pt_ b7 0) H8) (r11.ld (by kernel_rfl)) ?_
 have u14 := (h_First.ext e9)
 have u15 := (h_To.ext e9)
 have u16 := (h_Weight.ext e9)
 obtain ⟨y17, hy18, r19⟩ := bind_some hr
 refine s_ck 110 #[.agg #[hd_First, hd_To, hd_Weight]] (by kernel_rfl) (c_viaductref05_Graph e9.wf u14 u15 u16 hy18) ?_
 rintro _ H22 ⟨s20, f21, rfl, e23, m24, i25⟩
 obtain ⟨a27, n28, c29, rfl⟩ := m24.form
 refine s_rwk e23.wf [i_ 0, .slice none 0 0] (by kernel_rfl) fun b30 H31 e32 hb33 r34 => ?_
 have u40 := (m24.ext e32)
 obtain ⟨H36, q37, e38, r39⟩ := Row.store (P := Try.prog) (t := 59) (p := 0) e32.wf r34 (.agg #[i_ y17.1, .slice a27 n28 c29]) [i_ y17.1, .slice a27 n28 c29] (by kernel_rfl) (by kernel_rfl) (one_cons (rfl) (one_cons (u40.one1) (one_nil))) (Nat.le_of_ble_eq_true (by kernel_rfl)) [i_ y17.1, .slice a27 n28 c29] (by kernel_rfl)
 refine s_ek (undef) (by kernel_rfl) (map_ok q37) ?_
 refine s_nil (k13 _ _ (w_seqk fun _ k41 => g_' (q_ (pt_ b30 0) ?_)))
 refine l_' (i_ y17.1) (aLoad Try.prog 3 (pt_ b30 0) H36) (r39.ld (by kernel_rfl)) ?_
 obtain ⟨g42, r43⟩ := G_some r19
 refine s_mks (t := 29) (m := 8) (l := y17.1) (c := y17.1) (enc := (encI .u64)) (sz := 1) e38.wf (0 : Int) (by kernel_rfl) (by decide) g42.1 (Int.le_refl _) (by omega) (by have := g42; omega) (by kernel_rfl) fun s44 f45 H46 e47 hf48 hm49 => ?_
 obtain ⟨a50, n51, c52, rfl⟩ := hm49.form
 have hm49 : Ow (encI .u64) 1 H46 (.slice a50 n51 c52) (List.replicate y17.1.toNat (0 : Int)) f45 := hm49
 refine q_ (.slice a50 n51 c52) (s_nil (k41 _ _ (w_seqk fun _ k54 => w_seqk fun _ k55 => g_' (q_ (.slice a50 n51 c52) ?_))))
 refine l_' (i_ ((List.replicate y17.1.toNat (0 : Int)).length : Int)) (aLen Try.prog 29 (.slice a50 n51 c52) H46) (hm49.sq.lenb (by kernel_rfl)) ?_
 refine q_ (i_ 0) (s_nil (k55 _ _ ?_))
 obtain ⟨o56, hx57, r58⟩ := bind_some r43
 refine w_mid (fun α H59 => Has α [(1, i_ s), (5, pt_ b30 0), (6, .slice a50 n51 c52)] ∧ FrS f45 H46 H59 ∧ Ow (encI .u64) 1 H59 (.slice a50 n51 c52) o56 f45) (fun _ k63 => ?_) (fun α H59 hM => ?_)
 ·refine w_block ?_
  obtain ⟨n65, hn66⟩ := loopO_iff.1 hx57
  refine w_loopn (fun n α H67 => ∃ (i0 : Int), ∃ (d1 : List (Int)), iterO (fun zz_ => z_viaductref08_From_l0 y17 zz_.1 zz_.2) n (i0, d1) = some o56 ∧ Has α [(1, i_ s), (5, pt_ b30 0), (6, .slice a50 n51 c52), (17, i_ ((List.replicate y17.1.toNat (0 : Int)).length : Int)), (18, i_ i0)] ∧ FrS f45 H46 H67 ∧ Ow (encI .u64) 1 H67 (.slice a50 n51 c52) d1 f45) n65 ⟨0, (List.replicate y17.1.toNat (0 : Int)), hn66, ha_, (FrS.refl (W := f45) e47.wf), hm49⟩ ?_
  rintro n65 α H67 ⟨i0, d1, hi72, hh71, e68, m70⟩ K77 k77
  obtain ⟨n73, z74, rfl, hz75, hn76⟩ := iter_succ hi72
  obtain ⟨β, rfl⟩ := has_ex hh71
  clear hh71
  replace hz75 : z_viaductref08_From_l0 y17 i0 d1 = some z74 := hz75
  unfold z_viaductref08_From_l0 at hz75
  refine w_seqk fun _ k78 => g_' (q_ (.bool (decide (i0 < ((List.replicate y17.1.toNat (0 : Int)).length : Int)))) (s_nil (k78 _ _ (w_seqk fun _ k79 => ?_))))
  refine w_condp (i0 < ((List.replicate y17.1.toNat (0 : Int)).length : Int)) (by kernel_rfl) rfl (fun h80 => ?_) (fun h80 => ?_)
  ·have r81 := ite_t h80 hz75
   refine w_skip (k79 _ _ (w_seqk fun _ k82 => w_block (w_seqk fun _ k83 => g_' (q_ (i_ i0) (q_ (i_ i0) (s_nil (k83 _ _ (g_' (q_ (.slice a50 n51 c52) (q_ (i_ i0) ?_))))))))))
   obtain ⟨g84, r85⟩ := G_some r81
   refine l_' (elp (.slice a50 n51 c52) 1 i0.toNat 0) (aIndexAddr Try.prog 29 (.slice a50 n51 c52) (i_ i0)) (m70.sq.idxb (by kernel_rfl) g84.1 g84.2) ?_
   obtain ⟨H86, q87, e88, hm89⟩ := Ow.store (P := Try.prog) (t := 42) (off := 0) e68.wf m70 g84.1 g84.2 (.int .u64 18446744073709551615) [.int .u64 18446744073709551615] (by kernel_rfl) (by kernel_rfl) rfl 18446744073709551615 (Nat.le_of_ble_eq_true rfl) (by kernel_rfl)
   refine s_ek (undef) (by kernel_rfl) (map_ok q87) ?_
   refine s_nil (k82 _ _ (g_' ?_))
   obtain ⟨g90, r91⟩ := G_some r85
   refine w_' (i0 + 1) (wrap64 (by have := g90; omega)) ?_
   refine q_ (i_ (i0 + 1)) (s_nil ?_)
   obtain rfl := Option.some.inj r91
   exact k77 n73 _ _ (Nat.lt_succ_self _) ⟨(i0 + 1), (d1.set i0.toNat 18446744073709551615), hn76, ha_, (FrS.step e47.wf (FrS.step e47.wf (FrS.refl (W := f45) e47.wf) e68 Inn.refl') e88 Inn.refl'), hm89⟩
  have r92 := ite_f h80 hz75
  refine w_exit (th_exit (th_exit (bl_eq ?_)))
  obtain rfl := Option.some.inj r92
  obtain rfl := it_inr hn76
  exact k63 _ _ ⟨ha_, (FrS.step e47.wf (FrS.refl (W := f45) e47.wf) e68 Inn.refl'), m70⟩
 obtain ⟨hh64, e60, m62⟩ := hM
 obtain ⟨β, rfl⟩ := has_ex hh64
 clear hh64
 refine k54 _ _ (w_seqk fun _ k93 => g_' (q_ (.slice a50 n51 c52) (q_ (i_ s) ?_)))
 obtain ⟨g94, r95⟩ := G_some r58
 refine l_' (elp (.slice a50 n51 c52) 1 s.toNat 0) (aIndexAddr Try.prog 29 (.slice a50 n51 c52) (i_ s)) (m62.sq.idxb (by kernel_rfl) g94.1 g94.2) ?_
 obtain ⟨H96, q97, e98, hm99⟩ := Ow.store (P := Try.prog) (t := 42) (off := 0) e60.wf m62 g94.1 g94.2 (.int .u64 0) [.int .u64 0] (by kernel_rfl) (by kernel_rfl) rfl 0 (Nat.le_of_ble_eq_true rfl) (by kernel_rfl)
 refine s_ek (undef) (by kernel_rfl) (map_ok q97) ?_
 refine s_nil (k93 _ _ (w_seqk fun _ k100 => w_seqk fun _ k101 => g_' (q_ (.bool true) (s_nil (k101 _ _ ?_)))))
 obtain ⟨o102, hx103, r104⟩ := bind_some r95
 refine w_mid (fun α H105 => Has α [(6, .slice a50 n51 c52)] ∧ FrS f45 H96 H105 ∧ Ow (encI .u64) 1 H105 (.slice a50 n51 c52) o102 f45) (fun _ k109 => ?_) (fun α H105 hM => ?_)
 ·refine w_block ?_
  obtain ⟨n111, hn112⟩ := loopO_iff.1 hx103
  refine w_loopn (fun n α H113 => ∃ (d5 : List (Int)), ∃ (turned6 : Bool), iterO (fun zz_ => z_viaductref08_From_l2 y17 zz_.1 zz_.2) n (d5, turned6) = some o102 ∧ Has α [(5, pt_ b30 0), (6, .slice a50 n51 c52), (8, .bool turned6)] ∧ FrS f45 H96 H113 ∧ Ow (encI .u64) 1 H113 (.slice a50 n51 c52) d5 f45) n111 ⟨(o56.set s.toNat 0), true, hn112, ha_, (FrS.refl (W := f45) e98.wf), hm99⟩ ?_
  rintro n111 α H113 ⟨d5, turned6, hi118, hh117, e114, m116⟩ K123 k123
  obtain ⟨n119, z120, rfl, hz121, hn122⟩ := iter_succ hi118
  obtain ⟨β, rfl⟩ := has_ex hh117
  clear hh117
  replace hz121 : z_viaductref08_From_l2 y17 d5 turned6 = some z120 := hz121
  unfold z_viaductref08_From_l2 at hz121
  refine w_seqk fun _ k124 => w_seqk fun _ k125 => g_' (q_ (.bool turned6) (s_nil (k125 _ _ ?_)))
  refine w_cond (turned6) (by kernel_rfl) rfl (fun h126 => ?_) (fun h126 => ?_)
  ·have r127 := ite_t h126 hz121
   refine w_skip (k124 _ _ (w_block (w_seqk fun _ k128 => g_' (q_ (.bool false) (s_nil (k128 _ _ (w_seqk fun _ k129 => g_' (q_ (pt_ b30 1) ?_))))))))
   have u130 := ((((r39.ext e47).frS e60 (hf48.djn (r34.ltF.le e38.next))).frS e98 (hf48.djn (r34.ltF.le e38.next))).frS e114 (hf48.djn (r34.ltF.le e38.next)))
   refine l_' (.slice a27 n28 c29) (aLoad Try.prog 57 (pt_ b30 1) H113) (u130.ld (by kernel_rfl)) ?_
   have u131 := (((((u40.fr e38 (hb33.djn m24.lt)).ext e47).fr e60 (hf48.djn (m24.lt.le (ntr e32.next e38.next)))).fr e98 (hf48.djn (m24.lt.le (ntr e32.next e38.next)))).fr e114 (hf48.djn (m24.lt.le (ntr e32.next e38.next))))
   refine l_' (i_ (y17.2.length : Int)) (aLen Try.prog 57 (.slice a27 n28 c29) H113) (u131.sq.lenb (by kernel_rfl)) ?_
   refine q_ (i_ 0) (s_nil (k129 _ _ ?_))
   obtain ⟨o132, hx133, r134⟩ := bind_some r127
   refine w_mid (fun α H135 => Has α [(5, pt_ b30 0), (6, .slice a50 n51 c52), (8, .bool o132.2)] ∧ FrS f45 H113 H135 ∧ Ow (encI .u64) 1 H135 (.slice a50 n51 c52) o132.1 f45) (fun _ k139 => ?_) (fun α H135 hM => ?_)
   ·refine w_block ?_
    obtain ⟨n141, hn142⟩ := loopO_iff.1 hx133
    refine w_loopn (fun n α H143 => ∃ (i2 : Int), ∃ (d3 : List (Int)), ∃ (turned4 : Bool), iterO (fun zz_ => z_viaductref08_From_l1 y17 zz_.1 zz_.2.1 zz_.2.2) n (i2, d3, turned4) = some o132 ∧ Has α [(5, pt_ b30 0), (6, .slice a50 n51 c52), (8, .bool turned4), (30, .slice a27 n28 c29), (31, i_ (y17.2.length : Int)), (32, i_ i2)] ∧ FrS f45 H113 H143 ∧ Ow (encI .u64) 1 H143 (.slice a50 n51 c52) d3 f45) n141 ⟨0, d5, false, hn142, ha_, (FrS.refl (W := f45) e114.wf), m116⟩ ?_
    rintro n141 α H143 ⟨i2, d3, turned4, hi148, hh147, e144, m146⟩ K153 k153
    obtain ⟨n149, z150, rfl, hz151, hn152⟩ := iter_succ hi148
    obtain ⟨β, rfl⟩ := has_ex hh147
    clear hh147
    replace hz151 : z_viaductref08_From_l1 y17 i2 d3 turned4 = some z150 := hz151
    unfold z_viaductref08_From_l1 at hz151
    refine w_seqk fun _ k154 => g_' (q_ (.bool (decide (i2 < (y17.2.length : Int)))) (s_nil (k154 _ _ (w_seqk fun _ k155 => ?_))))
    refine w_condp (i2 < (y17.2.length : Int)) (by kernel_rfl) rfl (fun h156 => ?_) (fun h156 => ?_)
    ·have r157 := ite_t h156 hz151
     refine w_skip (k155 _ _ (w_seqk fun _ k158 => w_block (w_seqk fun _ k159 => g_' ?_)))
     obtain ⟨g160, r161⟩ := G_some r157
     have u162 := (u131.fr e144 (hf48.djn (m24.lt.le (ntr e32.next e38.next))))
     refine l_' (elp (.slice a27 n28 c29) 3 i2.toNat 0) (aIndexAddr Try.prog 57 (.slice a27 n28 c29) (i_ i2)) (u162.sq.idxb (by kernel_rfl) g160 h156) ?_
     refine l_' (.agg #[i_ ((gt y17.2 i2).1), i_ ((gt y17.2 i2).2.1), i_ ((gt y17.2 i2).2.2)]) (aLoad Try.prog 73 (elp (.slice a27 n28 c29) 3 i2.toNat 0) H143) (u162.sq.ld g160 h156 (by kernel_rfl)) ?_
     refine s_rwk e144.wf [i_ 0, i_ 0, i_ 0] (by kernel_rfl) fun b163 H164 e165 hb166 r167 => ?_
     obtain ⟨H169, q170, e171, r172⟩ := Row.store (P := Try.prog) (t := 73) (p := 0) e165.wf r167 (.agg #[i_ ((gt y17.2 i2).1), i_ ((gt y17.2 i2).2.1), i_ ((gt y17.2 i2).2.2)]) [i_ ((gt y17.2 i2).1), i_ ((gt y17.2 i2).2.1), i_ ((gt y17.2 i2).2.2)] (by kernel_rfl) (by kernel_rfl) (one_cons (rfl) (one_cons (rfl) (one_cons (rfl) (one_nil)))) (Nat.le_of_ble_eq_true (by kernel_rfl)) [i_ ((gt y17.2 i2).1), i_ ((gt y17.2 i2).2.1), i_ ((gt y17.2 i2).2.2)] (by kernel_rfl)
     refine s_ek (undef) (by kernel_rfl) (map_ok q170) ?_
     refine s_nil (k159 _ _ (w_seqk fun _ k173 => ?_))
     obtain ⟨o174, hx175, r176⟩ := bind_some r161
     refine w_mid (fun α H177 => Has α [(5, pt_ b30 0), (6, .slice a50 n51 c52), (8, .bool turned4), (10, pt_ b163 0), (30, .slice a27 n28 c29), (31, i_ (y17.2.length : Int)), (32, i_ i2), (58, .bool o174)] ∧ H169 = H177) (fun _ k179 => ?_) (fun α H177 hM => ?_)
     ·refine w_draw [0, 1, 2, 3, 4, 5, 6, 7, 8, 9, 10, 11, 12, 13, 14, 15, 16, 17, 18, 19, 20, 21, 22] (by kernel_rfl) ?_
      refine e_' (.slice a50 n51 c52) (e_' (pt_ b163 0) ?_)
      refine m_' (i_ ((gt y17.2 i2).1)) (aLoad Try.prog 3 (pt_ b163 0) H169) (r172.ld (by kernel_rfl)) ?_
      obtain ⟨g181, r182⟩ := G_some hx175
      have u183 := ((m146.ext e165).fr e171 (hb166.djn (hm49.lt.le (ntr (ntr (ntr e60.next e98.next) e114.next) e144.next))))
      refine m_' (elp (.slice a50 n51 c52) 1 ((gt y17.2 i2).1).toNat 0) (aIndexAddr Try.prog 29 (.slice a50 n51 c52) (i_ ((gt y17.2 i2).1))) (u183.sq.idxb (by kernel_rfl) g181.1 g181.2) ?_
      refine m_' (.int .u64 (gt d3 ((gt y17.2 i2).1))) (aLoad Try.prog 42 (elp (.slice a50 n51 c52) 1 ((gt y17.2 i2).1).toNat 0) H169) (u183.sq.ld g181.1 g181.2 (by kernel_rfl)) ?_
      refine d_bn ((gt d3 ((gt y17.2 i2).1)) = 18446744073709551615) (by kernel_rfl) (fun h184 => ?_) (fun h184 => ?_)
      ·have r185 := ite_t h184 r182
       refine e_' (.bool false) (j_' (j_' (j_' (j_' (j_' (j_' (j_' (j_' (j_' (j_' (j_' (j_' (j_' (j_' (j_' (e_' (.bool false) ?_))))))))))))))))
       refine d_nil ?_
       obtain rfl := Option.some.inj r185
       exact k179 _ _ ⟨ha_, rfl⟩
      have r186 := ite_f h184 r182
      refine e_' (.bool true) (e_' (.slice a50 n51 c52) (e_' (pt_ b163 0) ?_))
      refine m_' (i_ ((gt y17.2 i2).1)) (aLoad Try.prog 3 (pt_ b163 0) H169) (r172.ld (by kernel_rfl)) ?_
      refine m_' (elp (.slice a50 n51 c52) 1 ((gt y17.2 i2).1).toNat 0) (aIndexAddr Try.prog 29 (.slice a50 n51 c52) (i_ ((gt y17.2 i2).1))) (u183.sq.idxb (by kernel_rfl) g181.1 g181.2) ?_
      refine m_' (.int .u64 (gt d3 ((gt y17.2 i2).1))) (aLoad Try.prog 42 (elp (.slice a50 n51 c52) 1 ((gt y17.2 i2).1).toNat 0) H169) (u183.sq.ld g181.1 g181.2 (by kernel_rfl)) ?_
      refine e_' (pt_ b163 2) ?_
      refine m_' (i_ ((gt y17.2 i2).2.2)) (aLoad Try.prog 3 (pt_ b163 2) H169) (r172.ld (by kernel_rfl)) ?_
      obtain ⟨g187, r188⟩ := G_some r186
      refine d_w ((gt y17.2 i2).2.2) (k := .u64) (x := (gt y17.2 i2).2.2) (by kernel_rfl) (wrapu64 g187) ?_
      obtain ⟨g189, r190⟩ := G_some r188
      refine d_w (((gt d3 ((gt y17.2 i2).1)) + ((gt y17.2 i2).2.2))) (k := .u64) (x := ((gt d3 ((gt y17.2 i2).1)) + ((gt y17.2 i2).2.2))) (by kernel_rfl) (wrapu64 g189) ?_
      refine e_' (.slice a50 n51 c52) (e_' (pt_ b163 1) ?_)
      refine m_' (i_ ((gt y17.2 i2).2.1)) (aLoad Try.prog 3 (pt_ b163 1) H169) (r172.ld (by kernel_rfl)) ?_
      obtain ⟨g191, r192⟩ := G_some r190
      refine m_' (elp (.slice a50 n51 c52) 1 ((gt y17.2 i2).2.1).toNat 0) (aIndexAddr Try.prog 29 (.slice a50 n51 c52) (i_ ((gt y17.2 i2).2.1))) (u183.sq.idxb (by kernel_rfl) g191.1 g191.2) ?_
      refine m_' (.int .u64 (gt d3 ((gt y17.2 i2).2.1))) (aLoad Try.prog 42 (elp (.slice a50 n51 c52) 1 ((gt y17.2 i2).2.1).toNat 0) H169) (u183.sq.ld g191.1 g191.2 (by kernel_rfl)) ?_
      refine e_' (.bool (decide (((gt d3 ((gt y17.2 i2).1)) + ((gt y17.2 i2).2.2)) < (gt d3 ((gt y17.2 i2).2.1))))) (e_' (.bool (decide (((gt d3 ((gt y17.2 i2).1)) + ((gt y17.2 i2).2.2)) < (gt d3 ((gt y17.2 i2).2.1))))) ?_)
      refine d_nil ?_
      obtain rfl := Option.some.inj r192
      exact k179 _ _ ⟨ha_, rfl⟩
     obtain ⟨hh180, rfl⟩ := hM
     obtain ⟨β, rfl⟩ := has_ex hh180
     clear hh180
     refine k173 _ _ ?_
     refine w_cond (o174) (by kernel_rfl) rfl (fun h193 => ?_) (fun h193 => ?_)
     ·have r194 := ite_t h193 r176
      refine w_seqk fun _ k195 => ?_
      refine w_draw [0, 1, 2, 3, 4, 5, 6, 7, 8, 9, 10, 11, 12, 13] (by kernel_rfl) ?_
      refine e_' (.slice a50 n51 c52) (e_' (pt_ b163 1) ?_)
      refine m_' (i_ ((gt y17.2 i2).2.1)) (aLoad Try.prog 3 (pt_ b163 1) H169) (r172.ld (by kernel_rfl)) ?_
      refine e_' (.slice a50 n51 c52) (e_' (pt_ b163 0) ?_)
      refine m_' (i_ ((gt y17.2 i2).1)) (aLoad Try.prog 3 (pt_ b163 0) H169) (r172.ld (by kernel_rfl)) ?_
      obtain ⟨g196, r197⟩ := G_some r194
      have u198 := ((m146.ext e165).fr e171 (hb166.djn (hm49.lt.le (ntr (ntr (ntr e60.next e98.next) e114.next) e144.next))))
      refine m_' (elp (.slice a50 n51 c52) 1 ((gt y17.2 i2).1).toNat 0) (aIndexAddr Try.prog 29 (.slice a50 n51 c52) (i_ ((gt y17.2 i2).1))) (u198.sq.idxb (by kernel_rfl) g196.1 g196.2) ?_
      refine m_' (.int .u64 (gt d3 ((gt y17.2 i2).1))) (aLoad Try.prog 42 (elp (.slice a50 n51 c52) 1 ((gt y17.2 i2).1).toNat 0) H169) (u198.sq.ld g196.1 g196.2 (by kernel_rfl)) ?_
      refine e_' (pt_ b163 2) ?_
      refine m_' (i_ ((gt y17.2 i2).2.2)) (aLoad Try.prog 3 (pt_ b163 2) H169) (r172.ld (by kernel_rfl)) ?_
      obtain ⟨g199, r200⟩ := G_some r197
      refine d_w ((gt y17.2 i2).2.2) (k := .u64) (x := (gt y17.2 i2).2.2) (by kernel_rfl) (wrapu64 g199) ?_
      obtain ⟨g201, r202⟩ := G_some r200
      refine d_w (((gt d3 ((gt y17.2 i2).1)) + ((gt y17.2 i2).2.2))) (k := .u64) (x := ((gt d3 ((gt y17.2 i2).1)) + ((gt y17.2 i2).2.2))) (by kernel_rfl) (wrapu64 g201) ?_
      obtain ⟨g203, r204⟩ := G_some r202
      refine m_' (elp (.slice a50 n51 c52) 1 ((gt y17.2 i2).2.1).toNat 0) (aIndexAddr Try.prog 29 (.slice a50 n51 c52) (i_ ((gt y17.2 i2).2.1))) (u198.sq.idxb (by kernel_rfl) g203.1 g203.2) ?_
      obtain ⟨H205, q206, e207, hm208⟩ := Ow.store (P := Try.prog) (t := 42) (off := 0) e171.wf u198 g203.1 g203.2 (.int .u64 ((gt d3 ((gt y17.2 i2).1)) + ((gt y17.2 i2).2.2))) [.int .u64 ((gt d3 ((gt y17.2 i2).1)) + ((gt y17.2 i2).2.2))] (by kernel_rfl) (by kernel_rfl) rfl ((gt d3 ((gt y17.2 i2).1)) + ((gt y17.2 i2).2.2)) (Nat.le_of_ble_eq_true rfl) (by kernel_rfl)
      refine d_ek (undef) (by kernel_rfl) (map_ok q206) (st_nil) ?_
      refine d_nil ?_
      refine k195 _ _ (g_' (q_ (.bool true) (s_nil (k158 _ _ (g_' ?_)))))
      obtain ⟨g209, r210⟩ := G_some r204
      refine w_' (i2 + 1) (wrap64 (by have := g209; omega)) ?_
      refine q_ (i_ (i2 + 1)) (s_nil ?_)
      obtain rfl := Option.some.inj r210
      exact k153 n149 _ _ (Nat.lt_succ_self _) ⟨(i2 + 1), (d3.set ((gt y17.2 i2).2.1).toNat ((gt d3 ((gt y17.2 i2).1)) + ((gt y17.2 i2).2.2))), true, hn152, ha_, (FrS.step e114.wf (FrS.step e114.wf ((FrS.step e114.wf (FrS.refl (W := f45) e114.wf) e144 Inn.refl').extR e165) e171 (hb166.fresh e144.next)) e207 Inn.refl'), hm208⟩
     have r211 := ite_bf h193 r176
     refine w_skip (k158 _ _ (g_' ?_))
     obtain ⟨g212, r213⟩ := G_some r211
     refine w_' (i2 + 1) (wrap64 (by have := g212; omega)) ?_
     refine q_ (i_ (i2 + 1)) (s_nil ?_)
     have u214 := ((m146.ext e165).fr e171 (hb166.djn (hm49.lt.le (ntr (ntr (ntr e60.next e98.next) e114.next) e144.next))))
     obtain rfl := Option.some.inj r213
     exact k153 n149 _ _ (Nat.lt_succ_self _) ⟨(i2 + 1), d3, turned4, hn152, ha_, (FrS.step e114.wf ((FrS.step e114.wf (FrS.refl (W := f45) e114.wf) e144 Inn.refl').extR e165) e171 (hb166.fresh e144.next)), u214⟩
    have r215 := ite_f h156 hz151
    refine w_exit (th_exit (th_exit (bl_eq ?_)))
    obtain rfl := Option.some.inj r215
    obtain rfl := it_inr hn152
    exact k139 _ _ ⟨ha_, (FrS.step e114.wf (FrS.refl (W := f45) e114.wf) e144 Inn.refl'), m146⟩
   obtain ⟨hh140, e136, m138⟩ := hM
   obtain ⟨β, rfl⟩ := has_ex hh140
   clear hh140
   obtain rfl := Option.some.inj r134
   exact k123 n119 _ _ (Nat.lt_succ_self _) ⟨o132.1, o132.2, hn122, ha_, (FrS.step e98.wf (FrS.step e98.wf (FrS.refl (W := f45) e98.wf) e114 Inn.refl') e136 Inn.refl'), m138⟩
  have r216 := ite_bf h126 hz121
  refine w_exit (th_exit (th_exit (bl_eq ?_)))
  obtain rfl := Option.some.inj r216
  obtain rfl := it_inr hn122
  exact k109 _ _ ⟨ha_, (FrS.step e98.wf (FrS.refl (W := f45) e98.wf) e114 Inn.refl'), m116⟩
 obtain ⟨hh110, e106, m108⟩ := hM
 obtain ⟨β, rfl⟩ := has_ex hh110
 clear hh110
 refine k100 _ _ (w_seqk fun _ k217 => g_' (q_ (.slice a50 n51 c52) (q_ (.slice a50 n51 c52) (s_nil (k217 _ _ ?_)))))
 refine w_ret ?_
 refine b_ret (fn := Try.f69) (vs := [.slice a50 n51 c52]) (aRes_tmp (by kernel_rfl) (rfl)) ?_
 obtain rfl := Option.some.inj r104
 exact ⟨(.slice a50 n51 c52), f45, rfl, (FrS.step wf (FrS.step wf (FrS.step wf ((FrS.step wf ((FrS.step wf ((FrS.refl (W := []) wf).extR e9) e23 Inn.nil).extR e32) e38 (hb33.fresh (ntr e9.next e23.next))).extR e47) e60 (hf48.fresh (ntr (ntr (ntr e9.next e23.next) e32.next) e38.next))) e98 (hf48.fresh (ntr (ntr (ntr e9.next e23.next) e32.next) e38.next))) e106 (hf48.fresh (ntr (ntr (ntr e9.next e23.next) e32.next) e38.next))), m108, (hf48.fresh (ntr (ntr (ntr e9.next e23.next) e32.next) e38.next))⟩
theorem c_viaductref08_DocFrom {H : AH} {hd_First : Value} {fp_First : Fp} {hd_To : Value} {fp_To : Fp} {hd_Weight : Value} {fp_Weight : Fp} {First : List (Int)} {To : List (Int)} {Weight : List (Int)} {s : Int} {r : List (Int) × Int × List (Int × Int)}
    (wf : WF H) (h_First : Sq (encI .i64) 1 H hd_First First fp_First) (h_To : Sq (encI .i64) 1 H hd_To To fp_To) (h_Weight : Sq (encI .i64) 1 H hd_Weight Weight fp_Weight) (hr : z_viaductref08_DocFrom First To Weight s = some r) :
    ACalls Try.prog 15 #[.agg #[hd_First, hd_To, hd_Weight], i_ s] H fun v H' => ∃ (s3 : Value) (f4 : Fp) (s7 : Value) (f8 : Fp), v = .tuple #[s3, .agg #[i_ r.2.1, s7]] ∧ FrS [] H H' ∧ Ow (encI .u64) 1 H' s3 r.1 f4 ∧ Ow enc_i64_i64 2 H' s7 r.2.2 f8 ∧ Inn [] H f4 ∧ Inn [] H f8 ∧ Dj f4 f8 := by
 refine acalls_of_body mixed Try.func15 rfl (Nat.le_of_ble_eq_true rfl) ?_
 unfold z_viaductref08_DocFrom at hr
 refine w_seqk fun _ k12 => g_' ?_
 refine s_rwl wf [hd_First, hd_To, hd_Weight] (one_cons (h_First.one1) (one_cons (h_To.one1) (one_cons (h_Weight.one1) (one_nil)))) (by kernel_rfl) fun b13 H14 e15 hb16 r17 => ?_
 refine q_ (.slice none 0 0) ?_
 refine s_rwk e15.wf [i_ 0, .slice none 0 0] (by kernel_rfl) fun b19 H20 e21 hb22 r23 => ?_
 refine s_nil (k12 _ _ (w_seqk fun _ k25 => w_seqk fun _ k26 => g_' ?_))
 have u27 := (r17.ext e21)
 refine l_' (.agg #[hd_First, hd_To, hd_Weight]) (aLoad Try.prog 24 (pt_ b13 0) H20) (u27.ld (by kernel_rfl)) ?_
 refine q_ (i_ s) ?_
 have u28 := ((h_First.ext e15).ext e21)
 have u29 := ((h_To.ext e15).ext e21)
 have u30 := ((h_Weight.ext e15).ext e21)
 obtain ⟨y31, hy32, r33⟩ := bind_some hr
 refine s_ck 68 #[.agg #[hd_First, hd_To, hd_Weight], i_ s] (by kernel_rfl) (c_viaductref08_node e21.wf u28 u29 u30 hy32) ?_
 rintro _ H36 ⟨s34, f35, rfl, e37, m38, i39⟩
 obtain ⟨a41, n42, c43, rfl⟩ := m38.form
 refine s_rwk e37.wf [i_ 0, .slice none 0 0] (by kernel_rfl) fun b44 H45 e46 hb47 r48 => ?_
 have u54 := (m38.ext e46)
 obtain ⟨H50, q51, e52, r53⟩ := Row.store (P := Try.prog) (t := 46) (p := 0) e46.wf r48 (.agg #[i_ y31.1, .slice a41 n42 c43]) [i_ y31.1, .slice a41 n42 c43] (by kernel_rfl) (by kernel_rfl) (one_cons (rfl) (one_cons (u54.one1) (one_nil))) (Nat.le_of_ble_eq_true (by kernel_rfl)) [i_ y31.1, .slice a41 n42 c43] (by kernel_rfl)
 refine s_ek (undef) (by kernel_rfl) (map_ok q51) ?_
 refine s_nil (k26 _ _ (w_seqk fun _ k55 => g_' ?_))
 refine l_' (.agg #[i_ y31.1, .slice a41 n42 c43]) (aLoad Try.prog 46 (pt_ b44 0) H50) (r53.ld (by kernel_rfl)) ?_
 have u56 := (u54.fr e52 (hb47.djn m38.lt))
 obtain ⟨y57, hy58, r59⟩ := bind_some r33
 refine s_ck 56 #[.agg #[i_ y31.1, .slice a41 n42 c43]] (by kernel_rfl) (c_viaductref01_Err_Bad e52.wf u56.sq hy58) ?_
 rintro _ H60 ⟨rfl, e61⟩
 refine s_nil (k55 _ _ ?_)
 refine w_cond (y57) (by kernel_rfl) rfl (fun h62 => ?_) (fun h62 => ?_)
 ·have r63 := ite_t h62 r59
  refine w_seqk fun _ k64 => ?_
  refine w_draw [0, 1, 2] (by kernel_rfl) ?_
  have u65 := (r53.frS e61 Dj.nil_l)
  refine m_' (.agg #[i_ y31.1, .slice a41 n42 c43]) (aLoad Try.prog 46 (pt_ b44 0) H60) (u65.ld (by kernel_rfl)) ?_
  refine e_' (.slice none 0 0) ?_
  have u70 := ((((r23.frS e37 Dj.nil_l).ext e46).frS e52 (hb47.djn (r23.ltF.le e37.next))).frS e61 Dj.nil_l)
  have u71 := (u56.fr e61 Dj.nil_l)
  obtain ⟨H66, q67, e68, r69⟩ := Row.store (P := Try.prog) (t := 46) (p := 0) e61.wf u70 (.agg #[i_ y31.1, .slice a41 n42 c43]) [i_ y31.1, .slice a41 n42 c43] (by kernel_rfl) (by kernel_rfl) (one_cons (rfl) (one_cons (u71.one1) (one_nil))) (Nat.le_of_ble_eq_true (by kernel_rfl)) [i_ y31.1, .slice a41 n42 c43] (by kernel_rfl)
  refine d_ek (undef) (by kernel_rfl) (map_ok q67) (st_nil) ?_
  refine d_nil ?_
  refine k64 _ _ ?_
  refine w_ret (th_ret ?_)
  refine b_ret (fn := Try.f15) (vs := [.slice none 0 0, .agg #[i_ y31.1, .slice a41 n42 c43]]) (aRes_tmp (by kernel_rfl) (aRes_cell (Eq.trans (b := aLoad Try.prog 46 (pt_ b19 0) H66) (by kernel_rfl) (r69.ld (by kernel_rfl))) (rfl))) ?_
  have u72 := (u71.fr e68 (Dj.symm (i39.djn r23.ltF)))
  obtain rfl := Option.some.inj r63
  exact ⟨(.slice none 0 0), [], (.slice a41 n42 c43), f35, rfl, (FrS.step wf (FrS.step wf (FrS.step wf ((FrS.step wf (((FrS.refl (W := []) wf).extR e15).extR e21) e37 Inn.nil).extR e46) e52 (hb47.fresh (ntr (ntr e15.next e21.next) e37.next))) e61 Inn.nil) e68 (hb22.fresh e15.next)), (Ow.nil (by decide)), u72, Inn.nil, (i39.fresh (ntr e15.next e21.next)), Dj.nil_l⟩
 have r73 := ite_bf h62 r59
 refine w_skip (k25 _ _ (w_seqk fun _ k74 => g_' ?_))
 have u75 := ((((u27.frS e37 Dj.nil_l).ext e46).frS e52 (hb47.djn (r17.ltF.le (ntr e21.next e37.next)))).frS e61 Dj.nil_l)
 refine l_' (.agg #[hd_First, hd_To, hd_Weight]) (aLoad Try.prog 24 (pt_ b13 0) H60) (u75.ld (by kernel_rfl)) ?_
 refine q_ (i_ s) ?_
 have u76 := ((((u28.fr e37 Dj.nil_l).ext e46).fr e52 (hb47.djn (h_First.lt.le (ntr (ntr e15.next e21.next) e37.next)))).fr e61 Dj.nil_l)
 have u77 := ((((u29.fr e37 Dj.nil_l).ext e46).fr e52 (hb47.djn (h_To.lt.le (ntr (ntr e15.next e21.next) e37.next)))).fr e61 Dj.nil_l)
 have u78 := ((((u30.fr e37 Dj.nil_l).ext e46).fr e52 (hb47.djn (h_Weight.lt.le (ntr (ntr e15.next e21.next) e37.next)))).fr e61 Dj.nil_l)
 obtain ⟨y79, hy80, r81⟩ := bind_some r73
 refine s_ck 69 #[.agg #[hd_First, hd_To, hd_Weight], i_ s] (by kernel_rfl) (c_viaductref08_From e61.wf u76 u77 u78 hy80) ?_
 rintro s82 H84 ⟨_, f83, rfl, e85, m86, i87⟩
 obtain ⟨a89, n90, c91, rfl⟩ := m86.form
 refine q_ (.agg #[i_ 0, .slice none 0 0]) (q_ (.slice a89 n90 c91) ?_)
 have u96 := (((((r23.frS e37 Dj.nil_l).ext e46).frS e52 (hb47.djn (r23.ltF.le e37.next))).frS e61 Dj.nil_l).frS e85 Dj.nil_l)
 obtain ⟨H92, q93, e94, r95⟩ := Row.store (P := Try.prog) (t := 46) (p := 0) e85.wf u96 (.agg #[i_ 0, .slice none 0 0]) [i_ 0, .slice none 0 0] (by kernel_rfl) (by kernel_rfl) (one_cons (rfl) (one_cons (rfl) (one_nil))) (Nat.le_of_ble_eq_true (by kernel_rfl)) [i_ 0, .slice none 0 0] (by kernel_rfl)
 refine s_ek (undef) (by kernel_rfl) (map_ok q93) ?_
 refine s_nil (k74 _ _ ?_)
 refine w_ret ?_
 refine b_ret (fn := Try.f15) (vs := [.slice a89 n90 c91, .agg #[i_ 0, .slice none 0 0]]) (aRes_tmp (by kernel_rfl) (aRes_cell (Eq.trans (b := aLoad Try.prog 46 (pt_ b19 0) H92) (by kernel_rfl) (r95.ld (by kernel_rfl))) (rfl))) ?_
 have u97 := (m86.fr e94 (Dj.symm (i87.djn (r23.ltF.le (ntr (ntr (ntr e37.next e46.next) e52.next) e61.next)))))
 obtain rfl := Option.some.inj r81
 exact ⟨(.slice a89 n90 c91), f83, (.slice none 0 0), [], rfl, (FrS.step wf (FrS.step wf (FrS.step wf (FrS.step wf ((FrS.step wf (((FrS.refl (W := []) wf).extR e15).extR e21) e37 Inn.nil).extR e46) e52 (hb47.fresh (ntr (ntr e15.next e21.next) e37.next))) e61 Inn.nil) e85 Inn.nil) e94 (hb22.fresh e15.next)), u97, (Ow.nil (by decide)), (i87.fresh (ntr (ntr (ntr (ntr (ntr e15.next e21.next) e37.next) e46.next) e52.next) e61.next)), Inn.nil, Dj.nil_r⟩
end Go.Vd

/-! (KSy6) -/

set_option maxRecDepth 100000
set_option maxHeartbeats 4000000
set_option linter.unusedVariables false
namespace Go.Vd
open Go.Proofs
attribute [local irreducible] wpSeq wpOrd aWp
theorem c_viaductref08_DocMatrix {H : AH} {hd_First : Value} {fp_First : Fp} {hd_To : Value} {fp_To : Fp} {hd_Weight : Value} {fp_Weight : Fp} {First : List (Int)} {To : List (Int)} {Weight : List (Int)} {r : List (List (Int)) × Int × List (Int × Int)}
    (wf : WF H) (h_First : Sq (encI .i64) 1 H hd_First First fp_First) (h_To : Sq (encI .i64) 1 H hd_To To fp_To) (h_Weight : Sq (encI .i64) 1 H hd_Weight Weight fp_Weight) (hr : z_viaductref08_DocMatrix First To Weight = some r) :
    ACalls Try.prog 16 #[.agg #[hd_First, hd_To, hd_Weight]] H fun v H' => ∃ (s3 : Value) (f4 : Fp) (s7 : Value) (f8 : Fp), v = .tuple #[s3, .agg #[i_ r.2.1, s7]] ∧ FrS [] H H' ∧ Nst (CR.sl (encI .u64) 1) H' s3 r.1 f4 ∧ Ow enc_i64_i64 2 H' s7 r.2.2 f8 ∧ Inn [] H f4 ∧ Inn [] H f8 ∧ Dj f4 f8 := by
 refine acalls_of_body mixed Try.func16 rfl (Nat.le_of_ble_eq_true rfl) ?_
 unfold z_viaductref08_DocMatrix at hr
 refine w_seqk fun _ k12 => g_' ?_
 refine s_rwl wf [hd_First, hd_To, hd_Weight] (one_cons (h_First.one1) (one_cons (h_To.one1) (one_cons (h_Weight.one1) (one_nil)))) (by kernel_rfl) fun b13 H14 e15 hb16 r17 => ?_
 refine q_ (.slice none 0 0) ?_
 refine s_rwk e15.wf [i_ 0, .slice none 0 0] (by kernel_rfl) fun b19 H20 e21 hb22 r23 => ?_
 refine s_nil (k12 _ _ (w_seqk fun _ k25 => w_seqk fun _ k26 => g_' ?_))
 have u27 := (r17.ext e21)
 refine l_' (.agg #[hd_First, hd_To, hd_Weight]) (aLoad Try.prog 24 (pt_ b13 0) H20) (u27.ld (by kernel_rfl)) ?_
 have u28 := ((h_First.ext e15).ext e21)
 have u29 := ((h_To.ext e15).ext e21)
 have u30 := ((h_Weight.ext e15).ext e21)
 obtain ⟨y31, hy32, r33⟩ := bind_some hr
 refine s_ck 55 #[.agg #[hd_First, hd_To, hd_Weight]] (by kernel_rfl) (c_viaductref05_DocCheck e21.wf u28 u29 u30 hy32) ?_
 rintro _ H36 ⟨s34, f35, rfl, e37, m38, i39⟩
 obtain ⟨a41, n42, c43, rfl⟩ := m38.form
 refine s_rwk e37.wf [i_ 0, .slice none 0 0] (by kernel_rfl) fun b44 H45 e46 hb47 r48 => ?_
 have u54 := (m38.ext e46)
 obtain ⟨H50, q51, e52, r53⟩ := Row.store (P := Try.prog) (t := 46) (p := 0) e46.wf r48 (.agg #[i_ y31.1, .slice a41 n42 c43]) [i_ y31.1, .slice a41 n42 c43] (by kernel_rfl) (by kernel_rfl) (one_cons (rfl) (one_cons (u54.one1) (one_nil))) (Nat.le_of_ble_eq_true (by kernel_rfl)) [i_ y31.1, .slice a41 n42 c43] (by kernel_rfl)
 refine s_ek (undef) (by kernel_rfl) (map_ok q51) ?_
 refine s_nil (k26 _ _ (w_seqk fun _ k55 => g_' ?_))
 refine l_' (.agg #[i_ y31.1, .slice a41 n42 c43]) (aLoad Try.prog 46 (pt_ b44 0) H50) (r53.ld (by kernel_rfl)) ?_
 have u56 := (u54.fr e52 (hb47.djn m38.lt))
 obtain ⟨y57, hy58, r59⟩ := bind_some r33
 refine s_ck 56 #[.agg #[i_ y31.1, .slice a41 n42 c43]] (by kernel_rfl) (c_viaductref01_Err_Bad e52.wf u56.sq hy58) ?_
 rintro _ H60 ⟨rfl, e61⟩
 refine s_nil (k55 _ _ ?_)
 refine w_cond (y57) (by kernel_rfl) rfl (fun h62 => ?_) (fun h62 => ?_)
 ·have r63 := ite_t h62 r59
  refine w_seqk fun _ k64 => ?_
  refine w_draw [0, 1, 2] (by kernel_rfl) ?_
  have u65 := (r53.frS e61 Dj.nil_l)
  refine m_' (.agg #[i_ y31.1, .slice a41 n42 c43]) (aLoad Try.prog 46 (pt_ b44 0) H60) (u65.ld (by kernel_rfl)) ?_
  refine e_' (.slice none 0 0) ?_
  have u70 := ((((r23.frS e37 Dj.nil_l).ext e46).frS e52 (hb47.djn (r23.ltF.le e37.next))).frS e61 Dj.nil_l)
  have u71 := (u56.fr e61 Dj.nil_l)
  obtain ⟨H66, q67, e68, r69⟩ := Row.store (P := Try.prog) (t := 46) (p := 0) e61.wf u70 (.agg #[i_ y31.1, .slice a41 n42 c43]) [i_ y31.1, .slice a41 n42 c43] (by kernel_rfl) (by kernel_rfl) (one_cons (rfl) (one_cons (u71.one1) (one_nil))) (Nat.le_of_ble_eq_true (by kernel_rfl)) [i_ y31.1, .slice a41 n42 c43] (by kernel_rfl)
  refine d_ek (undef) (by kernel_rfl) (map_ok q67) (st_nil) ?_
  refine d_nil ?_
  refine k64 _ _ ?_
  refine w_ret (th_ret ?_)
  refine b_ret (fn := Try.f16) (vs := [.slice none 0 0, .agg #[i_ y31.1, .slice a41 n42 c43]]) (aRes_tmp (by kernel_rfl) (aRes_cell (Eq.trans (b := aLoad Try.prog 46 (pt_ b19 0) H66) (by kernel_rfl) (r69.ld (by kernel_rfl))) (rfl))) ?_
  have u72 := (u71.fr e68 (Dj.symm (i39.djn r23.ltF)))
  obtain rfl := Option.some.inj r63
  exact ⟨(.slice none 0 0), [], (.slice a41 n42 c43), f35, rfl, (FrS.step wf (FrS.step wf (FrS.step wf ((FrS.step wf (((FrS.refl (W := []) wf).extR e15).extR e21) e37 Inn.nil).extR e46) e52 (hb47.fresh (ntr (ntr e15.next e21.next) e37.next))) e61 Inn.nil) e68 (hb22.fresh e15.next)), Nst.nil, u72, Inn.nil, (i39.fresh (ntr e15.next e21.next)), Dj.nil_l⟩
 have r73 := ite_bf h62 r59
 refine w_skip (k25 _ _ (w_seqk fun _ k74 => g_' (q_ (pt_ b13 0) ?_)))
 have u75 := ((((u27.frS e37 Dj.nil_l).ext e46).frS e52 (hb47.djn (r17.ltF.le (ntr e21.next e37.next)))).frS e61 Dj.nil_l)
 refine l_' (hd_First) (aLoad Try.prog 22 (pt_ b13 0) H60) (u75.ld (by kernel_rfl)) ?_
 have u76 := ((((u28.fr e37 Dj.nil_l).ext e46).fr e52 (hb47.djn (h_First.lt.le (ntr (ntr e15.next e21.next) e37.next)))).fr e61 Dj.nil_l)
 refine l_' (i_ (First.length : Int)) (aLen Try.prog 22 hd_First H60) (u76.lenb (by kernel_rfl)) ?_
 obtain ⟨g77, r78⟩ := G_some r73
 refine w_' ((First.length : Int) - 1) (wrap64 g77) ?_
 refine q_ (i_ ((First.length : Int) - 1)) (s_nil (k74 _ _ (w_seqk fun _ k79 => w_seqk fun _ k80 => g_' (q_ (i_ ((First.length : Int) - 1)) (q_ (i_ ((First.length : Int) - 1)) ?_)))))
 obtain ⟨g81, r82⟩ := G_some r78
 refine w_' (((First.length : Int) - 1) * ((First.length : Int) - 1)) (wrap64 g81) ?_
 refine q_ (.bool (decide ((((First.length : Int) - 1) * ((First.length : Int) - 1)) > 1048576))) (s_nil (k80 _ _ ?_))
 refine w_condp ((((First.length : Int) - 1) * ((First.length : Int) - 1)) > 1048576) (by kernel_rfl) rfl (fun h83 => ?_) (fun h83 => ?_)
 ·have r84 := ite_t h83 r82
  refine w_seqk fun _ k85 => g_' ?_
  obtain ⟨y86, hy87, r88⟩ := bind_some r84
  refine s_ck 70 #[i_ 9] (by kernel_rfl) (c_viaductref01_E e61.wf hy87) ?_
  rintro _ H89 ⟨rfl, e90⟩
  refine q_ (.slice none 0 0) ?_
  have u95 := (((((r23.frS e37 Dj.nil_l).ext e46).frS e52 (hb47.djn (r23.ltF.le e37.next))).frS e61 Dj.nil_l).frS e90 Dj.nil_l)
  obtain ⟨H91, q92, e93, r94⟩ := Row.store (P := Try.prog) (t := 46) (p := 0) e90.wf u95 (.agg #[i_ y86, .slice none 0 0]) [i_ y86, .slice none 0 0] (by kernel_rfl) (by kernel_rfl) (one_cons (rfl) (one_cons (rfl) (one_nil))) (Nat.le_of_ble_eq_true (by kernel_rfl)) [i_ y86, .slice none 0 0] (by kernel_rfl)
  refine s_ek (undef) (by kernel_rfl) (map_ok q92) ?_
  refine s_nil (k85 _ _ ?_)
  refine w_ret (th_ret ?_)
  refine b_ret (fn := Try.f16) (vs := [.slice none 0 0, .agg #[i_ y86, .slice none 0 0]]) (aRes_tmp (by kernel_rfl) (aRes_cell (Eq.trans (b := aLoad Try.prog 46 (pt_ b19 0) H91) (by kernel_rfl) (r94.ld (by kernel_rfl))) (rfl))) ?_
  obtain rfl := Option.some.inj r88
  exact ⟨(.slice none 0 0), [], (.slice none 0 0), [], rfl, (FrS.step wf (FrS.step wf (FrS.step wf (FrS.step wf ((FrS.step wf (((FrS.refl (W := []) wf).extR e15).extR e21) e37 Inn.nil).extR e46) e52 (hb47.fresh (ntr (ntr e15.next e21.next) e37.next))) e61 Inn.nil) e90 Inn.nil) e93 (hb22.fresh e15.next)), Nst.nil, (Ow.nil (by decide)), Inn.nil, Inn.nil, Dj.nil_l⟩
 have r96 := ite_f h83 r82
 refine w_skip (k79 _ _ (w_seqk fun _ k97 => g_' (q_ (.slice none 0 0) (s_nil (k97 _ _ (w_seqk fun _ k98 => w_seqk fun _ k99 => g_' (q_ (i_ 0) (s_nil (k99 _ _ ?_)))))))))
 obtain ⟨o100, hx101, r102⟩ := bind_some r96
 refine w_mid (fun α H103 => ∃ (s107 : Value) (f108 : Fp), Has α [(3, pt_ b19 0), (6, s107)] ∧ FrS [] H60 H103 ∧ Nst (CR.sl (encI .u64) 1) H103 s107 o100 f108 ∧ Inn [] H60 f108) (fun _ k110 => ?_) (fun α H103 hM => ?_)
 ·refine w_block ?_
  obtain ⟨n112, hn113⟩ := loopO_iff.1 hx101
  refine w_loopn (fun n α H114 => ∃ (l0 : List (List (Int))), ∃ (s1 : Int), ∃ (s118 : Value), ∃ (f119 : Fp), iterO (fun zz_ => z_viaductref08_DocMatrix_l0 First To Weight zz_.1 zz_.2) n (l0, s1) = some o100 ∧ Has α [(1, pt_ b13 0), (3, pt_ b19 0), (5, i_ ((First.length : Int) - 1)), (6, s118), (7, i_ s1)] ∧ FrS [] H60 H114 ∧ Nst (CR.sl (encI .u64) 1) H114 s118 l0 f119 ∧ Inn [] H60 f119) n112 ⟨[], 0, (.slice none 0 0), [], hn113, ha_, (FrS.refl (W := []) e61.wf), Nst.nil, Inn.nil⟩ ?_
  rintro n112 α H114 ⟨l0, s1, s118, f119, hi122, hh121, e115, m117, i120⟩ K127 k127
  obtain ⟨n123, z124, rfl, hz125, hn126⟩ := iter_succ hi122
  obtain ⟨β, rfl⟩ := has_ex hh121
  clear hh121
  replace hz125 : z_viaductref08_DocMatrix_l0 First To Weight l0 s1 = some z124 := hz125
  unfold z_viaductref08_DocMatrix_l0 at hz125
  obtain ⟨a128, n129, c130, rfl⟩ := m117.form
  refine w_seqk fun _ k131 => w_seqk fun _ k132 => g_' (q_ (i_ s1) (q_ (i_ ((First.length : Int) - 1)) (q_ (.bool (decide (s1 < ((First.length : Int) - 1)))) (s_nil (k132 _ _ ?_)))))
  refine w_condp (s1 < ((First.length : Int) - 1)) (by kernel_rfl) rfl (fun h133 => ?_) (fun h133 => ?_)
  ·have r134 := ite_t h133 hz125
   refine w_skip (k131 _ _ (w_seqk fun _ k135 => w_block (g_' (q_ (.slice a128 n129 c130) ?_))))
   have u136 := (u75.frS e115 Dj.nil_l)
   refine l_' (.agg #[hd_First, hd_To, hd_Weight]) (aLoad Try.prog 24 (pt_ b13 0) H114) (u136.ld (by kernel_rfl)) ?_
   refine q_ (i_ s1) ?_
   have u137 := (u76.fr e115 Dj.nil_l)
   have u138 := (((((u29.fr e37 Dj.nil_l).ext e46).fr e52 (hb47.djn (h_To.lt.le (ntr (ntr e15.next e21.next) e37.next)))).fr e61 Dj.nil_l).fr e115 Dj.nil_l)
   have u139 := (((((u30.fr e37 Dj.nil_l).ext e46).fr e52 (hb47.djn (h_Weight.lt.le (ntr (ntr e15.next e21.next) e37.next)))).fr e61 Dj.nil_l).fr e115 Dj.nil_l)
   obtain ⟨y140, hy141, r142⟩ := bind_some r134
   refine s_ck 69 #[.agg #[hd_First, hd_To, hd_Weight], i_ s1] (by kernel_rfl) (c_viaductref08_From e115.wf u137 u138 u139 hy141) ?_
   rintro s143 H145 ⟨_, f144, rfl, e146, m147, i148⟩
   obtain ⟨a150, n151, c152, rfl⟩ := m147.form
   refine s_lsl e146.wf [.slice a150 n151 c152] 1 (one_cons (m147.one1) (one_nil)) (by kernel_rfl) fun b153 H154 e155 hb156 r157 => ?_
   have u159 := ((m117.fr e146 Dj.nil_l).ext e155)
   have u160 := (m147.ext e155)
   obtain ⟨g161, r162⟩ := G_some r142
   obtain ⟨s163, H164, f165, q169, e166, hm167, hf168⟩ := Nst.append1 (P := Try.prog) (C := (CR.sl (encI .u64) 1)) 24 e155.wf u159 r157 (cr_sl_mk u160) (Dj.symm (i148.djn m117.lt)) (at_ := #[34, 34]) rfl rfl (by kernel_rfl) (by kernel_rfl) (by decide) (by have := g161; first | omega | (simp at this ⊢; omega))
   obtain ⟨a170, n171, c172, rfl⟩ := hm167.form
   have w174 := hf168.grow2 (i148.fresh (Nat.le_refl _)) (ntr e146.next e155.next)
   refine s_ek (.slice a170 n171 c172) (by kernel_rfl) (q169) ?_
   refine q_ (.slice a170 n171 c172) (s_nil (k135 _ _ (g_' (q_ (i_ s1) ?_))))
   obtain ⟨g175, r176⟩ := G_some r162
   refine w_' (s1 + 1) (wrap64 g175) ?_
   refine q_ (i_ (s1 + 1)) (s_nil ?_)
   obtain rfl := Option.some.inj r176
   exact k127 n123 _ _ (Nat.lt_succ_self _) ⟨(l0 ++ [y140]), (s1 + 1), (.slice a170 n171 c172), f165, hn126, ha_, (FrS.step e61.wf ((FrS.step e61.wf (FrS.step e61.wf (FrS.refl (W := []) e61.wf) e115 Inn.nil) e146 Inn.nil).extR e155) e166 (i120.fresh (Nat.le_refl _))), hm167, (Inn.trans (i120.fresh (Nat.le_refl _)) e115.next w174)⟩
  have r177 := ite_f h133 hz125
  refine w_exit (th_exit (th_exit (bl_eq ?_)))
  obtain rfl := Option.some.inj r177
  obtain rfl := it_inr hn126
  exact k110 _ _ ⟨(.slice a128 n129 c130), f119, ha_, (FrS.step e61.wf (FrS.refl (W := []) e61.wf) e115 Inn.nil), m117, (i120.fresh (Nat.le_refl _))⟩
 obtain ⟨s107, f108, hh111, e104, m106, i109⟩ := hM
 obtain ⟨β, rfl⟩ := has_ex hh111
 clear hh111
 obtain ⟨a178, n179, c180, rfl⟩ := m106.form
 refine k98 _ _ (w_seqk fun _ k181 => g_' (q_ (.slice a178 n179 c180) (q_ (.agg #[i_ 0, .slice none 0 0]) (q_ (.slice a178 n179 c180) ?_))))
 have u186 := (((((r23.frS e37 Dj.nil_l).ext e46).frS e52 (hb47.djn (r23.ltF.le e37.next))).frS e61 Dj.nil_l).frS e104 Dj.nil_l)
 obtain ⟨H182, q183, e184, r185⟩ := Row.store (P := Try.prog) (t := 46) (p := 0) e104.wf u186 (.agg #[i_ 0, .slice none 0 0]) [i_ 0, .slice none 0 0] (by kernel_rfl) (by kernel_rfl) (one_cons (rfl) (one_cons (rfl) (one_nil))) (Nat.le_of_ble_eq_true (by kernel_rfl)) [i_ 0, .slice none 0 0] (by kernel_rfl)
 refine s_ek (undef) (by kernel_rfl) (map_ok q183) ?_
 refine s_nil (k181 _ _ ?_)
 refine w_ret ?_
 refine b_ret (fn := Try.f16) (vs := [.slice a178 n179 c180, .agg #[i_ 0, .slice none 0 0]]) (aRes_tmp (by kernel_rfl) (aRes_cell (Eq.trans (b := aLoad Try.prog 46 (pt_ b19 0) H182) (by kernel_rfl) (r185.ld (by kernel_rfl))) (rfl))) ?_
 have u187 := (m106.fr e184 (Dj.symm (i109.djn (r23.ltF.le (ntr (ntr (ntr e37.next e46.next) e52.next) e61.next)))))
 obtain rfl := Option.some.inj r102
 exact ⟨(.slice a178 n179 c180), f108, (.slice none 0 0), [], rfl, (FrS.step wf (FrS.step wf (FrS.step wf (FrS.step wf ((FrS.step wf (((FrS.refl (W := []) wf).extR e15).extR e21) e37 Inn.nil).extR e46) e52 (hb47.fresh (ntr (ntr e15.next e21.next) e37.next))) e61 Inn.nil) e104 Inn.nil) e184 (hb22.fresh e15.next)), u187, (Ow.nil (by decide)), (i109.fresh (ntr (ntr (ntr (ntr (ntr e15.next e21.next) e37.next) e46.next) e52.next) e61.next)), Inn.nil, Dj.nil_r⟩
theorem c_viaductref08_DocPath {H : AH} {hd_First : Value} {fp_First : Fp} {hd_To : Value} {fp_To : Fp} {hd_Weight : Value} {fp_Weight : Fp} {First : List (Int)} {To : List (Int)} {Weight : List (Int)} {s : Int} {t : Int} {r : Int × Int × List (Int × Int)}
    (wf : WF H) (h_First : Sq (encI .i64) 1 H hd_First First fp_First) (h_To : Sq (encI .i64) 1 H hd_To To fp_To) (h_Weight : Sq (encI .i64) 1 H hd_Weight Weight fp_Weight) (hr : z_viaductref08_DocPath First To Weight s t = some r) :
    ACalls Try.prog 17 #[.agg #[hd_First, hd_To, hd_Weight], i_ s, i_ t] H fun v H' => ∃ (s3 : Value) (f4 : Fp), v = .tuple #[.int .u64 r.1, .agg #[i_ r.2.1, s3]] ∧ FrS [] H H' ∧ Ow enc_i64_i64 2 H' s3 r.2.2 f4 ∧ Inn [] H f4 := by
 refine acalls_of_body mixed Try.func17 rfl (Nat.le_of_ble_eq_true rfl) ?_
 unfold z_viaductref08_DocPath at hr
 refine w_seqk fun _ k6 => g_' ?_
 refine s_rwl wf [hd_First, hd_To, hd_Weight] (one_cons (h_First.one1) (one_cons (h_To.one1) (one_cons (h_Weight.one1) (one_nil)))) (by kernel_rfl) fun b7 H8 e9 hb10 r11 => ?_
 refine q_ (.int .u64 0) ?_
 refine s_rwk e9.wf [i_ 0, .slice none 0 0] (by kernel_rfl) fun b13 H14 e15 hb16 r17 => ?_
 refine s_nil (k6 _ _ (w_seqk fun _ k19 => g_' ?_))
 have u20 := (r11.ext e15)
 refine l_' (.agg #[hd_First, hd_To, hd_Weight]) (aLoad Try.prog 24 (pt_ b7 0) H14) (u20.ld (by kernel_rfl)) ?_
 refine q_ (i_ s) ?_
 have u21 := ((h_First.ext e9).ext e15)
 have u22 := ((h_To.ext e9).ext e15)
 have u23 := ((h_Weight.ext e9).ext e15)
 obtain ⟨y24, hy25, r26⟩ := bind_some hr
 refine s_ck 68 #[.agg #[hd_First, hd_To, hd_Weight], i_ s] (by kernel_rfl) (c_viaductref08_node e15.wf u21 u22 u23 hy25) ?_
 rintro _ H29 ⟨s27, f28, rfl, e30, m31, i32⟩
 obtain ⟨a34, n35, c36, rfl⟩ := m31.form
 refine s_rwk e30.wf [i_ 0, .slice none 0 0] (by kernel_rfl) fun b37 H38 e39 hb40 r41 => ?_
 have u47 := (m31.ext e39)
 obtain ⟨H43, q44, e45, r46⟩ := Row.store (P := Try.prog) (t := 46) (p := 0) e39.wf r41 (.agg #[i_ y24.1, .slice a34 n35 c36]) [i_ y24.1, .slice a34 n35 c36] (by kernel_rfl) (by kernel_rfl) (one_cons (rfl) (one_cons (u47.one1) (one_nil))) (Nat.le_of_ble_eq_true (by kernel_rfl)) [i_ y24.1, .slice a34 n35 c36] (by kernel_rfl)
 refine s_ek (undef) (by kernel_rfl) (map_ok q44) ?_
 refine s_nil (k19 _ _ (w_seqk fun _ k48 => w_seqk fun _ k49 => ?_))
 obtain ⟨o50, hx51, r52⟩ := bind_some r26
 refine w_mid (fun α H53 => Has α [(1, i_ s), (2, i_ t), (3, pt_ b7 0), (7, pt_ b13 0), (8, pt_ b37 0), (21, .bool o50)] ∧ FrS [] H43 H53) (fun _ k55 => ?_) (fun α H53 hM => ?_)
 ·refine g_' ?_
  refine l_' (.agg #[i_ y24.1, .slice a34 n35 c36]) (aLoad Try.prog 46 (pt_ b37 0) H43) (r46.ld (by kernel_rfl)) ?_
  have u57 := (u47.fr e45 (hb40.djn m31.lt))
  obtain ⟨y58, hy59, r60⟩ := bind_some hx51
  refine s_ck 56 #[.agg #[i_ y24.1, .slice a34 n35 c36]] (by kernel_rfl) (c_viaductref01_Err_Bad e45.wf u57.sq hy59) ?_
  rintro _ H61 ⟨rfl, e62⟩
  by_cases h63 : y58 = true
  ·have r64 := ite_t h63 r60
   rw [h63]
   refine q_ (.bool false) (q_ (.bool false) (n_' (n_' (n_' (n_' (q_ (.bool false) (s_nil ?_)))))))
   obtain rfl := Option.some.inj r64
   exact k55 _ _ ⟨ha_, (FrS.step e45.wf (FrS.refl (W := []) e45.wf) e62 Inn.nil)⟩
  have r66 := ite_f h63 r60
  rw [nb h63]
  refine q_ (.bool true) (q_ (.bool true) ?_)
  have u68 := ((((u20.frS e30 Dj.nil_l).ext e39).frS e45 (hb40.djn (r11.ltF.le (ntr e15.next e30.next)))).frS e62 Dj.nil_l)
  refine l_' (.agg #[hd_First, hd_To, hd_Weight]) (aLoad Try.prog 24 (pt_ b7 0) H61) (u68.ld (by kernel_rfl)) ?_
  refine q_ (i_ t) ?_
  have u69 := ((((u21.fr e30 Dj.nil_l).ext e39).fr e45 (hb40.djn (h_First.lt.le (ntr (ntr e9.next e15.next) e30.next)))).fr e62 Dj.nil_l)
  have u70 := ((((u22.fr e30 Dj.nil_l).ext e39).fr e45 (hb40.djn (h_To.lt.le (ntr (ntr e9.next e15.next) e30.next)))).fr e62 Dj.nil_l)
  have u71 := ((((u23.fr e30 Dj.nil_l).ext e39).fr e45 (hb40.djn (h_Weight.lt.le (ntr (ntr e9.next e15.next) e30.next)))).fr e62 Dj.nil_l)
  obtain ⟨y72, hy73, r74⟩ := bind_some r66
  refine s_ck 71 #[.agg #[hd_First, hd_To, hd_Weight], i_ t] (by kernel_rfl) (c_viaductref05_Node e62.wf u69 u70 u71 hy73) ?_
  rintro _ H75 ⟨rfl, e76⟩
  refine q_ (.bool (!y72)) (q_ (.bool (!y72)) (s_nil ?_))
  obtain rfl := Option.some.inj r74
  exact k55 _ _ ⟨ha_, (FrS.step e45.wf (FrS.step e45.wf (FrS.refl (W := []) e45.wf) e62 Inn.nil) e76 Inn.nil)⟩
 obtain ⟨hh56, e54⟩ := hM
 obtain ⟨β, rfl⟩ := has_ex hh56
 clear hh56
 refine k49 _ _ ?_
 obtain ⟨o77, hx78, r79⟩ := bind_some r52
 refine w_mid (fun α H80 => ∃ (s84 : Value) (f85 : Fp), Has α [(1, i_ s), (2, i_ t), (3, pt_ b7 0), (7, pt_ b13 0), (8, pt_ b37 0)] ∧ FrS [b37] H53 H80 ∧ Ow enc_i64_i64 2 H80 s84 o77.2 f85 ∧ Row H80 b37 [i_ o77.1, s84] ∧ Inn f28 H53 f85) (fun _ k89 => ?_) (fun α H80 hM => ?_)
 ·refine w_cond (o50) (by kernel_rfl) rfl (fun h91 => ?_) (fun h91 => ?_)
  ·have r92 := ite_t h91 hx78
   refine g_' ?_
   obtain ⟨y93, hy94, r95⟩ := bind_some r92
   refine s_ck 70 #[i_ 7] (by kernel_rfl) (c_viaductref01_E e54.wf hy94) ?_
   rintro _ H96 ⟨rfl, e97⟩
   have u102 := ((r46.frS e54 Dj.nil_l).frS e97 Dj.nil_l)
   obtain ⟨H98, q99, e100, r101⟩ := Row.store (P := Try.prog) (t := 46) (p := 0) e97.wf u102 (.agg #[i_ y93, .slice none 0 0]) [i_ y93, .slice none 0 0] (by kernel_rfl) (by kernel_rfl) (one_cons (rfl) (one_cons (rfl) (one_nil))) (Nat.le_of_ble_eq_true (by kernel_rfl)) [i_ y93, .slice none 0 0] (by kernel_rfl)
   refine s_ek (undef) (by kernel_rfl) (map_ok q99) ?_
   refine s_nil ?_
   obtain rfl := Option.some.inj r95
   exact k89 _ _ ⟨(.slice none 0 0), [], ha_, (FrS.step e54.wf (FrS.step e54.wf (FrS.refl (W := [b37]) e54.wf) e97 Inn.nil) e100 Inn.refl'), (Ow.nil (by decide)), r101, Inn.nil⟩
  have r103 := ite_bf h91 hx78
  refine w_skip ?_
  have u104 := ((u47.fr e45 (hb40.djn m31.lt)).fr e54 Dj.nil_l)
  have u105 := (r46.frS e54 Dj.nil_l)
  obtain rfl := Option.some.inj r103
  exact k89 _ _ ⟨(.slice a34 n35 c36), f28, ha_, (FrS.refl (W := [b37]) e54.wf), u104, u105, Inn.refl'⟩
 obtain ⟨s84, f85, hh90, e81, m83, m87, i88⟩ := hM
 obtain ⟨β, rfl⟩ := has_ex hh90
 clear hh90
 obtain ⟨a106, n107, c108, rfl⟩ := m83.form
 refine k48 _ _ (w_seqk fun _ k109 => w_seqk fun _ k110 => g_' ?_)
 refine l_' (.agg #[i_ o77.1, .slice a106 n107 c108]) (aLoad Try.prog 46 (pt_ b37 0) H80) (m87.ld (by kernel_rfl)) ?_
 obtain ⟨y111, hy112, r113⟩ := bind_some r79
 refine s_ck 56 #[.agg #[i_ o77.1, .slice a106 n107 c108]] (by kernel_rfl) (c_viaductref01_Err_Bad e81.wf m83.sq hy112) ?_
 rintro _ H114 ⟨rfl, e115⟩
 refine s_nil (k110 _ _ ?_)
 refine w_cond (y111) (by kernel_rfl) rfl (fun h116 => ?_) (fun h116 => ?_)
 ·have r117 := ite_t h116 r113
  refine w_seqk fun _ k118 => ?_
  refine w_draw [0, 1, 2] (by kernel_rfl) ?_
  have u119 := (m87.frS e115 Dj.nil_l)
  refine m_' (.agg #[i_ o77.1, .slice a106 n107 c108]) (aLoad Try.prog 46 (pt_ b37 0) H114) (u119.ld (by kernel_rfl)) ?_
  refine e_' (.int .u64 0) ?_
  have u124 := ((((((r17.frS e30 Dj.nil_l).ext e39).frS e45 (hb40.djn (r17.ltF.le e30.next))).frS e54 Dj.nil_l).frS e81 (hb40.djn (r17.ltF.le e30.next))).frS e115 Dj.nil_l)
  have u125 := (m83.fr e115 Dj.nil_l)
  obtain ⟨H120, q121, e122, r123⟩ := Row.store (P := Try.prog) (t := 46) (p := 0) e115.wf u124 (.agg #[i_ o77.1, .slice a106 n107 c108]) [i_ o77.1, .slice a106 n107 c108] (by kernel_rfl) (by kernel_rfl) (one_cons (rfl) (one_cons (u125.one1) (one_nil))) (Nat.le_of_ble_eq_true (by kernel_rfl)) [i_ o77.1, .slice a106 n107 c108] (by kernel_rfl)
  refine d_ek (undef) (by kernel_rfl) (map_ok q121) (st_nil) ?_
  refine d_nil ?_
  refine k118 _ _ ?_
  refine w_ret (th_ret ?_)
  refine b_ret (fn := Try.f17) (vs := [.int .u64 0, .agg #[i_ o77.1, .slice a106 n107 c108]]) (aRes_tmp (by kernel_rfl) (aRes_cell (Eq.trans (b := aLoad Try.prog 46 (pt_ b13 0) H120) (by kernel_rfl) (r123.ld (by kernel_rfl))) (rfl))) ?_
  have u126 := (u125.fr e122 (Dj.symm (i88.dj (i32.djn r17.ltF) (r17.ltF.le (ntr (ntr (ntr e30.next e39.next) e45.next) e54.next)))))
  obtain rfl := Option.some.inj r117
  exact ⟨(.slice a106 n107 c108), f85, rfl, (FrS.step wf (FrS.step wf (FrS.step wf (FrS.step wf (FrS.step wf ((FrS.step wf (((FrS.refl (W := []) wf).extR e9).extR e15) e30 Inn.nil).extR e39) e45 (hb40.fresh (ntr (ntr e9.next e15.next) e30.next))) e54 Inn.nil) e81 (hb40.fresh (ntr (ntr e9.next e15.next) e30.next))) e115 Inn.nil) e122 (hb16.fresh e9.next)), u126, (Inn.trans (i32.fresh (ntr e9.next e15.next)) (ntr (ntr (ntr (ntr (ntr e9.next e15.next) e30.next) e39.next) e45.next) e54.next) i88)⟩
 have r127 := ite_bf h116 r113
 refine w_skip (k109 _ _ (w_seqk fun _ k128 => g_' ?_))
 have u129 := ((((((u20.frS e30 Dj.nil_l).ext e39).frS e45 (hb40.djn (r11.ltF.le (ntr e15.next e30.next)))).frS e54 Dj.nil_l).frS e81 (hb40.djn (r11.ltF.le (ntr e15.next e30.next)))).frS e115 Dj.nil_l)
 refine l_' (.agg #[hd_First, hd_To, hd_Weight]) (aLoad Try.prog 24 (pt_ b7 0) H114) (u129.ld (by kernel_rfl)) ?_
 refine q_ (i_ s) ?_
 have u130 := ((((((u21.fr e30 Dj.nil_l).ext e39).fr e45 (hb40.djn (h_First.lt.le (ntr (ntr e9.next e15.next) e30.next)))).fr e54 Dj.nil_l).fr e81 (hb40.djn (h_First.lt.le (ntr (ntr e9.next e15.next) e30.next)))).fr e115 Dj.nil_l)
 have u131 := ((((((u22.fr e30 Dj.nil_l).ext e39).fr e45 (hb40.djn (h_To.lt.le (ntr (ntr e9.next e15.next) e30.next)))).fr e54 Dj.nil_l).fr e81 (hb40.djn (h_To.lt.le (ntr (ntr e9.next e15.next) e30.next)))).fr e115 Dj.nil_l)
 have u132 := ((((((u23.fr e30 Dj.nil_l).ext e39).fr e45 (hb40.djn (h_Weight.lt.le (ntr (ntr e9.next e15.next) e30.next)))).fr e54 Dj.nil_l).fr e81 (hb40.djn (h_Weight.lt.le (ntr (ntr e9.next e15.next) e30.next)))).fr e115 Dj.nil_l)
 obtain ⟨y133, hy134, r135⟩ := bind_some r127
 refine s_ck 69 #[.agg #[hd_First, hd_To, hd_Weight], i_ s] (by kernel_rfl) (c_viaductref08_From e115.wf u130 u131 u132 hy134) ?_
 rintro s136 H138 ⟨_, f137, rfl, e139, m140, i141⟩
 obtain ⟨a143, n144, c145, rfl⟩ := m140.form
 refine q_ (i_ t) ?_
 obtain ⟨g146, r147⟩ := G_some r135
 refine l_' (elp (.slice a143 n144 c145) 1 t.toNat 0) (aIndexAddr Try.prog 29 (.slice a143 n144 c145) (i_ t)) (m140.sq.idxb (by kernel_rfl) g146.1 g146.2) ?_
 refine l_' (.int .u64 (gt y133 t)) (aLoad Try.prog 42 (elp (.slice a143 n144 c145) 1 t.toNat 0) H138) (m140.sq.ld g146.1 g146.2 (by kernel_rfl)) ?_
 refine q_ (.int .u64 (gt y133 t)) (s_nil (k128 _ _ (w_seqk fun _ k148 => w_seqk fun _ k149 => g_' (q_ (.int .u64 (gt y133 t)) (q_ (.bool (decide ((gt y133 t) = 18446744073709551615))) (s_nil (k149 _ _ ?_)))))))
 refine w_condp ((gt y133 t) = 18446744073709551615) (by kernel_rfl) rfl (fun h150 => ?_) (fun h150 => ?_)
 ·have r151 := ite_t h150 r147
  refine w_seqk fun _ k152 => g_' ?_
  obtain ⟨y153, hy154, r155⟩ := bind_some r151
  refine s_ck 70 #[i_ 16] (by kernel_rfl) (c_viaductref01_E e139.wf hy154) ?_
  rintro _ H156 ⟨rfl, e157⟩
  refine q_ (.int .u64 0) ?_
  have u162 := ((((((((r17.frS e30 Dj.nil_l).ext e39).frS e45 (hb40.djn (r17.ltF.le e30.next))).frS e54 Dj.nil_l).frS e81 (hb40.djn (r17.ltF.le e30.next))).frS e115 Dj.nil_l).frS e139 Dj.nil_l).frS e157 Dj.nil_l)
  obtain ⟨H158, q159, e160, r161⟩ := Row.store (P := Try.prog) (t := 46) (p := 0) e157.wf u162 (.agg #[i_ y153, .slice none 0 0]) [i_ y153, .slice none 0 0] (by kernel_rfl) (by kernel_rfl) (one_cons (rfl) (one_cons (rfl) (one_nil))) (Nat.le_of_ble_eq_true (by kernel_rfl)) [i_ y153, .slice none 0 0] (by kernel_rfl)
  refine s_ek (undef) (by kernel_rfl) (map_ok q159) ?_
  refine s_nil (k152 _ _ ?_)
  refine w_ret (th_ret ?_)
  refine b_ret (fn := Try.f17) (vs := [.int .u64 0, .agg #[i_ y153, .slice none 0 0]]) (aRes_tmp (by kernel_rfl) (aRes_cell (Eq.trans (b := aLoad Try.prog 46 (pt_ b13 0) H158) (by kernel_rfl) (r161.ld (by kernel_rfl))) (rfl))) ?_
  obtain rfl := Option.some.inj r155
  exact ⟨(.slice none 0 0), [], rfl, (FrS.step wf (FrS.step wf (FrS.step wf (FrS.step wf (FrS.step wf (FrS.step wf (FrS.step wf ((FrS.step wf (((FrS.refl (W := []) wf).extR e9).extR e15) e30 Inn.nil).extR e39) e45 (hb40.fresh (ntr (ntr e9.next e15.next) e30.next))) e54 Inn.nil) e81 (hb40.fresh (ntr (ntr e9.next e15.next) e30.next))) e115 Inn.nil) e139 Inn.nil) e157 Inn.nil) e160 (hb16.fresh e9.next)), (Ow.nil (by decide)), Inn.nil⟩
 have r163 := ite_f h150 r147
 refine w_skip (k148 _ _ (w_seqk fun _ k164 => ?_))
 refine w_draw [0, 1, 2, 3] (by kernel_rfl) ?_
 refine e_' (.int .u64 (gt y133 t)) ?_
 have u165 := ((m87.frS e115 Dj.nil_l).frS e139 Dj.nil_l)
 refine m_' (.agg #[i_ o77.1, .slice a106 n107 c108]) (aLoad Try.prog 46 (pt_ b37 0) H138) (u165.ld (by kernel_rfl)) ?_
 refine e_' (.int .u64 (gt y133 t)) ?_
 have u170 := (((((((r17.frS e30 Dj.nil_l).ext e39).frS e45 (hb40.djn (r17.ltF.le e30.next))).frS e54 Dj.nil_l).frS e81 (hb40.djn (r17.ltF.le e30.next))).frS e115 Dj.nil_l).frS e139 Dj.nil_l)
 have u171 := ((m83.fr e115 Dj.nil_l).fr e139 Dj.nil_l)
 obtain ⟨H166, q167, e168, r169⟩ := Row.store (P := Try.prog) (t := 46) (p := 0) e139.wf u170 (.agg #[i_ o77.1, .slice a106 n107 c108]) [i_ o77.1, .slice a106 n107 c108] (by kernel_rfl) (by kernel_rfl) (one_cons (rfl) (one_cons (u171.one1) (one_nil))) (Nat.le_of_ble_eq_true (by kernel_rfl)) [i_ o77.1, .slice a106 n107 c108] (by kernel_rfl)
 refine d_ek (undef) (by kernel_rfl) (map_ok q167) (st_nil) ?_
 refine d_nil ?_
 refine k164 _ _ ?_
 refine w_ret ?_
 refine b_ret (fn := Try.f17) (vs := [.int .u64 (gt y133 t), .agg #[i_ o77.1, .slice a106 n107 c108]]) (aRes_tmp (by kernel_rfl) (aRes_cell (Eq.trans (b := aLoad Try.prog 46 (pt_ b13 0) H166) (by kernel_rfl) (r169.ld (by kernel_rfl))) (rfl))) ?_
 have u172 := (u171.fr e168 (Dj.symm (i88.dj (i32.djn r17.ltF) (r17.ltF.le (ntr (ntr (ntr e30.next e39.next) e45.next) e54.next)))))
 obtain rfl := Option.some.inj r163
 exact ⟨(.slice a106 n107 c108), f85, rfl, (FrS.step wf (FrS.step wf (FrS.step wf (FrS.step wf (FrS.step wf (FrS.step wf ((FrS.step wf (((FrS.refl (W := []) wf).extR e9).extR e15) e30 Inn.nil).extR e39) e45 (hb40.fresh (ntr (ntr e9.next e15.next) e30.next))) e54 Inn.nil) e81 (hb40.fresh (ntr (ntr e9.next e15.next) e30.next))) e115 Inn.nil) e139 Inn.nil) e168 (hb16.fresh e9.next)), u172, (Inn.trans (i32.fresh (ntr e9.next e15.next)) (ntr (ntr (ntr (ntr (ntr e9.next e15.next) e30.next) e39.next) e45.next) e54.next) i88)⟩
theorem c_viaductref04_SameRow {H : AH} {hd_a : Value} {fp_a : Fp} {hd_b : Value} {fp_b : Fp} {a : List (Int)} {b : List (Int)} {r : Bool}
    (wf : WF H) (h_a : Sq (encI .u64) 1 H hd_a a fp_a) (h_b : Sq (encI .u64) 1 H hd_b b fp_b) (hr : z_viaductref04_SameRow a b = some r) :
    ACalls Try.prog 18 #[hd_a, hd_b] H fun v H' => v = .bool r ∧ H = H' := by
 refine acalls_of_body mixed Try.func18 rfl (Nat.le_of_ble_eq_true rfl) ?_
 unfold z_viaductref04_SameRow at hr
 refine w_seqk fun _ k1 => g_' (q_ (.bool false) (s_nil (k1 _ _ (w_seqk fun _ k2 => w_seqk fun _ k3 => g_' (q_ (hd_a) ?_)))))
 refine l_' (i_ (a.length : Int)) (aLen Try.prog 29 hd_a H) (h_a.lenb (by kernel_rfl)) ?_
 refine q_ (hd_b) ?_
 refine l_' (i_ (b.length : Int)) (aLen Try.prog 29 hd_b H) (h_b.lenb (by kernel_rfl)) ?_
 refine q_ (.bool (!decide ((a.length : Int) = (b.length : Int)))) (s_nil (k3 _ _ ?_))
 refine w_condn ((a.length : Int) = (b.length : Int)) (by kernel_rfl) rfl (fun h4 => ?_) (fun h4 => ?_)
 ·have r5 := ite_f h4 hr
  refine w_seqk fun _ k6 => g_' (q_ (.bool false) (s_nil (k6 _ _ ?_)))
  refine w_ret (th_ret ?_)
  refine b_ret (fn := Try.f18) (vs := [.bool false]) (aRes_tmp (by kernel_rfl) (rfl)) ?_
  obtain rfl := Option.some.inj r5
  exact ⟨rfl, rfl⟩
 have r7 := ite_t h4 hr
 refine w_skip (k2 _ _ (w_seqk fun _ k8 => w_seqk fun _ k9 => g_' (q_ (hd_a) ?_)))
 refine l_' (i_ (a.length : Int)) (aLen Try.prog 29 hd_a H) (h_a.lenb (by kernel_rfl)) ?_
 refine q_ (i_ 0) (s_nil (k9 _ _ ?_))
 obtain ⟨z13, hx11, r12⟩ := bind_some r7
 refine w_mid (fun α H14 => ∃ o10, z13 = Sum.inr o10 ∧ Has α [] ∧ H = H14) (fun _ k16 => ?_) (fun α H14 hM => ?_)
 ·refine w_block ?_
  obtain ⟨n18, hn19⟩ := loopO_iff.1 hx11
  refine w_loopn (fun n α H20 => ∃ (i0 : Int), iterO (fun zz_ => z_viaductref04_SameRow_l0 a b zz_) n i0 = some z13 ∧ Has α [(0, hd_a), (1, hd_b), (12, i_ (a.length : Int)), (13, i_ i0)] ∧ H = H20) n18 ⟨0, hn19, ha_, rfl⟩ ?_
  rintro n18 α H20 ⟨i0, hi23, hh22, rfl⟩ K28 k28
  obtain ⟨n24, z25, rfl, hz26, hn27⟩ := iter_succ hi23
  obtain ⟨β, rfl⟩ := has_ex hh22
  clear hh22
  replace hz26 : z_viaductref04_SameRow_l0 a b i0 = some z25 := hz26
  unfold z_viaductref04_SameRow_l0 at hz26
  refine w_seqk fun _ k29 => g_' (q_ (.bool (decide (i0 < (a.length : Int)))) (s_nil (k29 _ _ (w_seqk fun _ k30 => ?_))))
  refine w_condp (i0 < (a.length : Int)) (by kernel_rfl) rfl (fun h31 => ?_) (fun h31 => ?_)
  ·have r32 := ite_t h31 hz26
   refine w_skip (k30 _ _ (w_seqk fun _ k33 => w_block (w_seqk fun _ k34 => g_' (q_ (i_ i0) (q_ (i_ i0) (s_nil (k34 _ _ (w_seqk fun _ k35 => ?_))))))))
   refine w_draw [0, 1, 2, 3, 4, 5, 6, 7, 8] (by kernel_rfl) ?_
   refine e_' (hd_a) (e_' (i_ i0) ?_)
   obtain ⟨g36, r37⟩ := G_some r32
   refine m_' (elp hd_a 1 i0.toNat 0) (aIndexAddr Try.prog 29 hd_a (i_ i0)) (h_a.idxb (by kernel_rfl) g36 h31) ?_
   refine m_' (.int .u64 (gt a i0)) (aLoad Try.prog 42 (elp hd_a 1 i0.toNat 0) H) (h_a.ld g36 h31 (by kernel_rfl)) ?_
   refine e_' (hd_b) (e_' (i_ i0) ?_)
   obtain ⟨g38, r39⟩ := G_some r37
   refine m_' (elp hd_b 1 i0.toNat 0) (aIndexAddr Try.prog 29 hd_b (i_ i0)) (h_b.idxb (by kernel_rfl) g36 g38) ?_
   refine m_' (.int .u64 (gt b i0)) (aLoad Try.prog 42 (elp hd_b 1 i0.toNat 0) H) (h_b.ld g36 g38 (by kernel_rfl)) ?_
   refine e_' (.bool (!decide ((gt a i0) = (gt b i0)))) ?_
   refine d_nil ?_
   refine k35 _ _ ?_
   refine w_condn ((gt a i0) = (gt b i0)) (by kernel_rfl) rfl (fun h40 => ?_) (fun h40 => ?_)
   ·have r41 := ite_f h40 r39
    refine w_seqk fun _ k42 => g_' (q_ (.bool false) (s_nil (k42 _ _ ?_)))
    refine w_ret (bl_ret (th_ret (th_ret (bl_ret (th_ret (th_ret ?_))))))
    obtain ⟨v43, hv44, hz45⟩ := map_some r41
    subst hz45
    obtain rfl := it_inr hn27
    have hq46 := elim_inl r12
    rw [hq46] at hv44
    refine b_ret (fn := Try.f18) (vs := [.bool false]) (aRes_tmp (by kernel_rfl) (rfl)) ?_
    obtain rfl := Option.some.inj hv44
    exact ⟨rfl, rfl⟩
   have r47 := ite_t h40 r39
   refine w_skip (k33 _ _ (g_' ?_))
   obtain ⟨g48, r49⟩ := G_some r47
   refine w_' (i0 + 1) (wrap64 (by have := g48; omega)) ?_
   refine q_ (i_ (i0 + 1)) (s_nil ?_)
   obtain rfl := Option.some.inj r49
   exact k28 n24 _ _ (Nat.lt_succ_self _) ⟨(i0 + 1), hn27, ha_, rfl⟩
  have r50 := ite_f h31 hz26
  refine w_exit (th_exit (th_exit (bl_eq ?_)))
  obtain rfl := Option.some.inj r50
  obtain rfl := it_inr hn27
  exact k16 _ _ ⟨_, rfl, trivial, rfl⟩
 obtain ⟨o10, rfl, hh17, rfl⟩ := hM
 have r51 := elim_inr r12
 obtain ⟨β, rfl⟩ := has_ex hh17
 clear hh17
 refine k8 _ _ (w_seqk fun _ k52 => g_' (q_ (.bool true) (s_nil (k52 _ _ ?_))))
 refine w_ret ?_
 refine b_ret (fn := Try.f18) (vs := [.bool true]) (aRes_tmp (by kernel_rfl) (rfl)) ?_
 obtain rfl := Option.some.inj r51
 exact ⟨rfl, rfl⟩
theorem c_viaductref04_SameMatrix {H : AH} {hd_a : Value} {fp_a : Fp} {hd_b : Value} {fp_b : Fp} {a : List (List (Int))} {b : List (List (Int))} {r : Bool}
    (wf : WF H) (h_a : Nst (CR.sl (encI .u64) 1) H hd_a a fp_a) (h_b : Nst (CR.sl (encI .u64) 1) H hd_b b fp_b) (hr : z_viaductref04_SameMatrix a b = some r) :
    ACalls Try.prog 19 #[hd_a, hd_b] H fun v H' => v = .bool r ∧ H = H' := by
 refine acalls_of_body mixed Try.func19 rfl (Nat.le_of_ble_eq_true rfl) ?_
 unfold z_viaductref04_SameMatrix at hr
 refine w_seqk fun _ k1 => g_' (q_ (.bool false) (s_nil (k1 _ _ (w_seqk fun _ k2 => w_seqk fun _ k3 => g_' (q_ (hd_a) ?_)))))
 refine l_' (i_ (a.length : Int)) (aLen Try.prog 34 hd_a H) (h_a.lenb (by kernel_rfl)) ?_
 refine q_ (hd_b) ?_
 refine l_' (i_ (b.length : Int)) (aLen Try.prog 34 hd_b H) (h_b.lenb (by kernel_rfl)) ?_
 refine q_ (.bool (!decide ((a.length : Int) = (b.length : Int)))) (s_nil (k3 _ _ ?_))
 refine w_condn ((a.length : Int) = (b.length : Int)) (by kernel_rfl) rfl (fun h4 => ?_) (fun h4 => ?_)
 ·have r5 := ite_f h4 hr
  refine w_seqk fun _ k6 => g_' (q_ (.bool false) (s_nil (k6 _ _ ?_)))
  refine w_ret (th_ret ?_)
  refine b_ret (fn := Try.f19) (vs := [.bool false]) (aRes_tmp (by kernel_rfl) (rfl)) ?_
  obtain rfl := Option.some.inj r5
  exact ⟨rfl, rfl⟩
 have r7 := ite_t h4 hr
 refine w_skip (k2 _ _ (w_seqk fun _ k8 => w_seqk fun _ k9 => g_' (q_ (hd_a) ?_)))
 refine l_' (i_ (a.length : Int)) (aLen Try.prog 34 hd_a H) (h_a.lenb (by kernel_rfl)) ?_
 refine q_ (i_ 0) (s_nil (k9 _ _ ?_))
 obtain ⟨z13, hx11, r12⟩ := bind_some r7
 refine w_mid (fun α H14 => ∃ o10, z13 = Sum.inr o10 ∧ Has α [] ∧ H = H14) (fun _ k16 => ?_) (fun α H14 hM => ?_)
 ·refine w_block ?_
  obtain ⟨n18, hn19⟩ := loopO_iff.1 hx11
  refine w_loopn (fun n α H20 => ∃ (i0 : Int), iterO (fun zz_ => z_viaductref04_SameMatrix_l0 a b zz_) n i0 = some z13 ∧ Has α [(0, hd_a), (1, hd_b), (12, i_ (a.length : Int)), (13, i_ i0)] ∧ H = H20) n18 ⟨0, hn19, ha_, rfl⟩ ?_
  rintro n18 α H20 ⟨i0, hi23, hh22, rfl⟩ K28 k28
  obtain ⟨n24, z25, rfl, hz26, hn27⟩ := iter_succ hi23
  obtain ⟨β, rfl⟩ := has_ex hh22
  clear hh22
  replace hz26 : z_viaductref04_SameMatrix_l0 a b i0 = some z25 := hz26
  unfold z_viaductref04_SameMatrix_l0 at hz26
  refine w_seqk fun _ k29 => g_' (q_ (.bool (decide (i0 < (a.length : Int)))) (s_nil (k29 _ _ (w_seqk fun _ k30 => ?_))))
  refine w_condp (i0 < (a.length : Int)) (by kernel_rfl) rfl (fun h31 => ?_) (fun h31 => ?_)
  ·have r32 := ite_t h31 hz26
   refine w_skip (k30 _ _ (w_seqk fun _ k33 => w_block (w_seqk fun _ k34 => g_' (q_ (i_ i0) (q_ (i_ i0) (s_nil (k34 _ _ (w_seqk fun _ k35 => ?_))))))))
   refine w_draw [0, 1, 2, 3, 4, 5, 6, 7, 8, 9] (by kernel_rfl) ?_
   refine e_' (hd_a) (e_' (i_ i0) ?_)
   obtain ⟨g36, r37⟩ := G_some r32
   refine m_' (elp hd_a 1 i0.toNat 0) (aIndexAddr Try.prog 34 hd_a (i_ i0)) (h_a.idxb (by kernel_rfl) g36 h31) ?_
   obtain ⟨cs38, f39, hk40, hs41, hl42, hq43⟩ := h_a.kid g36 h31
   obtain ⟨s44, rfl, ho46⟩ := cr_sl_open hk40
   have kd47 : KdS (encI .u64) 1 H s44 (gt a i0) fp_a hd_a 1 i0.toNat 0 := ⟨ho46.sq.up hs41 h_a.lt, hq43 0 _ rfl (by decide)⟩
   obtain ⟨a48, n49, c50, rfl⟩ := kd47.sq.form
   refine m_' (.slice a48 n49 c50) (aLoad Try.prog 29 (elp hd_a 1 i0.toNat 0) H) (hl42 _ _ _ _ (by kernel_rfl)) ?_
   refine e_' (hd_b) (e_' (i_ i0) ?_)
   obtain ⟨g52, r53⟩ := G_some r37
   refine m_' (elp hd_b 1 i0.toNat 0) (aIndexAddr Try.prog 34 hd_b (i_ i0)) (h_b.idxb (by kernel_rfl) g36 g52) ?_
   obtain ⟨cs54, f55, hk56, hs57, hl58, hq59⟩ := h_b.kid g36 g52
   obtain ⟨s60, rfl, ho62⟩ := cr_sl_open hk56
   have kd63 : KdS (encI .u64) 1 H s60 (gt b i0) fp_b hd_b 1 i0.toNat 0 := ⟨ho62.sq.up hs57 h_b.lt, hq59 0 _ rfl (by decide)⟩
   obtain ⟨a64, n65, c66, rfl⟩ := kd63.sq.form
   refine m_' (.slice a64 n65 c66) (aLoad Try.prog 29 (elp hd_b 1 i0.toNat 0) H) (hl58 _ _ _ _ (by kernel_rfl)) ?_
   obtain ⟨y68, hy69, r70⟩ := bind_some r53
   refine d_ck 18 #[.slice a48 n49 c50, .slice a64 n65 c66] (by kernel_rfl) (c_viaductref04_SameRow wf kd47.sq kd63.sq hy69) ?_
   rintro _ _ ⟨rfl, rfl⟩
   refine ⟨st_nil, ?_⟩
   refine e_' (.bool (!y68)) ?_
   refine d_nil ?_
   refine k35 _ _ ?_
   refine w_cond ((!y68)) (by kernel_rfl) rfl (fun h73 => ?_) (fun h73 => ?_)
   ·have r74 := ite_t h73 r70
    refine w_seqk fun _ k75 => g_' (q_ (.bool false) (s_nil (k75 _ _ ?_)))
    refine w_ret (bl_ret (th_ret (th_ret (bl_ret (th_ret (th_ret ?_))))))
    obtain ⟨v76, hv77, hz78⟩ := map_some r74
    subst hz78
    obtain rfl := it_inr hn27
    have hq79 := elim_inl r12
    rw [hq79] at hv77
    refine b_ret (fn := Try.f19) (vs := [.bool false]) (aRes_tmp (by kernel_rfl) (rfl)) ?_
    obtain rfl := Option.some.inj hv77
    exact ⟨rfl, rfl⟩
   have r80 := ite_bf h73 r70
   refine w_skip (k33 _ _ (g_' ?_))
   obtain ⟨g81, r82⟩ := G_some r80
   refine w_' (i0 + 1) (wrap64 (by have := g81; omega)) ?_
   refine q_ (i_ (i0 + 1)) (s_nil ?_)
   obtain rfl := Option.some.inj r82
   exact k28 n24 _ _ (Nat.lt_succ_self _) ⟨(i0 + 1), hn27, ha_, rfl⟩
  have r83 := ite_f h31 hz26
  refine w_exit (th_exit (th_exit (bl_eq ?_)))
  obtain rfl := Option.some.inj r83
  obtain rfl := it_inr hn27
  exact k16 _ _ ⟨_, rfl, trivial, rfl⟩
 obtain ⟨o10, rfl, hh17, rfl⟩ := hM
 have r84 := elim_inr r12
 obtain ⟨β, rfl⟩ := has_ex hh17
 clear hh17
 refine k8 _ _ (w_seqk fun _ k85 => g_' (q_ (.bool true) (s_nil (k85 _ _ ?_))))
 refine w_ret ?_
 refine b_ret (fn := Try.f19) (vs := [.bool true]) (aRes_tmp (by kernel_rfl) (rfl)) ?_
 obtain rfl := Option.some.inj r84
 exact ⟨rfl, rfl⟩
theorem c_viaductref05_DocRow {H : AH} {hd_First : Value} {fp_First : Fp} {hd_To : Value} {fp_To : Fp} {hd_Weight : Value} {fp_Weight : Fp} {First : List (Int)} {To : List (Int)} {Weight : List (Int)} {v_ : Int} {r : List (Int × Int × Int) × Int × List (Int × Int)}
    (wf : WF H) (h_First : Sq (encI .i64) 1 H hd_First First fp_First) (h_To : Sq (encI .i64) 1 H hd_To To fp_To) (h_Weight : Sq (encI .i64) 1 H hd_Weight Weight fp_Weight) (hr : z_viaductref05_DocRow First To Weight v_ = some r) :
    ACalls Try.prog 121 #[.agg #[hd_First, hd_To, hd_Weight], i_ v_] H fun v H' => ∃ (s3 : Value) (f4 : Fp) (s7 : Value) (f8 : Fp), v = .tuple #[s3, .agg #[i_ r.2.1, s7]] ∧ FrS [] H H' ∧ Ow enc_i64_i64_i64 3 H' s3 r.1 f4 ∧ Ow enc_i64_i64 2 H' s7 r.2.2 f8 ∧ Inn [] H f4 ∧ Inn [] H f8 ∧ Dj f4 f8 := by
 refine acalls_of_body mixed Try.func121 rfl (Nat.le_of_ble_eq_true rfl) ?_
 unfold z_viaductref05_DocRow at hr
 refine w_seqk fun _ k12 => g_' ?_
 refine s_rwl wf [hd_First, hd_To, hd_Weight] (one_cons (h_First.one1) (one_cons (h_To.one1) (one_cons (h_Weight.one1) (one_nil)))) (by kernel_rfl) fun b13 H14 e15 hb16 r17 => ?_
 refine q_ (.slice none 0 0) ?_
 refine s_rwk e15.wf [i_ 0, .slice none 0 0] (by kernel_rfl) fun b19 H20 e21 hb22 r23 => ?_
 refine s_nil (k12 _ _ (w_seqk fun _ k25 => g_' ?_))
 have u26 := (r17.ext e21)
 refine l_' (.agg #[hd_First, hd_To, hd_Weight]) (aLoad Try.prog 24 (pt_ b13 0) H20) (u26.ld (by kernel_rfl)) ?_
 have u27 := ((h_First.ext e15).ext e21)
 have u28 := ((h_To.ext e15).ext e21)
 have u29 := ((h_Weight.ext e15).ext e21)
 obtain ⟨y30, hy31, r32⟩ := bind_some hr
 refine s_ck 55 #[.agg #[hd_First, hd_To, hd_Weight]] (by kernel_rfl) (c_viaductref05_DocCheck e21.wf u27 u28 u29 hy31) ?_
 rintro _ H35 ⟨s33, f34, rfl, e36, m37, i38⟩
 obtain ⟨a40, n41, c42, rfl⟩ := m37.form
 refine s_rwk e36.wf [i_ 0, .slice none 0 0] (by kernel_rfl) fun b43 H44 e45 hb46 r47 => ?_
 have u53 := (m37.ext e45)
 obtain ⟨H49, q50, e51, r52⟩ := Row.store (P := Try.prog) (t := 46) (p := 0) e45.wf r47 (.agg #[i_ y30.1, .slice a40 n41 c42]) [i_ y30.1, .slice a40 n41 c42] (by kernel_rfl) (by kernel_rfl) (one_cons (rfl) (one_cons (u53.one1) (one_nil))) (Nat.le_of_ble_eq_true (by kernel_rfl)) [i_ y30.1, .slice a40 n41 c42] (by kernel_rfl)
 refine s_ek (undef) (by kernel_rfl) (map_ok q50) ?_
 refine s_nil (k25 _ _ (w_seqk fun _ k54 => w_seqk fun _ k55 => ?_))
 obtain ⟨o56, hx57, r58⟩ := bind_some r32
 refine w_mid (fun α H59 => Has α [(1, i_ v_), (2, pt_ b13 0), (5, pt_ b19 0), (6, pt_ b43 0), (17, .bool o56)] ∧ FrS [] H49 H59) (fun _ k61 => ?_) (fun α H59 hM => ?_)
 ·refine g_' ?_
  refine l_' (.agg #[i_ y30.1, .slice a40 n41 c42]) (aLoad Try.prog 46 (pt_ b43 0) H49) (r52.ld (by kernel_rfl)) ?_
  have u63 := (u53.fr e51 (hb46.djn m37.lt))
  obtain ⟨y64, hy65, r66⟩ := bind_some hx57
  refine s_ck 56 #[.agg #[i_ y30.1, .slice a40 n41 c42]] (by kernel_rfl) (c_viaductref01_Err_Bad e51.wf u63.sq hy65) ?_
  rintro _ H67 ⟨rfl, e68⟩
  by_cases h69 : y64 = true
  ·have r70 := ite_t h69 r66
   rw [h69]
   refine q_ (.bool false) (q_ (.bool false) (n_' (n_' (n_' (n_' (q_ (.bool false) (s_nil ?_)))))))
   obtain rfl := Option.some.inj r70
   exact k61 _ _ ⟨ha_, (FrS.step e51.wf (FrS.refl (W := []) e51.wf) e68 Inn.nil)⟩
  have r72 := ite_f h69 r66
  rw [nb h69]
  refine q_ (.bool true) (q_ (.bool true) ?_)
  have u74 := ((((u26.frS e36 Dj.nil_l).ext e45).frS e51 (hb46.djn (r17.ltF.le (ntr e21.next e36.next)))).frS e68 Dj.nil_l)
  refine l_' (.agg #[hd_First, hd_To, hd_Weight]) (aLoad Try.prog 24 (pt_ b13 0) H67) (u74.ld (by kernel_rfl)) ?_
  refine q_ (i_ v_) ?_
  have u75 := ((((u27.fr e36 Dj.nil_l).ext e45).fr e51 (hb46.djn (h_First.lt.le (ntr (ntr e15.next e21.next) e36.next)))).fr e68 Dj.nil_l)
  have u76 := ((((u28.fr e36 Dj.nil_l).ext e45).fr e51 (hb46.djn (h_To.lt.le (ntr (ntr e15.next e21.next) e36.next)))).fr e68 Dj.nil_l)
  have u77 := ((((u29.fr e36 Dj.nil_l).ext e45).fr e51 (hb46.djn (h_Weight.lt.le (ntr (ntr e15.next e21.next) e36.next)))).fr e68 Dj.nil_l)
  obtain ⟨y78, hy79, r80⟩ := bind_some r72
  refine s_ck 71 #[.agg #[hd_First, hd_To, hd_Weight], i_ v_] (by kernel_rfl) (c_viaductref05_Node e68.wf u75 u76 u77 hy79) ?_
  rintro _ H81 ⟨rfl, e82⟩
  refine q_ (.bool (!y78)) (q_ (.bool (!y78)) (s_nil ?_))
  obtain rfl := Option.some.inj r80
  exact k61 _ _ ⟨ha_, (FrS.step e51.wf (FrS.step e51.wf (FrS.refl (W := []) e51.wf) e68 Inn.nil) e82 Inn.nil)⟩
 obtain ⟨hh62, e60⟩ := hM
 obtain ⟨β, rfl⟩ := has_ex hh62
 clear hh62
 refine k55 _ _ ?_
 obtain ⟨o83, hx84, r85⟩ := bind_some r58
 refine w_mid (fun α H86 => ∃ (s90 : Value) (f91 : Fp), Has α [(1, i_ v_), (2, pt_ b13 0), (5, pt_ b19 0), (6, pt_ b43 0)] ∧ FrS [b43] H59 H86 ∧ Ow enc_i64_i64 2 H86 s90 o83.2 f91 ∧ Row H86 b43 [i_ o83.1, s90] ∧ Inn f34 H59 f91) (fun _ k95 => ?_) (fun α H86 hM => ?_)
 ·refine w_cond (o56) (by kernel_rfl) rfl (fun h97 => ?_) (fun h97 => ?_)
  ·have r98 := ite_t h97 hx84
   refine g_' ?_
   obtain ⟨y99, hy100, r101⟩ := bind_some r98
   refine s_ck 70 #[i_ 7] (by kernel_rfl) (c_viaductref01_E e60.wf hy100) ?_
   rintro _ H102 ⟨rfl, e103⟩
   have u108 := ((r52.frS e60 Dj.nil_l).frS e103 Dj.nil_l)
   obtain ⟨H104, q105, e106, r107⟩ := Row.store (P := Try.prog) (t := 46) (p := 0) e103.wf u108 (.agg #[i_ y99, .slice none 0 0]) [i_ y99, .slice none 0 0] (by kernel_rfl) (by kernel_rfl) (one_cons (rfl) (one_cons (rfl) (one_nil))) (Nat.le_of_ble_eq_true (by kernel_rfl)) [i_ y99, .slice none 0 0] (by kernel_rfl)
   refine s_ek (undef) (by kernel_rfl) (map_ok q105) ?_
   refine s_nil ?_
   obtain rfl := Option.some.inj r101
   exact k95 _ _ ⟨(.slice none 0 0), [], ha_, (FrS.step e60.wf (FrS.step e60.wf (FrS.refl (W := [b43]) e60.wf) e103 Inn.nil) e106 Inn.refl'), (Ow.nil (by decide)), r107, Inn.nil⟩
  have r109 := ite_bf h97 hx84
  refine w_skip ?_
  have u110 := ((u53.fr e51 (hb46.djn m37.lt)).fr e60 Dj.nil_l)
  have u111 := (r52.frS e60 Dj.nil_l)
  obtain rfl := Option.some.inj r109
  exact k95 _ _ ⟨(.slice a40 n41 c42), f34, ha_, (FrS.refl (W := [b43]) e60.wf), u110, u111, Inn.refl'⟩
 obtain ⟨s90, f91, hh96, e87, m89, m93, i94⟩ := hM
 obtain ⟨β, rfl⟩ := has_ex hh96
 clear hh96
 obtain ⟨a112, n113, c114, rfl⟩ := m89.form
 refine k54 _ _ (w_seqk fun _ k115 => w_seqk fun _ k116 => g_' ?_)
 refine l_' (.agg #[i_ o83.1, .slice a112 n113 c114]) (aLoad Try.prog 46 (pt_ b43 0) H86) (m93.ld (by kernel_rfl)) ?_
 obtain ⟨y117, hy118, r119⟩ := bind_some r85
 refine s_ck 56 #[.agg #[i_ o83.1, .slice a112 n113 c114]] (by kernel_rfl) (c_viaductref01_Err_Bad e87.wf m89.sq hy118) ?_
 rintro _ H120 ⟨rfl, e121⟩
 refine s_nil (k116 _ _ ?_)
 refine w_cond (y117) (by kernel_rfl) rfl (fun h122 => ?_) (fun h122 => ?_)
 ·have r123 := ite_t h122 r119
  refine w_seqk fun _ k124 => ?_
  refine w_draw [0, 1, 2] (by kernel_rfl) ?_
  have u125 := (m93.frS e121 Dj.nil_l)
  refine m_' (.agg #[i_ o83.1, .slice a112 n113 c114]) (aLoad Try.prog 46 (pt_ b43 0) H120) (u125.ld (by kernel_rfl)) ?_
  refine e_' (.slice none 0 0) ?_
  have u130 := ((((((r23.frS e36 Dj.nil_l).ext e45).frS e51 (hb46.djn (r23.ltF.le e36.next))).frS e60 Dj.nil_l).frS e87 (hb46.djn (r23.ltF.le e36.next))).frS e121 Dj.nil_l)
  have u131 := (m89.fr e121 Dj.nil_l)
  obtain ⟨H126, q127, e128, r129⟩ := Row.store (P := Try.prog) (t := 46) (p := 0) e121.wf u130 (.agg #[i_ o83.1, .slice a112 n113 c114]) [i_ o83.1, .slice a112 n113 c114] (by kernel_rfl) (by kernel_rfl) (one_cons (rfl) (one_cons (u131.one1) (one_nil))) (Nat.le_of_ble_eq_true (by kernel_rfl)) [i_ o83.1, .slice a112 n113 c114] (by kernel_rfl)
  refine d_ek (undef) (by kernel_rfl) (map_ok q127) (st_nil) ?_
  refine d_nil ?_
  refine k124 _ _ ?_
  refine w_ret (th_ret ?_)
  refine b_ret (fn := Try.f121) (vs := [.slice none 0 0, .agg #[i_ o83.1, .slice a112 n113 c114]]) (aRes_tmp (by kernel_rfl) (aRes_cell (Eq.trans (b := aLoad Try.prog 46 (pt_ b19 0) H126) (by kernel_rfl) (r129.ld (by kernel_rfl))) (rfl))) ?_
  have u132 := (u131.fr e128 (Dj.symm (i94.dj (i38.djn r23.ltF) (r23.ltF.le (ntr (ntr (ntr e36.next e45.next) e51.next) e60.next)))))
  obtain rfl := Option.some.inj r123
  exact ⟨(.slice none 0 0), [], (.slice a112 n113 c114), f91, rfl, (FrS.step wf (FrS.step wf (FrS.step wf (FrS.step wf (FrS.step wf ((FrS.step wf (((FrS.refl (W := []) wf).extR e15).extR e21) e36 Inn.nil).extR e45) e51 (hb46.fresh (ntr (ntr e15.next e21.next) e36.next))) e60 Inn.nil) e87 (hb46.fresh (ntr (ntr e15.next e21.next) e36.next))) e121 Inn.nil) e128 (hb22.fresh e15.next)), (Ow.nil (by decide)), u132, Inn.nil, (Inn.trans (i38.fresh (ntr e15.next e21.next)) (ntr (ntr (ntr (ntr (ntr e15.next e21.next) e36.next) e45.next) e51.next) e60.next) i94), Dj.nil_l⟩
 have r133 := ite_bf h122 r119
 refine w_skip (k115 _ _ (w_seqk fun _ k134 => ?_))
 refine w_draw [0, 1, 3, 2, 4, 5] (by kernel_rfl) ?_
 have u135 := ((((((u26.frS e36 Dj.nil_l).ext e45).frS e51 (hb46.djn (r17.ltF.le (ntr e21.next e36.next)))).frS e60 Dj.nil_l).frS e87 (hb46.djn (r17.ltF.le (ntr e21.next e36.next)))).frS e121 Dj.nil_l)
 refine m_' (.agg #[hd_First, hd_To, hd_Weight]) (aLoad Try.prog 24 (pt_ b13 0) H120) (u135.ld (by kernel_rfl)) ?_
 refine e_' (i_ v_) ?_
 have u136 := (m93.frS e121 Dj.nil_l)
 refine d_fl (.agg #[i_ o83.1, .slice a112 n113 c114]) (x := aLoad Try.prog 46 (pt_ b43 0) H120) (by kernel_rfl) (u136.ld (by kernel_rfl)) ?_
 have u137 := ((((((u27.fr e36 Dj.nil_l).ext e45).fr e51 (hb46.djn (h_First.lt.le (ntr (ntr e15.next e21.next) e36.next)))).fr e60 Dj.nil_l).fr e87 (hb46.djn (h_First.lt.le (ntr (ntr e15.next e21.next) e36.next)))).fr e121 Dj.nil_l)
 have u138 := ((((((u28.fr e36 Dj.nil_l).ext e45).fr e51 (hb46.djn (h_To.lt.le (ntr (ntr e15.next e21.next) e36.next)))).fr e60 Dj.nil_l).fr e87 (hb46.djn (h_To.lt.le (ntr (ntr e15.next e21.next) e36.next)))).fr e121 Dj.nil_l)
 have u139 := ((((((u29.fr e36 Dj.nil_l).ext e45).fr e51 (hb46.djn (h_Weight.lt.le (ntr (ntr e15.next e21.next) e36.next)))).fr e60 Dj.nil_l).fr e87 (hb46.djn (h_Weight.lt.le (ntr (ntr e15.next e21.next) e36.next)))).fr e121 Dj.nil_l)
 obtain ⟨y140, hy141, r142⟩ := bind_some r133
 refine d_ck 143 #[.agg #[hd_First, hd_To, hd_Weight], i_ v_] (by kernel_rfl) (c_viaductref05_Row e121.wf u137 u138 u139 hy141) ?_
 rintro s143 H145 ⟨_, f144, rfl, e146, m147, i148⟩
 obtain ⟨a150, n151, c152, rfl⟩ := m147.form
 have u153 := (u136.frS e146 Dj.nil_l)
 refine ⟨st_ql (y := aLoad Try.prog 46 (pt_ b43 0) H145) (by kernel_rfl) (u153.ld (by kernel_rfl)) (st_nil), ?_⟩
 refine e_' (.slice a150 n151 c152) ?_
 have u158 := (((((((r23.frS e36 Dj.nil_l).ext e45).frS e51 (hb46.djn (r23.ltF.le e36.next))).frS e60 Dj.nil_l).frS e87 (hb46.djn (r23.ltF.le e36.next))).frS e121 Dj.nil_l).frS e146 Dj.nil_l)
 have u159 := ((m89.fr e121 Dj.nil_l).fr e146 Dj.nil_l)
 obtain ⟨H154, q155, e156, r157⟩ := Row.store (P := Try.prog) (t := 46) (p := 0) e146.wf u158 (.agg #[i_ o83.1, .slice a112 n113 c114]) [i_ o83.1, .slice a112 n113 c114] (by kernel_rfl) (by kernel_rfl) (one_cons (rfl) (one_cons (u159.one1) (one_nil))) (Nat.le_of_ble_eq_true (by kernel_rfl)) [i_ o83.1, .slice a112 n113 c114] (by kernel_rfl)
 refine d_ek (undef) (by kernel_rfl) (map_ok q155) (st_anc (by kernel_rfl) (st_nil)) ?_
 refine d_nil ?_
 refine k134 _ _ ?_
 refine w_ret ?_
 refine b_ret (fn := Try.f121) (vs := [.slice a150 n151 c152, .agg #[i_ o83.1, .slice a112 n113 c114]]) (aRes_tmp (by kernel_rfl) (aRes_cell (Eq.trans (b := aLoad Try.prog 46 (pt_ b19 0) H154) (by kernel_rfl) (r157.ld (by kernel_rfl))) (rfl))) ?_
 have u160 := (m147.fr e156 (Dj.symm (i148.djn (r23.ltF.le (ntr (ntr (ntr (ntr (ntr e36.next e45.next) e51.next) e60.next) e87.next) e121.next)))))
 have u161 := (u159.fr e156 (Dj.symm (i94.dj (i38.djn r23.ltF) (r23.ltF.le (ntr (ntr (ntr e36.next e45.next) e51.next) e60.next)))))
 obtain rfl := Option.some.inj r142
 exact ⟨(.slice a150 n151 c152), f144, (.slice a112 n113 c114), f91, rfl, (FrS.step wf (FrS.step wf (FrS.step wf (FrS.step wf (FrS.step wf (FrS.step wf ((FrS.step wf (((FrS.refl (W := []) wf).extR e15).extR e21) e36 Inn.nil).extR e45) e51 (hb46.fresh (ntr (ntr e15.next e21.next) e36.next))) e60 Inn.nil) e87 (hb46.fresh (ntr (ntr e15.next e21.next) e36.next))) e121 Inn.nil) e146 Inn.nil) e156 (hb22.fresh e15.next)), u160, u161, (i148.fresh (ntr (ntr (ntr (ntr (ntr (ntr (ntr e15.next e21.next) e36.next) e45.next) e51.next) e60.next) e87.next) e121.next)), (Inn.trans (i38.fresh (ntr e15.next e21.next)) (ntr (ntr (ntr (ntr (ntr e15.next e21.next) e36.next) e45.next) e51.next) e60.next) i94), (i148.djn (m89.lt.le e121.next))⟩
theorem c_viaductref05_DocFind {H : AH} {hd_First : Value} {fp_First : Fp} {hd_To : Value} {fp_To : Fp} {hd_Weight : Value} {fp_Weight : Fp} {First : List (Int)} {To : List (Int)} {Weight : List (Int)} {v_ : Int} {w : Int} {r : Int × Int × List (Int × Int)}
    (wf : WF H) (h_First : Sq (encI .i64) 1 H hd_First First fp_First) (h_To : Sq (encI .i64) 1 H hd_To To fp_To) (h_Weight : Sq (encI .i64) 1 H hd_Weight Weight fp_Weight) (hr : z_viaductref05_DocFind First To Weight v_ w = some r) :
    ACalls Try.prog 72 #[.agg #[hd_First, hd_To, hd_Weight], i_ v_, i_ w] H fun v H' => ∃ (s3 : Value) (f4 : Fp), v = .tuple #[i_ r.1, .agg #[i_ r.2.1, s3]] ∧ FrS [] H H' ∧ Ow enc_i64_i64 2 H' s3 r.2.2 f4 ∧ Inn [] H f4 := by
 refine acalls_of_body mixed Try.func72 rfl (Nat.le_of_ble_eq_true rfl) ?_
 unfold z_viaductref05_DocFind at hr
 refine w_seqk fun _ k6 => g_' ?_
 refine s_rwl wf [hd_First, hd_To, hd_Weight] (one_cons (h_First.one1) (one_cons (h_To.one1) (one_cons (h_Weight.one1) (one_nil)))) (by kernel_rfl) fun b7 H8 e9 hb10 r11 => ?_
 refine q_ (i_ 0) ?_
 refine s_rwk e9.wf [i_ 0, .slice none 0 0] (by kernel_rfl) fun b13 H14 e15 hb16 r17 => ?_
 refine s_nil (k6 _ _ (w_seqk fun _ k19 => g_' ?_))
 have u20 := (r11.ext e15)
 refine l_' (.agg #[hd_First, hd_To, hd_Weight]) (aLoad Try.prog 24 (pt_ b7 0) H14) (u20.ld (by kernel_rfl)) ?_
 refine q_ (i_ v_) ?_
 have u21 := ((h_First.ext e9).ext e15)
 have u22 := ((h_To.ext e9).ext e15)
 have u23 := ((h_Weight.ext e9).ext e15)
 obtain ⟨y24, hy25, r26⟩ := bind_some hr
 refine s_ck 121 #[.agg #[hd_First, hd_To, hd_Weight], i_ v_] (by kernel_rfl) (c_viaductref05_DocRow e15.wf u21 u22 u23 hy25) ?_
 rintro _ H31 ⟨s27, f28, s29, f30, rfl, e32, m33, m34, i35, i36, d37⟩
 obtain ⟨a40, n41, c42, rfl⟩ := m33.form
 obtain ⟨a43, n44, c45, rfl⟩ := m34.form
 refine q_ (.tuple #[.slice a40 n41 c42, .agg #[i_ y24.2.1, .slice a43 n44 c45]]) (q_ (.slice a40 n41 c42) (q_ (.agg #[i_ y24.2.1, .slice a43 n44 c45]) ?_))
 refine s_rwk e32.wf [i_ 0, .slice none 0 0] (by kernel_rfl) fun b46 H47 e48 hb49 r50 => ?_
 refine q_ (.slice a40 n41 c42) ?_
 have u56 := (m34.ext e48)
 obtain ⟨H52, q53, e54, r55⟩ := Row.store (P := Try.prog) (t := 46) (p := 0) e48.wf r50 (.agg #[i_ y24.2.1, .slice a43 n44 c45]) [i_ y24.2.1, .slice a43 n44 c45] (by kernel_rfl) (by kernel_rfl) (one_cons (rfl) (one_cons (u56.one1) (one_nil))) (Nat.le_of_ble_eq_true (by kernel_rfl)) [i_ y24.2.1, .slice a43 n44 c45] (by kernel_rfl)
 refine s_ek (undef) (by kernel_rfl) (map_ok q53) ?_
 refine s_nil (k19 _ _ (w_seqk fun _ k57 => w_seqk fun _ k58 => ?_))
 obtain ⟨o59, hx60, r61⟩ := bind_some r26
 refine w_mid (fun α H62 => Has α [(2, i_ w), (7, pt_ b13 0), (8, .slice a40 n41 c42), (9, pt_ b46 0), (26, .bool o59)] ∧ FrS [] H52 H62) (fun _ k64 => ?_) (fun α H62 hM => ?_)
 ·refine g_' ?_
  refine l_' (.agg #[i_ y24.2.1, .slice a43 n44 c45]) (aLoad Try.prog 46 (pt_ b46 0) H52) (r55.ld (by kernel_rfl)) ?_
  have u66 := (u56.fr e54 (hb49.djn m34.lt))
  obtain ⟨y67, hy68, r69⟩ := bind_some hx60
  refine s_ck 56 #[.agg #[i_ y24.2.1, .slice a43 n44 c45]] (by kernel_rfl) (c_viaductref01_Err_Bad e54.wf u66.sq hy68) ?_
  rintro _ H70 ⟨rfl, e71⟩
  by_cases h72 : y67 = true
  ·have r73 := ite_t h72 r69
   rw [h72]
   refine q_ (.bool false) (q_ (.bool false) (n_' (n_' (n_' (n_' (q_ (.bool false) (s_nil ?_)))))))
   obtain rfl := Option.some.inj r73
   exact k64 _ _ ⟨ha_, (FrS.step e54.wf (FrS.refl (W := []) e54.wf) e71 Inn.nil)⟩
  have r75 := ite_f h72 r69
  rw [nb h72]
  refine q_ (.bool true) (q_ (.bool true) ?_)
  have u77 := ((((u20.frS e32 Dj.nil_l).ext e48).frS e54 (hb49.djn (r11.ltF.le (ntr e15.next e32.next)))).frS e71 Dj.nil_l)
  refine l_' (.agg #[hd_First, hd_To, hd_Weight]) (aLoad Try.prog 24 (pt_ b7 0) H70) (u77.ld (by kernel_rfl)) ?_
  refine q_ (i_ w) ?_
  have u78 := ((((u21.fr e32 Dj.nil_l).ext e48).fr e54 (hb49.djn (h_First.lt.le (ntr (ntr e9.next e15.next) e32.next)))).fr e71 Dj.nil_l)
  have u79 := ((((u22.fr e32 Dj.nil_l).ext e48).fr e54 (hb49.djn (h_To.lt.le (ntr (ntr e9.next e15.next) e32.next)))).fr e71 Dj.nil_l)
  have u80 := ((((u23.fr e32 Dj.nil_l).ext e48).fr e54 (hb49.djn (h_Weight.lt.le (ntr (ntr e9.next e15.next) e32.next)))).fr e71 Dj.nil_l)
  obtain ⟨y81, hy82, r83⟩ := bind_some r75
  refine s_ck 71 #[.agg #[hd_First, hd_To, hd_Weight], i_ w] (by kernel_rfl) (c_viaductref05_Node e71.wf u78 u79 u80 hy82) ?_
  rintro _ H84 ⟨rfl, e85⟩
  refine q_ (.bool (!y81)) (q_ (.bool (!y81)) (s_nil ?_))
  obtain rfl := Option.some.inj r83
  exact k64 _ _ ⟨ha_, (FrS.step e54.wf (FrS.step e54.wf (FrS.refl (W := []) e54.wf) e71 Inn.nil) e85 Inn.nil)⟩
 obtain ⟨hh65, e63⟩ := hM
 obtain ⟨β, rfl⟩ := has_ex hh65
 clear hh65
 refine k58 _ _ ?_
 obtain ⟨o86, hx87, r88⟩ := bind_some r61
 refine w_mid (fun α H89 => ∃ (s93 : Value) (f94 : Fp), Has α [(2, i_ w), (7, pt_ b13 0), (8, .slice a40 n41 c42), (9, pt_ b46 0)] ∧ FrS [b46] H62 H89 ∧ Ow enc_i64_i64 2 H89 s93 o86.2 f94 ∧ Row H89 b46 [i_ o86.1, s93] ∧ Inn f30 H62 f94) (fun _ k98 => ?_) (fun α H89 hM => ?_)
 ·refine w_cond (o59) (by kernel_rfl) rfl (fun h100 => ?_) (fun h100 => ?_)
  ·have r101 := ite_t h100 hx87
   refine g_' ?_
   obtain ⟨y102, hy103, r104⟩ := bind_some r101
   refine s_ck 70 #[i_ 7] (by kernel_rfl) (c_viaductref01_E e63.wf hy103) ?_
   rintro _ H105 ⟨rfl, e106⟩
   have u111 := ((r55.frS e63 Dj.nil_l).frS e106 Dj.nil_l)
   obtain ⟨H107, q108, e109, r110⟩ := Row.store (P := Try.prog) (t := 46) (p := 0) e106.wf u111 (.agg #[i_ y102, .slice none 0 0]) [i_ y102, .slice none 0 0] (by kernel_rfl) (by kernel_rfl) (one_cons (rfl) (one_cons (rfl) (one_nil))) (Nat.le_of_ble_eq_true (by kernel_rfl)) [i_ y102, .slice none 0 0] (by kernel_rfl)
   refine s_ek (undef) (by kernel_rfl) (map_ok q108) ?_
   refine s_nil ?_
   obtain rfl := Option.some.inj r104
   exact k98 _ _ ⟨(.slice none 0 0), [], ha_, (FrS.step e63.wf (FrS.step e63.wf (FrS.refl (W := [b46]) e63.wf) e106 Inn.nil) e109 Inn.refl'), (Ow.nil (by decide)), r110, Inn.nil⟩
  have r112 := ite_bf h100 hx87
  refine w_skip ?_
  have u113 := ((u56.fr e54 (hb49.djn m34.lt)).fr e63 Dj.nil_l)
  have u114 := (r55.frS e63 Dj.nil_l)
  obtain rfl := Option.some.inj r112
  exact k98 _ _ ⟨(.slice a43 n44 c45), f30, ha_, (FrS.refl (W := [b46]) e63.wf), u113, u114, Inn.refl'⟩
 obtain ⟨s93, f94, hh99, e90, m92, m96, i97⟩ := hM
 obtain ⟨β, rfl⟩ := has_ex hh99
 clear hh99
 obtain ⟨a115, n116, c117, rfl⟩ := m92.form
 refine k57 _ _ (w_seqk fun _ k118 => w_seqk fun _ k119 => g_' ?_)
 refine l_' (.agg #[i_ o86.1, .slice a115 n116 c117]) (aLoad Try.prog 46 (pt_ b46 0) H89) (m96.ld (by kernel_rfl)) ?_
 obtain ⟨y120, hy121, r122⟩ := bind_some r88
 refine s_ck 56 #[.agg #[i_ o86.1, .slice a115 n116 c117]] (by kernel_rfl) (c_viaductref01_Err_Bad e90.wf m92.sq hy121) ?_
 rintro _ H123 ⟨rfl, e124⟩
 refine s_nil (k119 _ _ ?_)
 refine w_cond (y120) (by kernel_rfl) rfl (fun h125 => ?_) (fun h125 => ?_)
 ·have r126 := ite_t h125 r122
  refine w_seqk fun _ k127 => ?_
  refine w_draw [0, 1, 2] (by kernel_rfl) ?_
  have u128 := (m96.frS e124 Dj.nil_l)
  refine m_' (.agg #[i_ o86.1, .slice a115 n116 c117]) (aLoad Try.prog 46 (pt_ b46 0) H123) (u128.ld (by kernel_rfl)) ?_
  refine e_' (i_ 0) ?_
  have u133 := ((((((r17.frS e32 Dj.nil_l).ext e48).frS e54 (hb49.djn (r17.ltF.le e32.next))).frS e63 Dj.nil_l).frS e90 (hb49.djn (r17.ltF.le e32.next))).frS e124 Dj.nil_l)
  have u134 := (m92.fr e124 Dj.nil_l)
  obtain ⟨H129, q130, e131, r132⟩ := Row.store (P := Try.prog) (t := 46) (p := 0) e124.wf u133 (.agg #[i_ o86.1, .slice a115 n116 c117]) [i_ o86.1, .slice a115 n116 c117] (by kernel_rfl) (by kernel_rfl) (one_cons (rfl) (one_cons (u134.one1) (one_nil))) (Nat.le_of_ble_eq_true (by kernel_rfl)) [i_ o86.1, .slice a115 n116 c117] (by kernel_rfl)
  refine d_ek (undef) (by kernel_rfl) (map_ok q130) (st_nil) ?_
  refine d_nil ?_
  refine k127 _ _ ?_
  refine w_ret (th_ret ?_)
  refine b_ret (fn := Try.f72) (vs := [i_ 0, .agg #[i_ o86.1, .slice a115 n116 c117]]) (aRes_tmp (by kernel_rfl) (aRes_cell (Eq.trans (b := aLoad Try.prog 46 (pt_ b13 0) H129) (by kernel_rfl) (r132.ld (by kernel_rfl))) (rfl))) ?_
  have u135 := (u134.fr e131 (Dj.symm (i97.dj (i36.djn r17.ltF) (r17.ltF.le (ntr (ntr (ntr e32.next e48.next) e54.next) e63.next)))))
  obtain rfl := Option.some.inj r126
  exact ⟨(.slice a115 n116 c117), f94, rfl, (FrS.step wf (FrS.step wf (FrS.step wf (FrS.step wf (FrS.step wf ((FrS.step wf (((FrS.refl (W := []) wf).extR e9).extR e15) e32 Inn.nil).extR e48) e54 (hb49.fresh (ntr (ntr e9.next e15.next) e32.next))) e63 Inn.nil) e90 (hb49.fresh (ntr (ntr e9.next e15.next) e32.next))) e124 Inn.nil) e131 (hb16.fresh e9.next)), u135, (Inn.trans (i36.fresh (ntr e9.next e15.next)) (ntr (ntr (ntr (ntr (ntr e9.next e15.next) e32.next) e48.next) e54.next) e63.next) i97)⟩
 have r136 := ite_bf h125 r122
 refine w_skip (k118 _ _ (w_seqk fun _ k137 => w_seqk fun _ k138 => g_' (q_ (.slice a40 n41 c42) ?_)))
 have u139 := (((((m33.ext e48).fr e54 (hb49.djn m33.lt)).fr e63 Dj.nil_l).fr e90 (hb49.djn m33.lt)).fr e124 Dj.nil_l)
 refine l_' (i_ (y24.1.length : Int)) (aLen Try.prog 57 (.slice a40 n41 c42) H123) (u139.sq.lenb (by kernel_rfl)) ?_
 refine q_ (i_ 0) (s_nil (k138 _ _ ?_))
 obtain ⟨z143, hx141, r142⟩ := bind_some r136
 refine w_mid (fun α H144 => ∃ o140, z143 = Sum.inr o140 ∧ Has α [(7, pt_ b13 0)] ∧ FrS [] H123 H144) (fun _ k146 => ?_) (fun α H144 hM => ?_)
 ·refine w_block ?_
  obtain ⟨n148, hn149⟩ := loopO_iff.1 hx141
  refine w_loopn (fun n α H150 => ∃ (i0 : Int), iterO (fun zz_ => z_viaductref05_DocFind_l0 w y24 o86 zz_) n i0 = some z143 ∧ Has α [(2, i_ w), (7, pt_ b13 0), (9, pt_ b46 0), (31, .slice a40 n41 c42), (32, i_ (y24.1.length : Int)), (33, i_ i0)] ∧ FrS [] H123 H150) n148 ⟨0, hn149, ha_, (FrS.refl (W := []) e124.wf)⟩ ?_
  rintro n148 α H150 ⟨i0, hi153, hh152, e151⟩ K158 k158
  obtain ⟨n154, z155, rfl, hz156, hn157⟩ := iter_succ hi153
  obtain ⟨β, rfl⟩ := has_ex hh152
  clear hh152
  replace hz156 : z_viaductref05_DocFind_l0 w y24 o86 i0 = some z155 := hz156
  unfold z_viaductref05_DocFind_l0 at hz156
  refine w_seqk fun _ k159 => g_' (q_ (.bool (decide (i0 < (y24.1.length : Int)))) (s_nil (k159 _ _ (w_seqk fun _ k160 => ?_))))
  refine w_condp (i0 < (y24.1.length : Int)) (by kernel_rfl) rfl (fun h161 => ?_) (fun h161 => ?_)
  ·have r162 := ite_t h161 hz156
   refine w_skip (k160 _ _ (w_seqk fun _ k163 => w_block (w_seqk fun _ k164 => g_' ?_)))
   obtain ⟨g165, r166⟩ := G_some r162
   have u167 := (u139.fr e151 Dj.nil_l)
   refine l_' (elp (.slice a40 n41 c42) 3 i0.toNat 0) (aIndexAddr Try.prog 57 (.slice a40 n41 c42) (i_ i0)) (u167.sq.idxb (by kernel_rfl) g165 h161) ?_
   refine l_' (.agg #[i_ ((gt y24.1 i0).1), i_ ((gt y24.1 i0).2.1), i_ ((gt y24.1 i0).2.2)]) (aLoad Try.prog 73 (elp (.slice a40 n41 c42) 3 i0.toNat 0) H150) (u167.sq.ld g165 h161 (by kernel_rfl)) ?_
   refine s_rwk e151.wf [i_ 0, i_ 0, i_ 0] (by kernel_rfl) fun b168 H169 e170 hb171 r172 => ?_
   obtain ⟨H174, q175, e176, r177⟩ := Row.store (P := Try.prog) (t := 73) (p := 0) e170.wf r172 (.agg #[i_ ((gt y24.1 i0).1), i_ ((gt y24.1 i0).2.1), i_ ((gt y24.1 i0).2.2)]) [i_ ((gt y24.1 i0).1), i_ ((gt y24.1 i0).2.1), i_ ((gt y24.1 i0).2.2)] (by kernel_rfl) (by kernel_rfl) (one_cons (rfl) (one_cons (rfl) (one_cons (rfl) (one_nil)))) (Nat.le_of_ble_eq_true (by kernel_rfl)) [i_ ((gt y24.1 i0).1), i_ ((gt y24.1 i0).2.1), i_ ((gt y24.1 i0).2.2)] (by kernel_rfl)
   refine s_ek (undef) (by kernel_rfl) (map_ok q175) ?_
   refine s_nil (k164 _ _ (w_seqk fun _ k178 => g_' (q_ (pt_ b168 1) ?_)))
   refine l_' (i_ ((gt y24.1 i0).2.1)) (aLoad Try.prog 3 (pt_ b168 1) H174) (r177.ld (by kernel_rfl)) ?_
   refine q_ (i_ w) (q_ (.bool (decide (((gt y24.1 i0).2.1) = w))) (s_nil (k178 _ _ ?_)))
   refine w_condp (((gt y24.1 i0).2.1) = w) (by kernel_rfl) rfl (fun h179 => ?_) (fun h179 => ?_)
   ·have r180 := ite_t h179 r166
    refine w_seqk fun _ k181 => ?_
    refine w_draw [0, 1, 2, 3, 4] (by kernel_rfl) ?_
    refine e_' (pt_ b168 2) ?_
    refine m_' (i_ ((gt y24.1 i0).2.2)) (aLoad Try.prog 3 (pt_ b168 2) H174) (r177.ld (by kernel_rfl)) ?_
    have u182 := ((((m96.frS e124 Dj.nil_l).frS e151 Dj.nil_l).ext e170).frS e176 (hb171.djn (r50.ltF.le (ntr (ntr (ntr (ntr e54.next e63.next) e90.next) e124.next) e151.next))))
    refine m_' (.agg #[i_ o86.1, .slice a115 n116 c117]) (aLoad Try.prog 46 (pt_ b46 0) H174) (u182.ld (by kernel_rfl)) ?_
    refine e_' (i_ ((gt y24.1 i0).2.2)) ?_
    have u187 := (((((((((r17.frS e32 Dj.nil_l).ext e48).frS e54 (hb49.djn (r17.ltF.le e32.next))).frS e63 Dj.nil_l).frS e90 (hb49.djn (r17.ltF.le e32.next))).frS e124 Dj.nil_l).frS e151 Dj.nil_l).ext e170).frS e176 (hb171.djn (r17.ltF.le (ntr (ntr (ntr (ntr (ntr (ntr e32.next e48.next) e54.next) e63.next) e90.next) e124.next) e151.next))))
    have u188 := ((((m92.fr e124 Dj.nil_l).fr e151 Dj.nil_l).ext e170).fr e176 (hb171.djn (m92.lt.le (ntr e124.next e151.next))))
    obtain ⟨H183, q184, e185, r186⟩ := Row.store (P := Try.prog) (t := 46) (p := 0) e176.wf u187 (.agg #[i_ o86.1, .slice a115 n116 c117]) [i_ o86.1, .slice a115 n116 c117] (by kernel_rfl) (by kernel_rfl) (one_cons (rfl) (one_cons (u188.one1) (one_nil))) (Nat.le_of_ble_eq_true (by kernel_rfl)) [i_ o86.1, .slice a115 n116 c117] (by kernel_rfl)
    refine d_ek (undef) (by kernel_rfl) (map_ok q184) (st_nil) ?_
    refine d_nil ?_
    refine k181 _ _ ?_
    refine w_ret (bl_ret (th_ret (th_ret (bl_ret (th_ret (th_ret ?_))))))
    obtain ⟨v189, hv190, hz191⟩ := map_some r180
    subst hz191
    obtain rfl := it_inr hn157
    have hq192 := elim_inl r142
    rw [hq192] at hv190
    refine b_ret (fn := Try.f72) (vs := [i_ ((gt y24.1 i0).2.2), .agg #[i_ o86.1, .slice a115 n116 c117]]) (aRes_tmp (by kernel_rfl) (aRes_cell (Eq.trans (b := aLoad Try.prog 46 (pt_ b13 0) H183) (by kernel_rfl) (r186.ld (by kernel_rfl))) (rfl))) ?_
    have u193 := (u188.fr e185 (Dj.symm (i97.dj (i36.djn r17.ltF) (r17.ltF.le (ntr (ntr (ntr e32.next e48.next) e54.next) e63.next)))))
    obtain rfl := Option.some.inj hv190
    exact ⟨(.slice a115 n116 c117), f94, rfl, (FrS.step wf (FrS.step wf ((FrS.step wf (FrS.step wf (FrS.step wf (FrS.step wf (FrS.step wf ((FrS.step wf (((FrS.refl (W := []) wf).extR e9).extR e15) e32 Inn.nil).extR e48) e54 (hb49.fresh (ntr (ntr e9.next e15.next) e32.next))) e63 Inn.nil) e90 (hb49.fresh (ntr (ntr e9.next e15.next) e32.next))) e124 Inn.nil) e151 Inn.nil).extR e170) e176 (hb171.fresh (ntr (ntr (ntr (ntr (ntr (ntr (ntr (ntr e9.next e15.next) e32.next) e48.next) e54.next) e63.next) e90.next) e124.next) e151.next))) e185 (hb16.fresh e9.next)), u193, (Inn.trans (i36.fresh (ntr e9.next e15.next)) (ntr (ntr (ntr (ntr (ntr e9.next e15.next) e32.next) e48.next) e54.next) e63.next) i97)⟩
   have r194 := ite_f h179 r166
   refine w_skip (k163 _ _ (g_' ?_))
   obtain ⟨g195, r196⟩ := G_some r194
   refine w_' (i0 + 1) (wrap64 (by have := g195; omega)) ?_
   refine q_ (i_ (i0 + 1)) (s_nil ?_)
   obtain rfl := Option.some.inj r196
   exact k158 n154 _ _ (Nat.lt_succ_self _) ⟨(i0 + 1), hn157, ha_, (FrS.step e124.wf ((FrS.step e124.wf (FrS.refl (W := []) e124.wf) e151 Inn.nil).extR e170) e176 (hb171.fresh e151.next))⟩
  have r197 := ite_f h161 hz156
  refine w_exit (th_exit (th_exit (bl_eq ?_)))
  obtain rfl := Option.some.inj r197
  obtain rfl := it_inr hn157
  exact k146 _ _ ⟨_, rfl, ha_, (FrS.step e124.wf (FrS.refl (W := []) e124.wf) e151 Inn.nil)⟩
 obtain ⟨o140, rfl, hh147, e145⟩ := hM
 have r198 := elim_inr r142
 obtain ⟨β, rfl⟩ := has_ex hh147
 clear hh147
 refine k137 _ _ (w_seqk fun _ k199 => g_' ?_)
 obtain ⟨y200, hy201, r202⟩ := bind_some r198
 refine s_ck 70 #[i_ 16] (by kernel_rfl) (c_viaductref01_E e145.wf hy201) ?_
 rintro _ H203 ⟨rfl, e204⟩
 refine q_ (i_ 0) ?_
 have u209 := ((((((((r17.frS e32 Dj.nil_l).ext e48).frS e54 (hb49.djn (r17.ltF.le e32.next))).frS e63 Dj.nil_l).frS e90 (hb49.djn (r17.ltF.le e32.next))).frS e124 Dj.nil_l).frS e145 Dj.nil_l).frS e204 Dj.nil_l)
 obtain ⟨H205, q206, e207, r208⟩ := Row.store (P := Try.prog) (t := 46) (p := 0) e204.wf u209 (.agg #[i_ y200, .slice none 0 0]) [i_ y200, .slice none 0 0] (by kernel_rfl) (by kernel_rfl) (one_cons (rfl) (one_cons (rfl) (one_nil))) (Nat.le_of_ble_eq_true (by kernel_rfl)) [i_ y200, .slice none 0 0] (by kernel_rfl)
 refine s_ek (undef) (by kernel_rfl) (map_ok q206) ?_
 refine s_nil (k199 _ _ ?_)
 refine w_ret ?_
 refine b_ret (fn := Try.f72) (vs := [i_ 0, .agg #[i_ y200, .slice none 0 0]]) (aRes_tmp (by kernel_rfl) (aRes_cell (Eq.trans (b := aLoad Try.prog 46 (pt_ b13 0) H205) (by kernel_rfl) (r208.ld (by kernel_rfl))) (rfl))) ?_
 obtain rfl := Option.some.inj r202
 exact ⟨(.slice none 0 0), [], rfl, (FrS.step wf (FrS.step wf (FrS.step wf (FrS.step wf (FrS.step wf (FrS.step wf (FrS.step wf ((FrS.step wf (((FrS.refl (W := []) wf).extR e9).extR e15) e32 Inn.nil).extR e48) e54 (hb49.fresh (ntr (ntr e9.next e15.next) e32.next))) e63 Inn.nil) e90 (hb49.fresh (ntr (ntr e9.next e15.next) e32.next))) e124 Inn.nil) e145 Inn.nil) e204 Inn.nil) e207 (hb16.fresh e9.next)), (Ow.nil (by decide)), Inn.nil⟩
end Go.Vd

/-! (KSy7) -/

set_option maxRecDepth 100000
set_option maxHeartbeats 4000000
set_option linter.unusedVariables false
namespace Go.Vd
open Go.Proofs
attribute [local irreducible] wpSeq wpOrd aWp
theorem c_viaductref08_Path {H : AH} {hd_First : Value} {fp_First : Fp} {hd_To : Value} {fp_To : Fp} {hd_Weight : Value} {fp_Weight : Fp} {hd_l : Value} {fp_l : Fp} {First : List (Int)} {To : List (Int)} {Weight : List (Int)} {l : List (Int)} {s : Int} {t : Int} {length_ : Int} {r : Bool}
    (wf : WF H) (h_First : Sq (encI .i64) 1 H hd_First First fp_First) (h_To : Sq (encI .i64) 1 H hd_To To fp_To) (h_Weight : Sq (encI .i64) 1 H hd_Weight Weight fp_Weight) (h_l : Sq (encI .i64) 1 H hd_l l fp_l) (hr : z_viaductref08_Path First To Weight l s t length_ = some r) :
    ACalls Try.prog 20 #[.agg #[hd_First, hd_To, hd_Weight], hd_l, i_ s, i_ t, .int .u64 length_] H fun v H' => v = .bool r ∧ FrS [] H H' := by
 refine acalls_of_body mixed Try.func20 rfl (Nat.le_of_ble_eq_true rfl) ?_
 unfold z_viaductref08_Path at hr
 refine w_seqk fun _ k1 => g_' ?_
 refine s_rwl wf [hd_First, hd_To, hd_Weight] (one_cons (h_First.one1) (one_cons (h_To.one1) (one_cons (h_Weight.one1) (one_nil)))) (by kernel_rfl) fun b2 H3 e4 hb5 r6 => ?_
 refine q_ (.bool false) (s_nil (k1 _ _ (w_seqk fun _ k8 => w_seqk fun _ k9 => ?_)))
 obtain ⟨o10, hx11, r12⟩ := bind_some hr
 refine w_mid (fun α H13 => Has α [(1, hd_l), (4, .int .u64 length_), (5, pt_ b2 0), (37, .bool o10)] ∧ H3 = H13) (fun _ k15 => ?_) (fun α H13 hM => ?_)
 ·refine g_' (q_ (hd_l) ?_)
  have u17 := (h_l.ext e4)
  refine l_' (i_ (l.length : Int)) (aLen Try.prog 22 hd_l H3) (u17.lenb (by kernel_rfl)) ?_
  refine s_b ((l.length : Int) = 0) (by kernel_rfl) (fun h18 => ?_) (fun h18 => ?_)
  ·have r19 := ite_t h18 hx11
   refine q_ (.bool true) (n_' (n_' (n_' (n_' (n_' (q_ (.bool true) (q_ (.bool true) (n_' (n_' (n_' (n_' (n_' (n_' (n_' (n_' (q_ (.bool true) (s_nil ?_)))))))))))))))))
   obtain rfl := Option.some.inj r19
   exact k15 _ _ ⟨ha_, rfl⟩
  have r20 := ite_f h18 hx11
  refine q_ (.bool false) (q_ (hd_l) ?_)
  obtain ⟨g21, r22⟩ := G_some r20
  refine l_' (elp hd_l 1 (0 : Int).toNat 0) (aIndexAddr Try.prog 22 hd_l (i_ 0)) (u17.idxb (by kernel_rfl) (by decide) g21) ?_
  refine l_' (i_ (gt l 0)) (aLoad Try.prog 3 (elp hd_l 1 (0 : Int).toNat 0) H3) (u17.ld (by decide) g21 (by kernel_rfl)) ?_
  refine q_ (i_ s) ?_
  refine s_bn ((gt l 0) = s) (by kernel_rfl) (fun h23 => ?_) (fun h23 => ?_)
  ·have r24 := ite_t h23 r22
   refine q_ (.bool false) (q_ (.bool false) (q_ (hd_l) (q_ (hd_l) ?_)))
   refine l_' (i_ (l.length : Int)) (aLen Try.prog 22 hd_l H3) (u17.lenb (by kernel_rfl)) ?_
   obtain ⟨g25, r26⟩ := G_some r24
   refine w_' ((l.length : Int) - 1) (wrap64 g25) ?_
   obtain ⟨g27, r28⟩ := G_some r26
   refine l_' (elp hd_l 1 ((l.length : Int) - 1).toNat 0) (aIndexAddr Try.prog 22 hd_l (i_ ((l.length : Int) - 1))) (u17.idxb (by kernel_rfl) g27.1 g27.2) ?_
   refine l_' (i_ (gt l ((l.length : Int) - 1))) (aLoad Try.prog 3 (elp hd_l 1 ((l.length : Int) - 1).toNat 0) H3) (u17.ld g27.1 g27.2 (by kernel_rfl)) ?_
   refine q_ (i_ t) (q_ (.bool (!decide ((gt l ((l.length : Int) - 1)) = t))) (q_ (.bool (!decide ((gt l ((l.length : Int) - 1)) = t))) (s_nil ?_)))
   obtain rfl := Option.some.inj r28
   exact k15 _ _ ⟨ha_, rfl⟩
  have r29 := ite_f h23 r22
  refine q_ (.bool true) (q_ (.bool true) (n_' (n_' (n_' (n_' (n_' (n_' (n_' (n_' (q_ (.bool true) (s_nil ?_)))))))))))
  obtain rfl := Option.some.inj r29
  exact k15 _ _ ⟨ha_, rfl⟩
 obtain ⟨hh16, rfl⟩ := hM
 obtain ⟨β, rfl⟩ := has_ex hh16
 clear hh16
 refine k9 _ _ ?_
 refine w_cond (o10) (by kernel_rfl) rfl (fun h30 => ?_) (fun h30 => ?_)
 ·have r31 := ite_t h30 r12
  refine w_seqk fun _ k32 => g_' (q_ (.bool false) (s_nil (k32 _ _ ?_)))
  refine w_ret (th_ret ?_)
  refine b_ret (fn := Try.f20) (vs := [.bool false]) (aRes_tmp (by kernel_rfl) (rfl)) ?_
  obtain rfl := Option.some.inj r31
  exact ⟨rfl, ((FrS.refl (W := []) wf).extR e4)⟩
 have r33 := ite_bf h30 r12
 refine w_skip (k8 _ _ (w_seqk fun _ k34 => g_' (q_ (.int .u64 0) (s_nil (k34 _ _ (w_seqk fun _ k35 => w_seqk fun _ k36 => g_' (q_ (hd_l) ?_)))))))
 have u37 := (h_l.ext e4)
 refine l_' (i_ (l.length : Int)) (aLen Try.prog 22 hd_l H3) (u37.lenb (by kernel_rfl)) ?_
 refine q_ (i_ 0) (s_nil (k36 _ _ ?_))
 obtain ⟨z41, hx39, r40⟩ := bind_some r33
 refine w_mid (fun α H42 => ∃ o38, z41 = Sum.inr o38 ∧ Has α [(4, .int .u64 length_), (11, .int .u64 o38)] ∧ FrS [] H3 H42) (fun _ k44 => ?_) (fun α H42 hM => ?_)
 ·refine w_block ?_
  obtain ⟨n46, hn47⟩ := loopO_iff.1 hx39
  refine w_loopn (fun n α H48 => ∃ (sum1 : Int), ∃ (i2 : Int), iterO (fun zz_ => z_viaductref08_Path_l1 First To Weight l zz_.1 zz_.2) n (sum1, i2) = some z41 ∧ Has α [(1, hd_l), (4, .int .u64 length_), (5, pt_ b2 0), (11, .int .u64 sum1), (38, hd_l), (39, i_ (l.length : Int)), (40, i_ i2)] ∧ FrS [] H3 H48) n46 ⟨0, 0, hn47, ha_, (FrS.refl (W := []) e4.wf)⟩ ?_
  rintro n46 α H48 ⟨sum1, i2, hi51, hh50, e49⟩ K56 k56
  obtain ⟨n52, z53, rfl, hz54, hn55⟩ := iter_succ hi51
  obtain ⟨β, rfl⟩ := has_ex hh50
  clear hh50
  replace hz54 : z_viaductref08_Path_l1 First To Weight l sum1 i2 = some z53 := hz54
  unfold z_viaductref08_Path_l1 at hz54
  refine w_seqk fun _ k57 => g_' (q_ (.bool (decide (i2 < (l.length : Int)))) (s_nil (k57 _ _ (w_seqk fun _ k58 => ?_))))
  refine w_condp (i2 < (l.length : Int)) (by kernel_rfl) rfl (fun h59 => ?_) (fun h59 => ?_)
  ·have r60 := ite_t h59 hz54
   refine w_skip (k58 _ _ (w_seqk fun _ k61 => w_block (w_seqk fun _ k62 => g_' (q_ (i_ i2) ?_))))
   obtain ⟨g63, r64⟩ := G_some r60
   have u65 := (u37.fr e49 Dj.nil_l)
   refine l_' (elp hd_l 1 i2.toNat 0) (aIndexAddr Try.prog 22 hd_l (i_ i2)) (u65.idxb (by kernel_rfl) g63 h59) ?_
   refine l_' (i_ (gt l i2)) (aLoad Try.prog 3 (elp hd_l 1 i2.toNat 0) H48) (u65.ld g63 h59 (by kernel_rfl)) ?_
   refine q_ (i_ i2) (q_ (i_ (gt l i2)) (s_nil (k62 _ _ (w_seqk fun _ k66 => w_seqk fun _ k67 => g_' ?_))))
   have u68 := (r6.frS e49 Dj.nil_l)
   refine l_' (.agg #[hd_First, hd_To, hd_Weight]) (aLoad Try.prog 24 (pt_ b2 0) H48) (u68.ld (by kernel_rfl)) ?_
   refine q_ (i_ (gt l i2)) ?_
   have u69 := ((h_First.ext e4).fr e49 Dj.nil_l)
   have u70 := ((h_To.ext e4).fr e49 Dj.nil_l)
   have u71 := ((h_Weight.ext e4).fr e49 Dj.nil_l)
   obtain ⟨y72, hy73, r74⟩ := bind_some r64
   refine s_ck 71 #[.agg #[hd_First, hd_To, hd_Weight], i_ (gt l i2)] (by kernel_rfl) (c_viaductref05_Node e49.wf u69 u70 u71 hy73) ?_
   rintro _ H75 ⟨rfl, e76⟩
   refine q_ (.bool (!y72)) (s_nil (k67 _ _ ?_))
   refine w_cond ((!y72)) (by kernel_rfl) rfl (fun h77 => ?_) (fun h77 => ?_)
   ·have r78 := ite_t h77 r74
    refine w_seqk fun _ k79 => g_' (q_ (.bool false) (s_nil (k79 _ _ ?_)))
    refine w_ret (th_ret (bl_ret (th_ret (th_ret (bl_ret (th_ret (th_ret ?_)))))))
    obtain ⟨v80, hv81, hz82⟩ := map_some r78
    subst hz82
    obtain rfl := it_inr hn55
    have hq83 := elim_inl r40
    rw [hq83] at hv81
    refine b_ret (fn := Try.f20) (vs := [.bool false]) (aRes_tmp (by kernel_rfl) (rfl)) ?_
    obtain rfl := Option.some.inj hv81
    exact ⟨rfl, (FrS.step wf (FrS.step wf ((FrS.refl (W := []) wf).extR e4) e49 Inn.nil) e76 Inn.nil)⟩
   have r84 := ite_bf h77 r74
   refine w_skip (k66 _ _ (w_seqk fun _ k85 => w_seqk fun _ k86 => g_' (q_ (hd_l) (q_ (i_ i2) ?_))))
   obtain ⟨g87, r88⟩ := G_some r84
   have u92 := (u65.fr e76 Dj.nil_l)
   obtain ⟨s89, q90, hs91⟩ := Sq.cut (P := Try.prog) u92 (t := 22) (by kernel_rfl) (lo := none) (hi := (some (i_ i2))) (l := 0) (r := i2.toNat) (rfl) (aBound_int _ (by have := g87; omega)) (by have := g87; omega) (by have := g87; omega)
   obtain ⟨a93, n94, c95, rfl⟩ := hs91.form
   refine s_ql (.slice a93 n94 c95) (by kernel_rfl) q90 ?_
   refine l_' (i_ (((l.take i2.toNat).drop 0).length : Int)) (aLen Try.prog 22 (.slice a93 n94 c95) H75) (hs91.lenb (by kernel_rfl)) ?_
   refine q_ (i_ 0) (s_nil (k86 _ _ ?_))
   obtain ⟨z100, hx98, r99⟩ := bind_some r88
   refine w_mid (fun α H101 => ∃ o97, z100 = Sum.inr o97 ∧ Has α [(1, hd_l), (4, .int .u64 length_), (5, pt_ b2 0), (11, .int .u64 sum1), (12, i_ i2), (13, i_ (gt l i2)), (38, hd_l), (39, i_ (l.length : Int)), (40, i_ i2)] ∧ H75 = H101) (fun _ k103 => ?_) (fun α H101 hM => ?_)
   ·refine w_block ?_
    obtain ⟨n105, hn106⟩ := loopO_iff.1 hx98
    refine w_loopn (fun n α H107 => ∃ (i0 : Int), iterO (fun zz_ => z_viaductref08_Path_l0 l i2 zz_) n i0 = some z100 ∧ Has α [(1, hd_l), (4, .int .u64 length_), (5, pt_ b2 0), (11, .int .u64 sum1), (12, i_ i2), (13, i_ (gt l i2)), (38, hd_l), (39, i_ (l.length : Int)), (40, i_ i2), (51, .slice a93 n94 c95), (52, i_ (((l.take i2.toNat).drop 0).length : Int)), (53, i_ i0)] ∧ H75 = H107) n105 ⟨0, hn106, ha_, rfl⟩ ?_
    rintro n105 α H107 ⟨i0, hi110, hh109, rfl⟩ K115 k115
    obtain ⟨n111, z112, rfl, hz113, hn114⟩ := iter_succ hi110
    obtain ⟨β, rfl⟩ := has_ex hh109
    clear hh109
    replace hz113 : z_viaductref08_Path_l0 l i2 i0 = some z112 := hz113
    unfold z_viaductref08_Path_l0 at hz113
    refine w_seqk fun _ k116 => g_' (q_ (.bool (decide (i0 < (((l.take i2.toNat).drop 0).length : Int)))) (s_nil (k116 _ _ (w_seqk fun _ k117 => ?_))))
    refine w_condp (i0 < (((l.take i2.toNat).drop 0).length : Int)) (by kernel_rfl) rfl (fun h118 => ?_) (fun h118 => ?_)
    ·have r119 := ite_t h118 hz113
     refine w_skip (k117 _ _ (w_seqk fun _ k120 => w_block (w_seqk fun _ k121 => g_' ?_)))
     obtain ⟨g122, r123⟩ := G_some r119
     refine l_' (elp (.slice a93 n94 c95) 1 i0.toNat 0) (aIndexAddr Try.prog 22 (.slice a93 n94 c95) (i_ i0)) (hs91.idxb (by kernel_rfl) g122 h118) ?_
     refine l_' (i_ (gt ((l.take i2.toNat).drop 0) i0)) (aLoad Try.prog 3 (elp (.slice a93 n94 c95) 1 i0.toNat 0) H75) (hs91.ld g122 h118 (by kernel_rfl)) ?_
     refine q_ (i_ (gt ((l.take i2.toNat).drop 0) i0)) (s_nil (k121 _ _ (w_seqk fun _ k124 => g_' (q_ (i_ (gt ((l.take i2.toNat).drop 0) i0)) (q_ (i_ (gt l i2)) (q_ (.bool (decide ((gt ((l.take i2.toNat).drop 0) i0) = (gt l i2)))) (s_nil (k124 _ _ ?_))))))))
     refine w_condp ((gt ((l.take i2.toNat).drop 0) i0) = (gt l i2)) (by kernel_rfl) rfl (fun h125 => ?_) (fun h125 => ?_)
     ·have r126 := ite_t h125 r123
      refine w_seqk fun _ k127 => g_' (q_ (.bool false) (s_nil (k127 _ _ ?_)))
      refine w_ret (bl_ret (th_ret (th_ret (bl_ret (th_ret (th_ret (bl_ret (th_ret (th_ret (bl_ret (th_ret (th_ret ?_))))))))))))
      obtain ⟨v128, hv129, hz130⟩ := map_some r126
      subst hz130
      obtain rfl := it_inr hn114
      have hq131 := elim_inl r99
      rw [hq131] at hv129
      obtain ⟨v132, hv133, hz134⟩ := map_some hv129
      subst hz134
      obtain rfl := it_inr hn55
      have hq135 := elim_inl r40
      rw [hq135] at hv133
      refine b_ret (fn := Try.f20) (vs := [.bool false]) (aRes_tmp (by kernel_rfl) (rfl)) ?_
      obtain rfl := Option.some.inj hv133
      exact ⟨rfl, (FrS.step wf (FrS.step wf ((FrS.refl (W := []) wf).extR e4) e49 Inn.nil) e76 Inn.nil)⟩
     have r136 := ite_f h125 r123
     refine w_skip (k120 _ _ (g_' ?_))
     obtain ⟨g137, r138⟩ := G_some r136
     refine w_' (i0 + 1) (wrap64 (by have := g137; omega)) ?_
     refine q_ (i_ (i0 + 1)) (s_nil ?_)
     obtain rfl := Option.some.inj r138
     exact k115 n111 _ _ (Nat.lt_succ_self _) ⟨(i0 + 1), hn114, ha_, rfl⟩
    have r139 := ite_f h118 hz113
    refine w_exit (th_exit (th_exit (bl_eq ?_)))
    obtain rfl := Option.some.inj r139
    obtain rfl := it_inr hn114
    exact k103 _ _ ⟨_, rfl, ha_, rfl⟩
   obtain ⟨o97, rfl, hh104, rfl⟩ := hM
   have r140 := elim_inr r99
   obtain ⟨β, rfl⟩ := has_ex hh104
   clear hh104
   refine k85 _ _ (w_seqk fun _ k141 => g_' (q_ (i_ i2) (q_ (.bool (decide (i2 > 0))) (s_nil (k141 _ _ ?_)))))
   refine w_condp (i2 > 0) (by kernel_rfl) rfl (fun h142 => ?_) (fun h142 => ?_)
   ·have r143 := ite_t h142 r140
    refine w_seqk fun _ k144 => ?_
    refine w_draw [0, 1, 2, 3, 4, 5, 6, 11, 7, 8, 9, 10, 12, 13] (by kernel_rfl) ?_
    have u145 := (u68.frS e76 Dj.nil_l)
    refine m_' (.agg #[hd_First, hd_To, hd_Weight]) (aLoad Try.prog 24 (pt_ b2 0) H75) (u145.ld (by kernel_rfl)) ?_
    refine e_' (hd_l) (e_' (i_ i2) ?_)
    obtain ⟨g146, r147⟩ := G_some r143
    refine d_w ((i2 - 1)) (k := .i64) (x := (i2 - 1)) (by kernel_rfl) (wrap64 g146) ?_
    obtain ⟨g148, r149⟩ := G_some r147
    refine m_' (elp hd_l 1 (i2 - 1).toNat 0) (aIndexAddr Try.prog 22 hd_l (i_ (i2 - 1))) (u92.idxb (by kernel_rfl) g148.1 g148.2) ?_
    refine m_' (i_ (gt l (i2 - 1))) (aLoad Try.prog 3 (elp hd_l 1 (i2 - 1).toNat 0) H75) (u92.ld g148.1 g148.2 (by kernel_rfl)) ?_
    refine e_' (i_ (gt l i2)) ?_
    refine d_rwk e76.wf [i_ 0, .slice none 0 0] (by kernel_rfl) fun b150 H151 e152 hb153 r154 => ?_
    have u156 := ((u69.fr e76 Dj.nil_l).ext e152)
    have u157 := ((u70.fr e76 Dj.nil_l).ext e152)
    have u158 := ((u71.fr e76 Dj.nil_l).ext e152)
    obtain ⟨y159, hy160, r161⟩ := bind_some r149
    refine d_ck 72 #[.agg #[hd_First, hd_To, hd_Weight], i_ (gt l (i2 - 1)), i_ (gt l i2)] (by kernel_rfl) (c_viaductref05_DocFind e152.wf u156 u157 u158 hy160) ?_
    rintro _ H164 ⟨s162, f163, rfl, e165, m166, i167⟩
    obtain ⟨a169, n170, c171, rfl⟩ := m166.form
    refine ⟨st_nil, ?_⟩
    refine e_' (.tuple #[i_ y159.1, .agg #[i_ y159.2.1, .slice a169 n170 c171]]) (e_' (i_ y159.1) (e_' (.agg #[i_ y159.2.1, .slice a169 n170 c171]) (e_' (i_ y159.1) ?_)))
    have u176 := (r154.frS e165 Dj.nil_l)
    obtain ⟨H172, q173, e174, r175⟩ := Row.store (P := Try.prog) (t := 46) (p := 0) e165.wf u176 (.agg #[i_ y159.2.1, .slice a169 n170 c171]) [i_ y159.2.1, .slice a169 n170 c171] (by kernel_rfl) (by kernel_rfl) (one_cons (rfl) (one_cons (m166.one1) (one_nil))) (Nat.le_of_ble_eq_true (by kernel_rfl)) [i_ y159.2.1, .slice a169 n170 c171] (by kernel_rfl)
    refine d_ek (undef) (by kernel_rfl) (map_ok q173) (st_nil) ?_
    refine d_nil ?_
    refine k144 _ _ (w_seqk fun _ k177 => w_seqk fun _ k178 => g_' ?_)
    refine l_' (.agg #[i_ y159.2.1, .slice a169 n170 c171]) (aLoad Try.prog 46 (pt_ b150 0) H172) (r175.ld (by kernel_rfl)) ?_
    have u179 := (m166.fr e174 (Dj.symm (i167.djn r154.ltF)))
    obtain ⟨y180, hy181, r182⟩ := bind_some r161
    refine s_ck 56 #[.agg #[i_ y159.2.1, .slice a169 n170 c171]] (by kernel_rfl) (c_viaductref01_Err_Bad e174.wf u179.sq hy181) ?_
    rintro _ H183 ⟨rfl, e184⟩
    refine s_nil (k178 _ _ ?_)
    refine w_cond (y180) (by kernel_rfl) rfl (fun h185 => ?_) (fun h185 => ?_)
    ·have r186 := ite_t h185 r182
     refine w_seqk fun _ k187 => g_' (q_ (.bool false) (s_nil (k187 _ _ ?_)))
     refine w_ret (th_ret (bl_ret (th_ret (th_ret (bl_ret (th_ret (th_ret ?_)))))))
     obtain ⟨v188, hv189, hz190⟩ := map_some r186
     subst hz190
     obtain rfl := it_inr hn55
     have hq191 := elim_inl r40
     rw [hq191] at hv189
     refine b_ret (fn := Try.f20) (vs := [.bool false]) (aRes_tmp (by kernel_rfl) (rfl)) ?_
     obtain rfl := Option.some.inj hv189
     exact ⟨rfl, (FrS.step wf (FrS.step wf (FrS.step wf ((FrS.step wf (FrS.step wf ((FrS.refl (W := []) wf).extR e4) e49 Inn.nil) e76 Inn.nil).extR e152) e165 Inn.nil) e174 (hb153.fresh (ntr (ntr e4.next e49.next) e76.next))) e184 Inn.nil)⟩
    have r192 := ite_bf h185 r182
    refine w_skip (k177 _ _ (g_' (q_ (.int .u64 sum1) (q_ (i_ y159.1) ?_))))
    obtain ⟨g193, r194⟩ := G_some r192
    refine s_w (y159.1) (k := .u64) (x := y159.1) (by kernel_rfl) (wrapu64 g193) ?_
    obtain ⟨g195, r196⟩ := G_some r194
    refine s_w ((sum1 + y159.1)) (k := .u64) (x := (sum1 + y159.1)) (by kernel_rfl) (wrapu64 g195) ?_
    refine q_ (.int .u64 (sum1 + y159.1)) (s_nil (k61 _ _ (g_' ?_)))
    obtain ⟨g197, r198⟩ := G_some r196
    refine w_' (i2 + 1) (wrap64 (by have := g197; omega)) ?_
    refine q_ (i_ (i2 + 1)) (s_nil ?_)
    obtain rfl := Option.some.inj r198
    exact k56 n52 _ _ (Nat.lt_succ_self _) ⟨(sum1 + y159.1), (i2 + 1), hn55, ha_, (FrS.step e4.wf (FrS.step e4.wf (FrS.step e4.wf ((FrS.step e4.wf (FrS.step e4.wf (FrS.refl (W := []) e4.wf) e49 Inn.nil) e76 Inn.nil).extR e152) e165 Inn.nil) e174 (hb153.fresh (ntr e49.next e76.next))) e184 Inn.nil)⟩
   have r199 := ite_f h142 r140
   refine w_skip (k61 _ _ (g_' ?_))
   obtain ⟨g200, r201⟩ := G_some r199
   refine w_' (i2 + 1) (wrap64 (by have := g200; omega)) ?_
   refine q_ (i_ (i2 + 1)) (s_nil ?_)
   obtain rfl := Option.some.inj r201
   exact k56 n52 _ _ (Nat.lt_succ_self _) ⟨sum1, (i2 + 1), hn55, ha_, (FrS.step e4.wf (FrS.step e4.wf (FrS.refl (W := []) e4.wf) e49 Inn.nil) e76 Inn.nil)⟩
  have r202 := ite_f h59 hz54
  refine w_exit (th_exit (th_exit (bl_eq ?_)))
  obtain rfl := Option.some.inj r202
  obtain rfl := it_inr hn55
  exact k44 _ _ ⟨_, rfl, ha_, (FrS.step e4.wf (FrS.refl (W := []) e4.wf) e49 Inn.nil)⟩
 obtain ⟨o38, rfl, hh45, e43⟩ := hM
 have r203 := elim_inr r40
 obtain ⟨β, rfl⟩ := has_ex hh45
 clear hh45
 refine k35 _ _ (w_seqk fun _ k204 => g_' (q_ (.int .u64 o38) (q_ (.int .u64 length_) (q_ (.bool (decide (o38 = length_))) (q_ (.bool (decide (o38 = length_))) (s_nil (k204 _ _ ?_)))))))
 refine w_ret ?_
 refine b_ret (fn := Try.f20) (vs := [.bool (decide (o38 = length_))]) (aRes_tmp (by kernel_rfl) (rfl)) ?_
 obtain rfl := Option.some.inj r203
 exact ⟨rfl, (FrS.step wf ((FrS.refl (W := []) wf).extR e4) e43 Inn.nil)⟩
end Go.Vd
