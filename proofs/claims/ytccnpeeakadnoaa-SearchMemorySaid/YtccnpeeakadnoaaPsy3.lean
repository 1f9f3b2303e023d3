/- The walks of the functions (printed by a program of ours). -/
import Derived.Test.YtccnpeeakadnoaaPsy2
import Derived.Test.YtccnpeeakadnoaaPsyVeC
import Derived.Test.YtccnpeeakadnoaaPsyISy
import Derived.Test.YtccnpeeakadnoaaPsyVeN
import Derived.Test.YtccnpeeakadnoaaPsyVeM
set_option linter.unusedVariables false
set_option linter.unusedSimpArgs false
set_option linter.unusedSectionVars false
/-! (KSy8) -/

set_option maxRecDepth 100000
set_option maxHeartbeats 4000000
set_option linter.unusedVariables false
namespace Go.Vd
open Go.Proofs
attribute [local irreducible] wpSeq wpOrd aWp
theorem c_viaductlaw08_SearchMemory {H : AH} {hd_First : Value} {fp_First : Fp} {hd_To : Value} {fp_To : Fp} {hd_Weight : Value} {fp_Weight : Fp} {First : List (Int)} {To : List (Int)} {Weight : List (Int)} {s : Int} {t : Int} {r : Bool}
    (wf : WF H) (h_First : Sq (encI .i64) 1 H hd_First First fp_First) (h_To : Sq (encI .i64) 1 H hd_To To fp_To) (h_Weight : Sq (encI .i64) 1 H hd_Weight Weight fp_Weight) (hr : z_viaductlaw08_SearchMemory First To Weight s t = some r) :
    ACalls Try.prog 3 #[.agg #[hd_First, hd_To, hd_Weight], i_ s, i_ t] H fun v H' => v = .bool r ∧ FrS [] H H' := by
 refine acalls_of_body mixed Try.func3 rfl (Nat.le_of_ble_eq_true rfl) ?_
 unfold z_viaductlaw08_SearchMemory at hr
 refine w_seqk fun _ k1 => g_' ?_
 refine s_rwl wf [hd_First, hd_To, hd_Weight] (one_cons (h_First.one1) (one_cons (h_To.one1) (one_cons (h_Weight.one1) (one_nil)))) (by kernel_rfl) fun b2 H3 e4 hb5 r6 => ?_
 refine q_ (.bool false) (s_nil (k1 _ _ (w_seqk fun _ k8 => w_seqk fun _ k9 => g_' ?_)))
 refine s_ck 7 #[] (by kernel_rfl) c_viaductlaw08_awake ?_
 rintro _ _ ⟨rfl, rfl⟩
 refine q_ (.bool false) (s_nil (k9 _ _ ?_))
 refine w_cond false (by kernel_rfl) rfl (fun h => by cases h) (fun _ => ?_)
 refine w_skip (k8 _ _ (w_seqk fun _ k10 => w_seqk fun _ k11 => g_' ?_))
 refine l_' (.agg #[hd_First, hd_To, hd_Weight]) (aLoad Try.prog 24 (pt_ b2 0) H3) (r6.ld (by kernel_rfl)) ?_
 have u12 := (h_First.ext e4)
 have u13 := (h_To.ext e4)
 have u14 := (h_Weight.ext e4)
 obtain ⟨y15, hy16, r17⟩ := bind_some hr
 refine s_ck 8 #[.agg #[hd_First, hd_To, hd_Weight]] (by kernel_rfl) (c_viaductlaw08_few e4.wf u12 u13 u14 hy16) ?_
 rintro _ H18 ⟨rfl, e19⟩
 refine q_ (.bool (!y15)) (s_nil (k11 _ _ ?_))
 refine w_cond ((!y15)) (by kernel_rfl) rfl (fun h20 => ?_) (fun h20 => ?_)
 ·have r21 := ite_t h20 r17
  refine w_seqk fun _ k22 => g_' (q_ (.bool true) (s_nil (k22 _ _ ?_)))
  refine w_ret (th_ret ?_)
  refine b_ret (fn := Try.f3) (vs := [.bool true]) (aRes_tmp (by kernel_rfl) (rfl)) ?_
  obtain rfl := Option.some.inj r21
  exact ⟨rfl, (FrS.step wf ((FrS.refl (W := []) wf).extR e4) e19 Inn.nil)⟩
 have r23 := ite_bf h20 r17
 refine w_skip (k10 _ _ (w_seqk fun _ k24 => g_' ?_))
 have u25 := (r6.frS e19 Dj.nil_l)
 refine l_' (.agg #[hd_First, hd_To, hd_Weight]) (aLoad Try.prog 24 (pt_ b2 0) H18) (u25.ld (by kernel_rfl)) ?_
 have u26 := (u12.fr e19 Dj.nil_l)
 have u27 := (u13.fr e19 Dj.nil_l)
 have u28 := (u14.fr e19 Dj.nil_l)
 obtain ⟨y29, hy30, r31⟩ := bind_some r23
 refine s_ck 9 #[.agg #[hd_First, hd_To, hd_Weight]] (by kernel_rfl) (c_viaductlaw08_of e19.wf u26 u27 u28 hy30) ?_
 rintro _ H38 ⟨s32, f33, s34, f35, s36, f37, rfl, e39, m40, m41, m42, i43, i44, i45, d46, d47, d48⟩
 obtain ⟨a52, n53, c54, rfl⟩ := m40.form
 obtain ⟨a55, n56, c57, rfl⟩ := m41.form
 obtain ⟨a58, n59, c60, rfl⟩ := m42.form
 refine s_rwk e39.wf [.slice none 0 0, .slice none 0 0, .slice none 0 0] (by kernel_rfl) fun b61 H62 e63 hb64 r65 => ?_
 have u71 := (m42.ext e63)
 have u72 := (m41.ext e63)
 have u73 := (m40.ext e63)
 obtain ⟨H67, q68, e69, r70⟩ := Row.store (P := Try.prog) (t := 27) (p := 0) e63.wf r65 (.agg #[.slice a52 n53 c54, .slice a55 n56 c57, .slice a58 n59 c60]) [.slice a52 n53 c54, .slice a55 n56 c57, .slice a58 n59 c60] (by kernel_rfl) (by kernel_rfl) (one_cons (u73.one1) (one_cons (u72.one1) (one_cons (u71.one1) (one_nil)))) (Nat.le_of_ble_eq_true (by kernel_rfl)) [.slice a52 n53 c54, .slice a55 n56 c57, .slice a58 n59 c60] (by kernel_rfl)
 refine s_ek (undef) (by kernel_rfl) (map_ok q68) ?_
 refine s_nil (k24 _ _ (w_seqk fun _ k74 => g_' ?_))
 refine l_' (.agg #[.slice a52 n53 c54, .slice a55 n56 c57, .slice a58 n59 c60]) (aLoad Try.prog 27 (pt_ b61 0) H67) (r70.ld (by kernel_rfl)) ?_
 refine q_ (i_ s) ?_
 have u75 := (u73.fr e69 (hb64.djn m40.lt))
 have u76 := (u72.fr e69 (hb64.djn m41.lt))
 have u77 := (u71.fr e69 (hb64.djn m42.lt))
 obtain ⟨y78, hy79, r80⟩ := bind_some r31
 refine s_ck 10 #[.agg #[.slice a52 n53 c54, .slice a55 n56 c57, .slice a58 n59 c60], i_ s] (by kernel_rfl) (c_search_From e69.wf u75.sq u76.sq u77.sq hy79) ?_
 rintro _ H85 ⟨s81, f82, v83, f84, rfl, e86, m87, m88, i89, i90, d91⟩
 obtain ⟨a94, n95, c96, rfl⟩ := m87.form
 refine q_ (.tuple #[.slice a94 n95 c96, v83]) (q_ (.slice a94 n95 c96) (q_ (v83) (q_ (.slice a94 n95 c96) (q_ (v83) (s_nil (k74 _ _ (w_seqk fun _ k97 => g_' ?_)))))))
 have u98 := (r70.frS e86 Dj.nil_l)
 refine l_' (.agg #[.slice a52 n53 c54, .slice a55 n56 c57, .slice a58 n59 c60]) (aLoad Try.prog 27 (pt_ b61 0) H85) (u98.ld (by kernel_rfl)) ?_
 refine q_ (i_ s) ?_
 have u99 := (u75.fr e86 Dj.nil_l)
 have u100 := (u76.fr e86 Dj.nil_l)
 have u101 := (u77.fr e86 Dj.nil_l)
 obtain ⟨y102, hy103, r104⟩ := bind_some r80
 refine s_ck 10 #[.agg #[.slice a52 n53 c54, .slice a55 n56 c57, .slice a58 n59 c60], i_ s] (by kernel_rfl) (c_search_From e86.wf u99.sq u100.sq u101.sq hy103) ?_
 rintro _ H109 ⟨s105, f106, v107, f108, rfl, e110, m111, m112, i113, i114, d115⟩
 obtain ⟨a118, n119, c120, rfl⟩ := m111.form
 refine q_ (.tuple #[.slice a118 n119 c120, v107]) (q_ (.slice a118 n119 c120) (q_ (v107) (q_ (.slice a118 n119 c120) (q_ (v107) (s_nil (k97 _ _ (w_seqk fun _ k121 => g_' ?_)))))))
 have u122 := (u98.frS e110 Dj.nil_l)
 refine l_' (.agg #[.slice a52 n53 c54, .slice a55 n56 c57, .slice a58 n59 c60]) (aLoad Try.prog 27 (pt_ b61 0) H109) (u122.ld (by kernel_rfl)) ?_
 have u123 := (u99.fr e110 Dj.nil_l)
 have u124 := (u100.fr e110 Dj.nil_l)
 have u125 := (u101.fr e110 Dj.nil_l)
 obtain ⟨y126, hy127, r128⟩ := bind_some r104
 refine s_ck 11 #[.agg #[.slice a52 n53 c54, .slice a55 n56 c57, .slice a58 n59 c60]] (by kernel_rfl) (c_search_Matrix e110.wf u123.sq u124.sq u125.sq hy127) ?_
 rintro _ H133 ⟨s129, f130, v131, f132, rfl, e134, m135, m136, i137, i138, d139⟩
 obtain ⟨a142, n143, c144, rfl⟩ := m135.form
 refine q_ (.tuple #[.slice a142 n143 c144, v131]) (q_ (.slice a142 n143 c144) (q_ (v131) (q_ (.slice a142 n143 c144) (q_ (v131) (s_nil (k121 _ _ (w_seqk fun _ k145 => g_' ?_)))))))
 have u146 := (u122.frS e134 Dj.nil_l)
 refine l_' (.agg #[.slice a52 n53 c54, .slice a55 n56 c57, .slice a58 n59 c60]) (aLoad Try.prog 27 (pt_ b61 0) H133) (u146.ld (by kernel_rfl)) ?_
 have u147 := (u123.fr e134 Dj.nil_l)
 have u148 := (u124.fr e134 Dj.nil_l)
 have u149 := (u125.fr e134 Dj.nil_l)
 obtain ⟨y150, hy151, r152⟩ := bind_some r128
 refine s_ck 11 #[.agg #[.slice a52 n53 c54, .slice a55 n56 c57, .slice a58 n59 c60]] (by kernel_rfl) (c_search_Matrix e134.wf u147.sq u148.sq u149.sq hy151) ?_
 rintro _ H157 ⟨s153, f154, v155, f156, rfl, e158, m159, m160, i161, i162, d163⟩
 obtain ⟨a166, n167, c168, rfl⟩ := m159.form
 refine q_ (.tuple #[.slice a166 n167 c168, v155]) (q_ (.slice a166 n167 c168) (q_ (v155) (q_ (.slice a166 n167 c168) (q_ (v155) (s_nil (k145 _ _ (w_seqk fun _ k169 => g_' ?_)))))))
 have u170 := (u146.frS e158 Dj.nil_l)
 refine l_' (.agg #[.slice a52 n53 c54, .slice a55 n56 c57, .slice a58 n59 c60]) (aLoad Try.prog 27 (pt_ b61 0) H157) (u170.ld (by kernel_rfl)) ?_
 refine q_ (i_ s) (q_ (i_ t) ?_)
 have u171 := (u147.fr e158 Dj.nil_l)
 have u172 := (u148.fr e158 Dj.nil_l)
 have u173 := (u149.fr e158 Dj.nil_l)
 obtain ⟨y174, hy175, r176⟩ := bind_some r152
 refine s_ck 12 #[.agg #[.slice a52 n53 c54, .slice a55 n56 c57, .slice a58 n59 c60], i_ s, i_ t] (by kernel_rfl) (c_search_Path e158.wf u171.sq u172.sq u173.sq hy175) ?_
 rintro _ H181 ⟨s177, f178, v179, f180, rfl, e182, m183, m184, i185, i186, d187⟩
 obtain ⟨a190, n191, c192, rfl⟩ := m183.form
 refine q_ (.tuple #[.slice a190 n191 c192, v179]) (q_ (.slice a190 n191 c192) (q_ (v179) (q_ (.slice a190 n191 c192) (q_ (v179) (s_nil (k169 _ _ (w_seqk fun _ k193 => g_' ?_)))))))
 have u194 := (u170.frS e182 Dj.nil_l)
 refine l_' (.agg #[.slice a52 n53 c54, .slice a55 n56 c57, .slice a58 n59 c60]) (aLoad Try.prog 27 (pt_ b61 0) H181) (u194.ld (by kernel_rfl)) ?_
 refine q_ (i_ s) (q_ (i_ t) ?_)
 have u195 := (u171.fr e182 Dj.nil_l)
 have u196 := (u172.fr e182 Dj.nil_l)
 have u197 := (u173.fr e182 Dj.nil_l)
 obtain ⟨y198, hy199, r200⟩ := bind_some r176
 refine s_ck 12 #[.agg #[.slice a52 n53 c54, .slice a55 n56 c57, .slice a58 n59 c60], i_ s, i_ t] (by kernel_rfl) (c_search_Path e182.wf u195.sq u196.sq u197.sq hy199) ?_
 rintro _ H205 ⟨s201, f202, v203, f204, rfl, e206, m207, m208, i209, i210, d211⟩
 obtain ⟨a214, n215, c216, rfl⟩ := m207.form
 refine q_ (.tuple #[.slice a214 n215 c216, v203]) (q_ (.slice a214 n215 c216) (q_ (v203) (q_ (.slice a214 n215 c216) (q_ (v203) (s_nil (k193 _ _ (w_seqk fun _ k217 => g_' ?_)))))))
 have u218 := (u194.frS e206 Dj.nil_l)
 refine l_' (.agg #[.slice a52 n53 c54, .slice a55 n56 c57, .slice a58 n59 c60]) (aLoad Try.prog 27 (pt_ b61 0) H205) (u218.ld (by kernel_rfl)) ?_
 refine q_ (i_ s) ?_
 have u219 := (u195.fr e206 Dj.nil_l)
 have u220 := (u196.fr e206 Dj.nil_l)
 have u221 := (u197.fr e206 Dj.nil_l)
 obtain ⟨y222, hy223, r224⟩ := bind_some r200
 refine s_ck 13 #[.agg #[.slice a52 n53 c54, .slice a55 n56 c57, .slice a58 n59 c60], i_ s, i_ 3, i_ 3, .int .u64 30] (by kernel_rfl) (c_search_Bounded e206.wf u219.sq u220.sq u221.sq hy223) ?_
 rintro _ H229 ⟨s225, f226, v227, f228, rfl, e230, m231, m232, i233, i234, d235⟩
 obtain ⟨a238, n239, c240, rfl⟩ := m231.form
 refine s_nil (k217 _ _ (w_seqk fun _ k241 => w_seqk fun _ k242 => g_' (q_ (pt_ b61 0) ?_)))
 have u243 := (u218.frS e230 Dj.nil_l)
 refine l_' (.slice a52 n53 c54) (aLoad Try.prog 22 (pt_ b61 0) H229) (u243.ld (by kernel_rfl)) ?_
 refine q_ (pt_ b61 1) ?_
 refine l_' (.slice a55 n56 c57) (aLoad Try.prog 22 (pt_ b61 1) H229) (u243.ld (by kernel_rfl)) ?_
 refine q_ (pt_ b61 2) ?_
 refine l_' (.slice a58 n59 c60) (aLoad Try.prog 22 (pt_ b61 2) H229) (u243.ld (by kernel_rfl)) ?_
 refine q_ (.agg #[.slice a52 n53 c54, .slice a55 n56 c57, .slice a58 n59 c60]) ?_
 have u244 := ((((((((((u25.frS e39 Dj.nil_l).ext e63).frS e69 (hb64.djn (r6.ltF.le (ntr e19.next e39.next)))).frS e86 Dj.nil_l).frS e110 Dj.nil_l).frS e134 Dj.nil_l).frS e158 Dj.nil_l).frS e182 Dj.nil_l).frS e206 Dj.nil_l).frS e230 Dj.nil_l)
 refine l_' (.agg #[hd_First, hd_To, hd_Weight]) (aLoad Try.prog 24 (pt_ b2 0) H229) (u244.ld (by kernel_rfl)) ?_
 have u245 := (u219.fr e230 Dj.nil_l)
 have u246 := (u220.fr e230 Dj.nil_l)
 have u247 := (u221.fr e230 Dj.nil_l)
 have u248 := ((((((((((u26.fr e39 Dj.nil_l).ext e63).fr e69 (hb64.djn (h_First.lt.le (ntr (ntr e4.next e19.next) e39.next)))).fr e86 Dj.nil_l).fr e110 Dj.nil_l).fr e134 Dj.nil_l).fr e158 Dj.nil_l).fr e182 Dj.nil_l).fr e206 Dj.nil_l).fr e230 Dj.nil_l)
 have u249 := ((((((((((u27.fr e39 Dj.nil_l).ext e63).fr e69 (hb64.djn (h_To.lt.le (ntr (ntr e4.next e19.next) e39.next)))).fr e86 Dj.nil_l).fr e110 Dj.nil_l).fr e134 Dj.nil_l).fr e158 Dj.nil_l).fr e182 Dj.nil_l).fr e206 Dj.nil_l).fr e230 Dj.nil_l)
 have u250 := ((((((((((u28.fr e39 Dj.nil_l).ext e63).fr e69 (hb64.djn (h_Weight.lt.le (ntr (ntr e4.next e19.next) e39.next)))).fr e86 Dj.nil_l).fr e110 Dj.nil_l).fr e134 Dj.nil_l).fr e158 Dj.nil_l).fr e182 Dj.nil_l).fr e206 Dj.nil_l).fr e230 Dj.nil_l)
 obtain ⟨y251, hy252, r253⟩ := bind_some r224
 refine s_ck 14 #[.agg #[.slice a52 n53 c54, .slice a55 n56 c57, .slice a58 n59 c60], .agg #[hd_First, hd_To, hd_Weight]] (by kernel_rfl) (c_viaductref05_Same e230.wf u245.sq u246.sq u247.sq u248 u249 u250 hy252) ?_
 rintro _ H254 ⟨rfl, e255⟩
 refine q_ (.bool (!y251)) (s_nil (k242 _ _ ?_))
 refine w_cond ((!y251)) (by kernel_rfl) rfl (fun h256 => ?_) (fun h256 => ?_)
 ·have r257 := ite_t h256 r253
  refine w_seqk fun _ k258 => g_' (q_ (.bool false) (s_nil (k258 _ _ ?_)))
  refine w_ret (th_ret ?_)
  refine b_ret (fn := Try.f3) (vs := [.bool false]) (aRes_tmp (by kernel_rfl) (rfl)) ?_
  obtain rfl := Option.some.inj r257
  exact ⟨rfl, (FrS.step wf (FrS.step wf (FrS.step wf (FrS.step wf (FrS.step wf (FrS.step wf (FrS.step wf (FrS.step wf (FrS.step wf ((FrS.step wf (FrS.step wf ((FrS.refl (W := []) wf).extR e4) e19 Inn.nil) e39 Inn.nil).extR e63) e69 (hb64.fresh (ntr (ntr e4.next e19.next) e39.next))) e86 Inn.nil) e110 Inn.nil) e134 Inn.nil) e158 Inn.nil) e182 Inn.nil) e206 Inn.nil) e230 Inn.nil) e255 Inn.nil)⟩
 have r259 := ite_bf h256 r253
 refine w_skip (k241 _ _ (w_seqk fun _ k260 => w_seqk fun _ k261 => g_' (q_ (.slice a94 n95 c96) ?_)))
 have u262 := (((((((m87.fr e110 Dj.nil_l).fr e134 Dj.nil_l).fr e158 Dj.nil_l).fr e182 Dj.nil_l).fr e206 Dj.nil_l).fr e230 Dj.nil_l).fr e255 Dj.nil_l)
 refine l_' (i_ (y78.1.length : Int)) (aLen Try.prog 29 (.slice a94 n95 c96) H254) (u262.sq.lenb (by kernel_rfl)) ?_
 refine q_ (i_ 0) (s_nil (k261 _ _ ?_))
 obtain ⟨o263, hx264, r265⟩ := bind_some r259
 refine w_mid (fun α H266 => Has α [(1, i_ s), (2, i_ t), (3, pt_ b2 0), (10, .slice a118 n119 c120), (12, .slice a142 n143 c144), (14, .slice a166 n167 c168), (16, .slice a190 n191 c192), (18, .slice a214 n215 c216), (19, v203)] ∧ FrS f82 H254 H266) (fun _ k268 => ?_) (fun α H266 hM => ?_)
 ·refine w_block ?_
  obtain ⟨n270, hn271⟩ := loopO_iff.1 hx264
  refine w_loopn (fun n α H272 => ∃ (a0 : List (Int)), ∃ (i1 : Int), iterO (fun zz_ => z_viaductlaw08_SearchMemory_l0 y78 zz_.1 zz_.2) n (a0, i1) = some o263 ∧ Has α [(1, i_ s), (2, i_ t), (3, pt_ b2 0), (8, .slice a94 n95 c96), (10, .slice a118 n119 c120), (12, .slice a142 n143 c144), (14, .slice a166 n167 c168), (16, .slice a190 n191 c192), (18, .slice a214 n215 c216), (19, v203), (90, i_ (y78.1.length : Int)), (91, i_ i1)] ∧ FrS f82 H254 H272 ∧ Ow (encI .u64) 1 H272 (.slice a94 n95 c96) a0 f82) n270 ⟨y78.1, 0, hn271, ha_, (FrS.refl (W := f82) e255.wf), u262⟩ ?_
  rintro n270 α H272 ⟨a0, i1, hi277, hh276, e273, m275⟩ K282 k282
  obtain ⟨n278, z279, rfl, hz280, hn281⟩ := iter_succ hi277
  obtain ⟨β, rfl⟩ := has_ex hh276
  clear hh276
  replace hz280 : z_viaductlaw08_SearchMemory_l0 y78 a0 i1 = some z279 := hz280
  unfold z_viaductlaw08_SearchMemory_l0 at hz280
  refine w_seqk fun _ k283 => g_' (q_ (.bool (decide (i1 < (y78.1.length : Int)))) (s_nil (k283 _ _ (w_seqk fun _ k284 => ?_))))
  refine w_condp (i1 < (y78.1.length : Int)) (by kernel_rfl) rfl (fun h285 => ?_) (fun h285 => ?_)
  ·have r286 := ite_t h285 hz280
   refine w_skip (k284 _ _ (w_seqk fun _ k287 => w_block (w_seqk fun _ k288 => g_' (q_ (i_ i1) (q_ (i_ i1) (s_nil (k288 _ _ (g_' (q_ (.slice a94 n95 c96) (q_ (i_ i1) ?_))))))))))
   obtain ⟨g289, r290⟩ := G_some r286
   refine l_' (elp (.slice a94 n95 c96) 1 i1.toNat 0) (aIndexAddr Try.prog 29 (.slice a94 n95 c96) (i_ i1)) (m275.sq.idxb (by kernel_rfl) g289.1 g289.2) ?_
   obtain ⟨H291, q292, e293, hm294⟩ := Ow.store (P := Try.prog) (t := 42) (off := 0) e273.wf m275 g289.1 g289.2 (.int .u64 77) [.int .u64 77] (by kernel_rfl) (by kernel_rfl) rfl 77 (Nat.le_of_ble_eq_true rfl) (by kernel_rfl)
   refine s_ek (undef) (by kernel_rfl) (map_ok q292) ?_
   refine s_nil (k287 _ _ (g_' ?_))
   obtain ⟨g295, r296⟩ := G_some r290
   refine w_' (i1 + 1) (wrap64 (by have := g295; omega)) ?_
   refine q_ (i_ (i1 + 1)) (s_nil ?_)
   obtain rfl := Option.some.inj r296
   exact k282 n278 _ _ (Nat.lt_succ_self _) ⟨(a0.set i1.toNat 77), (i1 + 1), hn281, ha_, (FrS.step e255.wf (FrS.step e255.wf (FrS.refl (W := f82) e255.wf) e273 Inn.refl') e293 Inn.refl'), hm294⟩
  have r297 := ite_f h285 hz280
  refine w_exit (th_exit (th_exit (bl_eq ?_)))
  obtain rfl := Option.some.inj r297
  obtain rfl := it_inr hn281
  exact k268 _ _ ⟨ha_, (FrS.step e255.wf (FrS.refl (W := f82) e255.wf) e273 Inn.refl')⟩
 obtain ⟨hh269, e267⟩ := hM
 obtain ⟨β, rfl⟩ := has_ex hh269
 clear hh269
 refine k260 _ _ (w_seqk fun _ k298 => w_seqk fun _ k299 => g_' (q_ (.slice a190 n191 c192) ?_))
 have u300 := ((((m183.fr e206 Dj.nil_l).fr e230 Dj.nil_l).fr e255 Dj.nil_l).fr e267 (Dj.symm (i185.djn (m87.lt.le (ntr (ntr e110.next e134.next) e158.next)))))
 refine l_' (i_ (y174.1.length : Int)) (aLen Try.prog 22 (.slice a190 n191 c192) H266) (u300.sq.lenb (by kernel_rfl)) ?_
 refine q_ (i_ 0) (s_nil (k299 _ _ ?_))
 obtain ⟨o301, hx302, r303⟩ := bind_some r265
 refine w_mid (fun α H304 => Has α [(1, i_ s), (2, i_ t), (3, pt_ b2 0), (10, .slice a118 n119 c120), (12, .slice a142 n143 c144), (14, .slice a166 n167 c168), (18, .slice a214 n215 c216), (19, v203)] ∧ FrS f178 H266 H304) (fun _ k306 => ?_) (fun α H304 hM => ?_)
 ·refine w_block ?_
  obtain ⟨n308, hn309⟩ := loopO_iff.1 hx302
  refine w_loopn (fun n α H310 => ∃ (i2 : Int), ∃ (p3 : List (Int)), iterO (fun zz_ => z_viaductlaw08_SearchMemory_l1 y174 zz_.1 zz_.2) n (i2, p3) = some o301 ∧ Has α [(1, i_ s), (2, i_ t), (3, pt_ b2 0), (10, .slice a118 n119 c120), (12, .slice a142 n143 c144), (14, .slice a166 n167 c168), (16, .slice a190 n191 c192), (18, .slice a214 n215 c216), (19, v203), (99, i_ (y174.1.length : Int)), (100, i_ i2)] ∧ FrS f178 H266 H310 ∧ Ow (encI .i64) 1 H310 (.slice a190 n191 c192) p3 f178) n308 ⟨0, y174.1, hn309, ha_, (FrS.refl (W := f178) e267.wf), u300⟩ ?_
  rintro n308 α H310 ⟨i2, p3, hi315, hh314, e311, m313⟩ K320 k320
  obtain ⟨n316, z317, rfl, hz318, hn319⟩ := iter_succ hi315
  obtain ⟨β, rfl⟩ := has_ex hh314
  clear hh314
  replace hz318 : z_viaductlaw08_SearchMemory_l1 y174 i2 p3 = some z317 := hz318
  unfold z_viaductlaw08_SearchMemory_l1 at hz318
  refine w_seqk fun _ k321 => g_' (q_ (.bool (decide (i2 < (y174.1.length : Int)))) (s_nil (k321 _ _ (w_seqk fun _ k322 => ?_))))
  refine w_condp (i2 < (y174.1.length : Int)) (by kernel_rfl) rfl (fun h323 => ?_) (fun h323 => ?_)
  ·have r324 := ite_t h323 hz318
   refine w_skip (k322 _ _ (w_seqk fun _ k325 => w_block (w_seqk fun _ k326 => g_' (q_ (i_ i2) (q_ (i_ i2) (s_nil (k326 _ _ (g_' (q_ (.slice a190 n191 c192) (q_ (i_ i2) ?_))))))))))
   obtain ⟨g327, r328⟩ := G_some r324
   refine l_' (elp (.slice a190 n191 c192) 1 i2.toNat 0) (aIndexAddr Try.prog 22 (.slice a190 n191 c192) (i_ i2)) (m313.sq.idxb (by kernel_rfl) g327.1 g327.2) ?_
   obtain ⟨H329, q330, e331, hm332⟩ := Ow.store (P := Try.prog) (t := 3) (off := 0) e311.wf m313 g327.1 g327.2 (i_ (-1)) [i_ (-1)] (by kernel_rfl) (by kernel_rfl) rfl (-1) (Nat.le_of_ble_eq_true rfl) (by kernel_rfl)
   refine s_ek (undef) (by kernel_rfl) (map_ok q330) ?_
   refine s_nil (k325 _ _ (g_' ?_))
   obtain ⟨g333, r334⟩ := G_some r328
   refine w_' (i2 + 1) (wrap64 (by have := g333; omega)) ?_
   refine q_ (i_ (i2 + 1)) (s_nil ?_)
   obtain rfl := Option.some.inj r334
   exact k320 n316 _ _ (Nat.lt_succ_self _) ⟨(i2 + 1), (p3.set i2.toNat (-1)), hn319, ha_, (FrS.step e267.wf (FrS.step e267.wf (FrS.refl (W := f178) e267.wf) e311 Inn.refl') e331 Inn.refl'), hm332⟩
  have r335 := ite_f h323 hz318
  refine w_exit (th_exit (th_exit (bl_eq ?_)))
  obtain rfl := Option.some.inj r335
  obtain rfl := it_inr hn319
  exact k306 _ _ ⟨ha_, (FrS.step e267.wf (FrS.refl (W := f178) e267.wf) e311 Inn.refl')⟩
 obtain ⟨hh307, e305⟩ := hM
 obtain ⟨β, rfl⟩ := has_ex hh307
 clear hh307
 refine k298 _ _ (w_seqk fun _ k336 => w_seqk fun _ k337 => g_' (q_ (.slice a142 n143 c144) ?_))
 have u338 := (((((((m135.fr e158 Dj.nil_l).fr e182 Dj.nil_l).fr e206 Dj.nil_l).fr e230 Dj.nil_l).fr e255 Dj.nil_l).fr e267 (Dj.symm (i137.djn (m87.lt.le e110.next)))).fr e305 (i185.djn (m135.lt.le e158.next)))
 refine l_' (i_ (y126.1.length : Int)) (aLen Try.prog 34 (.slice a142 n143 c144) H304) (u338.lenb (by kernel_rfl)) ?_
 refine q_ (i_ 0) (s_nil (k337 _ _ ?_))
 obtain ⟨z342, hx340, r341⟩ := bind_some r303
 refine w_mid (fun α H343 => ∃ o339, z342 = Sum.inr o339 ∧ Has α [(1, i_ s), (2, i_ t), (3, pt_ b2 0), (10, .slice a118 n119 c120), (12, .slice a142 n143 c144), (14, .slice a166 n167 c168), (18, .slice a214 n215 c216), (19, v203)] ∧ FrS f130 H304 H343 ∧ Nst (CR.sl (encI .u64) 1) H343 (.slice a142 n143 c144) o339 f130) (fun _ k347 => ?_) (fun α H343 hM => ?_)
 ·refine w_block ?_
  obtain ⟨n349, hn350⟩ := loopO_iff.1 hx340
  refine w_loopn (fun n α H351 => ∃ (i6 : Int), ∃ (l7 : List (List (Int))), iterO (fun zz_ => z_viaductlaw08_SearchMemory_l3 y126 zz_.1 zz_.2) n (i6, l7) = some z342 ∧ Has α [(1, i_ s), (2, i_ t), (3, pt_ b2 0), (10, .slice a118 n119 c120), (12, .slice a142 n143 c144), (14, .slice a166 n167 c168), (18, .slice a214 n215 c216), (19, v203), (108, i_ (y126.1.length : Int)), (109, i_ i6)] ∧ FrS f130 H304 H351 ∧ Nst (CR.sl (encI .u64) 1) H351 (.slice a142 n143 c144) l7 f130) n349 ⟨0, y126.1, hn350, ha_, (FrS.refl (W := f130) e305.wf), u338⟩ ?_
  rintro n349 α H351 ⟨i6, l7, hi356, hh355, e352, m354⟩ K361 k361
  obtain ⟨n357, z358, rfl, hz359, hn360⟩ := iter_succ hi356
  obtain ⟨β, rfl⟩ := has_ex hh355
  clear hh355
  replace hz359 : z_viaductlaw08_SearchMemory_l3 y126 i6 l7 = some z358 := hz359
  unfold z_viaductlaw08_SearchMemory_l3 at hz359
  refine w_seqk fun _ k362 => g_' (q_ (.bool (decide (i6 < (y126.1.length : Int)))) (s_nil (k362 _ _ (w_seqk fun _ k363 => ?_))))
  refine w_condp (i6 < (y126.1.length : Int)) (by kernel_rfl) rfl (fun h364 => ?_) (fun h364 => ?_)
  ·have r365 := ite_t h364 hz359
   refine w_skip (k363 _ _ (w_seqk fun _ k366 => w_block (w_seqk fun _ k367 => g_' (q_ (i_ i6) (q_ (i_ i6) (s_nil (k367 _ _ (w_seqk fun _ k368 => w_seqk fun _ k369 => g_' (q_ (.slice a142 n143 c144) (q_ (i_ i6) ?_))))))))))
   obtain ⟨g370, r371⟩ := G_some r365
   refine l_' (elp (.slice a142 n143 c144) 1 i6.toNat 0) (aIndexAddr Try.prog 34 (.slice a142 n143 c144) (i_ i6)) (m354.idxb (by kernel_rfl) g370.1 g370.2) ?_
   obtain ⟨cs372, f373, hk374, hs375, hl376, hq377⟩ := m354.kid g370.1 g370.2
   obtain ⟨s378, rfl, ho380⟩ := cr_sl_open hk374
   have kd381 : KdS (encI .u64) 1 H351 s378 (gt l7 i6) f130 (.slice a142 n143 c144) 1 i6.toNat 0 := ⟨ho380.sq.up hs375 m354.lt, hq377 0 _ rfl (by decide)⟩
   obtain ⟨a382, n383, c384, rfl⟩ := kd381.sq.form
   refine l_' (.slice a382 n383 c384) (aLoad Try.prog 29 (elp (.slice a142 n143 c144) 1 i6.toNat 0) H351) (hl376 _ _ _ _ (by kernel_rfl)) ?_
   refine l_' (i_ ((gt l7 i6).length : Int)) (aLen Try.prog 29 (.slice a382 n383 c384) H351) (kd381.sq.lenb (by kernel_rfl)) ?_
   refine q_ (i_ 0) (s_nil (k369 _ _ ?_))
   obtain ⟨o386, hx387, r388⟩ := bind_some r371
   refine w_mid (fun α H389 => Has α [(1, i_ s), (2, i_ t), (3, pt_ b2 0), (10, .slice a118 n119 c120), (12, .slice a142 n143 c144), (14, .slice a166 n167 c168), (18, .slice a214 n215 c216), (19, v203), (22, i_ i6), (108, i_ (y126.1.length : Int)), (109, i_ i6)] ∧ FrS f130 H351 H389 ∧ Nst (CR.sl (encI .u64) 1) H389 (.slice a142 n143 c144) o386 f130) (fun _ k393 => ?_) (fun α H389 hM => ?_)
   ·refine w_block ?_
    obtain ⟨n395, hn396⟩ := loopO_iff.1 hx387
    refine w_loopn (fun n α H397 => ∃ (i4 : Int), ∃ (l5 : List (List (Int))), iterO (fun zz_ => z_viaductlaw08_SearchMemory_l2 i6 l7 zz_.1 zz_.2) n (i4, l5) = some o386 ∧ Has α [(1, i_ s), (2, i_ t), (3, pt_ b2 0), (10, .slice a118 n119 c120), (12, .slice a142 n143 c144), (14, .slice a166 n167 c168), (18, .slice a214 n215 c216), (19, v203), (22, i_ i6), (108, i_ (y126.1.length : Int)), (109, i_ i6), (116, i_ ((gt l7 i6).length : Int)), (117, i_ i4)] ∧ FrS f130 H351 H397 ∧ Nst (CR.sl (encI .u64) 1) H397 (.slice a142 n143 c144) l5 f130) n395 ⟨0, l7, hn396, ha_, (FrS.refl (W := f130) e352.wf), m354⟩ ?_
    rintro n395 α H397 ⟨i4, l5, hi402, hh401, e398, m400⟩ K407 k407
    obtain ⟨n403, z404, rfl, hz405, hn406⟩ := iter_succ hi402
    obtain ⟨β, rfl⟩ := has_ex hh401
    clear hh401
    replace hz405 : z_viaductlaw08_SearchMemory_l2 i6 l7 i4 l5 = some z404 := hz405
    unfold z_viaductlaw08_SearchMemory_l2 at hz405
    refine w_seqk fun _ k408 => g_' (q_ (.bool (decide (i4 < ((gt l7 i6).length : Int)))) (s_nil (k408 _ _ (w_seqk fun _ k409 => ?_))))
    refine w_condp (i4 < ((gt l7 i6).length : Int)) (by kernel_rfl) rfl (fun h410 => ?_) (fun h410 => ?_)
    ·have r411 := ite_t h410 hz405
     refine w_skip (k409 _ _ (w_seqk fun _ k412 => w_block (w_seqk fun _ k413 => g_' (q_ (i_ i4) (q_ (i_ i4) (s_nil (k413 _ _ (g_' (q_ (.slice a142 n143 c144) (q_ (i_ i6) ?_))))))))))
     obtain ⟨g414, r415⟩ := G_some r411
     refine l_' (elp (.slice a142 n143 c144) 1 i6.toNat 0) (aIndexAddr Try.prog 34 (.slice a142 n143 c144) (i_ i6)) (m400.idxb (by kernel_rfl) g370.1 g414) ?_
     obtain ⟨cs416, f417, hk418, hs419, hl420, hq421⟩ := m400.kid g370.1 g414
     obtain ⟨s422, rfl, ho424⟩ := cr_sl_open hk418
     have kd425 : KdS (encI .u64) 1 H397 s422 (gt l5 i6) f130 (.slice a142 n143 c144) 1 i6.toNat 0 := ⟨ho424.sq.up hs419 m400.lt, hq421 0 _ rfl (by decide)⟩
     obtain ⟨a426, n427, c428, rfl⟩ := kd425.sq.form
     refine l_' (.slice a426 n427 c428) (aLoad Try.prog 29 (elp (.slice a142 n143 c144) 1 i6.toNat 0) H397) (hl420 _ _ _ _ (by kernel_rfl)) ?_
     refine q_ (i_ i4) ?_
     obtain ⟨g430, r431⟩ := G_some r415
     refine l_' (elp (.slice a426 n427 c428) 1 i4.toNat 0) (aIndexAddr Try.prog 29 (.slice a426 n427 c428) (i_ i4)) (kd425.sq.idxb (by kernel_rfl) g430.1 g430.2) ?_
     obtain ⟨H432, q433, e434, hm435, kd436⟩ := Nst.inner cr_sl_lens (P := Try.prog) (t := 42) (o2 := 0) e398.wf m400 g370.1 g414 kd425 rfl g430.1 g430.2 (.int .u64 78) [.int .u64 78] (by kernel_rfl) (by kernel_rfl) rfl 78 (Nat.le_of_ble_eq_true rfl) (by kernel_rfl)
     have h1437 : i6 < ((l5.set i6.toNat ((gt l5 i6).set i4.toNat 78)).length : Int) := by rw [List.length_set]; exact g414
     have eq438 : ((gt l5 i6).set i4.toNat 78) = (gt (l5.set i6.toNat ((gt l5 i6).set i4.toNat 78)) i6) := (gt_set_self g370.1 g414 _).symm
     refine s_ek (undef) (by kernel_rfl) (map_ok q433) ?_
     refine s_nil (k412 _ _ (g_' ?_))
     obtain ⟨g439, r440⟩ := G_some r431
     refine w_' (i4 + 1) (wrap64 (by have := g439; omega)) ?_
     refine q_ (i_ (i4 + 1)) (s_nil ?_)
     obtain rfl := Option.some.inj r440
     exact k407 n403 _ _ (Nat.lt_succ_self _) ⟨(i4 + 1), (l5.set i6.toNat ((gt l5 i6).set i4.toNat 78)), hn406, ha_, (FrS.step e352.wf (FrS.step e352.wf (FrS.refl (W := f130) e352.wf) e398 Inn.refl') e434 Inn.refl'), hm435⟩
    have r441 := ite_f h410 hz405
    refine w_exit (th_exit (th_exit (bl_eq ?_)))
    obtain rfl := Option.some.inj r441
    obtain rfl := it_inr hn406
    exact k393 _ _ ⟨ha_, (FrS.step e352.wf (FrS.refl (W := f130) e352.wf) e398 Inn.refl'), m400⟩
   obtain ⟨hh394, e390, m392⟩ := hM
   obtain ⟨β, rfl⟩ := has_ex hh394
   clear hh394
   refine k368 _ _ (w_seqk fun _ k442 => g_' (q_ (.slice a142 n143 c144) (q_ (i_ i6) ?_)))
   obtain ⟨g443, r444⟩ := G_some r388
   refine l_' (elp (.slice a142 n143 c144) 1 i6.toNat 0) (aIndexAddr Try.prog 34 (.slice a142 n143 c144) (i_ i6)) (m392.idxb (by kernel_rfl) g370.1 g443) ?_
   obtain ⟨cs445, f446, hk447, hs448, hl449, hq450⟩ := m392.kid g370.1 g443
   obtain ⟨s451, rfl, ho453⟩ := cr_sl_open hk447
   have kd454 : KdS (encI .u64) 1 H389 s451 (gt o386 i6) f130 (.slice a142 n143 c144) 1 i6.toNat 0 := ⟨ho453.sq.up hs448 m392.lt, hq450 0 _ rfl (by decide)⟩
   obtain ⟨a455, n456, c457, rfl⟩ := kd454.sq.form
   refine l_' (.slice a455 n456 c457) (aLoad Try.prog 29 (elp (.slice a142 n143 c144) 1 i6.toNat 0) H389) (hl449 _ _ _ _ (by kernel_rfl)) ?_
   refine s_owk (enc := (encI .u64)) (sz := 1) e390.wf [1, 2] 2 (by decide) (fun _ _ => rfl) (fun _ _ => rfl) rfl (by kernel_rfl) fun s459 f460 H461 e462 hf463 hm464 => ?_
   obtain ⟨a465, n466, c467, rfl⟩ := hm464.form
   have u469 := (kd454.ext e462)
   obtain ⟨g470, r471⟩ := G_some r444
   have u486 := (m392.ext e462)
   obtain ⟨s472, f474, H479, H480, q478, q481, hf477, hk482⟩ := Nst.appendKid (P := Try.prog) cr_sl_lens (fun _ => rfl) 8 e462.wf u486 g370.1 g443 u469 rfl hm464.sq (fun _ _ => rfl) (at_ := #[29, 29]) rfl rfl (by kernel_rfl) (by kernel_rfl) (by decide) (by have := g470; first | omega | (simp only [List.length_cons, List.length_nil] at this ⊢; omega) | (simp at this ⊢; omega))
   refine s_apk (by kernel_rfl) (by kernel_rfl) q478 q481 fun H473 hH483 => ?_
   obtain ⟨e475, hm476, hm484, kd485⟩ := hk482 H473 hH483
   obtain ⟨a487, n488, c489, rfl⟩ := hm476.form
   refine q_ (.slice a487 n488 c489) (s_nil (k442 _ _ (w_seqk fun _ k491 => g_' (q_ (.slice a487 n488 c489) ?_))))
   refine l_' (i_ (((gt o386 i6) ++ [1, 2]).length : Int)) (aLen Try.prog 29 (.slice a487 n488 c489) H473) (hm476.sq.lenb (by kernel_rfl)) ?_
   refine q_ (.slice a142 n143 c144) (q_ (i_ i6) ?_)
   refine l_' (elp (.slice a142 n143 c144) 1 i6.toNat 0) (aIndexAddr Try.prog 34 (.slice a142 n143 c144) (i_ i6)) (hm484.idxb (by kernel_rfl) g370.1 g443) ?_
   obtain ⟨cs492, f493, hk494, hs495, hl496, hq497⟩ := hm484.kid g370.1 g443
   obtain ⟨s498, rfl, ho500⟩ := cr_sl_open hk494
   have kd501 : KdS (encI .u64) 1 H473 s498 (gt o386 i6) f130 (.slice a142 n143 c144) 1 i6.toNat 0 := ⟨ho500.sq.up hs495 hm484.lt, hq497 0 _ rfl (by decide)⟩
   obtain ⟨a502, n503, c504, rfl⟩ := kd501.sq.form
   refine l_' (.slice a502 n503 c504) (aLoad Try.prog 29 (elp (.slice a142 n143 c144) 1 i6.toNat 0) H473) (hl496 _ _ _ _ (by kernel_rfl)) ?_
   refine l_' (i_ ((gt o386 i6).length : Int)) (aLen Try.prog 29 (.slice a502 n503 c504) H473) (kd501.sq.lenb (by kernel_rfl)) ?_
   obtain ⟨g506, r507⟩ := G_some r471
   refine w_' (((gt o386 i6).length : Int) + 2) (wrap64 g506) ?_
   refine q_ (.bool (!decide ((((gt o386 i6) ++ [1, 2]).length : Int) = (((gt o386 i6).length : Int) + 2)))) (s_nil (k491 _ _ ?_))
   refine w_condn ((((gt o386 i6) ++ [1, 2]).length : Int) = (((gt o386 i6).length : Int) + 2)) (by kernel_rfl) rfl (fun h508 => ?_) (fun h508 => ?_)
   ·have r509 := ite_f h508 r507
    refine w_seqk fun _ k510 => g_' (q_ (.bool false) (s_nil (k510 _ _ ?_)))
    refine w_ret (bl_ret (th_ret (th_ret (bl_ret (th_ret (th_ret ?_))))))
    obtain ⟨v511, hv512, hz513⟩ := map_some r509
    subst hz513
    obtain rfl := it_inr hn360
    have hq514 := elim_inl r341
    rw [hq514] at hv512
    refine b_ret (fn := Try.f3) (vs := [.bool false]) (aRes_tmp (by kernel_rfl) (rfl)) ?_
    obtain rfl := Option.some.inj hv512
    exact ⟨rfl, (FrS.step wf ((FrS.step wf (FrS.step wf (FrS.step wf (FrS.step wf (FrS.step wf (FrS.step wf (FrS.step wf (FrS.step wf (FrS.step wf (FrS.step wf (FrS.step wf (FrS.step wf (FrS.step wf ((FrS.step wf (FrS.step wf ((FrS.refl (W := []) wf).extR e4) e19 Inn.nil) e39 Inn.nil).extR e63) e69 (hb64.fresh (ntr (ntr e4.next e19.next) e39.next))) e86 Inn.nil) e110 Inn.nil) e134 Inn.nil) e158 Inn.nil) e182 Inn.nil) e206 Inn.nil) e230 Inn.nil) e255 Inn.nil) e267 (i89.fresh (ntr (ntr (ntr (ntr e4.next e19.next) e39.next) e63.next) e69.next))) e305 (i185.fresh (ntr (ntr (ntr (ntr (ntr (ntr (ntr (ntr e4.next e19.next) e39.next) e63.next) e69.next) e86.next) e110.next) e134.next) e158.next))) e352 (i137.fresh (ntr (ntr (ntr (ntr (ntr (ntr e4.next e19.next) e39.next) e63.next) e69.next) e86.next) e110.next))) e390 (i137.fresh (ntr (ntr (ntr (ntr (ntr (ntr e4.next e19.next) e39.next) e63.next) e69.next) e86.next) e110.next))).extR e462) e475 (i137.fresh (ntr (ntr (ntr (ntr (ntr (ntr e4.next e19.next) e39.next) e63.next) e69.next) e86.next) e110.next)))⟩
   have r515 := ite_t h508 r507
   refine w_skip (k366 _ _ (g_' ?_))
   obtain ⟨g516, r517⟩ := G_some r515
   refine w_' (i6 + 1) (wrap64 (by have := g516; omega)) ?_
   refine q_ (i_ (i6 + 1)) (s_nil ?_)
   obtain rfl := Option.some.inj r517
   exact k361 n357 _ _ (Nat.lt_succ_self _) ⟨(i6 + 1), o386, hn360, ha_, (FrS.step e305.wf ((FrS.step e305.wf (FrS.step e305.wf (FrS.refl (W := f130) e305.wf) e352 Inn.refl') e390 Inn.refl').extR e462) e475 Inn.refl'), hm484⟩
  have r518 := ite_f h364 hz359
  refine w_exit (th_exit (th_exit (bl_eq ?_)))
  obtain rfl := Option.some.inj r518
  obtain rfl := it_inr hn360
  exact k347 _ _ ⟨_, rfl, ha_, (FrS.step e305.wf (FrS.refl (W := f130) e305.wf) e352 Inn.refl'), m354⟩
 obtain ⟨o339, rfl, hh348, e344, m346⟩ := hM
 have r519 := elim_inr r341
 obtain ⟨β, rfl⟩ := has_ex hh348
 clear hh348
 refine k336 _ _ (w_seqk fun _ k520 => w_seqk fun _ k521 => g_' (q_ (.slice a142 n143 c144) ?_))
 refine l_' (i_ (o339.length : Int)) (aLen Try.prog 34 (.slice a142 n143 c144) H343) (m346.lenb (by kernel_rfl)) ?_
 refine q_ (i_ 0) (s_nil (k521 _ _ ?_))
 obtain ⟨z525, hx523, r524⟩ := bind_some r519
 refine w_mid (fun α H526 => ∃ o522, z525 = Sum.inr o522 ∧ Has α [(1, i_ s), (2, i_ t), (3, pt_ b2 0), (10, .slice a118 n119 c120), (14, .slice a166 n167 c168), (18, .slice a214 n215 c216), (19, v203)] ∧ H343 = H526) (fun _ k528 => ?_) (fun α H526 hM => ?_)
 ·refine w_block ?_
  obtain ⟨n530, hn531⟩ := loopO_iff.1 hx523
  refine w_loopn (fun n α H532 => ∃ (i9 : Int), iterO (fun zz_ => z_viaductlaw08_SearchMemory_l5 o339 zz_) n i9 = some z525 ∧ Has α [(1, i_ s), (2, i_ t), (3, pt_ b2 0), (10, .slice a118 n119 c120), (12, .slice a142 n143 c144), (14, .slice a166 n167 c168), (18, .slice a214 n215 c216), (19, v203), (144, i_ (o339.length : Int)), (145, i_ i9)] ∧ H343 = H532) n530 ⟨0, hn531, ha_, rfl⟩ ?_
  rintro n530 α H532 ⟨i9, hi535, hh534, rfl⟩ K540 k540
  obtain ⟨n536, z537, rfl, hz538, hn539⟩ := iter_succ hi535
  obtain ⟨β, rfl⟩ := has_ex hh534
  clear hh534
  replace hz538 : z_viaductlaw08_SearchMemory_l5 o339 i9 = some z537 := hz538
  unfold z_viaductlaw08_SearchMemory_l5 at hz538
  refine w_seqk fun _ k541 => g_' (q_ (.bool (decide (i9 < (o339.length : Int)))) (s_nil (k541 _ _ (w_seqk fun _ k542 => ?_))))
  refine w_condp (i9 < (o339.length : Int)) (by kernel_rfl) rfl (fun h543 => ?_) (fun h543 => ?_)
  ·have r544 := ite_t h543 hz538
   refine w_skip (k542 _ _ (w_seqk fun _ k545 => w_block (w_seqk fun _ k546 => g_' (q_ (i_ i9) (q_ (i_ i9) (s_nil (k546 _ _ (w_seqk fun _ k547 => g_' (q_ (.slice a142 n143 c144) (q_ (i_ i9) ?_))))))))))
   obtain ⟨g548, r549⟩ := G_some r544
   refine l_' (elp (.slice a142 n143 c144) 1 i9.toNat 0) (aIndexAddr Try.prog 34 (.slice a142 n143 c144) (i_ i9)) (m346.idxb (by kernel_rfl) g548 h543) ?_
   obtain ⟨cs550, f551, hk552, hs553, hl554, hq555⟩ := m346.kid g548 h543
   obtain ⟨s556, rfl, ho558⟩ := cr_sl_open hk552
   have kd559 : KdS (encI .u64) 1 H343 s556 (gt o339 i9) f130 (.slice a142 n143 c144) 1 i9.toNat 0 := ⟨ho558.sq.up hs553 m346.lt, hq555 0 _ rfl (by decide)⟩
   obtain ⟨a560, n561, c562, rfl⟩ := kd559.sq.form
   refine l_' (.slice a560 n561 c562) (aLoad Try.prog 29 (elp (.slice a142 n143 c144) 1 i9.toNat 0) H343) (hl554 _ _ _ _ (by kernel_rfl)) ?_
   refine l_' (i_ ((gt o339 i9).length : Int)) (aLen Try.prog 29 (.slice a560 n561 c562) H343) (kd559.sq.lenb (by kernel_rfl)) ?_
   refine q_ (i_ 0) (s_nil (k547 _ _ ?_))
   obtain ⟨z567, hx565, r566⟩ := bind_some r549
   refine w_mid (fun α H568 => ∃ o564, z567 = Sum.inr o564 ∧ Has α [(1, i_ s), (2, i_ t), (3, pt_ b2 0), (10, .slice a118 n119 c120), (12, .slice a142 n143 c144), (14, .slice a166 n167 c168), (18, .slice a214 n215 c216), (19, v203), (144, i_ (o339.length : Int)), (145, i_ i9)] ∧ H343 = H568) (fun _ k570 => ?_) (fun α H568 hM => ?_)
   ·refine w_block ?_
    obtain ⟨n572, hn573⟩ := loopO_iff.1 hx565
    refine w_loopn (fun n α H574 => ∃ (i8 : Int), iterO (fun zz_ => z_viaductlaw08_SearchMemory_l4 o339 i9 zz_) n i8 = some z567 ∧ Has α [(1, i_ s), (2, i_ t), (3, pt_ b2 0), (10, .slice a118 n119 c120), (12, .slice a142 n143 c144), (14, .slice a166 n167 c168), (18, .slice a214 n215 c216), (19, v203), (25, i_ i9), (144, i_ (o339.length : Int)), (145, i_ i9), (152, i_ ((gt o339 i9).length : Int)), (153, i_ i8)] ∧ H343 = H574) n572 ⟨0, hn573, ha_, rfl⟩ ?_
    rintro n572 α H574 ⟨i8, hi577, hh576, rfl⟩ K582 k582
    obtain ⟨n578, z579, rfl, hz580, hn581⟩ := iter_succ hi577
    obtain ⟨β, rfl⟩ := has_ex hh576
    clear hh576
    replace hz580 : z_viaductlaw08_SearchMemory_l4 o339 i9 i8 = some z579 := hz580
    unfold z_viaductlaw08_SearchMemory_l4 at hz580
    refine w_seqk fun _ k583 => g_' (q_ (.bool (decide (i8 < ((gt o339 i9).length : Int)))) (s_nil (k583 _ _ (w_seqk fun _ k584 => ?_))))
    refine w_condp (i8 < ((gt o339 i9).length : Int)) (by kernel_rfl) rfl (fun h585 => ?_) (fun h585 => ?_)
    ·have r586 := ite_t h585 hz580
     refine w_skip (k584 _ _ (w_seqk fun _ k587 => w_block (w_seqk fun _ k588 => g_' (q_ (i_ i8) (q_ (i_ i8) (s_nil (k588 _ _ (w_seqk fun _ k589 => g_' (q_ (.slice a142 n143 c144) (q_ (i_ i9) ?_))))))))))
     refine l_' (elp (.slice a142 n143 c144) 1 i9.toNat 0) (aIndexAddr Try.prog 34 (.slice a142 n143 c144) (i_ i9)) (m346.idxb (by kernel_rfl) g548 h543) ?_
     obtain ⟨cs590, f591, hk592, hs593, hl594, hq595⟩ := m346.kid g548 h543
     obtain ⟨s596, rfl, ho598⟩ := cr_sl_open hk592
     have kd599 : KdS (encI .u64) 1 H343 s596 (gt o339 i9) f130 (.slice a142 n143 c144) 1 i9.toNat 0 := ⟨ho598.sq.up hs593 m346.lt, hq595 0 _ rfl (by decide)⟩
     obtain ⟨a600, n601, c602, rfl⟩ := kd599.sq.form
     refine l_' (.slice a600 n601 c602) (aLoad Try.prog 29 (elp (.slice a142 n143 c144) 1 i9.toNat 0) H343) (hl594 _ _ _ _ (by kernel_rfl)) ?_
     refine q_ (i_ i8) ?_
     obtain ⟨g604, r605⟩ := G_some r586
     refine l_' (elp (.slice a600 n601 c602) 1 i8.toNat 0) (aIndexAddr Try.prog 29 (.slice a600 n601 c602) (i_ i8)) (kd599.sq.idxb (by kernel_rfl) g604 h585) ?_
     refine l_' (.int .u64 (gt (gt o339 i9) i8)) (aLoad Try.prog 42 (elp (.slice a600 n601 c602) 1 i8.toNat 0) H343) (kd599.sq.ld g604 h585 (by kernel_rfl)) ?_
     refine q_ (.bool (!decide ((gt (gt o339 i9) i8) = 78))) (s_nil (k589 _ _ ?_))
     refine w_condn ((gt (gt o339 i9) i8) = 78) (by kernel_rfl) rfl (fun h606 => ?_) (fun h606 => ?_)
     ·have r607 := ite_f h606 r605
      refine w_seqk fun _ k608 => g_' (q_ (.bool false) (s_nil (k608 _ _ ?_)))
      refine w_ret (bl_ret (th_ret (th_ret (bl_ret (th_ret (bl_ret (th_ret (th_ret (bl_ret (th_ret (th_ret ?_)))))))))))
      obtain ⟨v609, hv610, hz611⟩ := map_some r607
      subst hz611
      obtain rfl := it_inr hn581
      have hq612 := elim_inl r566
      rw [hq612] at hv610
      obtain ⟨v613, hv614, hz615⟩ := map_some hv610
      subst hz615
      obtain rfl := it_inr hn539
      have hq616 := elim_inl r524
      rw [hq616] at hv614
      refine b_ret (fn := Try.f3) (vs := [.bool false]) (aRes_tmp (by kernel_rfl) (rfl)) ?_
      obtain rfl := Option.some.inj hv614
      exact ⟨rfl, (FrS.step wf (FrS.step wf (FrS.step wf (FrS.step wf (FrS.step wf (FrS.step wf (FrS.step wf (FrS.step wf (FrS.step wf (FrS.step wf (FrS.step wf (FrS.step wf ((FrS.step wf (FrS.step wf ((FrS.refl (W := []) wf).extR e4) e19 Inn.nil) e39 Inn.nil).extR e63) e69 (hb64.fresh (ntr (ntr e4.next e19.next) e39.next))) e86 Inn.nil) e110 Inn.nil) e134 Inn.nil) e158 Inn.nil) e182 Inn.nil) e206 Inn.nil) e230 Inn.nil) e255 Inn.nil) e267 (i89.fresh (ntr (ntr (ntr (ntr e4.next e19.next) e39.next) e63.next) e69.next))) e305 (i185.fresh (ntr (ntr (ntr (ntr (ntr (ntr (ntr (ntr e4.next e19.next) e39.next) e63.next) e69.next) e86.next) e110.next) e134.next) e158.next))) e344 (i137.fresh (ntr (ntr (ntr (ntr (ntr (ntr e4.next e19.next) e39.next) e63.next) e69.next) e86.next) e110.next)))⟩
     have r617 := ite_t h606 r605
     refine w_skip (k587 _ _ (g_' ?_))
     obtain ⟨g618, r619⟩ := G_some r617
     refine w_' (i8 + 1) (wrap64 (by have := g618; omega)) ?_
     refine q_ (i_ (i8 + 1)) (s_nil ?_)
     obtain rfl := Option.some.inj r619
     exact k582 n578 _ _ (Nat.lt_succ_self _) ⟨(i8 + 1), hn581, ha_, rfl⟩
    have r620 := ite_f h585 hz580
    refine w_exit (th_exit (th_exit (bl_eq ?_)))
    obtain rfl := Option.some.inj r620
    obtain rfl := it_inr hn581
    exact k570 _ _ ⟨_, rfl, ha_, rfl⟩
   obtain ⟨o564, rfl, hh571, rfl⟩ := hM
   have r621 := elim_inr r566
   obtain ⟨β, rfl⟩ := has_ex hh571
   clear hh571
   refine k545 _ _ (g_' ?_)
   obtain ⟨g622, r623⟩ := G_some r621
   refine w_' (i9 + 1) (wrap64 (by have := g622; omega)) ?_
   refine q_ (i_ (i9 + 1)) (s_nil ?_)
   obtain rfl := Option.some.inj r623
   exact k540 n536 _ _ (Nat.lt_succ_self _) ⟨(i9 + 1), hn539, ha_, rfl⟩
  have r624 := ite_f h543 hz538
  refine w_exit (th_exit (th_exit (bl_eq ?_)))
  obtain rfl := Option.some.inj r624
  obtain rfl := it_inr hn539
  exact k528 _ _ ⟨_, rfl, ha_, rfl⟩
 obtain ⟨o522, rfl, hh529, rfl⟩ := hM
 have r625 := elim_inr r524
 obtain ⟨β, rfl⟩ := has_ex hh529
 clear hh529
 refine k520 _ _ (w_seqk fun _ k626 => g_' ?_)
 have u627 := ((((u244.frS e255 Dj.nil_l).frS e267 (i89.djn (r6.ltF.le (ntr (ntr (ntr e19.next e39.next) e63.next) e69.next)))).frS e305 (i185.djn (r6.ltF.le (ntr (ntr (ntr (ntr (ntr (ntr (ntr e19.next e39.next) e63.next) e69.next) e86.next) e110.next) e134.next) e158.next)))).frS e344 (i137.djn (r6.ltF.le (ntr (ntr (ntr (ntr (ntr e19.next e39.next) e63.next) e69.next) e86.next) e110.next))))
 refine l_' (.agg #[hd_First, hd_To, hd_Weight]) (aLoad Try.prog 24 (pt_ b2 0) H343) (u627.ld (by kernel_rfl)) ?_
 refine q_ (i_ s) ?_
 have u628 := ((((u248.fr e255 Dj.nil_l).fr e267 (i89.djn (h_First.lt.le (ntr (ntr (ntr (ntr e4.next e19.next) e39.next) e63.next) e69.next)))).fr e305 (i185.djn (h_First.lt.le (ntr (ntr (ntr (ntr (ntr (ntr (ntr (ntr e4.next e19.next) e39.next) e63.next) e69.next) e86.next) e110.next) e134.next) e158.next)))).fr e344 (i137.djn (h_First.lt.le (ntr (ntr (ntr (ntr (ntr (ntr e4.next e19.next) e39.next) e63.next) e69.next) e86.next) e110.next))))
 have u629 := ((((u249.fr e255 Dj.nil_l).fr e267 (i89.djn (h_To.lt.le (ntr (ntr (ntr (ntr e4.next e19.next) e39.next) e63.next) e69.next)))).fr e305 (i185.djn (h_To.lt.le (ntr (ntr (ntr (ntr (ntr (ntr (ntr (ntr e4.next e19.next) e39.next) e63.next) e69.next) e86.next) e110.next) e134.next) e158.next)))).fr e344 (i137.djn (h_To.lt.le (ntr (ntr (ntr (ntr (ntr (ntr e4.next e19.next) e39.next) e63.next) e69.next) e86.next) e110.next))))
 have u630 := ((((u250.fr e255 Dj.nil_l).fr e267 (i89.djn (h_Weight.lt.le (ntr (ntr (ntr (ntr e4.next e19.next) e39.next) e63.next) e69.next)))).fr e305 (i185.djn (h_Weight.lt.le (ntr (ntr (ntr (ntr (ntr (ntr (ntr (ntr e4.next e19.next) e39.next) e63.next) e69.next) e86.next) e110.next) e134.next) e158.next)))).fr e344 (i137.djn (h_Weight.lt.le (ntr (ntr (ntr (ntr (ntr (ntr e4.next e19.next) e39.next) e63.next) e69.next) e86.next) e110.next))))
 obtain ⟨y631, hy632, r633⟩ := bind_some r625
 refine s_ck 15 #[.agg #[hd_First, hd_To, hd_Weight], i_ s] (by kernel_rfl) (c_viaductref08_DocFrom e344.wf u628 u629 u630 hy632) ?_
 rintro _ H638 ⟨s634, f635, s636, f637, rfl, e639, m640, m641, i642, i643, d644⟩
 obtain ⟨a647, n648, c649, rfl⟩ := m640.form
 obtain ⟨a650, n651, c652, rfl⟩ := m641.form
 refine q_ (.tuple #[.slice a647 n648 c649, .agg #[i_ y631.2.1, .slice a650 n651 c652]]) (q_ (.slice a647 n648 c649) (q_ (.agg #[i_ y631.2.1, .slice a650 n651 c652]) ?_))
 refine s_rwk e639.wf [i_ 0, .slice none 0 0] (by kernel_rfl) fun b653 H654 e655 hb656 r657 => ?_
 refine q_ (.slice a647 n648 c649) ?_
 have u663 := (m641.ext e655)
 obtain ⟨H659, q660, e661, r662⟩ := Row.store (P := Try.prog) (t := 46) (p := 0) e655.wf r657 (.agg #[i_ y631.2.1, .slice a650 n651 c652]) [i_ y631.2.1, .slice a650 n651 c652] (by kernel_rfl) (by kernel_rfl) (one_cons (rfl) (one_cons (u663.one1) (one_nil))) (Nat.le_of_ble_eq_true (by kernel_rfl)) [i_ y631.2.1, .slice a650 n651 c652] (by kernel_rfl)
 refine s_ek (undef) (by kernel_rfl) (map_ok q660) ?_
 refine s_nil (k626 _ _ (w_seqk fun _ k664 => g_' ?_))
 have n665 := (ntr (ntr (ntr (ntr (ntr (ntr (ntr e158.next e182.next) e206.next) e230.next) e255.next) e267.next) e305.next) e344.next)
 have u666 := (((u627.frS e639 Dj.nil_l).ext e655).frS e661 (hb656.djn (r6.ltF.le (ntr (ntr (ntr (ntr (ntr (ntr (ntr (ntr e19.next e39.next) e63.next) e69.next) e86.next) e110.next) e134.next) n665) e639.next))))
 refine l_' (.agg #[hd_First, hd_To, hd_Weight]) (aLoad Try.prog 24 (pt_ b2 0) H659) (u666.ld (by kernel_rfl)) ?_
 have n667 := (ntr (ntr (ntr (ntr (ntr (ntr (ntr e4.next e19.next) e39.next) e63.next) e69.next) e86.next) e110.next) e134.next)
 have u668 := (((u628.fr e639 Dj.nil_l).ext e655).fr e661 (hb656.djn (h_First.lt.le (ntr (ntr n667 n665) e639.next))))
 have u669 := (((u629.fr e639 Dj.nil_l).ext e655).fr e661 (hb656.djn (h_To.lt.le (ntr (ntr n667 n665) e639.next))))
 have u670 := (((u630.fr e639 Dj.nil_l).ext e655).fr e661 (hb656.djn (h_Weight.lt.le (ntr (ntr n667 n665) e639.next))))
 obtain ⟨y671, hy672, r673⟩ := bind_some r633
 refine s_ck 16 #[.agg #[hd_First, hd_To, hd_Weight]] (by kernel_rfl) (c_viaductref08_DocMatrix e661.wf u668 u669 u670 hy672) ?_
 rintro _ H678 ⟨s674, f675, s676, f677, rfl, e679, m680, m681, i682, i683, d684⟩
 obtain ⟨a687, n688, c689, rfl⟩ := m680.form
 obtain ⟨a690, n691, c692, rfl⟩ := m681.form
 refine q_ (.tuple #[.slice a687 n688 c689, .agg #[i_ y671.2.1, .slice a690 n691 c692]]) (q_ (.slice a687 n688 c689) (q_ (.agg #[i_ y671.2.1, .slice a690 n691 c692]) ?_))
 refine s_rwk e679.wf [i_ 0, .slice none 0 0] (by kernel_rfl) fun b693 H694 e695 hb696 r697 => ?_
 refine q_ (.slice a687 n688 c689) ?_
 have u703 := (m681.ext e695)
 obtain ⟨H699, q700, e701, r702⟩ := Row.store (P := Try.prog) (t := 46) (p := 0) e695.wf r697 (.agg #[i_ y671.2.1, .slice a690 n691 c692]) [i_ y671.2.1, .slice a690 n691 c692] (by kernel_rfl) (by kernel_rfl) (one_cons (rfl) (one_cons (u703.one1) (one_nil))) (Nat.le_of_ble_eq_true (by kernel_rfl)) [i_ y671.2.1, .slice a690 n691 c692] (by kernel_rfl)
 refine s_ek (undef) (by kernel_rfl) (map_ok q700) ?_
 refine s_nil (k664 _ _ (w_seqk fun _ k704 => g_' ?_))
 have u705 := (((u666.frS e679 Dj.nil_l).ext e695).frS e701 (hb696.djn (r6.ltF.le (ntr (ntr (ntr (ntr (ntr (ntr (ntr (ntr (ntr (ntr (ntr e19.next e39.next) e63.next) e69.next) e86.next) e110.next) e134.next) n665) e639.next) e655.next) e661.next) e679.next))))
 refine l_' (.agg #[hd_First, hd_To, hd_Weight]) (aLoad Try.prog 24 (pt_ b2 0) H699) (u705.ld (by kernel_rfl)) ?_
 refine q_ (i_ s) (q_ (i_ t) ?_)
 have u706 := (((u668.fr e679 Dj.nil_l).ext e695).fr e701 (hb696.djn (h_First.lt.le (ntr (ntr (ntr (ntr (ntr n667 n665) e639.next) e655.next) e661.next) e679.next))))
 have u707 := (((u669.fr e679 Dj.nil_l).ext e695).fr e701 (hb696.djn (h_To.lt.le (ntr (ntr (ntr (ntr (ntr n667 n665) e639.next) e655.next) e661.next) e679.next))))
 have u708 := (((u670.fr e679 Dj.nil_l).ext e695).fr e701 (hb696.djn (h_Weight.lt.le (ntr (ntr (ntr (ntr (ntr n667 n665) e639.next) e655.next) e661.next) e679.next))))
 obtain ⟨y709, hy710, r711⟩ := bind_some r673
 refine s_ck 17 #[.agg #[hd_First, hd_To, hd_Weight], i_ s, i_ t] (by kernel_rfl) (c_viaductref08_DocPath e701.wf u706 u707 u708 hy710) ?_
 rintro _ H714 ⟨s712, f713, rfl, e715, m716, i717⟩
 obtain ⟨a719, n720, c721, rfl⟩ := m716.form
 refine q_ (.tuple #[.int .u64 y709.1, .agg #[i_ y709.2.1, .slice a719 n720 c721]]) (q_ (.int .u64 y709.1) (q_ (.agg #[i_ y709.2.1, .slice a719 n720 c721]) ?_))
 refine s_rwk e715.wf [i_ 0, .slice none 0 0] (by kernel_rfl) fun b722 H723 e724 hb725 r726 => ?_
 refine q_ (.int .u64 y709.1) ?_
 have u732 := (m716.ext e724)
 obtain ⟨H728, q729, e730, r731⟩ := Row.store (P := Try.prog) (t := 46) (p := 0) e724.wf r726 (.agg #[i_ y709.2.1, .slice a719 n720 c721]) [i_ y709.2.1, .slice a719 n720 c721] (by kernel_rfl) (by kernel_rfl) (one_cons (rfl) (one_cons (u732.one1) (one_nil))) (Nat.le_of_ble_eq_true (by kernel_rfl)) [i_ y709.2.1, .slice a719 n720 c721] (by kernel_rfl)
 refine s_ek (undef) (by kernel_rfl) (map_ok q729) ?_
 refine s_nil (k704 _ _ (w_seqk fun _ k733 => g_' (q_ (.slice a118 n119 c120) (q_ (.slice a647 n648 c649) ?_))))
 have u734 := ((((((((((((((((((m111.fr e134 Dj.nil_l).fr e158 Dj.nil_l).fr e182 Dj.nil_l).fr e206 Dj.nil_l).fr e230 Dj.nil_l).fr e255 Dj.nil_l).fr e267 (Dj.symm (i113.djn m87.lt))).fr e305 (i185.djn (m111.lt.le (ntr e134.next e158.next)))).fr e344 (i137.djn m111.lt)).fr e639 Dj.nil_l).ext e655).fr e661 (hb656.djn (m111.lt.le (ntr (ntr (ntr (ntr (ntr (ntr (ntr (ntr (ntr e134.next e158.next) e182.next) e206.next) e230.next) e255.next) e267.next) e305.next) e344.next) e639.next)))).fr e679 Dj.nil_l).ext e695).fr e701 (hb696.djn (m111.lt.le (ntr (ntr (ntr (ntr (ntr (ntr (ntr (ntr (ntr (ntr (ntr (ntr e134.next e158.next) e182.next) e206.next) e230.next) e255.next) e267.next) e305.next) e344.next) e639.next) e655.next) e661.next) e679.next)))).fr e715 Dj.nil_l).ext e724).fr e730 (hb725.djn (m111.lt.le (ntr (ntr (ntr (ntr (ntr (ntr (ntr (ntr e134.next n665) e639.next) e655.next) e661.next) e679.next) e695.next) e701.next) e715.next))))
 have u735 := ((((((((m640.ext e655).fr e661 (hb656.djn m640.lt)).fr e679 Dj.nil_l).ext e695).fr e701 (hb696.djn (m640.lt.le (ntr (ntr e655.next e661.next) e679.next)))).fr e715 Dj.nil_l).ext e724).fr e730 (hb725.djn (m640.lt.le (ntr (ntr (ntr (ntr (ntr e655.next e661.next) e679.next) e695.next) e701.next) e715.next))))
 obtain ⟨y736, hy737, r738⟩ := bind_some r711
 refine s_ck 18 #[.slice a118 n119 c120, .slice a647 n648 c649] (by kernel_rfl) (c_viaductref04_SameRow e730.wf u734.sq u735.sq hy737) ?_
 rintro _ _ ⟨rfl, rfl⟩
 by_cases h741 : y736 = true
 ·have r742 := ite_t h741 r738
  rw [h741]
  refine q_ (.bool true) (q_ (.slice a166 n167 c168) (q_ (.slice a687 n688 c689) ?_))
  have u744 := ((((((((((((((((m159.fr e182 Dj.nil_l).fr e206 Dj.nil_l).fr e230 Dj.nil_l).fr e255 Dj.nil_l).fr e267 (Dj.symm (i161.djn (m87.lt.le (ntr e110.next e134.next))))).fr e305 (i185.djn m159.lt)).fr e344 (Dj.symm (i161.djn m135.lt))).fr e639 Dj.nil_l).ext e655).fr e661 (hb656.djn (m159.lt.le (ntr (ntr (ntr (ntr (ntr (ntr (ntr e182.next e206.next) e230.next) e255.next) e267.next) e305.next) e344.next) e639.next)))).fr e679 Dj.nil_l).ext e695).fr e701 (hb696.djn (m159.lt.le (ntr (ntr (ntr (ntr (ntr (ntr (ntr (ntr (ntr (ntr e182.next e206.next) e230.next) e255.next) e267.next) e305.next) e344.next) e639.next) e655.next) e661.next) e679.next)))).fr e715 Dj.nil_l).ext e724).fr e730 (hb725.djn (m159.lt.le (ntr (ntr (ntr (ntr (ntr (ntr (ntr (ntr (ntr (ntr (ntr (ntr (ntr e182.next e206.next) e230.next) e255.next) e267.next) e305.next) e344.next) e639.next) e655.next) e661.next) e679.next) e695.next) e701.next) e715.next))))
  have u745 := (((((m680.ext e695).fr e701 (hb696.djn m680.lt)).fr e715 Dj.nil_l).ext e724).fr e730 (hb725.djn (m680.lt.le (ntr (ntr e695.next e701.next) e715.next))))
  obtain ⟨y746, hy747, r748⟩ := bind_some r742
  refine s_ck 19 #[.slice a166 n167 c168, .slice a687 n688 c689] (by kernel_rfl) (c_viaductref04_SameMatrix e730.wf u744 u745 hy747) ?_
  rintro _ _ ⟨rfl, rfl⟩
  by_cases h751 : y746 = true
  ·have r752 := ite_t h751 r748
   rw [h751]
   refine q_ (.bool true) (q_ (.bool true) (q_ (v203) ?_))
   have u757 := ((((((((((((((m208.fr e230 Dj.nil_l).fr e255 Dj.nil_l).fr e267 (Dj.symm (i210.djn (m87.lt.le (ntr (ntr (ntr e110.next e134.next) e158.next) e182.next))))).fr e305 (Dj.symm (i210.djn m183.lt))).fr e344 (Dj.symm (i210.djn (m135.lt.le (ntr e158.next e182.next))))).fr e639 Dj.nil_l).ext e655).fr e661 (hb656.djn (m208.lt.le (ntr (ntr (ntr (ntr (ntr e230.next e255.next) e267.next) e305.next) e344.next) e639.next)))).fr e679 Dj.nil_l).ext e695).fr e701 (hb696.djn (m208.lt.le (ntr (ntr (ntr (ntr (ntr (ntr (ntr (ntr e230.next e255.next) e267.next) e305.next) e344.next) e639.next) e655.next) e661.next) e679.next)))).fr e715 Dj.nil_l).ext e724).fr e730 (hb725.djn (m208.lt.le (ntr (ntr (ntr (ntr (ntr (ntr (ntr (ntr (ntr (ntr (ntr e230.next e255.next) e267.next) e305.next) e344.next) e639.next) e655.next) e661.next) e679.next) e695.next) e701.next) e715.next))))
   rcases (u757).cases with ⟨h754, rfl⟩ | ⟨h754, t755, x756, rfl⟩
   ·have r758 := ite_t h754 r752
    refine q_ (.bool false) (q_ (.bool false) ?_)
    have u759 := (((u705.frS e715 Dj.nil_l).ext e724).frS e730 (hb725.djn (r6.ltF.le (ntr (ntr (ntr (ntr (ntr (ntr (ntr (ntr (ntr (ntr (ntr (ntr (ntr (ntr e19.next e39.next) e63.next) e69.next) e86.next) e110.next) e134.next) n665) e639.next) e655.next) e661.next) e679.next) e695.next) e701.next) e715.next))))
    refine l_' (.agg #[hd_First, hd_To, hd_Weight]) (aLoad Try.prog 24 (pt_ b2 0) H728) (u759.ld (by kernel_rfl)) ?_
    refine q_ (.slice a214 n215 c216) (q_ (i_ s) (q_ (i_ t) (q_ (.int .u64 y709.1) ?_)))
    have u760 := (((u706.fr e715 Dj.nil_l).ext e724).fr e730 (hb725.djn (h_First.lt.le (ntr (ntr (ntr (ntr (ntr (ntr (ntr (ntr n667 n665) e639.next) e655.next) e661.next) e679.next) e695.next) e701.next) e715.next))))
    have u761 := (((u707.fr e715 Dj.nil_l).ext e724).fr e730 (hb725.djn (h_To.lt.le (ntr (ntr (ntr (ntr (ntr (ntr (ntr (ntr n667 n665) e639.next) e655.next) e661.next) e679.next) e695.next) e701.next) e715.next))))
    have u762 := (((u708.fr e715 Dj.nil_l).ext e724).fr e730 (hb725.djn (h_Weight.lt.le (ntr (ntr (ntr (ntr (ntr (ntr (ntr (ntr n667 n665) e639.next) e655.next) e661.next) e679.next) e695.next) e701.next) e715.next))))
    have u763 := ((((((((((((((m207.fr e230 Dj.nil_l).fr e255 Dj.nil_l).fr e267 (Dj.symm (i209.djn (m87.lt.le (ntr (ntr (ntr e110.next e134.next) e158.next) e182.next))))).fr e305 (Dj.symm (i209.djn m183.lt))).fr e344 (Dj.symm (i209.djn (m135.lt.le (ntr e158.next e182.next))))).fr e639 Dj.nil_l).ext e655).fr e661 (hb656.djn (m207.lt.le (ntr (ntr (ntr (ntr (ntr e230.next e255.next) e267.next) e305.next) e344.next) e639.next)))).fr e679 Dj.nil_l).ext e695).fr e701 (hb696.djn (m207.lt.le (ntr (ntr (ntr (ntr (ntr (ntr (ntr (ntr e230.next e255.next) e267.next) e305.next) e344.next) e639.next) e655.next) e661.next) e679.next)))).fr e715 Dj.nil_l).ext e724).fr e730 (hb725.djn (m207.lt.le (ntr (ntr (ntr (ntr (ntr (ntr (ntr (ntr (ntr (ntr (ntr e230.next e255.next) e267.next) e305.next) e344.next) e639.next) e655.next) e661.next) e679.next) e695.next) e701.next) e715.next))))
    obtain ⟨y764, hy765, r766⟩ := bind_some r758
    refine s_ck 20 #[.agg #[hd_First, hd_To, hd_Weight], .slice a214 n215 c216, i_ s, i_ t, .int .u64 y709.1] (by kernel_rfl) (c_viaductref08_Path e730.wf u760 u761 u762 u763.sq hy765) ?_
    rintro _ H767 ⟨rfl, e768⟩
    refine q_ (.bool y764) (q_ (.bool y764) (q_ (.bool y764) (s_nil (k733 _ _ ?_))))
    refine w_ret ?_
    refine b_ret (fn := Try.f3) (vs := [.bool y764]) (aRes_tmp (by kernel_rfl) (rfl)) ?_
    have c769 := (FrS.step wf (FrS.step wf (FrS.step wf (FrS.step wf ((FrS.step wf (FrS.step wf ((FrS.refl (W := []) wf).extR e4) e19 Inn.nil) e39 Inn.nil).extR e63) e69 (hb64.fresh (ntr (ntr e4.next e19.next) e39.next))) e86 Inn.nil) e110 Inn.nil) e134 Inn.nil)
    have c770 := ((FrS.step e344.wf (FrS.step e344.wf ((FrS.step e344.wf (FrS.step e344.wf ((FrS.step e344.wf (FrS.refl (W := []) e344.wf) e639 Inn.nil).extR e655) e661 (hb656.fresh e639.next)) e679 Inn.nil).extR e695) e701 (hb696.fresh (ntr (ntr (ntr e639.next e655.next) e661.next) e679.next))) e715 Inn.nil).extR e724)
    obtain rfl := Option.some.inj r766
    exact ⟨rfl, (FrS.step wf (FrS.step wf (FrS.step wf (FrS.step wf (FrS.step wf (FrS.step wf (FrS.step wf (FrS.step wf (FrS.step wf (FrS.step wf (FrS.step wf (FrS.step wf (FrS.refl (W := []) wf) c769 Inn.nil) e158 Inn.nil) e182 Inn.nil) e206 Inn.nil) e230 Inn.nil) e255 Inn.nil) e267 (i89.fresh (ntr (ntr (ntr (ntr e4.next e19.next) e39.next) e63.next) e69.next))) e305 (i185.fresh (ntr (ntr (ntr (ntr (ntr (ntr (ntr (ntr e4.next e19.next) e39.next) e63.next) e69.next) e86.next) e110.next) e134.next) e158.next))) e344 (i137.fresh (ntr (ntr (ntr (ntr (ntr (ntr e4.next e19.next) e39.next) e63.next) e69.next) e86.next) e110.next))) c770 Inn.nil) e730 (hb725.fresh (ntr (ntr (ntr (ntr (ntr (ntr (ntr (ntr n667 n665) e639.next) e655.next) e661.next) e679.next) e695.next) e701.next) e715.next))) e768 Inn.nil)⟩
   have r771 := ite_f h754 r752
   refine l_' (.bool true) (aBin Try.prog .neq 31 (.tmp 193) (.const .nilIface) (.iface t755 x756) .nilIface) (aBin_nnil (by kernel_rfl)) ?_
   refine q_ (.bool true) (n_' (n_' (n_' (n_' (n_' (n_' (q_ (.bool true) (q_ (.bool true) (q_ (.bool true) (s_nil (k733 _ _ ?_)))))))))))
   refine w_ret ?_
   refine b_ret (fn := Try.f3) (vs := [.bool true]) (aRes_tmp (by kernel_rfl) (rfl)) ?_
   have c772 := (FrS.step wf (FrS.step wf (FrS.step wf (FrS.step wf ((FrS.step wf (FrS.step wf ((FrS.refl (W := []) wf).extR e4) e19 Inn.nil) e39 Inn.nil).extR e63) e69 (hb64.fresh (ntr (ntr e4.next e19.next) e39.next))) e86 Inn.nil) e110 Inn.nil) e134 Inn.nil)
   have c773 := ((FrS.step e344.wf (FrS.step e344.wf ((FrS.step e344.wf (FrS.step e344.wf ((FrS.step e344.wf (FrS.refl (W := []) e344.wf) e639 Inn.nil).extR e655) e661 (hb656.fresh e639.next)) e679 Inn.nil).extR e695) e701 (hb696.fresh (ntr (ntr (ntr e639.next e655.next) e661.next) e679.next))) e715 Inn.nil).extR e724)
   obtain rfl := Option.some.inj r771
   exact ⟨rfl, (FrS.step wf (FrS.step wf (FrS.step wf (FrS.step wf (FrS.step wf (FrS.step wf (FrS.step wf (FrS.step wf (FrS.step wf (FrS.step wf (FrS.step wf (FrS.refl (W := []) wf) c772 Inn.nil) e158 Inn.nil) e182 Inn.nil) e206 Inn.nil) e230 Inn.nil) e255 Inn.nil) e267 (i89.fresh (ntr (ntr (ntr (ntr e4.next e19.next) e39.next) e63.next) e69.next))) e305 (i185.fresh (ntr (ntr (ntr (ntr (ntr (ntr (ntr (ntr e4.next e19.next) e39.next) e63.next) e69.next) e86.next) e110.next) e134.next) e158.next))) e344 (i137.fresh (ntr (ntr (ntr (ntr (ntr (ntr e4.next e19.next) e39.next) e63.next) e69.next) e86.next) e110.next))) c773 Inn.nil) e730 (hb725.fresh (ntr (ntr (ntr (ntr (ntr (ntr (ntr (ntr n667 n665) e639.next) e655.next) e661.next) e679.next) e695.next) e701.next) e715.next)))⟩
  have r774 := ite_f h751 r748
  rw [nb h751]
  refine q_ (.bool false) (q_ (.bool false) (n_' (n_' (n_' (n_' (n_' (n_' (n_' (n_' (n_' (n_' (q_ (.bool false) (q_ (.bool false) (s_nil (k733 _ _ ?_)))))))))))))))
  refine w_ret ?_
  refine b_ret (fn := Try.f3) (vs := [.bool false]) (aRes_tmp (by kernel_rfl) (rfl)) ?_
  have c776 := (FrS.step wf (FrS.step wf (FrS.step wf (FrS.step wf ((FrS.step wf (FrS.step wf ((FrS.refl (W := []) wf).extR e4) e19 Inn.nil) e39 Inn.nil).extR e63) e69 (hb64.fresh (ntr (ntr e4.next e19.next) e39.next))) e86 Inn.nil) e110 Inn.nil) e134 Inn.nil)
  have c777 := ((FrS.step e344.wf (FrS.step e344.wf ((FrS.step e344.wf (FrS.step e344.wf ((FrS.step e344.wf (FrS.refl (W := []) e344.wf) e639 Inn.nil).extR e655) e661 (hb656.fresh e639.next)) e679 Inn.nil).extR e695) e701 (hb696.fresh (ntr (ntr (ntr e639.next e655.next) e661.next) e679.next))) e715 Inn.nil).extR e724)
  obtain rfl := Option.some.inj r774
  exact ⟨rfl, (FrS.step wf (FrS.step wf (FrS.step wf (FrS.step wf (FrS.step wf (FrS.step wf (FrS.step wf (FrS.step wf (FrS.step wf (FrS.step wf (FrS.step wf (FrS.refl (W := []) wf) c776 Inn.nil) e158 Inn.nil) e182 Inn.nil) e206 Inn.nil) e230 Inn.nil) e255 Inn.nil) e267 (i89.fresh (ntr (ntr (ntr (ntr e4.next e19.next) e39.next) e63.next) e69.next))) e305 (i185.fresh (ntr (ntr (ntr (ntr (ntr (ntr (ntr (ntr e4.next e19.next) e39.next) e63.next) e69.next) e86.next) e110.next) e134.next) e158.next))) e344 (i137.fresh (ntr (ntr (ntr (ntr (ntr (ntr e4.next e19.next) e39.next) e63.next) e69.next) e86.next) e110.next))) c777 Inn.nil) e730 (hb725.fresh (ntr (ntr (ntr (ntr (ntr (ntr (ntr (ntr n667 n665) e639.next) e655.next) e661.next) e679.next) e695.next) e701.next) e715.next)))⟩
 have r778 := ite_f h741 r738
 rw [nb h741]
 refine q_ (.bool false) (n_' (n_' (n_' (q_ (.bool false) (q_ (.bool false) (n_' (n_' (n_' (n_' (n_' (n_' (n_' (n_' (n_' (n_' (q_ (.bool false) (q_ (.bool false) (s_nil (k733 _ _ ?_)))))))))))))))))))
 refine w_ret ?_
 refine b_ret (fn := Try.f3) (vs := [.bool false]) (aRes_tmp (by kernel_rfl) (rfl)) ?_
 have c780 := (FrS.step wf (FrS.step wf (FrS.step wf (FrS.step wf ((FrS.step wf (FrS.step wf ((FrS.refl (W := []) wf).extR e4) e19 Inn.nil) e39 Inn.nil).extR e63) e69 (hb64.fresh (ntr (ntr e4.next e19.next) e39.next))) e86 Inn.nil) e110 Inn.nil) e134 Inn.nil)
 have c781 := ((FrS.step e344.wf (FrS.step e344.wf ((FrS.step e344.wf (FrS.step e344.wf ((FrS.step e344.wf (FrS.refl (W := []) e344.wf) e639 Inn.nil).extR e655) e661 (hb656.fresh e639.next)) e679 Inn.nil).extR e695) e701 (hb696.fresh (ntr (ntr (ntr e639.next e655.next) e661.next) e679.next))) e715 Inn.nil).extR e724)
 obtain rfl := Option.some.inj r778
 exact ⟨rfl, (FrS.step wf (FrS.step wf (FrS.step wf (FrS.step wf (FrS.step wf (FrS.step wf (FrS.step wf (FrS.step wf (FrS.step wf (FrS.step wf (FrS.step wf (FrS.refl (W := []) wf) c780 Inn.nil) e158 Inn.nil) e182 Inn.nil) e206 Inn.nil) e230 Inn.nil) e255 Inn.nil) e267 (i89.fresh (ntr (ntr (ntr (ntr e4.next e19.next) e39.next) e63.next) e69.next))) e305 (i185.fresh (ntr (ntr (ntr (ntr (ntr (ntr (ntr (ntr e4.next e19.next) e39.next) e63.next) e69.next) e86.next) e110.next) e134.next) e158.next))) e344 (i137.fresh (ntr (ntr (ntr (ntr (ntr (ntr e4.next e19.next) e39.next) e63.next) e69.next) e86.next) e110.next))) c781 Inn.nil) e730 (hb725.fresh (ntr (ntr (ntr (ntr (ntr (ntr (ntr (ntr n667 n665) e639.next) e655.next) e661.next) e679.next) e695.next) e701.next) e715.next)))⟩
end Go.Vd
