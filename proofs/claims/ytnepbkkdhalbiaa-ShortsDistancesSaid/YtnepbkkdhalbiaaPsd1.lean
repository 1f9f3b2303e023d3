/- The walks of the functions (printed by a program of ours). -/
import Derived.Test.YtnepbkkdhalbiaaPsd0
import Derived.Test.YtnepbkkdhalbiaaPsdVeC
import Derived.Test.YtnepbkkdhalbiaaPsdISd
import Derived.Test.YtnepbkkdhalbiaaPsdVeN
import Derived.Test.YtnepbkkdhalbiaaPsdSoA
import Derived.Test.YtnepbkkdhalbiaaPsdVeV
set_option linter.unusedVariables false
set_option linter.unusedSimpArgs false
set_option linter.unusedSectionVars false
/-! (KSd0) -/

set_option maxRecDepth 100000
set_option maxHeartbeats 4000000
set_option linter.unusedVariables false
namespace Go.Vd
open Go.Proofs
attribute [local irreducible] wpSeq wpOrd aWp
theorem c_viaductlaw13_awake_ev : evB Try.prog 100000 10 #[] = some true := by kernel_rfl
theorem c_viaductlaw13_awake {H : AH} : ACalls Try.prog 10 #[] H fun v H' => H = H' /\ v = .bool true :=
  (acalls_evB mixed c_viaductlaw13_awake_ev rfl H).mono fun _ _ ⟨a, b⟩ => ⟨b.symm, a⟩
theorem c_viaductref01_E {H : AH} {n_ : Int} {r : Int}
    (wf : WF H) (hr : z_viaductref01_E n_ = some r) :
    ACalls Try.prog 51 #[i_ n_] H fun v H' => v = .agg #[i_ r, .slice none 0 0] /\ FrS [] H H' := by
 refine ab_ Try.func51 ?_
 unfold z_viaductref01_E at hr
 refine sq_ fun k1 => g_' ?_
 refine rk_ wf [i_ 0, .slice none 0 0] fun b2 H3 e4 hb5 r6 => ?_
 refine s_nil (k1 _ _ (sq_ fun k8 => g_' (q_ (i_ n_) (q_ (.agg #[i_ n_, .slice none 0 0]) ?_))))
 obtain ⟨H9, q10, e11, r12⟩ := ra_ 79 0 e4.wf r6 [i_ n_, .slice none 0 0] [i_ n_, .slice none 0 0]
 refine ek_ q10 (s_nil (k8 _ _ ?_))
 refine w_ret ?_
 refine b_ret (vs := [.agg #[i_ n_, .slice none 0 0]]) (aRes_cell (Eq.trans (b := aL_ 79 (pt_ b2 0) H9) (by kernel_rfl) (r12.l_)) (rfl)) ?_
 obtain rfl := oi_ hr
 exact ⟨rfl, (fs_ wf ((f0_ wf).extR e4) e11 (hb5.fresh (Nat.le_refl _)))⟩
theorem c_viaductref01_At {H : AH} {hd_Places : Value} {fp_Places : Fp} {kind : Int} {at_ : Int} {Code : Int} {Places : List (Int × Int)} {r : Int × List (Int × Int)}
    (wf : WF H) (h_Places : Sq enc_i64_i64 2 H hd_Places Places fp_Places) (hr : z_viaductref01_At kind at_ Code Places = some r) :
    ACalls Try.prog 57 #[i_ kind, i_ at_, .agg #[i_ Code, hd_Places]] H fun v H' => ∃ (s3 : Value) (f4 : Fp), v = .agg #[i_ r.1, s3] /\ FrS [] H H' /\ Ow enc_i64_i64 2 H' s3 r.2 f4 /\ Inn [] H f4 := by
 refine ab_ Try.func57 ?_
 unfold z_viaductref01_At at hr
 refine sq_ fun k6 => g_' ?_
 refine s_rwl wf [i_ Code, hd_Places] (one_cons (rfl) (one_cons (h_Places.one1) (one_nil))) (by kernel_rfl) fun b7 H8 e9 hb10 r11 => ?_
 refine rk_ e9.wf [i_ 0, .slice none 0 0] fun b13 H14 e15 hb16 r17 => ?_
 refine s_nil (k6 _ _ (sq_ fun k19 => g_' (q_ (i_ kind) (q_ (i_ at_) (q_ (.agg #[i_ kind, i_ at_]) ?_)))))
 refine s_owk (enc := enc_i64_i64) (sz := 2) e15.wf [(kind, at_)] 1 (by decide) (fun _ _ => rfl) (fun _ _ => rfl) rfl (by kernel_rfl) fun s20 f21 H22 e23 hf24 hm25 => ?_
 obtain ⟨a26, n27, c28, rfl⟩ := hm25.form
 refine q_ (.slice a26 n27 c28) (s_nil (k19 _ _ (sq_ fun k30 => g_' (q_ (.slice a26 n27 c28) (q_ (pt_ b7 1) ?_)))))
 have u31 := ((r11.ext e15).ext e23)
 refine lr_ 77 1 (hd_Places) u31 ?_
 obtain ⟨g32, r33⟩ := G_some hr
 have u41 := (((h_Places.ext e9).ext e15).ext e23)
 obtain ⟨s34, H35, f36, q40, e37, hm38, hf39⟩ := Ow.append (P := Try.prog) 16 e23.wf hm25 u41 (fun _ _ => rfl) (at_ := #[77, 77]) rfl rfl (by kernel_rfl) (by kernel_rfl) (by decide) (by have := g32; first | omega | (simp only [List.length_cons, List.length_nil] at this ⊢; omega) | (simp at this ⊢; omega))
 obtain ⟨a42, n43, c44, rfl⟩ := hm38.form
 refine s_ek (.slice a42 n43 c44) (by kernel_rfl) (q40) ?_
 refine q_ (.slice a42 n43 c44) (s_nil (k30 _ _ (sq_ fun k46 => g_' (q_ (pt_ b7 0) ?_))))
 have d47 := (hf24.djn (r11.ltF.le e15.n))
 have u48 := (u31.frS e37 d47)
 refine lr_ 3 0 (i_ Code) u48 (q_ (.slice a42 n43 c44) (q_ (.agg #[i_ Code, .slice a42 n43 c44]) ?_))
 have u53 := ((r17.ext e23).frS e37 (hf24.djn r17.ltF))
 obtain ⟨H49, q50, e51, r52⟩ := ra_ 79 0 e37.wf u53 [i_ Code, .slice a42 n43 c44] [i_ Code, .slice a42 n43 c44]
 refine ek_ q50 (s_nil (k46 _ _ ?_))
 refine w_ret ?_
 refine b_ret (vs := [.agg #[i_ Code, .slice a42 n43 c44]]) (aRes_cell (Eq.trans (b := aL_ 79 (pt_ b13 0) H49) (by kernel_rfl) (r52.l_)) (rfl)) ?_
 have n54 := (t_ e9.n e15.n)
 have d55 := (hf39.dj (hf24.djn r17.ltF) (r17.ltF.le e23.n))
 have u56 := (hm38.fr e51 (Dj.symm d55))
 have n57 := (t_ (t_ e9.n e15.n) e23.n)
 obtain rfl := oi_ r33
 exact ⟨(.slice a42 n43 c44), f36, rfl, (fs_ wf (fs_ wf ((((f0_ wf).extR e9).extR e15).extR e23) e37 (hf24.fresh n54)) e51 (hb16.fresh e9.n)), u56, (Inn.trans (hf24.fresh n54) n57 hf39)⟩
theorem c_viaductref03_DocCheck {H : AH} {hd_Arcs : Value} {fp_Arcs : Fp} {N_ : Int} {Arcs : List (Int × Int × Int)} {r : Int × List (Int × Int)}
    (wf : WF H) (h_Arcs : Sq enc_i64_i64_i64 3 H hd_Arcs Arcs fp_Arcs) (hr : z_viaductref03_DocCheck N_ Arcs = some r) :
    ACalls Try.prog 44 #[.agg #[i_ N_, hd_Arcs]] H fun v H' => ∃ (s3 : Value) (f4 : Fp), v = .agg #[i_ r.1, s3] /\ FrS [] H H' /\ Ow enc_i64_i64 2 H' s3 r.2 f4 /\ Inn [] H f4 := by
 refine ab_ Try.func44 ?_
 unfold z_viaductref03_DocCheck at hr
 refine sq_ fun k6 => g_' ?_
 refine s_rwl wf [i_ N_, hd_Arcs] (one_cons (rfl) (one_cons (h_Arcs.one1) (one_nil))) (by kernel_rfl) fun b7 H8 e9 hb10 r11 => ?_
 refine rk_ e9.wf [i_ 0, .slice none 0 0] fun b13 H14 e15 hb16 r17 => ?_
 refine s_nil (k6 _ _ (sq_ fun k19 => sq_ fun k20 => ?_))
 obtain ⟨o21, hx22, r23⟩ := bs_ hr
 refine w_mid (fun α H24 => Has α [(1, pt_ b7 0), (2, pt_ b13 0), (18, .bool o21)] /\ H14 = H24) (fun _ k26 => ?_) (fun α H24 hM => ?_)
 ·refine g_' (q_ (pt_ b7 0) ?_)
  have u28 := (r11.ext e15)
  refine lr_ 3 0 (i_ N_) u28 ?_
  refine sb_ (N_ < 0) (fun h29 => ?_) fun h29 => ?_
  ·have r30 := ite_t h29 hx22
   refine q_ (.bool true) (n_' (n_' (n_' (q_ (.bool true) (q_ (.bool true) (n_' (n_' (n_' (n_' (q_ (.bool true) (s_nil ?_)))))))))))
   obtain rfl := oi_ r30
   exact k26 _ _ ⟨ha_, rfl⟩
  have r31 := ite_f h29 hx22
  refine q_ (.bool false) (q_ (pt_ b7 0) (lr_ 3 0 (i_ N_) u28 ?_))
  refine sb_ (N_ > 65536) (fun h32 => ?_) fun h32 => ?_
  ·have r33 := ite_t h32 r31
   refine q_ (.bool true) (q_ (.bool true) (n_' (n_' (n_' (n_' (q_ (.bool true) (s_nil ?_)))))))
   obtain rfl := oi_ r33
   exact k26 _ _ ⟨ha_, rfl⟩
  have r34 := ite_f h32 r31
  refine q_ (.bool false) (q_ (.bool false) (q_ (pt_ b7 1) (lr_ 22 1 (hd_Arcs) u28 ?_)))
  have u35 := ((h_Arcs.ext e9).ext e15)
  refine u35.ln_ 22 (q_ (.bool (decide ((Arcs.length : Int) > 262144))) (q_ (.bool (decide ((Arcs.length : Int) > 262144))) (s_nil ?_)))
  obtain rfl := oi_ r34
  exact k26 _ _ ⟨ha_, rfl⟩
 obtain ⟨hh27, rfl⟩ := hM
 obtain ⟨β, rfl⟩ := has_ex hh27
 clear hh27
 refine k20 _ _ ?_
 refine wb_ (o21) (fun h36 => ?_) fun h36 => ?_
 ·have r37 := ite_t h36 r23
  refine sq_ fun k38 => g_' ?_
  obtain ⟨y39, hy40, r41⟩ := bs_ r37
  refine ck_ (c_viaductref01_E e15.wf hy40) ?_
  rintro _ H42 ⟨rfl, e43⟩
  have u48 := (r17.frS e43 dn_)
  obtain ⟨H44, q45, e46, r47⟩ := ra_ 79 0 e43.wf u48 [i_ y39, .slice none 0 0] [i_ y39, .slice none 0 0]
  refine ek_ q45 (s_nil (k38 _ _ ?_))
  refine w_ret (th_ret ?_)
  refine b_ret (vs := [.agg #[i_ y39, .slice none 0 0]]) (aRes_cell (Eq.trans (b := aL_ 79 (pt_ b13 0) H44) (by kernel_rfl) (r47.l_)) (rfl)) ?_
  obtain rfl := oi_ r41
  exact ⟨(.slice none 0 0), [], rfl, (fs_ wf (fs_ wf (((f0_ wf).extR e9).extR e15) e43 in_) e46 (hb16.fresh e9.n)), (Ow.nil (by decide)), in_⟩
 have r49 := ite_bf h36 r23
 refine w_skip (k19 _ _ (sq_ fun k50 => sq_ fun k51 => g_' (q_ (pt_ b7 1) ?_)))
 have u52 := (r11.ext e15)
 refine lr_ 22 1 (hd_Arcs) u52 ?_
 have u53 := ((h_Arcs.ext e9).ext e15)
 refine u53.ln_ 22 (q_ (i_ 0) (s_nil (k51 _ _ ?_)))
 obtain ⟨z57, hx55, r56⟩ := bs_ r49
 refine w_mid (fun α H58 => ∃ o54, z57 = Sum.inr o54 /\ Has α [(2, pt_ b13 0)] /\ FrS [] H14 H58) (fun _ k60 => ?_) (fun α H58 hM => ?_)
 ·refine w_block ?_
  obtain ⟨n62, hn63⟩ := loopO_iff.1 hx55
  refine w_loopn (fun n α H64 => ∃ (i0 : Int), iterO (fun zz_ => z_viaductref03_DocCheck_l0 N_ Arcs zz_) n i0 = some z57 /\ Has α [(1, pt_ b7 0), (2, pt_ b13 0), (21, hd_Arcs), (22, i_ (Arcs.length : Int)), (23, i_ i0)] /\ FrS [] H14 H64) n62 ⟨0, hn63, ha_, (fr_ e15.wf)⟩ ?_
  rintro n62 α H64 ⟨i0, hi67, hh66, e65⟩ K72 k72
  obtain ⟨n68, z69, rfl, hz70, hn71⟩ := iter_succ hi67
  obtain ⟨β, rfl⟩ := has_ex hh66
  clear hh66
  replace hz70 : z_viaductref03_DocCheck_l0 N_ Arcs i0 = some z69 := hz70
  unfold z_viaductref03_DocCheck_l0 at hz70
  refine sq_ fun k73 => g_' (q_ (.bool (decide (i0 < (Arcs.length : Int)))) (s_nil (k73 _ _ (sq_ fun k74 => ?_))))
  refine wc_ (i0 < (Arcs.length : Int)) (fun h75 => ?_) fun h75 => ?_
  ·have r76 := ite_t h75 hz70
   refine w_skip (k74 _ _ (sq_ fun k77 => w_block (sq_ fun k78 => g_' (q_ (i_ i0) ?_))))
   obtain ⟨g79, r80⟩ := G_some r76
   have u81 := (u53.fr e65 dn_)
   refine u81.ix_ 22 g79 h75 (le_ 118 0 (.agg #[i_ ((gt Arcs i0).1), i_ ((gt Arcs i0).2.1), i_ ((gt Arcs i0).2.2)]) u81 g79 h75 ?_)
   refine rk_ e65.wf [i_ 0, i_ 0, i_ 0] fun b82 H83 e84 hb85 r86 => ?_
   refine q_ (i_ i0) ?_
   obtain ⟨H88, q89, e90, r91⟩ := ra_ 118 0 e84.wf r86 [i_ ((gt Arcs i0).1), i_ ((gt Arcs i0).2.1), i_ ((gt Arcs i0).2.2)] [i_ ((gt Arcs i0).1), i_ ((gt Arcs i0).2.1), i_ ((gt Arcs i0).2.2)]
   refine ek_ q89 (s_nil (k78 _ _ (sq_ fun k92 => sq_ fun k93 => ?_)))
   obtain ⟨o94, hx95, r96⟩ := bs_ r80
   refine w_mid (fun α H97 => Has α [(1, pt_ b7 0), (2, pt_ b13 0), (3, i_ i0), (4, pt_ b82 0), (21, hd_Arcs), (22, i_ (Arcs.length : Int)), (23, i_ i0), (49, .bool o94)] /\ H88 = H97) (fun _ k99 => ?_) (fun α H97 hM => ?_)
   ·refine g_' (q_ (pt_ b82 0) (lr_ 3 0 (i_ ((gt Arcs i0).1)) r91 ?_))
    refine sb_ (((gt Arcs i0).1) < 0) (fun h101 => ?_) fun h101 => ?_
    ·have r102 := ite_t h101 hx95
     refine q_ (.bool true) (n_' (n_' (n_' (n_' (n_' (q_ (.bool true) (q_ (.bool true) (n_' (n_' (n_' (q_ (.bool true) (q_ (.bool true) (n_' (n_' (n_' (n_' (n_' (q_ (.bool true) (s_nil ?_)))))))))))))))))))
     obtain rfl := oi_ r102
     exact k99 _ _ ⟨ha_, rfl⟩
    have r103 := ite_f h101 hx95
    refine q_ (.bool false) (q_ (pt_ b82 0) (lr_ 3 0 (i_ ((gt Arcs i0).1)) r91 (q_ (pt_ b7 0) ?_)))
    have n104 := (t_ e15.n e65.n)
    have d105 := (hb85.djn (r11.ltF.le n104))
    have u106 := (((u52.frS e65 dn_).ext e84).frS e90 d105)
    refine lr_ 3 0 (i_ N_) u106 ?_
    refine sb_ (((gt Arcs i0).1) ≥ N_) (fun h107 => ?_) fun h107 => ?_
    ·have r108 := ite_t h107 r103
     refine q_ (.bool true) (q_ (.bool true) (n_' (n_' (n_' (q_ (.bool true) (q_ (.bool true) (n_' (n_' (n_' (n_' (n_' (q_ (.bool true) (s_nil ?_)))))))))))))
     obtain rfl := oi_ r108
     exact k99 _ _ ⟨ha_, rfl⟩
    have r109 := ite_f h107 r103
    refine q_ (.bool false) (q_ (.bool false) (q_ (pt_ b82 1) (lr_ 3 1 (i_ ((gt Arcs i0).2.1)) r91 ?_)))
    refine sb_ (((gt Arcs i0).2.1) < 0) (fun h110 => ?_) fun h110 => ?_
    ·have r111 := ite_t h110 r109
     refine q_ (.bool true) (q_ (.bool true) (n_' (n_' (n_' (n_' (n_' (q_ (.bool true) (s_nil ?_))))))))
     obtain rfl := oi_ r111
     exact k99 _ _ ⟨ha_, rfl⟩
    have r112 := ite_f h110 r109
    refine q_ (.bool false) (q_ (.bool false) (q_ (pt_ b82 1) (lr_ 3 1 (i_ ((gt Arcs i0).2.1)) r91 (q_ (pt_ b7 0) (lr_ 3 0 (i_ N_) u106 (q_ (.bool (decide (((gt Arcs i0).2.1) ≥ N_))) (q_ (.bool (decide (((gt Arcs i0).2.1) ≥ N_))) (s_nil ?_))))))))
    obtain rfl := oi_ r112
    exact k99 _ _ ⟨ha_, rfl⟩
   obtain ⟨hh100, rfl⟩ := hM
   obtain ⟨β, rfl⟩ := has_ex hh100
   clear hh100
   refine k93 _ _ ?_
   refine wb_ (o94) (fun h113 => ?_) fun h113 => ?_
   ·have r114 := ite_t h113 r96
    refine sq_ fun k115 => g_' (q_ (i_ i0) ?_)
    obtain ⟨y116, hy117, r118⟩ := bs_ r114
    refine ck_ (c_viaductref01_E e90.wf hy117) ?_
    rintro _ H119 ⟨rfl, e120⟩
    obtain ⟨y121, hy122, r123⟩ := bs_ r118
    refine ck_ (c_viaductref01_At e120.wf (Sq.nil (enc := enc_i64_i64) (sz := 2) (by decide)) hy122) ?_
    rintro _ H126 ⟨s124, f125, rfl, e127, m128, i129⟩
    obtain ⟨a131, n132, c133, rfl⟩ := m128.form
    have d138 := (hb85.djn (r17.ltF.le e65.n))
    have u139 := (((((r17.frS e65 dn_).ext e84).frS e90 d138).frS e120 dn_).frS e127 dn_)
    obtain ⟨H134, q135, e136, r137⟩ := ra_ 79 0 e127.wf u139 [i_ y121.1, .slice a131 n132 c133] [i_ y121.1, .slice a131 n132 c133]
    refine ek_ q135 (s_nil (k115 _ _ ?_))
    refine w_ret (th_ret (bl_ret (th_ret (th_ret (bl_ret (th_ret (th_ret ?_)))))))
    obtain ⟨v140, hv141, hz142⟩ := map_some r123
    subst hz142
    obtain rfl := it_inr hn71
    have hq143 := elim_inl r56
    rw [hq143] at hv141
    refine b_ret (vs := [.agg #[i_ y121.1, .slice a131 n132 c133]]) (aRes_cell (Eq.trans (b := aL_ 79 (pt_ b13 0) H134) (by kernel_rfl) (r137.l_)) (rfl)) ?_
    have n144 := (t_ (t_ e9.n e15.n) e65.n)
    have n145 := (t_ (t_ (t_ e65.n e84.n) e90.n) e120.n)
    have d146 := (i129.djn (r17.ltF.le n145))
    have u147 := (m128.fr e136 (Dj.symm d146))
    have n148 := (t_ (t_ (t_ (t_ (t_ e9.n e15.n) e65.n) e84.n) e90.n) e120.n)
    obtain rfl := oi_ hv141
    exact ⟨(.slice a131 n132 c133), f125, rfl, (fs_ wf (fs_ wf (fs_ wf (fs_ wf ((fs_ wf (((f0_ wf).extR e9).extR e15) e65 in_).extR e84) e90 (hb85.fresh n144)) e120 in_) e127 in_) e136 (hb16.fresh e9.n)), u147, (i129.fresh n148)⟩
   have r149 := ite_bf h113 r96
   refine w_skip (k92 _ _ (sq_ fun k150 => ?_))
   obtain ⟨o151, hx152, r153⟩ := bs_ r149
   refine w_mid (fun α H154 => Has α [(1, pt_ b7 0), (2, pt_ b13 0), (3, i_ i0), (21, hd_Arcs), (22, i_ (Arcs.length : Int)), (23, i_ i0), (60, .bool o151)] /\ H88 = H154) (fun _ k156 => ?_) (fun α H154 hM => ?_)
   ·refine g_' (q_ (pt_ b82 2) (lr_ 3 2 (i_ ((gt Arcs i0).2.2)) r91 ?_))
    refine sb_ (((gt Arcs i0).2.2) < 0) (fun h158 => ?_) fun h158 => ?_
    ·have r159 := ite_t h158 hx152
     refine q_ (.bool true) (n_' (n_' (n_' (q_ (.bool true) (s_nil ?_)))))
     obtain rfl := oi_ r159
     exact k156 _ _ ⟨ha_, rfl⟩
    have r160 := ite_f h158 hx152
    refine q_ (.bool false) (q_ (pt_ b82 2) (lr_ 3 2 (i_ ((gt Arcs i0).2.2)) r91 (q_ (.bool (decide (((gt Arcs i0).2.2) > 2147483647))) (q_ (.bool (decide (((gt Arcs i0).2.2) > 2147483647))) (s_nil ?_)))))
    obtain rfl := oi_ r160
    exact k156 _ _ ⟨ha_, rfl⟩
   obtain ⟨hh157, rfl⟩ := hM
   obtain ⟨β, rfl⟩ := has_ex hh157
   clear hh157
   refine k150 _ _ ?_
   refine wb_ (o151) (fun h161 => ?_) fun h161 => ?_
   ·have r162 := ite_t h161 r153
    refine sq_ fun k163 => g_' (q_ (i_ i0) ?_)
    obtain ⟨y164, hy165, r166⟩ := bs_ r162
    refine ck_ (c_viaductref01_E e90.wf hy165) ?_
    rintro _ H167 ⟨rfl, e168⟩
    obtain ⟨y169, hy170, r171⟩ := bs_ r166
    refine ck_ (c_viaductref01_At e168.wf (Sq.nil (enc := enc_i64_i64) (sz := 2) (by decide)) hy170) ?_
    rintro _ H174 ⟨s172, f173, rfl, e175, m176, i177⟩
    obtain ⟨a179, n180, c181, rfl⟩ := m176.form
    have d186 := (hb85.djn (r17.ltF.le e65.n))
    have u187 := (((((r17.frS e65 dn_).ext e84).frS e90 d186).frS e168 dn_).frS e175 dn_)
    obtain ⟨H182, q183, e184, r185⟩ := ra_ 79 0 e175.wf u187 [i_ y169.1, .slice a179 n180 c181] [i_ y169.1, .slice a179 n180 c181]
    refine ek_ q183 (s_nil (k163 _ _ ?_))
    refine w_ret (bl_ret (th_ret (th_ret (bl_ret (th_ret (th_ret ?_))))))
    obtain ⟨v188, hv189, hz190⟩ := map_some r171
    subst hz190
    obtain rfl := it_inr hn71
    have hq191 := elim_inl r56
    rw [hq191] at hv189
    refine b_ret (vs := [.agg #[i_ y169.1, .slice a179 n180 c181]]) (aRes_cell (Eq.trans (b := aL_ 79 (pt_ b13 0) H182) (by kernel_rfl) (r185.l_)) (rfl)) ?_
    have n192 := (t_ (t_ e9.n e15.n) e65.n)
    have n193 := (t_ (t_ (t_ e65.n e84.n) e90.n) e168.n)
    have d194 := (i177.djn (r17.ltF.le n193))
    have u195 := (m176.fr e184 (Dj.symm d194))
    have n196 := (t_ (t_ (t_ (t_ (t_ e9.n e15.n) e65.n) e84.n) e90.n) e168.n)
    obtain rfl := oi_ hv189
    exact ⟨(.slice a179 n180 c181), f173, rfl, (fs_ wf (fs_ wf (fs_ wf (fs_ wf ((fs_ wf (((f0_ wf).extR e9).extR e15) e65 in_).extR e84) e90 (hb85.fresh n192)) e168 in_) e175 in_) e184 (hb16.fresh e9.n)), u195, (i177.fresh n196)⟩
   have r197 := ite_bf h161 r153
   refine w_skip (k77 _ _ (g_' ?_))
   obtain ⟨g198, r199⟩ := G_some r197
   refine w_' ((i0 + 1)) (wrap64 (by have := g198; omega)) (q_ (i_ (i0 + 1)) (s_nil ?_))
   obtain rfl := oi_ r199
   exact k72 n68 _ _ lt_ ⟨(i0 + 1), hn71, ha_, (fs_ e15.wf ((fs_ e15.wf (fr_ e15.wf) e65 in_).extR e84) e90 (hb85.fresh e65.n))⟩
  have r200 := ite_f h75 hz70
  refine w_exit (th_exit (th_exit (bl_eq ?_)))
  obtain rfl := oi_ r200
  obtain rfl := it_inr hn71
  exact k60 _ _ ⟨_, rfl, ha_, (fs_ e15.wf (fr_ e15.wf) e65 in_)⟩
 obtain ⟨o54, rfl, hh61, e59⟩ := hM
 have r201 := elim_inr r56
 obtain ⟨β, rfl⟩ := has_ex hh61
 clear hh61
 refine k50 _ _ (sq_ fun k202 => g_' (q_ (.agg #[i_ 0, .slice none 0 0]) ?_))
 have u207 := (r17.frS e59 dn_)
 obtain ⟨H203, q204, e205, r206⟩ := ra_ 79 0 e59.wf u207 [i_ 0, .slice none 0 0] [i_ 0, .slice none 0 0]
 refine ek_ q204 (s_nil (k202 _ _ ?_))
 refine w_ret ?_
 refine b_ret (vs := [.agg #[i_ 0, .slice none 0 0]]) (aRes_cell (Eq.trans (b := aL_ 79 (pt_ b13 0) H203) (by kernel_rfl) (r206.l_)) (rfl)) ?_
 obtain rfl := oi_ r201
 exact ⟨(.slice none 0 0), [], rfl, (fs_ wf (fs_ wf (((f0_ wf).extR e9).extR e15) e59 in_) e205 (hb16.fresh e9.n)), (Ow.nil (by decide)), in_⟩
theorem c_viaductref01_Err_Bad {H : AH} {hd_Places : Value} {fp_Places : Fp} {Code : Int} {Places : List (Int × Int)} {r : Bool}
    (wf : WF H) (h_Places : Sq enc_i64_i64 2 H hd_Places Places fp_Places) (hr : z_viaductref01_Err_Bad Code Places = some r) :
    ACalls Try.prog 32 #[.agg #[i_ Code, hd_Places]] H fun v H' => v = .bool r /\ FrS [] H H' := by
 refine ab_ Try.func32 ?_
 unfold z_viaductref01_Err_Bad at hr
 refine sq_ fun k1 => g_' ?_
 refine s_rwl wf [i_ Code, hd_Places] (one_cons (rfl) (one_cons (h_Places.one1) (one_nil))) (by kernel_rfl) fun b2 H3 e4 hb5 r6 => ?_
 refine q_ (.bool false) (s_nil (k1 _ _ (sq_ fun k8 => g_' (q_ (pt_ b2 0) (lr_ 3 0 (i_ Code) r6 ?_)))))
 refine s_bn (Code = 0) (by kernel_rfl) (fun h9 => ?_) (fun h9 => ?_)
 ·have r10 := ite_t h9 hr
  refine q_ (.bool false) (q_ (pt_ b2 1) (lr_ 77 1 (hd_Places) r6 ?_))
  have u11 := (h_Places.ext e4)
  refine u11.ln_ 77 (q_ (.bool (decide ((Places.length : Int) > 0))) (q_ (.bool (decide ((Places.length : Int) > 0))) (q_ (.bool (decide ((Places.length : Int) > 0))) (s_nil (k8 _ _ ?_)))))
  refine w_ret ?_
  refine br_ [.bool (decide ((Places.length : Int) > 0))] ?_
  obtain rfl := oi_ r10
  exact ⟨rfl, ((f0_ wf).extR e4)⟩
 have r12 := ite_f h9 hr
 refine q_ (.bool true) (n_' (n_' (n_' (n_' (q_ (.bool true) (q_ (.bool true) (s_nil (k8 _ _ ?_))))))))
 refine w_ret ?_
 refine br_ [.bool true] ?_
 obtain rfl := oi_ r12
 exact ⟨rfl, ((f0_ wf).extR e4)⟩
theorem c_viaductref04_Few {H : AH} {hd_Arcs : Value} {fp_Arcs : Fp} {N_ : Int} {Arcs : List (Int × Int × Int)} {most : Int} {r : Bool}
    (wf : WF H) (h_Arcs : Sq enc_i64_i64_i64 3 H hd_Arcs Arcs fp_Arcs) (hr : z_viaductref04_Few N_ Arcs most = some r) :
    ACalls Try.prog 21 #[.agg #[i_ N_, hd_Arcs], i_ most] H fun v H' => v = .bool r /\ FrS [] H H' := by
 refine ab_ Try.func21 ?_
 unfold z_viaductref04_Few at hr
 refine sq_ fun k1 => g_' ?_
 refine s_rwl wf [i_ N_, hd_Arcs] (one_cons (rfl) (one_cons (h_Arcs.one1) (one_nil))) (by kernel_rfl) fun b2 H3 e4 hb5 r6 => ?_
 refine q_ (.bool false) (s_nil (k1 _ _ (sq_ fun k8 => g_' (lr_ 24 0 (.agg #[i_ N_, hd_Arcs]) r6 ?_))))
 have u9 := (h_Arcs.ext e4)
 obtain ⟨y10, hy11, r12⟩ := bs_ hr
 refine ck_ (c_viaductref03_DocCheck e4.wf u9 hy11) ?_
 rintro _ H15 ⟨s13, f14, rfl, e16, m17, i18⟩
 obtain ⟨a20, n21, c22, rfl⟩ := m17.form
 refine rk_ e16.wf [i_ 0, .slice none 0 0] fun b23 H24 e25 hb26 r27 => ?_
 have u33 := (m17.ext e25)
 obtain ⟨H29, q30, e31, r32⟩ := ra_ 79 0 e25.wf r27 [i_ y10.1, .slice a20 n21 c22] [i_ y10.1, .slice a20 n21 c22]
 refine ek_ q30 (s_nil (k8 _ _ (sq_ fun k34 => g_' (lr_ 79 0 (.agg #[i_ y10.1, .slice a20 n21 c22]) r32 ?_))))
 have u35 := (u33.fr e31 (hb26.djn m17.lt))
 obtain ⟨y36, hy37, r38⟩ := bs_ r12
 refine ck_ (c_viaductref01_Err_Bad e31.wf u35.sq hy37) ?_
 rintro _ H39 ⟨rfl, e40⟩
 by_cases h41 : y36 = true
 ·have r42 := ite_t h41 r38
  rw [h41]
  refine q_ (.bool false) (q_ (.bool false) (n_' (n_' (n_' (n_' (q_ (.bool false) (q_ (.bool false) (n_' (n_' (n_' (n_' (q_ (.bool false) (q_ (.bool false) (s_nil (k34 _ _ ?_)))))))))))))))
  refine w_ret ?_
  refine br_ [.bool false] ?_
  have n44 := (t_ e4.n e16.n)
  obtain rfl := oi_ r42
  exact ⟨rfl, (fs_ wf (fs_ wf ((fs_ wf ((f0_ wf).extR e4) e16 in_).extR e25) e31 (hb26.fresh n44)) e40 in_)⟩
 have r45 := ite_f h41 r38
 rw [nb h41]
 refine q_ (.bool true) (q_ (.bool true) (q_ (pt_ b2 0) ?_))
 have d47 := (hb26.djn (r6.ltF.le e16.n))
 have u48 := ((((r6.frS e16 dn_).ext e25).frS e31 d47).frS e40 dn_)
 refine lr_ 3 0 (i_ N_) u48 (q_ (i_ most) ?_)
 refine sb_ (N_ ≤ most) (fun h49 => ?_) fun h49 => ?_
 ·have r50 := ite_t h49 r45
  refine q_ (.bool true) (q_ (.bool true) (q_ (pt_ b2 1) (lr_ 22 1 (hd_Arcs) u48 ?_)))
  have n51 := (t_ e4.n e16.n)
  have d52 := (hb26.djn (h_Arcs.lt.le n51))
  have u53 := ((((u9.fr e16 dn_).ext e25).fr e31 d52).fr e40 dn_)
  refine u53.ln_ 22 (q_ (.bool (decide ((Arcs.length : Int) ≤ 2000))) (q_ (.bool (decide ((Arcs.length : Int) ≤ 2000))) (q_ (.bool (decide ((Arcs.length : Int) ≤ 2000))) (s_nil (k34 _ _ ?_)))))
  refine w_ret ?_
  refine br_ [.bool (decide ((Arcs.length : Int) ≤ 2000))] ?_
  obtain rfl := oi_ r50
  exact ⟨rfl, (fs_ wf (fs_ wf ((fs_ wf ((f0_ wf).extR e4) e16 in_).extR e25) e31 (hb26.fresh n51)) e40 in_)⟩
 have r54 := ite_f h49 r45
 refine q_ (.bool false) (q_ (.bool false) (n_' (n_' (n_' (n_' (q_ (.bool false) (q_ (.bool false) (s_nil (k34 _ _ ?_)))))))))
 refine w_ret ?_
 refine br_ [.bool false] ?_
 have n55 := (t_ e4.n e16.n)
 obtain rfl := oi_ r54
 exact ⟨rfl, (fs_ wf (fs_ wf ((fs_ wf ((f0_ wf).extR e4) e16 in_).extR e25) e31 (hb26.fresh n55)) e40 in_)⟩
theorem c_gtext_within {H : AH} {x : Int} {n_ : Int} {r : Bool}
    (wf : WF H) (hr : z_gtext_within x n_ = some r) :
    ACalls Try.prog 81 #[i_ x, i_ n_] H fun v H' => v = .bool r /\ H = H' := by
 refine ab_ Try.func81 ?_
 unfold z_gtext_within at hr
 refine sq_ fun k1 => g_' (q_ (.bool false) (s_nil (k1 _ _ (sq_ fun k2 => g_' (q_ (i_ x) ?_)))))
 refine sb_ (x ≥ 0) (fun h3 => ?_) fun h3 => ?_
 ·have r4 := ite_t h3 hr
  refine q_ (.bool true) (q_ (i_ x) (q_ (i_ n_) (q_ (.bool (decide (x < n_))) (q_ (.bool (decide (x < n_))) (q_ (.bool (decide (x < n_))) (s_nil (k2 _ _ ?_)))))))
  refine w_ret ?_
  refine br_ [.bool (decide (x < n_))] ?_
  obtain rfl := oi_ r4
  exact ⟨rfl, rfl⟩
 have r5 := ite_f h3 hr
 refine q_ (.bool false) (n_' (n_' (n_' (q_ (.bool false) (q_ (.bool false) (s_nil (k2 _ _ ?_)))))))
 refine w_ret ?_
 refine br_ [.bool false] ?_
 obtain rfl := oi_ r5
 exact ⟨rfl, rfl⟩
theorem c_gtext_arc {H : AH} {From : Int} {To : Int} {Weight : Int} {n_ : Int} {r : Er}
    (wf : WF H) (hr : z_gtext_arc From To Weight n_ = some r) :
    ACalls Try.prog 69 #[.agg #[i_ From, i_ To, i_ Weight], i_ n_] H fun v H' => ∃ (v3 : Value) (f4 : Fp), v = v3 /\ FrS [] H H' /\ Ev 90 129 H' v3 r f4 /\ Inn [] H f4 := by
 refine ab_ Try.func69 ?_
 unfold z_gtext_arc at hr
 refine sq_ fun k6 => g_' ?_
 refine rl_ wf [i_ From, i_ To, i_ Weight] fun b7 H8 e9 hb10 r11 => ?_
 refine q_ (.nilIface) (s_nil (k6 _ _ (sq_ fun k13 => w_block (sq_ fun k14 => ?_))))
 obtain ⟨o15, hx16, r17⟩ := bs_ hr
 refine w_mid (fun α H18 => Has α [(2, pt_ b7 0), (5, .bool o15)] /\ H8 = H18) (fun _ k20 => ?_) (fun α H18 hM => ?_)
 ·refine g_' (q_ (pt_ b7 0) (lr_ 3 0 (i_ From) r11 (q_ (i_ n_) ?_)))
  obtain ⟨y22, hy23, r24⟩ := bs_ hx16
  refine ck_ (c_gtext_within e9.wf hy23) ?_
  rintro _ _ ⟨rfl, rfl⟩
  by_cases h27 : y22 = true
  ·have r28 := ite_t h27 r24
   rw [h27]
   refine q_ (.bool false) (q_ (.bool false) (q_ (pt_ b7 1) (lr_ 3 1 (i_ To) r11 (q_ (i_ n_) ?_))))
   obtain ⟨y30, hy31, r32⟩ := bs_ r28
   refine ck_ (c_gtext_within e9.wf hy31) ?_
   rintro _ _ ⟨rfl, rfl⟩
   refine q_ (.bool (!y30)) (q_ (.bool (!y30)) (q_ (.bool (!y30)) (s_nil ?_)))
   obtain rfl := oi_ r32
   exact k20 _ _ ⟨ha_, rfl⟩
  have r35 := ite_f h27 r24
  rw [nb h27]
  refine q_ (.bool true) (q_ (.bool true) (n_' (n_' (n_' (n_' (n_' (q_ (.bool true) (q_ (.bool true) (s_nil ?_)))))))))
  obtain rfl := oi_ r35
  exact k20 _ _ ⟨ha_, rfl⟩
 obtain ⟨hh21, rfl⟩ := hM
 obtain ⟨β, rfl⟩ := has_ex hh21
 clear hh21
 refine k14 _ _ ?_
 refine wb_ (o15) (fun h37 => ?_) fun h37 => ?_
 ·have r38 := ite_t h37 r17
  refine sq_ fun k39 => g_' (q_ (.iface 90 (i_ 7)) (q_ (.iface 90 (i_ 7)) (s_nil (k39 _ _ ?_))))
  refine w_ret (bl_ret (th_ret ?_))
  refine br_ [.iface 90 (i_ 7)] ?_
  obtain rfl := oi_ r38
  exact ⟨(.iface 90 (i_ 7)), [], rfl, ((f0_ wf).extR e9), Ev.no, in_⟩
 have r40 := ite_bf h37 r17
 refine sq_ fun k41 => g_' (q_ (pt_ b7 2) (lr_ 3 2 (i_ Weight) r11 ?_))
 refine sb_ (Weight < 0) (fun h42 => ?_) fun h42 => ?_
 ·have r43 := ite_t h42 r40
  refine q_ (.bool true) (n_' (n_' (n_' (q_ (.bool true) (q_ (.bool true) (s_nil (k41 _ _ ?_)))))))
  refine wb_ true (fun _ => ?_) fun h => by cases h
  refine sq_ fun k44 => g_' (q_ (.iface 90 (i_ 8)) (q_ (.iface 90 (i_ 8)) (s_nil (k44 _ _ ?_))))
  refine w_ret (bl_ret (th_ret ?_))
  refine br_ [.iface 90 (i_ 8)] ?_
  obtain rfl := oi_ r43
  exact ⟨(.iface 90 (i_ 8)), [], rfl, ((f0_ wf).extR e9), Ev.no, in_⟩
 have r45 := ite_f h42 r40
 refine q_ (.bool false) (q_ (pt_ b7 2) (lr_ 3 2 (i_ Weight) r11 (q_ (.bool (decide (Weight > 2147483647))) (q_ (.bool (decide (Weight > 2147483647))) (q_ (.bool (decide (Weight > 2147483647))) (s_nil (k41 _ _ ?_)))))))
 refine wc_ (Weight > 2147483647) (fun h46 => ?_) fun h46 => ?_
 ·have r47 := ite_t h46 r45
  refine sq_ fun k48 => g_' (q_ (.iface 90 (i_ 8)) (q_ (.iface 90 (i_ 8)) (s_nil (k48 _ _ ?_))))
  refine w_ret (bl_ret (th_ret ?_))
  refine br_ [.iface 90 (i_ 8)] ?_
  obtain rfl := oi_ r47
  exact ⟨(.iface 90 (i_ 8)), [], rfl, ((f0_ wf).extR e9), Ev.no, in_⟩
 have r49 := ite_f h46 r45
 refine w_skip (k13 _ _ (sq_ fun k50 => g_' (q_ (.nilIface) (s_nil (k50 _ _ ?_)))))
 refine w_ret ?_
 refine br_ [.nilIface] ?_
 obtain rfl := oi_ r49
 exact ⟨(.nilIface), [], rfl, ((f0_ wf).extR e9), Ev.nil, in_⟩
theorem c_fault_At {H : AH} {ev_err : Value} {fp_err : Fp} {kind : Int} {at_ : Int} {err : Er} {r : Er}
    (wf : WF H) (h_err : Ev 90 129 H ev_err err fp_err) (hr : z_fault_At kind at_ err = some r) :
    ACalls Try.prog 35 #[i_ kind, i_ at_, ev_err] H fun v H' => ∃ (v3 : Value) (f4 : Fp), v = v3 /\ FrS [] H H' /\ Ev 90 129 H' v3 r f4 /\ Inn fp_err H f4 := by
 refine ab_ Try.func35 ?_
 unfold z_fault_At at hr
 refine sq_ fun k6 => g_' (q_ (.nilIface) (s_nil (k6 _ _ (sq_ fun k7 => sq_ fun k8 => g_' (q_ (ev_err) ?_)))))
 rcases (h_err).cases with ⟨h9, rfl⟩ | ⟨h9, t10, x11, rfl⟩
 ·have r12 := ite_t h9 hr
  refine q_ (.bool true) (s_nil (k8 _ _ ?_))
  refine wb_ true (fun _ => ?_) fun h => by cases h
  refine sq_ fun k13 => g_' (q_ (.nilIface) (s_nil (k13 _ _ ?_)))
  refine w_ret (th_ret ?_)
  refine br_ [.nilIface] ?_
  obtain rfl := oi_ r12
  exact ⟨(.nilIface), [], rfl, (f0_ wf), Ev.nil, in_⟩
 have r14 := ite_f h9 hr
 refine l_' (.bool false) (aBin Try.prog .eql 38 (.tmp 7) (.const .nilIface) (.iface t10 x11) .nilIface) (aBin_nil (by kernel_rfl)) (s_nil (k8 _ _ ?_))
 refine wb_ false (fun h => by cases h) fun _ => ?_
 refine w_skip (k7 _ _ (sq_ fun k15 => g_' (q_ (i_ kind) (q_ (i_ at_) (q_ (.agg #[i_ kind, i_ at_]) (q_ (.iface t10 x11) (q_ (.agg #[i_ kind, i_ at_, .iface t10 x11]) ?_)))))))
 refine rl_ wf [i_ kind, i_ at_, .iface t10 x11] fun b16 H17 e18 hb19 r20 => ?_
 have u22 := (h_err.ext e18)
 obtain ⟨fq23, he24, hi25⟩ := Ev.at r20 u22 hb19
 refine q_ (.iface 129 (pt_ b16 0)) (q_ (.iface 129 (pt_ b16 0)) (s_nil (k15 _ _ ?_)))
 refine w_ret ?_
 refine br_ [.iface 129 (pt_ b16 0)] ?_
 obtain rfl := oi_ r14
 exact ⟨(.iface 129 (pt_ b16 0)), fq23, rfl, ((f0_ wf).extR e18), he24, (Inn.trans ir_ (Nat.le_refl _) hi25)⟩
theorem c_gtext_Check {H : AH} {hd_Arcs : Value} {fp_Arcs : Fp} {N_ : Int} {Arcs : List (Int × Int × Int)} {r : Er}
    (wf : WF H) (h_Arcs : Sq enc_i64_i64_i64 3 H hd_Arcs Arcs fp_Arcs) (hr : z_gtext_Check N_ Arcs = some r) :
    ACalls Try.prog 58 #[.agg #[i_ N_, hd_Arcs]] H fun v H' => ∃ (v3 : Value) (f4 : Fp), v = v3 /\ FrS [] H H' /\ Ev 90 129 H' v3 r f4 /\ Inn [] H f4 := by
 refine ab_ Try.func58 ?_
 unfold z_gtext_Check at hr
 refine sq_ fun k6 => g_' ?_
 refine s_rwl wf [i_ N_, hd_Arcs] (one_cons (rfl) (one_cons (h_Arcs.one1) (one_nil))) (by kernel_rfl) fun b7 H8 e9 hb10 r11 => ?_
 refine q_ (.nilIface) (s_nil (k6 _ _ (sq_ fun k13 => sq_ fun k14 => ?_)))
 obtain ⟨o15, hx16, r17⟩ := bs_ hr
 refine w_mid (fun α H18 => Has α [(1, pt_ b7 0), (19, .bool o15)] /\ H8 = H18) (fun _ k20 => ?_) (fun α H18 hM => ?_)
 ·refine g_' (q_ (pt_ b7 0) (lr_ 3 0 (i_ N_) r11 ?_))
  refine sb_ (N_ < 0) (fun h22 => ?_) fun h22 => ?_
  ·have r23 := ite_t h22 hx16
   refine q_ (.bool true) (n_' (n_' (n_' (q_ (.bool true) (q_ (.bool true) (n_' (n_' (n_' (n_' (q_ (.bool true) (s_nil ?_)))))))))))
   obtain rfl := oi_ r23
   exact k20 _ _ ⟨ha_, rfl⟩
  have r24 := ite_f h22 hx16
  refine q_ (.bool false) (q_ (pt_ b7 0) (lr_ 3 0 (i_ N_) r11 ?_))
  refine sb_ (N_ > 65536) (fun h25 => ?_) fun h25 => ?_
  ·have r26 := ite_t h25 r24
   refine q_ (.bool true) (q_ (.bool true) (n_' (n_' (n_' (n_' (q_ (.bool true) (s_nil ?_)))))))
   obtain rfl := oi_ r26
   exact k20 _ _ ⟨ha_, rfl⟩
  have r27 := ite_f h25 r24
  refine q_ (.bool false) (q_ (.bool false) (q_ (pt_ b7 1) (lr_ 22 1 (hd_Arcs) r11 ?_)))
  have u28 := (h_Arcs.ext e9)
  refine u28.ln_ 22 (q_ (.bool (decide ((Arcs.length : Int) > 262144))) (q_ (.bool (decide ((Arcs.length : Int) > 262144))) (s_nil ?_)))
  obtain rfl := oi_ r27
  exact k20 _ _ ⟨ha_, rfl⟩
 obtain ⟨hh21, rfl⟩ := hM
 obtain ⟨β, rfl⟩ := has_ex hh21
 clear hh21
 refine k14 _ _ ?_
 refine wb_ (o15) (fun h29 => ?_) fun h29 => ?_
 ·have r30 := ite_t h29 r17
  refine sq_ fun k31 => g_' (q_ (.iface 90 (i_ 9)) (q_ (.iface 90 (i_ 9)) (s_nil (k31 _ _ ?_))))
  refine w_ret (th_ret ?_)
  refine br_ [.iface 90 (i_ 9)] ?_
  obtain rfl := oi_ r30
  exact ⟨(.iface 90 (i_ 9)), [], rfl, ((f0_ wf).extR e9), Ev.no, in_⟩
 have r32 := ite_bf h29 r17
 refine w_skip (k13 _ _ (sq_ fun k33 => sq_ fun k34 => g_' (q_ (pt_ b7 1) (lr_ 22 1 (hd_Arcs) r11 ?_))))
 have u35 := (h_Arcs.ext e9)
 refine u35.ln_ 22 (q_ (i_ 0) (s_nil (k34 _ _ ?_)))
 obtain ⟨z39, hx37, r38⟩ := bs_ r32
 refine w_mid (fun α H40 => ∃ o36, z39 = Sum.inr o36 /\ Has α [] /\ FrS [] H8 H40) (fun _ k42 => ?_) (fun α H40 hM => ?_)
 ·refine w_block ?_
  obtain ⟨n44, hn45⟩ := loopO_iff.1 hx37
  refine w_loopn (fun n α H46 => ∃ (i0 : Int), iterO (fun zz_ => z_gtext_Check_l0 N_ Arcs zz_) n i0 = some z39 /\ Has α [(1, pt_ b7 0), (22, hd_Arcs), (23, i_ (Arcs.length : Int)), (24, i_ i0)] /\ FrS [] H8 H46) n44 ⟨0, hn45, ha_, (fr_ e9.wf)⟩ ?_
  rintro n44 α H46 ⟨i0, hi49, hh48, e47⟩ K54 k54
  obtain ⟨n50, z51, rfl, hz52, hn53⟩ := iter_succ hi49
  obtain ⟨β, rfl⟩ := has_ex hh48
  clear hh48
  replace hz52 : z_gtext_Check_l0 N_ Arcs i0 = some z51 := hz52
  unfold z_gtext_Check_l0 at hz52
  refine sq_ fun k55 => g_' (q_ (.bool (decide (i0 < (Arcs.length : Int)))) (s_nil (k55 _ _ (sq_ fun k56 => ?_))))
  refine wc_ (i0 < (Arcs.length : Int)) (fun h57 => ?_) fun h57 => ?_
  ·have r58 := ite_t h57 hz52
   refine w_skip (k56 _ _ (sq_ fun k59 => w_block (sq_ fun k60 => g_' (q_ (i_ i0) ?_))))
   obtain ⟨g61, r62⟩ := G_some r58
   have u63 := (u35.fr e47 dn_)
   refine u63.ix_ 22 g61 h57 (le_ 118 0 (.agg #[i_ ((gt Arcs i0).1), i_ ((gt Arcs i0).2.1), i_ ((gt Arcs i0).2.2)]) u63 g61 h57 ?_)
   refine rk_ e47.wf [i_ 0, i_ 0, i_ 0] fun b64 H65 e66 hb67 r68 => ?_
   refine q_ (i_ i0) ?_
   obtain ⟨H70, q71, e72, r73⟩ := ra_ 118 0 e66.wf r68 [i_ ((gt Arcs i0).1), i_ ((gt Arcs i0).2.1), i_ ((gt Arcs i0).2.2)] [i_ ((gt Arcs i0).1), i_ ((gt Arcs i0).2.1), i_ ((gt Arcs i0).2.2)]
   refine ek_ q71 (s_nil (k60 _ _ (sq_ fun k74 => g_' (lr_ 118 0 (.agg #[i_ ((gt Arcs i0).1), i_ ((gt Arcs i0).2.1), i_ ((gt Arcs i0).2.2)]) r73 (q_ (pt_ b7 0) ?_)))))
   have d75 := (hb67.djn (r11.ltF.le e47.n))
   have u76 := (((r11.frS e47 dn_).ext e66).frS e72 d75)
   refine lr_ 3 0 (i_ N_) u76 ?_
   obtain ⟨y77, hy78, r79⟩ := bs_ r62
   refine ck_ (c_gtext_arc e72.wf hy78) ?_
   rintro v80 H82 ⟨_, f81, rfl, e83, m84, i85⟩
   refine q_ (v80) (s_nil (k74 _ _ (sq_ fun k87 => g_' (q_ (v80) ?_))))
   rcases (m84).cases with ⟨h88, rfl⟩ | ⟨h88, t89, x90, rfl⟩
   ·have r91 := ite_t h88 r79
    refine q_ (.bool false) (s_nil (k87 _ _ ?_))
    refine wb_ false (fun h => by cases h) fun _ => ?_
    refine w_skip (k59 _ _ (g_' ?_))
    obtain ⟨g92, r93⟩ := G_some r91
    refine w_' ((i0 + 1)) (wrap64 (by have := g92; omega)) (q_ (i_ (i0 + 1)) (s_nil ?_))
    obtain rfl := oi_ r93
    exact k54 n50 _ _ lt_ ⟨(i0 + 1), hn53, ha_, (fs_ e9.wf (fs_ e9.wf ((fs_ e9.wf (fr_ e9.wf) e47 in_).extR e66) e72 (hb67.fresh e47.n)) e83 in_)⟩
   have r94 := ite_f h88 r79
   refine l_' (.bool true) (aBin Try.prog .neq 38 (.tmp 33) (.const .nilIface) (.iface t89 x90) .nilIface) (aBin_nnil (by kernel_rfl)) (s_nil (k87 _ _ ?_))
   refine wb_ true (fun _ => ?_) fun h => by cases h
   refine sq_ fun k95 => g_' (q_ (i_ i0) (q_ (.iface t89 x90) ?_))
   obtain ⟨y96, hy97, r98⟩ := bs_ r94
   refine ck_ (c_fault_At e83.wf m84 hy97) ?_
   rintro v99 H101 ⟨_, f100, rfl, e102, m103, i104⟩
   refine q_ (v99) (s_nil (k95 _ _ ?_))
   refine w_ret (bl_ret (th_ret (th_ret (bl_ret (th_ret (th_ret ?_))))))
   obtain ⟨v106, hv107, hz108⟩ := map_some r98
   subst hz108
   obtain rfl := it_inr hn53
   have hq109 := elim_inl r38
   rw [hq109] at hv107
   refine br_ [v99] ?_
   have n110 := (t_ e9.n e47.n)
   have n111 := (t_ (t_ (t_ e9.n e47.n) e66.n) e72.n)
   have n112 := (t_ (t_ (t_ (t_ e9.n e47.n) e66.n) e72.n) e83.n)
   obtain rfl := oi_ hv107
   exact ⟨(v99), f100, rfl, (fs_ wf (fs_ wf (fs_ wf ((fs_ wf ((f0_ wf).extR e9) e47 in_).extR e66) e72 (hb67.fresh n110)) e83 in_) e102 in_), m103, (Inn.trans (i85.fresh n111) n112 i104)⟩
  have r113 := ite_f h57 hz52
  refine w_exit (th_exit (th_exit (bl_eq ?_)))
  obtain rfl := oi_ r113
  obtain rfl := it_inr hn53
  exact k42 _ _ ⟨_, rfl, trivial, (fs_ e9.wf (fr_ e9.wf) e47 in_)⟩
 obtain ⟨o36, rfl, hh43, e41⟩ := hM
 have r114 := elim_inr r38
 obtain ⟨β, rfl⟩ := has_ex hh43
 clear hh43
 refine k33 _ _ (sq_ fun k115 => g_' (q_ (.nilIface) (s_nil (k115 _ _ ?_))))
 refine w_ret ?_
 refine br_ [.nilIface] ?_
 obtain rfl := oi_ r114
 exact ⟨(.nilIface), [], rfl, (fs_ wf ((f0_ wf).extR e9) e41 in_), Ev.nil, in_⟩
theorem c_cmp_isNaN {H : AH} {x : Int} {r : Bool}
    (wf : WF H) (hr : z_cmp_isNaN x = some r) :
    ACalls Try.prog 92 #[i_ x] H fun v H' => v = .bool r /\ H = H' := by
 refine ab_ Try.func92 ?_
 unfold z_cmp_isNaN at hr
 refine sq_ fun k1 => g_' (q_ (.bool false) (s_nil (k1 _ _ (sq_ fun k2 => g_' (q_ (i_ x) (q_ (i_ x) (q_ (.bool (!decide (x = x))) (q_ (.bool (!decide (x = x))) (s_nil (k2 _ _ ?_))))))))))
 refine w_ret ?_
 refine br_ [.bool (!decide (x = x))] ?_
 obtain rfl := oi_ hr
 exact ⟨rfl, rfl⟩
theorem c_cmp_Compare {H : AH} {x : Int} {y : Int} {r : Int}
    (wf : WF H) (hr : z_cmp_Compare x y = some r) :
    ACalls Try.prog 73 #[i_ x, i_ y] H fun v H' => v = i_ r /\ H = H' := by
 refine ab_ Try.func73 ?_
 unfold z_cmp_Compare at hr
 refine sq_ fun k1 => g_' (q_ (i_ 0) (s_nil (k1 _ _ (sq_ fun k2 => g_' (q_ (i_ x) ?_)))))
 obtain ⟨y3, hy4, r5⟩ := bs_ hr
 refine ck_ (c_cmp_isNaN wf hy4) ?_
 rintro _ _ ⟨rfl, rfl⟩
 refine q_ (.bool y3) (s_nil (k2 _ _ (sq_ fun k8 => g_' (q_ (i_ y) ?_))))
 obtain ⟨y9, hy10, r11⟩ := bs_ r5
 refine ck_ (c_cmp_isNaN wf hy10) ?_
 rintro _ _ ⟨rfl, rfl⟩
 refine q_ (.bool y9) (s_nil (k8 _ _ (sq_ fun k14 => sq_ fun k15 => g_' (q_ (.bool y3) (s_nil (k15 _ _ ?_))))))
 refine wb_ (y3) (fun h16 => ?_) fun h16 => ?_
 ·have r17 := ite_t h16 r11
  refine sq_ fun k18 => sq_ fun k19 => g_' (q_ (.bool y9) (s_nil (k19 _ _ ?_)))
  refine wb_ (y9) (fun h20 => ?_) fun h20 => ?_
  ·have r21 := ite_t h20 r17
   refine sq_ fun k22 => g_' (q_ (i_ 0) (s_nil (k22 _ _ ?_)))
   refine w_ret (th_ret (th_ret ?_))
   refine br_ [i_ 0] ?_
   obtain rfl := oi_ r21
   exact ⟨rfl, rfl⟩
  have r23 := ite_bf h20 r17
  refine w_skip (k18 _ _ (sq_ fun k24 => g_' (q_ (i_ (-1)) (s_nil (k24 _ _ ?_)))))
  refine w_ret (th_ret ?_)
  refine br_ [i_ (-1)] ?_
  obtain rfl := oi_ r23
  exact ⟨rfl, rfl⟩
 have r25 := ite_bf h16 r11
 refine w_skip (k14 _ _ (sq_ fun k26 => sq_ fun k27 => g_' (q_ (.bool y9) (s_nil (k27 _ _ ?_)))))
 refine wb_ (y9) (fun h28 => ?_) fun h28 => ?_
 ·have r29 := ite_t h28 r25
  refine sq_ fun k30 => g_' (q_ (i_ 1) (s_nil (k30 _ _ ?_)))
  refine w_ret (th_ret ?_)
  refine br_ [i_ 1] ?_
  obtain rfl := oi_ r29
  exact ⟨rfl, rfl⟩
 have r31 := ite_bf h28 r25
 refine w_skip (k26 _ _ (sq_ fun k32 => sq_ fun k33 => g_' (q_ (i_ x) (q_ (i_ y) (q_ (.bool (decide (x < y))) (s_nil (k33 _ _ ?_)))))))
 refine wc_ (x < y) (fun h34 => ?_) fun h34 => ?_
 ·have r35 := ite_t h34 r31
  refine sq_ fun k36 => g_' (q_ (i_ (-1)) (s_nil (k36 _ _ ?_)))
  refine w_ret (th_ret ?_)
  refine br_ [i_ (-1)] ?_
  obtain rfl := oi_ r35
  exact ⟨rfl, rfl⟩
 have r37 := ite_f h34 r31
 refine w_skip (k32 _ _ (sq_ fun k38 => sq_ fun k39 => g_' (q_ (i_ x) (q_ (i_ y) (q_ (.bool (decide (x > y))) (s_nil (k39 _ _ ?_)))))))
 refine wc_ (x > y) (fun h40 => ?_) fun h40 => ?_
 ·have r41 := ite_t h40 r37
  refine sq_ fun k42 => g_' (q_ (i_ 1) (s_nil (k42 _ _ ?_)))
  refine w_ret (th_ret ?_)
  refine br_ [i_ 1] ?_
  obtain rfl := oi_ r41
  exact ⟨rfl, rfl⟩
 have r43 := ite_f h40 r37
 refine w_skip (k38 _ _ (sq_ fun k44 => g_' (q_ (i_ 0) (s_nil (k44 _ _ ?_)))))
 refine w_ret ?_
 refine br_ [i_ 0] ?_
 obtain rfl := oi_ r43
 exact ⟨rfl, rfl⟩
theorem c_cmp_Or {H : AH} {hd_vals : Value} {fp_vals : Fp} {vals : List (Int)} {r : Int}
    (wf : WF H) (h_vals : Sq (encI .i64) 1 H hd_vals vals fp_vals) (hr : z_cmp_Or vals = some r) :
    ACalls Try.prog 72 #[hd_vals] H fun v H' => v = i_ r /\ H = H' := by
 refine ab_ Try.func72 ?_
 unfold z_cmp_Or at hr
 refine sq_ fun k1 => g_' (q_ (i_ 0) (s_nil (k1 _ _ (sq_ fun k2 => g_' (q_ (i_ 0) (s_nil (k2 _ _ (sq_ fun k3 => sq_ fun k4 => g_' (q_ (hd_vals) (h_vals.ln_ 26 (q_ (i_ 0) (s_nil (k4 _ _ ?_)))))))))))))
 obtain ⟨z8, hx6, r7⟩ := bs_ hr
 refine w_mid (fun α H9 => ∃ o5, z8 = Sum.inr o5 /\ Has α [(3, i_ 0)] /\ H = H9) (fun _ k11 => ?_) (fun α H9 hM => ?_)
 ·refine w_block ?_
  obtain ⟨n13, hn14⟩ := loopO_iff.1 hx6
  refine w_loopn (fun n α H15 => ∃ (i0 : Int), iterO (fun zz_ => z_cmp_Or_l0 vals zz_) n i0 = some z8 /\ Has α [(3, i_ 0), (6, hd_vals), (7, i_ (vals.length : Int)), (8, i_ i0)] /\ H = H15) n13 ⟨0, hn14, ha_, rfl⟩ ?_
  rintro n13 α H15 ⟨i0, hi18, hh17, rfl⟩ K23 k23
  obtain ⟨n19, z20, rfl, hz21, hn22⟩ := iter_succ hi18
  obtain ⟨β, rfl⟩ := has_ex hh17
  clear hh17
  replace hz21 : z_cmp_Or_l0 vals i0 = some z20 := hz21
  unfold z_cmp_Or_l0 at hz21
  refine sq_ fun k24 => g_' (q_ (.bool (decide (i0 < (vals.length : Int)))) (s_nil (k24 _ _ (sq_ fun k25 => ?_))))
  refine wc_ (i0 < (vals.length : Int)) (fun h26 => ?_) fun h26 => ?_
  ·have r27 := ite_t h26 hz21
   refine w_skip (k25 _ _ (sq_ fun k28 => w_block (sq_ fun k29 => g_' ?_)))
   obtain ⟨g30, r31⟩ := G_some r27
   refine h_vals.ix_ 26 g30 h26 (le_ 3 0 (i_ (gt vals i0)) h_vals g30 h26 (q_ (i_ (gt vals i0)) (s_nil (k29 _ _ (sq_ fun k32 => g_' (q_ (i_ (gt vals i0)) (q_ (i_ 0) (q_ (.bool (!decide ((gt vals i0) = 0))) (s_nil (k32 _ _ ?_))))))))))
   refine w_condn ((gt vals i0) = 0) (by kernel_rfl) rfl (fun h33 => ?_) (fun h33 => ?_)
   ·have r34 := ite_f h33 r31
    refine sq_ fun k35 => g_' (q_ (i_ (gt vals i0)) (q_ (i_ (gt vals i0)) (s_nil (k35 _ _ ?_))))
    refine w_ret (bl_ret (th_ret (th_ret (bl_ret (th_ret (th_ret ?_))))))
    obtain ⟨v36, hv37, hz38⟩ := map_some r34
    subst hz38
    obtain rfl := it_inr hn22
    have hq39 := elim_inl r7
    rw [hq39] at hv37
    refine br_ [i_ (gt vals i0)] ?_
    obtain rfl := oi_ hv37
    exact ⟨rfl, rfl⟩
   have r40 := ite_t h33 r31
   refine w_skip (k28 _ _ (g_' ?_))
   obtain ⟨g41, r42⟩ := G_some r40
   refine w_' ((i0 + 1)) (wrap64 (by have := g41; omega)) (q_ (i_ (i0 + 1)) (s_nil ?_))
   obtain rfl := oi_ r42
   exact k23 n19 _ _ lt_ ⟨(i0 + 1), hn22, ha_, rfl⟩
  have r43 := ite_f h26 hz21
  refine w_exit (th_exit (th_exit (bl_eq ?_)))
  obtain rfl := oi_ r43
  obtain rfl := it_inr hn22
  exact k11 _ _ ⟨_, rfl, ha_, rfl⟩
 obtain ⟨o5, rfl, hh12, rfl⟩ := hM
 have r44 := elim_inr r7
 obtain ⟨β, rfl⟩ := has_ex hh12
 clear hh12
 refine k3 _ _ (sq_ fun k45 => g_' (q_ (i_ 0) (q_ (i_ 0) (s_nil (k45 _ _ ?_)))))
 refine w_ret ?_
 refine br_ [i_ 0] ?_
 obtain rfl := oi_ r44
 exact ⟨rfl, rfl⟩
theorem c_normal_order {H : AH} {From : Int} {To : Int} {Weight : Int} {From_ : Int} {To_ : Int} {Weight_ : Int} {r : Int}
    (wf : WF H) (hr : z_normal_order From To Weight From_ To_ Weight_ = some r) :
    ACalls Try.prog 60 #[.agg #[i_ From, i_ To, i_ Weight], .agg #[i_ From_, i_ To_, i_ Weight_]] H fun v H' => v = i_ r /\ FrS [] H H' := by
 refine ab_ Try.func60 ?_
 unfold z_normal_order at hr
 refine sq_ fun k1 => g_' ?_
 refine rl_ wf [i_ From, i_ To, i_ Weight] fun b2 H3 e4 hb5 r6 => ?_
 refine rl_ e4.wf [i_ From_, i_ To_, i_ Weight_] fun b8 H9 e10 hb11 r12 => ?_
 refine q_ (i_ 0) (s_nil (k1 _ _ (sq_ fun k14 => ?_)))
 refine w_draw [0, 1, 2, 3, 5, 6, 7, 8, 10, 11, 12, 13, 4, 9, 14, 15, 16, 17] (by kernel_rfl) ?_
 refine e_' (pt_ b2 0) ?_
 have u15 := (r6.ext e10)
 refine mr_ 3 0 (i_ From) u15 (e_' (pt_ b8 0) (mr_ 3 0 (i_ From_) r12 (e_' (pt_ b2 1) ?_)))
 refine d_fl (i_ To) (x := aL_ 3 (pt_ b2 1) H9) (by kernel_rfl) (u15.l_) ?_
 refine e_' (pt_ b8 1) ?_
 refine d_fl (i_ To_) (x := aL_ 3 (pt_ b8 1) H9) (by kernel_rfl) (r12.l_) ?_
 refine e_' (pt_ b2 2) ?_
 refine d_fl (i_ Weight) (x := aL_ 3 (pt_ b2 2) H9) (by kernel_rfl) (u15.l_) ?_
 refine e_' (pt_ b8 2) ?_
 refine d_fl (i_ Weight_) (x := aL_ 3 (pt_ b8 2) H9) (by kernel_rfl) (r12.l_) ?_
 obtain ⟨y16, hy17, r18⟩ := bs_ hr
 refine dk_ (c_cmp_Compare e10.wf hy17) ?_
 rintro _ _ ⟨rfl, rfl⟩
 refine ⟨st_ql (y := aL_ 3 (pt_ b8 2) H9) (by kernel_rfl) (r12.l_) (st_ql (y := aL_ 3 (pt_ b2 2) H9) (by kernel_rfl) (u15.l_) (st_ql (y := aL_ 3 (pt_ b8 1) H9) (by kernel_rfl) (r12.l_) (st_ql (y := aL_ 3 (pt_ b2 1) H9) (by kernel_rfl) (u15.l_) (st_nil)))), ?_⟩
 obtain ⟨y21, hy22, r23⟩ := bs_ r18
 refine dk_ (c_cmp_Compare e10.wf hy22) ?_
 rintro _ _ ⟨rfl, rfl⟩
 refine ⟨st_ql (y := aL_ 3 (pt_ b8 2) H9) (by kernel_rfl) (r12.l_) (st_ql (y := aL_ 3 (pt_ b2 2) H9) (by kernel_rfl) (u15.l_) (st_anc (by kernel_rfl) (st_anc (by kernel_rfl) (st_nil)))), ?_⟩
 obtain ⟨y26, hy27, r28⟩ := bs_ r23
 refine dk_ (c_cmp_Compare e10.wf hy27) ?_
 rintro _ _ ⟨rfl, rfl⟩
 refine ⟨st_anc (by kernel_rfl) (st_anc (by kernel_rfl) (st_anc (by kernel_rfl) (st_anc (by kernel_rfl) (st_nil)))), ?_⟩
 refine d_owk (enc := (encI .i64)) (sz := 1) e10.wf [y16, y21, y26] 3 (by decide) (fun _ _ => rfl) (fun _ _ => rfl) rfl (by kernel_rfl) fun s31 f32 H33 e34 hf35 hm36 => ?_
 obtain ⟨a37, n38, c39, rfl⟩ := hm36.form
 obtain ⟨y41, hy42, r43⟩ := bs_ r28
 refine dk_ (c_cmp_Or e34.wf hm36.sq hy42) ?_
 rintro _ _ ⟨rfl, rfl⟩
 refine ⟨st_anc (by kernel_rfl) (st_anc (by kernel_rfl) (st_anc (by kernel_rfl) (st_anc (by kernel_rfl) (st_nil)))), ?_⟩
 refine e_' (i_ y41) ?_
 refine d_nil ?_
 refine k14 _ _ ?_
 refine w_ret ?_
 refine br_ [i_ y41] ?_
 obtain rfl := oi_ r43
 exact ⟨rfl, ((((f0_ wf).extR e4).extR e10).extR e34)⟩
theorem c_normal_Of_1 {H : AH} {From : Int} {To : Int} {Weight : Int} {From_ : Int} {To_ : Int} {Weight_ : Int} {r : Bool}
    (wf : WF H) (hr : z_normal_Of_1 From To Weight From_ To_ Weight_ = some r) :
    ACalls Try.prog 62 #[.agg #[i_ From, i_ To, i_ Weight], .agg #[i_ From_, i_ To_, i_ Weight_]] H fun v H' => v = .bool r /\ FrS [] H H' := by
 refine ab_ Try.func62 ?_
 unfold z_normal_Of_1 at hr
 refine sq_ fun k1 => g_' ?_
 refine rl_ wf [i_ From, i_ To, i_ Weight] fun b2 H3 e4 hb5 r6 => ?_
 refine rl_ e4.wf [i_ From_, i_ To_, i_ Weight_] fun b8 H9 e10 hb11 r12 => ?_
 refine q_ (.bool false) (s_nil (k1 _ _ (sq_ fun k14 => g_' (q_ (pt_ b2 0) ?_))))
 have u15 := (r6.ext e10)
 refine lr_ 3 0 (i_ From) u15 (q_ (pt_ b8 0) (lr_ 3 0 (i_ From_) r12 ?_))
 refine sb_ (From = From_) (fun h16 => ?_) fun h16 => ?_
 ·have r17 := ite_t h16 hr
  refine q_ (.bool true) (q_ (pt_ b2 1) (lr_ 3 1 (i_ To) u15 (q_ (pt_ b8 1) (lr_ 3 1 (i_ To_) r12 (q_ (.bool (decide (To = To_))) (q_ (.bool (decide (To = To_))) (q_ (.bool (decide (To = To_))) (s_nil (k14 _ _ ?_)))))))))
  refine w_ret ?_
  refine br_ [.bool (decide (To = To_))] ?_
  obtain rfl := oi_ r17
  exact ⟨rfl, (((f0_ wf).extR e4).extR e10)⟩
 have r18 := ite_f h16 hr
 refine q_ (.bool false) (n_' (n_' (n_' (n_' (n_' (q_ (.bool false) (q_ (.bool false) (s_nil (k14 _ _ ?_)))))))))
 refine w_ret ?_
 refine br_ [.bool false] ?_
 obtain rfl := oi_ r18
 exact ⟨rfl, (((f0_ wf).extR e4).extR e10)⟩
end Go.Vd

/-! (KSd1) -/

set_option maxRecDepth 100000
set_option maxHeartbeats 4000000
set_option linter.unusedVariables false
namespace Go.Vd
open Go.Proofs
attribute [local irreducible] wpSeq wpOrd aWp
theorem c_slices_CompactFunc {H : AH} {hd_s : Value} {fp_s : Fp} {s : List (Int × Int × Int)} {r : List (Int × Int × Int) × List (Int × Int × Int)}
    (wf : WF H) (h_s : Ow enc_i64_i64_i64 3 H hd_s s fp_s) (hr : z_slices_CompactFunc s = some r) :
    ACalls Try.prog 61 #[hd_s, .func (.func 62) #[] #[]] H fun v H' => ∃ (s3 : Value), v = s3 /\ FrS fp_s H H' /\ Ow enc_i64_i64_i64 3 H' s3 r.1 fp_s /\ Ow enc_i64_i64_i64 3 H' hd_s r.2 fp_s := by
 refine ab_ Try.func61 ?_
 unfold z_slices_CompactFunc at hr
 refine sq_ fun k6 => g_' (q_ (.slice none 0 0) (s_nil (k6 _ _ (sq_ fun k7 => sq_ fun k8 => g_' (q_ (hd_s) (h_s.sq.ln_ 22 (q_ (.bool (decide ((s.length : Int) < 2))) (s_nil (k8 _ _ ?_)))))))))
 refine wc_ ((s.length : Int) < 2) (fun h9 => ?_) fun h9 => ?_
 ·have r10 := ite_t h9 hr
  refine sq_ fun k11 => g_' (q_ (hd_s) (q_ (hd_s) (s_nil (k11 _ _ ?_))))
  refine w_ret (th_ret ?_)
  refine br_ [hd_s] ?_
  obtain rfl := oi_ r10
  exact ⟨(hd_s), rfl, (fr_ wf), h_s, h_s⟩
 have r12 := ite_f h9 hr
 refine w_skip (k7 _ _ (sq_ fun k13 => sq_ fun k14 => g_' (q_ (i_ 1) (s_nil (k14 _ _ ?_)))))
 obtain ⟨z18, hx16, r17⟩ := bs_ r12
 refine w_mid (fun α H19 => ∃ o15, z18 = Sum.inr o15 /\ Has α [(0, hd_s)] /\ FrS [] H H19) (fun _ k21 => ?_) (fun α H19 hM => ?_)
 ·refine w_block ?_
  obtain ⟨n23, hn24⟩ := loopO_iff.1 hx16
  refine w_loopn (fun n α H25 => ∃ (k3 : Int), iterO (fun zz_ => z_slices_CompactFunc_l1 s zz_) n k3 = some z18 /\ Has α [(0, hd_s), (1, .func (.func 62) #[] #[]), (5, i_ k3)] /\ FrS [] H H25) n23 ⟨1, hn24, ha_, (f0_ wf)⟩ ?_
  rintro n23 α H25 ⟨k3, hi28, hh27, e26⟩ K33 k33
  obtain ⟨n29, z30, rfl, hz31, hn32⟩ := iter_succ hi28
  obtain ⟨β, rfl⟩ := has_ex hh27
  clear hh27
  replace hz31 : z_slices_CompactFunc_l1 s k3 = some z30 := hz31
  unfold z_slices_CompactFunc_l1 at hz31
  refine sq_ fun k34 => sq_ fun k35 => g_' (q_ (i_ k3) (q_ (hd_s) ?_))
  have u36 := (h_s.fr e26 dn_)
  refine u36.sq.ln_ 22 (q_ (.bool (decide (k3 < (s.length : Int)))) (s_nil (k35 _ _ ?_)))
  refine wc_ (k3 < (s.length : Int)) (fun h37 => ?_) fun h37 => ?_
  ·have r38 := ite_t h37 hz31
   refine w_skip (k34 _ _ (sq_ fun k39 => w_block (sq_ fun k40 => ?_)))
   refine w_draw [0, 1, 2, 3, 4, 5, 6, 7, 8, 9, 10] (by kernel_rfl) ?_
   refine e_' (.func (.func 62) #[] #[]) (e_' (hd_s) (e_' (i_ k3) ?_))
   obtain ⟨g41, r42⟩ := G_some r38
   refine u36.sq.mx_ 22 g41 h37 (me_ 118 0 (.agg #[i_ ((gt s k3).1), i_ ((gt s k3).2.1), i_ ((gt s k3).2.2)]) u36.sq g41 h37 (e_' (hd_s) (e_' (i_ k3) ?_)))
   obtain ⟨g43, r44⟩ := G_some r42
   refine d_w ((k3 - 1)) (k := .i64) (x := (k3 - 1)) (by kernel_rfl) (wrap64 g43) ?_
   obtain ⟨g45, r46⟩ := G_some r44
   refine u36.sq.mx_ 22 g45.1 g45.2 (me_ 118 0 (.agg #[i_ ((gt s (k3 - 1)).1), i_ ((gt s (k3 - 1)).2.1), i_ ((gt s (k3 - 1)).2.2)]) u36.sq g45.1 g45.2 ?_)
   obtain ⟨y47, hy48, r49⟩ := bs_ r46
   refine dk_ (c_normal_Of_1 e26.wf hy48) ?_
   rintro _ H50 ⟨rfl, e51⟩
   refine ⟨st_nil, ?_⟩
   refine d_nil ?_
   refine k40 _ _ ?_
   refine wb_ (y47) (fun h52 => ?_) fun h52 => ?_
   ·have r53 := ite_t h52 r49
    refine sq_ fun k54 => g_' (q_ (hd_s) (q_ (i_ k3) ?_))
    obtain ⟨g55, r56⟩ := G_some r53
    have u60 := (u36.fr e51 dn_)
    obtain ⟨s57, q58, vw59⟩ := Ow.view (P := Try.prog) u60 (t := 22) (by kernel_rfl) (lo := some (i_ k3)) (l := k3.toNat) (aBound_int _ (by have := g55; omega)) (by have := g55; omega)
    obtain ⟨a61, n62, c63, rfl⟩ := vw59.form
    refine s_ql (.slice a61 n62 c63) (by kernel_rfl) q58 ?_
    refine q_ (.slice a61 n62 c63) (s_nil (k54 _ _ (sq_ fun k64 => sq_ fun k65 => g_' (q_ (i_ 1) (s_nil (k65 _ _ ?_))))))
    obtain ⟨o66, hx67, r68⟩ := bs_ r56
    refine w_mid (fun α H69 => Has α [(0, hd_s), (5, i_ o66.2)] /\ FrS fp_s H50 H69 /\ Ow enc_i64_i64_i64 3 H69 hd_s o66.1 fp_s) (fun _ k73 => ?_) (fun α H69 hM => ?_)
    ·refine w_block ?_
     obtain ⟨n75, hn76⟩ := loopO_iff.1 hx67
     refine w_loopn (fun n α H77 => ∃ (s0 : List (Int × Int × Int)), ∃ (k1 : Int), ∃ (k22 : Int), iterO (fun zz_ => z_slices_CompactFunc_l0 k3 zz_.1 zz_.2.1 zz_.2.2) n (s0, k1, k22) = some o66 /\ Has α [(0, hd_s), (1, .func (.func 62) #[] #[]), (5, i_ k1), (6, .slice a61 n62 c63), (7, i_ k22)] /\ FrS fp_s H50 H77 /\ Ow enc_i64_i64_i64 3 H77 hd_s s0 fp_s) n75 ⟨s, k3, 1, hn76, ha_, (fr_ e51.wf), u60⟩ ?_
     rintro n75 α H77 ⟨s0, k1, k22, hi82, hh81, e78, m80⟩ K87 k87
     obtain ⟨n83, z84, rfl, hz85, hn86⟩ := iter_succ hi82
     obtain ⟨β, rfl⟩ := has_ex hh81
     clear hh81
     replace hz85 : z_slices_CompactFunc_l0 k3 s0 k1 k22 = some z84 := hz85
     unfold z_slices_CompactFunc_l0 at hz85
     refine sq_ fun k88 => sq_ fun k89 => g_' (q_ (i_ k22) (q_ (.slice a61 n62 c63) ?_))
     obtain ⟨hs90, hl91⟩ := vw59.sq m80
     refine hs90.ln_ 22 (q_ (.bool (decide (k22 < ((s0.drop k3.toNat).length : Int)))) (s_nil (k89 _ _ ?_)))
     refine wc_ (k22 < ((s0.drop k3.toNat).length : Int)) (fun h93 => ?_) fun h93 => ?_
     ·have r94 := ite_t h93 hz85
      refine w_skip (k88 _ _ (sq_ fun k95 => w_block (sq_ fun k96 => ?_)))
      refine w_draw [0, 1, 2, 3, 4, 5, 6, 7, 8, 9, 10, 11] (by kernel_rfl) ?_
      refine e_' (.func (.func 62) #[] #[]) (e_' (.slice a61 n62 c63) (e_' (i_ k22) ?_))
      obtain ⟨hs97, hl98⟩ := vw59.sq m80
      obtain ⟨g100, r101⟩ := G_some r94
      refine hs97.mx_ 22 g100 h93 (me_ 118 0 (.agg #[i_ ((gt (s0.drop k3.toNat) k22).1), i_ ((gt (s0.drop k3.toNat) k22).2.1), i_ ((gt (s0.drop k3.toNat) k22).2.2)]) hs97 g100 h93 (e_' (.slice a61 n62 c63) (e_' (i_ k22) ?_)))
      obtain ⟨g102, r103⟩ := G_some r101
      refine d_w ((k22 - 1)) (k := .i64) (x := (k22 - 1)) (by kernel_rfl) (wrap64 g102) ?_
      obtain ⟨hs104, hl105⟩ := vw59.sq m80
      obtain ⟨g107, r108⟩ := G_some r103
      refine hs104.mx_ 22 g107.1 g107.2 (me_ 118 0 (.agg #[i_ ((gt (s0.drop k3.toNat) (k22 - 1)).1), i_ ((gt (s0.drop k3.toNat) (k22 - 1)).2.1), i_ ((gt (s0.drop k3.toNat) (k22 - 1)).2.2)]) hs104 g107.1 g107.2 ?_)
      obtain ⟨y109, hy110, r111⟩ := bs_ r108
      refine dk_ (c_normal_Of_1 e78.wf hy110) ?_
      rintro _ H112 ⟨rfl, e113⟩
      refine ⟨st_nil, ?_⟩
      refine e_' (.bool (!y109)) ?_
      refine d_nil ?_
      refine k96 _ _ ?_
      refine wb_ ((!y109)) (fun h114 => ?_) fun h114 => ?_
      ·have r115 := ite_t h114 r111
       refine sq_ fun k116 => g_' (q_ (hd_s) (q_ (i_ k1) (q_ (.slice a61 n62 c63) (q_ (i_ k22) ?_))))
       have u119 := (m80.fr e113 dn_)
       obtain ⟨hs117, hl118⟩ := vw59.sq u119
       refine hs117.ix_ 22 g100 h93 (le_ 118 0 (.agg #[i_ ((gt (s0.drop k3.toNat) k22).1), i_ ((gt (s0.drop k3.toNat) k22).2.1), i_ ((gt (s0.drop k3.toNat) k22).2.2)]) hs117 g100 h93 ?_)
       obtain ⟨g121, r122⟩ := G_some r115
       refine u119.sq.ix_ 22 g121.1 g121.2 ?_
       obtain ⟨H123, q124, e125, hm126⟩ := Ow.store (P := Try.prog) (t := 118) (off := 0) e113.wf u119 g121.1 g121.2 (.agg #[i_ ((gt (s0.drop k3.toNat) k22).1), i_ ((gt (s0.drop k3.toNat) k22).2.1), i_ ((gt (s0.drop k3.toNat) k22).2.2)]) [i_ ((gt (s0.drop k3.toNat) k22).1), i_ ((gt (s0.drop k3.toNat) k22).2.1), i_ ((gt (s0.drop k3.toNat) k22).2.2)] (by kernel_rfl) (by kernel_rfl) rfl ((gt (s0.drop k3.toNat) k22).1, (gt (s0.drop k3.toNat) k22).2.1, (gt (s0.drop k3.toNat) k22).2.2) (Nat.le_of_ble_eq_true rfl) (by kernel_rfl)
       refine ek_ q124 (s_nil (k116 _ _ (g_' (q_ (i_ k1) ?_))))
       obtain ⟨g127, r128⟩ := G_some r122
       refine w_' ((k1 + 1)) (wrap64 (by have := g127; omega)) (q_ (i_ (k1 + 1)) (s_nil (k95 _ _ (g_' (q_ (i_ k22) ?_)))))
       obtain ⟨g129, r130⟩ := G_some r128
       refine w_' ((k22 + 1)) (wrap64 (by have := g129; omega)) (q_ (i_ (k22 + 1)) (s_nil ?_))
       obtain rfl := oi_ r130
       exact k87 n83 _ _ lt_ ⟨(s0.set k1.toNat ((gt (s0.drop k3.toNat) k22).1, (gt (s0.drop k3.toNat) k22).2.1, (gt (s0.drop k3.toNat) k22).2.2)), (k1 + 1), (k22 + 1), hn86, ha_, (fs_ e51.wf (fs_ e51.wf (fs_ e51.wf (fr_ e51.wf) e78 ir_) e113 in_) e125 ir_), hm126⟩
      have r131 := ite_bf h114 r111
      refine w_skip (k95 _ _ (g_' (q_ (i_ k22) ?_)))
      obtain ⟨g132, r133⟩ := G_some r131
      refine w_' ((k22 + 1)) (wrap64 (by have := g132; omega)) (q_ (i_ (k22 + 1)) (s_nil ?_))
      have u134 := (m80.fr e113 dn_)
      obtain rfl := oi_ r133
      exact k87 n83 _ _ lt_ ⟨s0, k1, (k22 + 1), hn86, ha_, (fs_ e51.wf (fs_ e51.wf (fr_ e51.wf) e78 ir_) e113 in_), u134⟩
     have r135 := ite_f h93 hz85
     refine w_exit (th_exit (th_exit (bl_eq ?_)))
     obtain rfl := oi_ r135
     obtain rfl := it_inr hn86
     exact k73 _ _ ⟨ha_, (fs_ e51.wf (fr_ e51.wf) e78 ir_), m80⟩
    obtain ⟨hh74, e70, m72⟩ := hM
    obtain ⟨β, rfl⟩ := has_ex hh74
    clear hh74
    refine k64 _ _ (sq_ fun k136 => g_' (q_ (hd_s) (q_ (i_ o66.2) ?_)))
    obtain ⟨g137, r138⟩ := G_some r68
    obtain ⟨s139, q140, vw141⟩ := Ow.view (P := Try.prog) m72 (t := 22) (by kernel_rfl) (lo := some (i_ o66.2)) (l := o66.2.toNat) (aBound_int _ (by have := g137; omega)) (by have := g137; omega)
    obtain ⟨a142, n143, c144, rfl⟩ := vw141.form
    refine s_ql (.slice a142 n143 c144) (by kernel_rfl) q140 ?_
    obtain ⟨g145, r146⟩ := G_some r138
    obtain ⟨H147, q148, e149, hm150⟩ := View.clear (P := Try.prog) (m := 24) (at_ := #[22]) vw141 ((0, 0, 0) : Int × Int × Int) e70.wf m72 g145 rfl (by kernel_rfl)
    refine s_ek (.tuple #[]) (by kernel_rfl) (map_ok q148) ?_
    refine s_nil (k136 _ _ (sq_ fun k151 => g_' (q_ (hd_s) (q_ (i_ o66.2) ?_))))
    obtain ⟨g152, r153⟩ := G_some r146
    obtain ⟨s154, q155, hs156⟩ := Ow.head (P := Try.prog) hm150 (t := 22) (by kernel_rfl) (hi := (some (i_ o66.2))) (r := o66.2.toNat) (aBound_int _ (by have := g152; omega)) (by have := g152; omega)
    obtain ⟨a157, n158, c159, rfl⟩ := hs156.form
    refine s_ql (.slice a157 n158 c159) (by kernel_rfl) q155 ?_
    refine q_ (.slice a157 n158 c159) (s_nil (k151 _ _ ?_))
    refine w_ret (bl_ret (th_ret (th_ret (bl_ret (th_ret (th_ret ?_))))))
    obtain ⟨v161, hv162, hz163⟩ := map_some r153
    subst hz163
    obtain rfl := it_inr hn32
    have hq164 := elim_inl r17
    rw [hq164] at hv162
    refine br_ [.slice a157 n158 c159] ?_
    obtain rfl := oi_ hv162
    exact ⟨(.slice a157 n158 c159), rfl, (fs_ wf (fs_ wf (fs_ wf (fs_ wf (fr_ wf) e26 in_) e51 in_) e70 ir_) e149 ir_), hs156, hm150⟩
   have r165 := ite_bf h52 r49
   refine w_skip (k39 _ _ (g_' (q_ (i_ k3) ?_)))
   obtain ⟨g166, r167⟩ := G_some r165
   refine w_' ((k3 + 1)) (wrap64 (by have := g166; omega)) (q_ (i_ (k3 + 1)) (s_nil ?_))
   obtain rfl := oi_ r167
   exact k33 n29 _ _ lt_ ⟨(k3 + 1), hn32, ha_, (fs_ wf (fs_ wf (f0_ wf) e26 in_) e51 in_)⟩
  have r168 := ite_f h37 hz31
  refine w_exit (th_exit (th_exit (bl_eq ?_)))
  obtain rfl := oi_ r168
  obtain rfl := it_inr hn32
  exact k21 _ _ ⟨_, rfl, ha_, (fs_ wf (f0_ wf) e26 in_)⟩
 obtain ⟨o15, rfl, hh22, e20⟩ := hM
 have r169 := elim_inr r17
 obtain ⟨β, rfl⟩ := has_ex hh22
 clear hh22
 refine k13 _ _ (sq_ fun k170 => g_' (q_ (hd_s) (q_ (hd_s) (s_nil (k170 _ _ ?_)))))
 refine w_ret ?_
 refine br_ [hd_s] ?_
 have u171 := (h_s.fr e20 dn_)
 obtain rfl := oi_ r169
 exact ⟨(hd_s), rfl, (fs_ wf (fr_ wf) e20 in_), u171, u171⟩
theorem c_normal_Of {H : AH} {hd_Arcs : Value} {fp_Arcs : Fp} {N_ : Int} {Arcs : List (Int × Int × Int)} {r : Int × List (Int × Int × Int) × Er}
    (wf : WF H) (h_Arcs : Sq enc_i64_i64_i64 3 H hd_Arcs Arcs fp_Arcs) (hr : z_normal_Of N_ Arcs = some r) :
    ACalls Try.prog 45 #[.agg #[i_ N_, hd_Arcs]] H fun v H' => ∃ (s3 : Value) (f4 : Fp) (v7 : Value) (f8 : Fp), v = .tuple #[.agg #[i_ r.1, s3], v7] /\ FrS [] H H' /\ Ow enc_i64_i64_i64 3 H' s3 r.2.1 f4 /\ Ev 90 129 H' v7 r.2.2 f8 /\ Inn [] H f4 /\ Inn [] H f8 /\ Dj f4 f8 := by
 refine ab_ Try.func45 ?_
 unfold z_normal_Of at hr
 refine sq_ fun k12 => g_' ?_
 refine s_rwl wf [i_ N_, hd_Arcs] (one_cons (rfl) (one_cons (h_Arcs.one1) (one_nil))) (by kernel_rfl) fun b13 H14 e15 hb16 r17 => ?_
 refine rk_ e15.wf [i_ 0, .slice none 0 0] fun b19 H20 e21 hb22 r23 => ?_
 refine q_ (.nilIface) (s_nil (k12 _ _ (sq_ fun k25 => sq_ fun k26 => g_' ?_)))
 have u27 := (r17.ext e21)
 refine lr_ 24 0 (.agg #[i_ N_, hd_Arcs]) u27 ?_
 have u28 := ((h_Arcs.ext e15).ext e21)
 obtain ⟨y29, hy30, r31⟩ := bs_ hr
 refine ck_ (c_gtext_Check e21.wf u28 hy30) ?_
 rintro v32 H34 ⟨_, f33, rfl, e35, m36, i37⟩
 refine q_ (v32) (s_nil (k26 _ _ (sq_ fun k39 => g_' (q_ (v32) ?_))))
 rcases (m36).cases with ⟨h40, rfl⟩ | ⟨h40, t41, x42, rfl⟩
 ·have r43 := ite_t h40 r31
  refine q_ (.bool false) (s_nil (k39 _ _ ?_))
  refine wb_ false (fun h => by cases h) fun _ => ?_
  refine w_skip (k25 _ _ (sq_ fun k44 => g_' (q_ (pt_ b13 0) ?_)))
  have u45 := (u27.frS e35 dn_)
  refine lr_ 3 0 (i_ N_) u45 (q_ (.agg #[i_ N_, .slice none 0 0]) ?_)
  refine rk_ e35.wf [i_ 0, .slice none 0 0] fun b46 H47 e48 hb49 r50 => ?_
  obtain ⟨H52, q53, e54, r55⟩ := ra_ 24 0 e48.wf r50 [i_ N_, .slice none 0 0] [i_ N_, .slice none 0 0]
  refine ek_ q53 (s_nil (k44 _ _ (sq_ fun k56 => sq_ fun k57 => g_' (q_ (pt_ b13 1) ?_))))
  have n58 := (t_ e21.n e35.n)
  have d59 := (hb49.djn (r17.ltF.le n58))
  have u60 := ((u45.ext e48).frS e54 d59)
  refine lr_ 22 1 (hd_Arcs) u60 ?_
  have n61 := (t_ (t_ e15.n e21.n) e35.n)
  have d62 := (hb49.djn (h_Arcs.lt.le n61))
  have u63 := (((u28.fr e35 dn_).ext e48).fr e54 d62)
  refine u63.ln_ 22 (q_ (i_ 0) (s_nil (k57 _ _ ?_)))
  obtain ⟨o64, hx65, r66⟩ := bs_ r43
  refine w_mid (fun α H67 => ∃ (s71 : Value) (f72 : Fp), Has α [(2, pt_ b19 0), (5, pt_ b46 0)] /\ FrS [b46] H52 H67 /\ Ow enc_i64_i64_i64 3 H67 s71 o64 f72 /\ Row H67 b46 [i_ N_, s71] /\ Inn [] H52 f72) (fun _ k76 => ?_) (fun α H67 hM => ?_)
  ·refine w_block ?_
   obtain ⟨n78, hn79⟩ := loopO_iff.1 hx65
   refine w_loopn (fun n α H80 => ∃ (i0 : Int), ∃ (c1 : List (Int × Int × Int)), ∃ (s84 : Value), ∃ (f85 : Fp), iterO (fun zz_ => z_normal_Of_l0 Arcs zz_.1 zz_.2) n (i0, c1) = some o64 /\ Has α [(2, pt_ b19 0), (5, pt_ b46 0), (18, hd_Arcs), (19, i_ (Arcs.length : Int)), (20, i_ i0)] /\ FrS [b46] H52 H80 /\ Ow enc_i64_i64_i64 3 H80 s84 c1 f85 /\ Row H80 b46 [i_ N_, s84] /\ Inn [] H52 f85) n78 ⟨0, [], (.slice none 0 0), [], hn79, ha_, (fr_ e54.wf), (Ow.nil (by decide)), r55, in_⟩ ?_
   rintro n78 α H80 ⟨i0, c1, s84, f85, hi90, hh89, e81, m83, m87, i88⟩ K95 k95
   obtain ⟨n91, z92, rfl, hz93, hn94⟩ := iter_succ hi90
   obtain ⟨β, rfl⟩ := has_ex hh89
   clear hh89
   replace hz93 : z_normal_Of_l0 Arcs i0 c1 = some z92 := hz93
   unfold z_normal_Of_l0 at hz93
   obtain ⟨a96, n97, c98, rfl⟩ := m83.form
   refine sq_ fun k99 => g_' (q_ (.bool (decide (i0 < (Arcs.length : Int)))) (s_nil (k99 _ _ (sq_ fun k100 => ?_))))
   refine wc_ (i0 < (Arcs.length : Int)) (fun h101 => ?_) fun h101 => ?_
   ·have r102 := ite_t h101 hz93
    refine w_skip (k100 _ _ (sq_ fun k103 => w_block (sq_ fun k104 => g_' ?_)))
    obtain ⟨g105, r106⟩ := G_some r102
    have u107 := (u63.fr e81 d62)
    refine u107.ix_ 22 g105 h101 (le_ 118 0 (.agg #[i_ ((gt Arcs i0).1), i_ ((gt Arcs i0).2.1), i_ ((gt Arcs i0).2.2)]) u107 g105 h101 ?_)
    refine rk_ e81.wf [i_ 0, i_ 0, i_ 0] fun b108 H109 e110 hb111 r112 => ?_
    obtain ⟨H114, q115, e116, r117⟩ := ra_ 118 0 e110.wf r112 [i_ ((gt Arcs i0).1), i_ ((gt Arcs i0).2.1), i_ ((gt Arcs i0).2.2)] [i_ ((gt Arcs i0).1), i_ ((gt Arcs i0).2.1), i_ ((gt Arcs i0).2.2)]
    refine ek_ q115 (s_nil (k104 _ _ (sq_ fun k118 => g_' (q_ (pt_ b108 0) (lr_ 3 0 (i_ ((gt Arcs i0).1)) r117 (q_ (pt_ b108 1) (lr_ 3 1 (i_ ((gt Arcs i0).2.1)) r117 (q_ (.bool (!decide (((gt Arcs i0).1) = ((gt Arcs i0).2.1)))) (s_nil (k118 _ _ ?_))))))))))
    refine w_condn (((gt Arcs i0).1) = ((gt Arcs i0).2.1)) (by kernel_rfl) rfl (fun h119 => ?_) (fun h119 => ?_)
    ·have r120 := ite_f h119 r106
     refine g_' (q_ (pt_ b46 1) ?_)
     have n121 := (t_ e54.n e81.n)
     have d122 := (hb111.djn (r50.ltF.le n121))
     have u123 := ((m87.ext e110).frS e116 d122)
     refine lr_ 22 1 (.slice a96 n97 c98) u123 (lr_ 118 0 (.agg #[i_ ((gt Arcs i0).1), i_ ((gt Arcs i0).2.1), i_ ((gt Arcs i0).2.2)]) r117 ?_)
     refine s_owk (enc := enc_i64_i64_i64) (sz := 3) e116.wf [((gt Arcs i0).1, (gt Arcs i0).2.1, (gt Arcs i0).2.2)] 1 (by decide) (fun _ _ => rfl) (fun _ _ => rfl) rfl (by kernel_rfl) fun s124 f125 H126 e127 hf128 hm129 => ?_
     obtain ⟨a130, n131, c132, rfl⟩ := hm129.form
     have u134 := (((m83.ext e110).fr e116 (hb111.djn m83.lt)).ext e127)
     obtain ⟨g135, r136⟩ := G_some r120
     obtain ⟨s137, H138, f139, q143, e140, hm141, hf142⟩ := Ow.append (P := Try.prog) 24 e127.wf u134 hm129.sq (fun _ _ => rfl) (at_ := #[22, 22]) rfl rfl (by kernel_rfl) (by kernel_rfl) (by decide) (by have := g135; first | omega | (simp only [List.length_cons, List.length_nil] at this ⊢; omega) | (simp at this ⊢; omega))
     obtain ⟨a144, n145, c146, rfl⟩ := hm141.form
     refine s_ek (.slice a144 n145 c146) (by kernel_rfl) (q143) ?_
     refine q_ (pt_ b46 1) ?_
     have d152 := (i88.djn (r50.ltF.le e54.n))
     have u153 := ((u123.ext e127).frS e140 d152)
     obtain ⟨H148, q149, e150, r151⟩ := rb_ 22 1 e140.wf u153 (.slice a144 n145 c146) [i_ N_, .slice a144 n145 c146]
     refine ek_ q149 (s_nil (k103 _ _ (g_' ?_)))
     obtain ⟨g154, r155⟩ := G_some r136
     refine w_' ((i0 + 1)) (wrap64 (by have := g154; omega)) (q_ (i_ (i0 + 1)) (s_nil ?_))
     have n156 := (t_ (t_ (t_ (t_ e54.n e81.n) e110.n) e116.n) e127.n)
     have d157 := (hf142.dj d152 (r50.ltF.le n156))
     have u158 := (hm141.fr e150 (Dj.symm d157))
     have n159 := (t_ (t_ (t_ e81.n e110.n) e116.n) e127.n)
     obtain rfl := oi_ r155
     exact k95 n91 _ _ lt_ ⟨(i0 + 1), (c1 ++ [((gt Arcs i0).1, (gt Arcs i0).2.1, (gt Arcs i0).2.2)]), (.slice a144 n145 c146), f139, hn94, ha_, (fs_ e54.wf (fs_ e54.wf ((fs_ e54.wf ((fs_ e54.wf (fr_ e54.wf) e81 ir_).extR e110) e116 (hb111.fresh e81.n)).extR e127) e140 (i88.fresh (Nat.le_refl _))) e150 ir_), u158, r151, (Inn.trans (i88.fresh (Nat.le_refl _)) n159 hf142)⟩
    have r160 := ite_t h119 r106
    refine w_skip (k103 _ _ (g_' ?_))
    obtain ⟨g161, r162⟩ := G_some r160
    refine w_' ((i0 + 1)) (wrap64 (by have := g161; omega)) (q_ (i_ (i0 + 1)) (s_nil ?_))
    have u163 := ((m83.ext e110).fr e116 (hb111.djn m83.lt))
    have n164 := (t_ e54.n e81.n)
    have d165 := (hb111.djn (r50.ltF.le n164))
    have u166 := ((m87.ext e110).frS e116 d165)
    obtain rfl := oi_ r162
    exact k95 n91 _ _ lt_ ⟨(i0 + 1), c1, (.slice a96 n97 c98), f85, hn94, ha_, (fs_ e54.wf ((fs_ e54.wf (fr_ e54.wf) e81 ir_).extR e110) e116 (hb111.fresh e81.n)), u163, u166, (i88.fresh (Nat.le_refl _))⟩
   have r167 := ite_f h101 hz93
   refine w_exit (th_exit (th_exit (bl_eq ?_)))
   obtain rfl := oi_ r167
   obtain rfl := it_inr hn94
   exact k76 _ _ ⟨(.slice a96 n97 c98), f85, ha_, (fs_ e54.wf (fr_ e54.wf) e81 ir_), m83, m87, (i88.fresh (Nat.le_refl _))⟩
  obtain ⟨s71, f72, hh77, e68, m70, m74, i75⟩ := hM
  obtain ⟨β, rfl⟩ := has_ex hh77
  clear hh77
  obtain ⟨a168, n169, c170, rfl⟩ := m70.form
  refine k56 _ _ (sq_ fun k171 => g_' (q_ (pt_ b46 1) (lr_ 22 1 (.slice a168 n169 c170) m74 ?_)))
  obtain ⟨g172, r173⟩ := G_some r66
  obtain ⟨y174, hy175, r176⟩ := bs_ r173
  refine s_ck 59 #[.slice a168 n169 c170, .func (.func 60) #[] #[]] (by kernel_rfl) (a_sortO (enc := enc_i64_i64_i64) (fun _ => rfl) (by intro x v hv; simp only [enc_i64_i64_i64, List.mem_cons, List.not_mem_nil, or_false] at hv; rcases hv with rfl | rfl | rfl <;> rfl) (by intro x v hv; simp only [enc_i64_i64_i64, List.mem_cons, List.not_mem_nil, or_false] at hv; rcases hv with rfl | rfl | rfl <;> rfl) (c := (fun (a_ b_ : Int × Int × Int) => z_normal_order a_.1 a_.2.1 a_.2.2 b_.1 b_.2.1 b_.2.2)) (Go.Proofs.enters_of Try.func60 (by kernel_rfl) rfl) (fun x y r hr => (c_normal_order aNil_wf hr).mono fun v H' h => h.1) e68.wf m70 g172 hy175) ?_
  rintro _ H177 ⟨rfl, e178, hm179⟩
  refine s_nil (k171 _ _ (sq_ fun k180 => g_' (q_ (pt_ b46 1) ?_)))
  have d181 := (i75.djn (r50.ltF.le e54.n))
  have u182 := (m74.frS e178 d181)
  refine lr_ 22 1 (.slice a168 n169 c170) u182 ?_
  obtain ⟨y183, hy184, r185⟩ := bs_ r176
  refine ck_ (c_slices_CompactFunc e178.wf hm179 hy184) ?_
  rintro s186 H187 ⟨_, rfl, e188, m189, m190⟩
  obtain ⟨a192, n193, c194, rfl⟩ := m189.form
  refine q_ (pt_ b46 1) ?_
  have u199 := (u182.frS e188 d181)
  obtain ⟨H195, q196, e197, r198⟩ := rb_ 22 1 e188.wf u199 (.slice a192 n193 c194) [i_ N_, .slice a192 n193 c194]
  refine ek_ q196 (s_nil (k180 _ _ (sq_ fun k200 => g_' (lr_ 24 0 (.agg #[i_ N_, .slice a192 n193 c194]) r198 ?_))))
  have d205 := (hb49.djn (r23.ltF.le e35.n))
  have n206 := (t_ (t_ e35.n e48.n) e54.n)
  have d207 := (i75.djn (r23.ltF.le n206))
  have u208 := (((((((r23.frS e35 dn_).ext e48).frS e54 d205).frS e68 d205).frS e178 d207).frS e188 d207).frS e197 d205)
  have u209 := (m189.fr e197 (Dj.symm d181))
  obtain ⟨H201, q202, e203, r204⟩ := ra_ 24 0 e197.wf u208 [i_ N_, .slice a192 n193 c194] [i_ N_, .slice a192 n193 c194]
  refine ek_ q202 (q_ (.nilIface) (s_nil (k200 _ _ ?_)))
  refine w_ret ?_
  refine b_ret (vs := [.agg #[i_ N_, .slice a192 n193 c194], .nilIface]) (aRes_cell (Eq.trans (b := aL_ 24 (pt_ b19 0) H201) (by kernel_rfl) (r204.l_)) (rt_ (rfl))) ?_
  have n210 := (t_ (t_ (t_ (t_ e15.n e21.n) e35.n) e48.n) e54.n)
  have u211 := (u209.fr e203 (Dj.symm d207))
  obtain rfl := oi_ r185
  exact ⟨(.slice a192 n193 c194), f72, (.nilIface), [], rfl, (fs_ wf (fs_ wf (fs_ wf (fs_ wf (fs_ wf (fs_ wf ((fs_ wf (((f0_ wf).extR e15).extR e21) e35 in_).extR e48) e54 (hb49.fresh n61)) e68 (hb49.fresh n61)) e178 (i75.fresh n210)) e188 (i75.fresh n210)) e197 (hb49.fresh n61)) e203 (hb22.fresh e15.n)), u211, Ev.nil, (i75.fresh n210), in_, Dj.nil_r⟩
 have r212 := ite_f h40 r31
 refine l_' (.bool true) (aBin Try.prog .neq 38 (.tmp 10) (.const .nilIface) (.iface t41 x42) .nilIface) (aBin_nnil (by kernel_rfl)) (s_nil (k39 _ _ ?_))
 refine wb_ true (fun _ => ?_) fun h => by cases h
 refine sq_ fun k213 => g_' (q_ (.agg #[i_ 0, .slice none 0 0]) (q_ (.iface t41 x42) ?_))
 have u218 := (r23.frS e35 dn_)
 obtain ⟨H214, q215, e216, r217⟩ := ra_ 24 0 e35.wf u218 [i_ 0, .slice none 0 0] [i_ 0, .slice none 0 0]
 refine ek_ q215 (q_ (.iface t41 x42) (s_nil (k213 _ _ ?_)))
 refine w_ret (th_ret ?_)
 refine b_ret (vs := [.agg #[i_ 0, .slice none 0 0], .iface t41 x42]) (aRes_cell (Eq.trans (b := aL_ 24 (pt_ b19 0) H214) (by kernel_rfl) (r217.l_)) (rt_ (rfl))) ?_
 have d219 := (i37.djn r23.ltF)
 have u220 := (m36.fr e216 (Dj.symm d219))
 have n221 := (t_ e15.n e21.n)
 obtain rfl := oi_ r212
 exact ⟨(.slice none 0 0), [], (.iface t41 x42), f33, rfl, (fs_ wf (fs_ wf (((f0_ wf).extR e15).extR e21) e35 in_) e216 (hb22.fresh e15.n)), (Ow.nil (by decide)), u220, in_, (i37.fresh n221), dn_⟩
theorem c_overlay_New {H : AH} {hd_Arcs : Value} {fp_Arcs : Fp} {N_ : Int} {Arcs : List (Int × Int × Int)} {r : (Er) ⊕ (List (Bool × List (Int × Int × Int) × List (Int × Int × Int)) × Int × Int)}
    (wf : WF H) (h_Arcs : Sq enc_i64_i64_i64 3 H hd_Arcs Arcs fp_Arcs) (hr : z_overlay_New N_ Arcs = some r) :
    ACalls Try.prog 22 #[.agg #[i_ N_, hd_Arcs]] H fun v H' => Sum.elim (fun (r : Er) => ∃ (v3 : Value) (f4 : Fp), v = .tuple #[.pointer none, v3] /\ FrS [] H H' /\ Ev 90 129 H' v3 r f4 /\ Inn [] H f4) (fun (r : List (Bool × List (Int × Int × Int) × List (Int × Int × Int)) × Int × Int) => ∃ (s8 : Value) (f9 : Fp) (b12 : Nat), v = .tuple #[pt_ b12 0, .nilIface] /\ FrS [] H H' /\ Nd enc_i64_u64_i64 3 H' s8 r.1 f9 [] /\ Row H' b12 [s8, i_ r.2.1, i_ r.2.2] /\ Inn [] H f9 /\ Inn [] H [b12] /\ Dj f9 [b12]) r := by
 refine ab_ Try.func22 ?_
 unfold z_overlay_New at hr
 refine sq_ fun k16 => g_' ?_
 refine s_rwl wf [i_ N_, hd_Arcs] (one_cons (rfl) (one_cons (h_Arcs.one1) (one_nil))) (by kernel_rfl) fun b17 H18 e19 hb20 r21 => ?_
 refine q_ (.pointer none) (q_ (.nilIface) (s_nil (k16 _ _ (sq_ fun k23 => g_' (lr_ 24 0 (.agg #[i_ N_, hd_Arcs]) r21 ?_)))))
 have u24 := (h_Arcs.ext e19)
 obtain ⟨y25, hy26, r27⟩ := bs_ hr
 refine ck_ (c_normal_Of e19.wf u24 hy26) ?_
 rintro _ H32 ⟨s28, f29, v30, f31, rfl, e33, m34, m35, i36, i37, d38⟩
 obtain ⟨a41, n42, c43, rfl⟩ := m34.form
 refine q_ (.tuple #[.agg #[i_ y25.1, .slice a41 n42 c43], v30]) (q_ (.agg #[i_ y25.1, .slice a41 n42 c43]) (q_ (v30) ?_))
 refine rk_ e33.wf [i_ 0, .slice none 0 0] fun b44 H45 e46 hb47 r48 => ?_
 have u54 := (m34.ext e46)
 obtain ⟨H50, q51, e52, r53⟩ := ra_ 24 0 e46.wf r48 [i_ y25.1, .slice a41 n42 c43] [i_ y25.1, .slice a41 n42 c43]
 refine ek_ q51 (q_ (v30) (s_nil (k23 _ _ (sq_ fun k55 => sq_ fun k56 => g_' (q_ (v30) ?_)))))
 have u60 := ((m35.ext e46).fr e52 (hb47.djn m35.lt))
 rcases (u60).cases with ⟨h57, rfl⟩ | ⟨h57, t58, x59, rfl⟩
 ·have r61 := ite_t h57 r27
  refine q_ (.bool false) (s_nil (k56 _ _ ?_))
  refine wb_ false (fun h => by cases h) fun _ => ?_
  refine w_skip (k55 _ _ (sq_ fun k62 => ?_))
  refine w_draw [0, 1, 2, 3, 4, 5, 6, 7, 8, 9, 10] (by kernel_rfl) ?_
  refine e_' (pt_ b44 0) (mr_ 3 0 (i_ y25.1) r53 ?_)
  obtain ⟨g63, r64⟩ := G_some r61
  refine d_mks (t := 114) (m := 56) (l := y25.1) (c := y25.1) (enc := id) (sz := 3) e52.wf [.bool false, .slice none 0 0, .slice none 0 0] (by kernel_rfl) (by decide) g63.1 (Int.le_refl _) (by omega) (by have := g63; omega) (by kernel_rfl) fun s65 f66 H67 e68 hf69 hm70 => ?_
  replace hm70 := Nd.zeros (enc := enc_i64_u64_i64) (sz := 3) (by decide) hm70
  obtain ⟨a71, n72, c73, rfl⟩ := hm70.form
  have hm70 : Nd enc_i64_u64_i64 3 H67 (.slice a71 n72 c73) (List.replicate y25.1.toNat (false, [], [])) f66 [] := hm70
  refine e_' (pt_ b44 0) ?_
  have u75 := (r53.ext e68)
  refine mr_ 3 0 (i_ y25.1) u75 (e_' (pt_ b44 1) (mr_ 22 1 (.slice a41 n42 c43) u75 ?_))
  have u76 := ((u54.fr e52 (hb47.djn m34.lt)).ext e68)
  refine u76.sq.mn_ 22 (e_' (.agg #[.slice a71 n72 c73, i_ y25.1, i_ (y25.2.1.length : Int)]) ?_)
  refine d_rwl e68.wf [.slice a71 n72 c73, i_ y25.1, i_ (y25.2.1.length : Int)] (one_cons (hm70.one1) (one_cons (rfl) (one_cons (rfl) (one_nil)))) (by kernel_rfl) fun b77 H78 e79 hb80 r81 => ?_
  refine e_' (pt_ b77 0) ?_
  refine d_nil ?_
  refine k62 _ _ (sq_ fun k83 => sq_ fun k84 => g_' (q_ (pt_ b44 1) ?_))
  have u85 := (u75.ext e79)
  refine lr_ 22 1 (.slice a41 n42 c43) u85 ?_
  have u86 := (u76.ext e79)
  refine u86.sq.ln_ 22 (q_ (i_ 0) (s_nil (k84 _ _ ?_)))
  obtain ⟨o87, hx88, r89⟩ := bs_ r64
  refine w_mid (fun α H90 => ∃ (f94 : Fp), Has α [(6, pt_ b77 0)] /\ FrS f66 H78 H90 /\ Nd enc_i64_u64_i64 3 H90 (.slice a71 n72 c73) o87 f94 [] /\ Inn f66 H78 f94) (fun _ k96 => ?_) (fun α H90 hM => ?_)
  ·refine w_block ?_
   obtain ⟨n98, hn99⟩ := loopO_iff.1 hx88
   have u112 := (hm70.ext e79)
   refine w_loopn (fun n α H100 => ∃ (i0 : Int), ∃ (o1 : List (Bool × List (Int × Int × Int) × List (Int × Int × Int))), ∃ (f104 : Fp), iterO (fun zz_ => z_overlay_New_l0 y25 zz_.1 zz_.2) n (i0, o1) = some o87 /\ Has α [(6, pt_ b77 0), (28, .slice a41 n42 c43), (29, i_ (y25.2.1.length : Int)), (30, i_ i0)] /\ FrS f66 H78 H100 /\ Nd enc_i64_u64_i64 3 H100 (.slice a71 n72 c73) o1 f104 [] /\ Inn f66 H78 f104) n98 ⟨0, (List.replicate y25.1.toNat (false, [], [])), f66, hn99, ha_, (fr_ e79.wf), u112, ir_⟩ ?_
   rintro n98 α H100 ⟨i0, o1, f104, hi107, hh106, e101, m103, i105⟩ K113 k113
   obtain ⟨n108, z109, rfl, hz110, hn111⟩ := iter_succ hi107
   obtain ⟨β, rfl⟩ := has_ex hh106
   clear hh106
   replace hz110 : z_overlay_New_l0 y25 i0 o1 = some z109 := hz110
   unfold z_overlay_New_l0 at hz110
   refine sq_ fun k114 => g_' (q_ (.bool (decide (i0 < (y25.2.1.length : Int)))) (s_nil (k114 _ _ (sq_ fun k115 => ?_))))
   refine wc_ (i0 < (y25.2.1.length : Int)) (fun h116 => ?_) fun h116 => ?_
   ·have r117 := ite_t h116 hz110
    refine w_skip (k115 _ _ (sq_ fun k118 => w_block (sq_ fun k119 => g_' ?_)))
    obtain ⟨g120, r121⟩ := G_some r117
    have n122 := (t_ e46.n e52.n)
    have d123 := (hf69.djn (m34.lt.le n122))
    have u124 := (u86.fr e101 d123)
    refine u124.sq.ix_ 22 g120 h116 (le_ 118 0 (.agg #[i_ ((gt y25.2.1 i0).1), i_ ((gt y25.2.1 i0).2.1), i_ ((gt y25.2.1 i0).2.2)]) u124.sq g120 h116 ?_)
    refine rk_ e101.wf [i_ 0, i_ 0, i_ 0] fun b125 H126 e127 hb128 r129 => ?_
    obtain ⟨H131, q132, e133, r134⟩ := ra_ 118 0 e127.wf r129 [i_ ((gt y25.2.1 i0).1), i_ ((gt y25.2.1 i0).2.1), i_ ((gt y25.2.1 i0).2.2)] [i_ ((gt y25.2.1 i0).1), i_ ((gt y25.2.1 i0).2.1), i_ ((gt y25.2.1 i0).2.2)]
    refine ek_ q132 (s_nil (k119 _ _ (sq_ fun k135 => ?_)))
    refine w_draw [0, 1, 2, 3, 4, 5, 6, 7, 8, 9, 10, 11, 12, 13, 14, 15, 16, 17, 18, 19, 20, 21, 22, 23, 24, 25] (by kernel_rfl) ?_
    refine e_' (pt_ b77 0) (e_' (pt_ b77 0) (e_' (pt_ b77 0) ?_))
    have d136 := (hb80.djn hm70.lt)
    have d137 := (hb128.djn (r81.ltF.le e101.n))
    have u138 := (((r81.frS e101 (Dj.symm d136)).ext e127).frS e133 d137)
    refine d_fl (.slice a71 n72 c73) (x := aL_ 114 (pt_ b77 0) H131) (by kernel_rfl) (u138.l_) ?_
    refine e_' (pt_ b125 0) ?_
    refine d_fl (i_ ((gt y25.2.1 i0).1)) (x := aL_ 3 (pt_ b125 0) H131) (by kernel_rfl) (r134.l_) ?_
    refine e_' (pt_ b77 0) (e_' (pt_ b77 0) (e_' (pt_ b77 0) (mr_ 114 0 (.slice a71 n72 c73) u138 (e_' (pt_ b125 0) (mr_ 3 0 (i_ ((gt y25.2.1 i0).1)) r134 ?_)))))
    obtain ⟨g139, r140⟩ := G_some r121
    have u141 := ((m103.ext e127).fr e133 (hb128.djn m103.lt))
    refine u141.mx_ 114 g139.1 g139.2 (m_' (elp (.slice a71 n72 c73) 3 ((gt y25.2.1 i0).1).toNat 1) (aFieldAddr Try.prog 120 (elp (.slice a71 n72 c73) 3 ((gt y25.2.1 i0).1).toNat 0) 1) (Nd.fldq (d := 1) u141 g139.1 g139.2 (by kernel_rfl)) ?_)
    obtain ⟨u142, u143, hl144, hk145⟩ := Nd.at u141 g139.1 g139.2
    have kd146 : KdS enc_i64_u64_i64 3 H131 u142 ((gt o1 ((gt y25.2.1 i0).1)).2.1) f104 (.slice a71 n72 c73) 3 ((gt y25.2.1 i0).1).toNat 1 := hk145 false (by simp)
    obtain ⟨a147, n148, c149, rfl⟩ := kd146.sq.form
    refine m_' (.slice a147 n148 c149) (aL_ 69 (elp (.slice a71 n72 c73) 3 ((gt y25.2.1 i0).1).toNat 1) H131) (hl144 _ _ _ _ (by kernel_rfl)) (e_' (pt_ b125 1) (mr_ 3 1 (i_ ((gt y25.2.1 i0).2.1)) r134 (e_' (pt_ b125 2) (mr_ 3 2 (i_ ((gt y25.2.1 i0).2.2)) r134 ?_))))
    obtain ⟨g151, r152⟩ := G_some r140
    refine d_w ((gt y25.2.1 i0).2.2) (k := .u64) (x := (gt y25.2.1 i0).2.2) (by kernel_rfl) (wrapu64 g151) ?_
    refine e_' (.agg #[i_ ((gt y25.2.1 i0).2.1), .int .u64 ((gt y25.2.1 i0).2.2), i_ (-1)]) ?_
    refine d_owk (enc := enc_i64_u64_i64) (sz := 3) e133.wf [((gt y25.2.1 i0).2.1, (gt y25.2.1 i0).2.2, (-1))] 1 (by decide) (fun _ _ => rfl) (fun _ _ => rfl) rfl (by kernel_rfl) fun s153 f154 H155 e156 hf157 hm158 => ?_
    obtain ⟨a159, n160, c161, rfl⟩ := hm158.form
    have u163 := (u141.ext e156)
    have u164 := (kd146.ext e156)
    obtain ⟨f165, f166, hh167, ho168, d169, hs170, hs171⟩ := Nd.borrow false u163 g139.1 g139.2 (by simp) u164 rfl
    have w172 := Inn.sub' (H := H155) hs170
    have w173 := Inn.sub' (H := H155) hs171
    have hh167 : Nd enc_i64_u64_i64 3 H155 (.slice a71 n72 c73) o1 f165 [(((gt y25.2.1 i0).1).toNat, false)] := hh167
    obtain ⟨g174, r175⟩ := G_some r152
    obtain ⟨s176, H177, f178, q182, e179, hm180, hf181⟩ := Ow.append (P := Try.prog) 24 e156.wf ho168 hm158.sq (fun _ _ => rfl) (at_ := #[69, 69]) rfl rfl (by kernel_rfl) (by kernel_rfl) (by decide) (by have := g174; first | omega | (simp only [List.length_cons, List.length_nil] at this ⊢; omega) | (simp at this ⊢; omega))
    obtain ⟨a183, n184, c185, rfl⟩ := hm180.form
    have d187 := (i105.dj (Dj.symm d136) r81.ltF)
    have n188 := (t_ (t_ (t_ e101.n e127.n) e133.n) e156.n)
    have d189 := (w173.dj d187 (r81.ltF.le n188))
    have u190 := ((u138.ext e156).frS e179 d189)
    have d191 := (hb128.djn m103.lt)
    have n192 := (t_ e133.n e156.n)
    have d193 := (w173.dj (Dj.symm d191) (r129.ltF.le n192))
    have u194 := ((r134.ext e156).frS e179 d193)
    refine d_ek (.slice a183 n184 c185) (by kernel_rfl) (q182) (st_ql (y := aL_ 3 (pt_ b125 0) H177) (by kernel_rfl) (u194.l_) (st_ql (y := aL_ 114 (pt_ b77 0) H177) (by kernel_rfl) (u190.l_) (st_nil))) ?_
    have u195 := (hh167.fr e179 (Dj.symm d169))
    refine u195.mx_ 114 g139.1 g139.2 (m_' (elp (.slice a71 n72 c73) 3 ((gt y25.2.1 i0).1).toNat 1) (aFieldAddr Try.prog 120 (elp (.slice a71 n72 c73) 3 ((gt y25.2.1 i0).1).toNat 0) 1) (Nd.fldq (d := 1) u195 g139.1 g139.2 (by kernel_rfl)) ?_)
    have d196 := (hf181.dj (Dj.symm d169) hh167.lt)
    obtain ⟨H197, f198, q199, e200, hm201, hf202⟩ := Nd.close (P := Try.prog) (t := 69) false e179.wf u195 hm180 (Dj.symm d196) g139.1 g139.2 (by kernel_rfl) (by kernel_rfl) (by kernel_rfl)
    have hm201 : Nd enc_i64_u64_i64 3 H197 (.slice a71 n72 c73) (o1.set ((gt y25.2.1 i0).1).toNat ((gt o1 ((gt y25.2.1 i0).1)).1, ((gt o1 ((gt y25.2.1 i0).1)).2.1 ++ [((gt y25.2.1 i0).2.1, (gt y25.2.1 i0).2.2, (-1))]), (gt o1 ((gt y25.2.1 i0).1)).2.2)) f198 [] := hm201
    have w203 := hf202.grow3 (Inn.trans ir_ (Nat.le_refl _) w172) (Inn.trans (Inn.trans ir_ (Nat.le_refl _) w173) (Nat.le_refl _) hf181) e179.n
    refine fk_ q199 (st_anc (by kernel_rfl) (st_anc (by kernel_rfl) (st_nil))) ?_
    refine d_nil ?_
    refine k135 _ _ ?_
    refine w_draw [0, 1, 2, 3, 4, 5, 6, 7, 8, 9, 10, 11, 12, 13, 14, 15, 16, 17, 18, 19, 20, 21, 22, 23, 24, 25] (by kernel_rfl) ?_
    refine e_' (pt_ b77 0) (e_' (pt_ b77 0) (e_' (pt_ b77 0) ?_))
    have d204 := (w172.dj d187 (r81.ltF.le n188))
    have u205 := (u190.frS e200 d204)
    refine d_fl (.slice a71 n72 c73) (x := aL_ 114 (pt_ b77 0) H197) (by kernel_rfl) (u205.l_) ?_
    refine e_' (pt_ b125 1) ?_
    have d206 := (w172.dj (Dj.symm d191) (r129.ltF.le n192))
    have u207 := (u194.frS e200 d206)
    refine d_fl (i_ ((gt y25.2.1 i0).2.1)) (x := aL_ 3 (pt_ b125 1) H197) (by kernel_rfl) (u207.l_) ?_
    refine e_' (pt_ b77 0) (e_' (pt_ b77 0) (e_' (pt_ b77 0) (mr_ 114 0 (.slice a71 n72 c73) u205 (e_' (pt_ b125 1) (mr_ 3 1 (i_ ((gt y25.2.1 i0).2.1)) u207 ?_)))))
    obtain ⟨g208, r209⟩ := G_some r175
    refine hm201.mx_ 114 g208.1 g208.2 (m_' (elp (.slice a71 n72 c73) 3 ((gt y25.2.1 i0).2.1).toNat 2) (aFieldAddr Try.prog 120 (elp (.slice a71 n72 c73) 3 ((gt y25.2.1 i0).2.1).toNat 0) 2) (Nd.fldq (d := 2) hm201 g208.1 g208.2 (by kernel_rfl)) ?_)
    obtain ⟨u210, u211, hl212, hk213⟩ := Nd.at hm201 g208.1 g208.2
    have kd214 : KdS enc_i64_u64_i64 3 H197 u211 ((gt (o1.set ((gt y25.2.1 i0).1).toNat ((gt o1 ((gt y25.2.1 i0).1)).1, ((gt o1 ((gt y25.2.1 i0).1)).2.1 ++ [((gt y25.2.1 i0).2.1, (gt y25.2.1 i0).2.2, (-1))]), (gt o1 ((gt y25.2.1 i0).1)).2.2)) ((gt y25.2.1 i0).2.1)).2.2) f198 (.slice a71 n72 c73) 3 ((gt y25.2.1 i0).2.1).toNat 2 := hk213 true (by simp)
    obtain ⟨a215, n216, c217, rfl⟩ := kd214.sq.form
    refine m_' (.slice a215 n216 c217) (aL_ 69 (elp (.slice a71 n72 c73) 3 ((gt y25.2.1 i0).2.1).toNat 2) H197) (hl212 _ _ _ _ (by kernel_rfl)) (e_' (pt_ b125 0) (mr_ 3 0 (i_ ((gt y25.2.1 i0).1)) u207 (e_' (pt_ b125 2) (mr_ 3 2 (i_ ((gt y25.2.1 i0).2.2)) u207 ?_))))
    obtain ⟨g219, r220⟩ := G_some r209
    refine d_w ((gt y25.2.1 i0).2.2) (k := .u64) (x := (gt y25.2.1 i0).2.2) (by kernel_rfl) (wrapu64 (by have := g219; omega)) ?_
    refine e_' (.agg #[i_ ((gt y25.2.1 i0).1), .int .u64 ((gt y25.2.1 i0).2.2), i_ (-1)]) ?_
    refine d_owk (enc := enc_i64_u64_i64) (sz := 3) e200.wf [((gt y25.2.1 i0).1, (gt y25.2.1 i0).2.2, (-1))] 1 (by decide) (fun _ _ => rfl) (fun _ _ => rfl) rfl (by kernel_rfl) fun s221 f222 H223 e224 hf225 hm226 => ?_
    obtain ⟨a227, n228, c229, rfl⟩ := hm226.form
    have u231 := (hm201.ext e224)
    have u232 := (kd214.ext e224)
    obtain ⟨f233, f234, hh235, ho236, d237, hs238, hs239⟩ := Nd.borrow true u231 g208.1 g208.2 (by simp) u232 rfl
    have w240 := Inn.sub' (H := H223) hs238
    have w241 := Inn.sub' (H := H223) hs239
    have hh235 : Nd enc_i64_u64_i64 3 H223 (.slice a71 n72 c73) (o1.set ((gt y25.2.1 i0).1).toNat ((gt o1 ((gt y25.2.1 i0).1)).1, ((gt o1 ((gt y25.2.1 i0).1)).2.1 ++ [((gt y25.2.1 i0).2.1, (gt y25.2.1 i0).2.2, (-1))]), (gt o1 ((gt y25.2.1 i0).1)).2.2)) f233 [(((gt y25.2.1 i0).2.1).toNat, true)] := hh235
    obtain ⟨g242, r243⟩ := G_some r220
    obtain ⟨s244, H245, f246, q250, e247, hm248, hf249⟩ := Ow.append (P := Try.prog) 24 e224.wf ho236 hm226.sq (fun _ _ => rfl) (at_ := #[69, 69]) rfl rfl (by kernel_rfl) (by kernel_rfl) (by decide) (by have := g242; first | omega | (simp only [List.length_cons, List.length_nil] at this ⊢; omega) | (simp at this ⊢; omega))
    obtain ⟨a251, n252, c253, rfl⟩ := hm248.form
    have d255 := (w203.dj d187 (r81.ltF.le n188))
    have n256 := (t_ (t_ (t_ (t_ (t_ (t_ e101.n e127.n) e133.n) e156.n) e179.n) e200.n) e224.n)
    have d257 := (w241.dj d255 (r81.ltF.le n256))
    have u258 := ((u205.ext e224).frS e247 d257)
    have d259 := (w203.dj (Dj.symm d191) (r129.ltF.le n192))
    have n260 := (t_ (t_ (t_ (t_ e133.n e156.n) e179.n) e200.n) e224.n)
    have d261 := (w241.dj d259 (r129.ltF.le n260))
    have u262 := ((u207.ext e224).frS e247 d261)
    refine d_ek (.slice a251 n252 c253) (by kernel_rfl) (q250) (st_ql (y := aL_ 3 (pt_ b125 1) H245) (by kernel_rfl) (u262.l_) (st_ql (y := aL_ 114 (pt_ b77 0) H245) (by kernel_rfl) (u258.l_) (st_nil))) ?_
    have u263 := (hh235.fr e247 (Dj.symm d237))
    refine u263.mx_ 114 g208.1 g208.2 (m_' (elp (.slice a71 n72 c73) 3 ((gt y25.2.1 i0).2.1).toNat 2) (aFieldAddr Try.prog 120 (elp (.slice a71 n72 c73) 3 ((gt y25.2.1 i0).2.1).toNat 0) 2) (Nd.fldq (d := 2) u263 g208.1 g208.2 (by kernel_rfl)) ?_)
    have d264 := (hf249.dj (Dj.symm d237) hh235.lt)
    obtain ⟨H265, f266, q267, e268, hm269, hf270⟩ := Nd.close (P := Try.prog) (t := 69) true e247.wf u263 hm248 (Dj.symm d264) g208.1 g208.2 (by kernel_rfl) (by kernel_rfl) (by kernel_rfl)
    have hm269 : Nd enc_i64_u64_i64 3 H265 (.slice a71 n72 c73) ((o1.set ((gt y25.2.1 i0).1).toNat ((gt o1 ((gt y25.2.1 i0).1)).1, ((gt o1 ((gt y25.2.1 i0).1)).2.1 ++ [((gt y25.2.1 i0).2.1, (gt y25.2.1 i0).2.2, (-1))]), (gt o1 ((gt y25.2.1 i0).1)).2.2)).set ((gt y25.2.1 i0).2.1).toNat ((gt (o1.set ((gt y25.2.1 i0).1).toNat ((gt o1 ((gt y25.2.1 i0).1)).1, ((gt o1 ((gt y25.2.1 i0).1)).2.1 ++ [((gt y25.2.1 i0).2.1, (gt y25.2.1 i0).2.2, (-1))]), (gt o1 ((gt y25.2.1 i0).1)).2.2)) ((gt y25.2.1 i0).2.1)).1, (gt (o1.set ((gt y25.2.1 i0).1).toNat ((gt o1 ((gt y25.2.1 i0).1)).1, ((gt o1 ((gt y25.2.1 i0).1)).2.1 ++ [((gt y25.2.1 i0).2.1, (gt y25.2.1 i0).2.2, (-1))]), (gt o1 ((gt y25.2.1 i0).1)).2.2)) ((gt y25.2.1 i0).2.1)).2.1, ((gt (o1.set ((gt y25.2.1 i0).1).toNat ((gt o1 ((gt y25.2.1 i0).1)).1, ((gt o1 ((gt y25.2.1 i0).1)).2.1 ++ [((gt y25.2.1 i0).2.1, (gt y25.2.1 i0).2.2, (-1))]), (gt o1 ((gt y25.2.1 i0).1)).2.2)) ((gt y25.2.1 i0).2.1)).2.2 ++ [((gt y25.2.1 i0).1, (gt y25.2.1 i0).2.2, (-1))]))) f266 [] := hm269
    have w271 := hf270.grow3 (Inn.trans ir_ (Nat.le_refl _) w240) (Inn.trans (Inn.trans ir_ (Nat.le_refl _) w241) (Nat.le_refl _) hf249) e247.n
    refine fk_ q267 (st_anc (by kernel_rfl) (st_anc (by kernel_rfl) (st_nil))) ?_
    refine d_nil ?_
    refine k118 _ _ (g_' ?_)
    obtain ⟨g272, r273⟩ := G_some r243
    refine w_' ((i0 + 1)) (wrap64 (by have := g272; omega)) (q_ (i_ (i0 + 1)) (s_nil ?_))
    obtain rfl := oi_ r273
    exact k113 n108 _ _ lt_ ⟨(i0 + 1), ((o1.set ((gt y25.2.1 i0).1).toNat ((gt o1 ((gt y25.2.1 i0).1)).1, ((gt o1 ((gt y25.2.1 i0).1)).2.1 ++ [((gt y25.2.1 i0).2.1, (gt y25.2.1 i0).2.2, (-1))]), (gt o1 ((gt y25.2.1 i0).1)).2.2)).set ((gt y25.2.1 i0).2.1).toNat ((gt (o1.set ((gt y25.2.1 i0).1).toNat ((gt o1 ((gt y25.2.1 i0).1)).1, ((gt o1 ((gt y25.2.1 i0).1)).2.1 ++ [((gt y25.2.1 i0).2.1, (gt y25.2.1 i0).2.2, (-1))]), (gt o1 ((gt y25.2.1 i0).1)).2.2)) ((gt y25.2.1 i0).2.1)).1, (gt (o1.set ((gt y25.2.1 i0).1).toNat ((gt o1 ((gt y25.2.1 i0).1)).1, ((gt o1 ((gt y25.2.1 i0).1)).2.1 ++ [((gt y25.2.1 i0).2.1, (gt y25.2.1 i0).2.2, (-1))]), (gt o1 ((gt y25.2.1 i0).1)).2.2)) ((gt y25.2.1 i0).2.1)).2.1, ((gt (o1.set ((gt y25.2.1 i0).1).toNat ((gt o1 ((gt y25.2.1 i0).1)).1, ((gt o1 ((gt y25.2.1 i0).1)).2.1 ++ [((gt y25.2.1 i0).2.1, (gt y25.2.1 i0).2.2, (-1))]), (gt o1 ((gt y25.2.1 i0).1)).2.2)) ((gt y25.2.1 i0).2.1)).2.2 ++ [((gt y25.2.1 i0).1, (gt y25.2.1 i0).2.2, (-1))]))), f266, hn111, ha_, (fs_ e79.wf (fs_ e79.wf ((fs_ e79.wf (fs_ e79.wf ((fs_ e79.wf ((fs_ e79.wf (fr_ e79.wf) e101 ir_).extR e127) e133 (hb128.fresh e101.n)).extR e156) e179 (Inn.trans (Inn.trans ir_ (Nat.le_refl _) i105) n188 w173)) e200 (Inn.trans (Inn.trans ir_ (Nat.le_refl _) i105) n188 w172)).extR e224) e247 (Inn.trans (Inn.trans (Inn.trans ir_ (Nat.le_refl _) i105) n188 w203) n256 w241)) e268 (Inn.trans (Inn.trans (Inn.trans ir_ (Nat.le_refl _) i105) n188 w203) n256 w240)), hm269, (Inn.trans (Inn.trans (Inn.trans ir_ (Nat.le_refl _) i105) n188 w203) n256 w271)⟩
   have r274 := ite_f h116 hz110
   refine w_exit (th_exit (th_exit (bl_eq ?_)))
   obtain rfl := oi_ r274
   obtain rfl := it_inr hn111
   exact k96 _ _ ⟨f104, ha_, (fs_ e79.wf (fr_ e79.wf) e101 ir_), m103, (Inn.trans ir_ (Nat.le_refl _) i105)⟩
  obtain ⟨f94, hh97, e91, m93, i95⟩ := hM
  obtain ⟨β, rfl⟩ := has_ex hh97
  clear hh97
  refine k83 _ _ (sq_ fun k275 => g_' (q_ (pt_ b77 0) (q_ (pt_ b77 0) (q_ (.nilIface) (s_nil (k275 _ _ ?_))))))
  refine w_ret ?_
  refine br_ [pt_ b77 0, .nilIface] ?_
  have n276 := (t_ e19.n e33.n)
  have n277 := (t_ (t_ (t_ e19.n e33.n) e46.n) e52.n)
  have d278 := (hb80.djn hm70.lt)
  have u279 := (r81.frS e91 (Dj.symm d278))
  have n280 := (t_ (t_ (t_ (t_ (t_ e19.n e33.n) e46.n) e52.n) e68.n) e79.n)
  have n281 := (t_ (t_ (t_ (t_ e19.n e33.n) e46.n) e52.n) e68.n)
  have d282 := (i95.dj (Dj.symm d278) r81.ltF)
  obtain rfl := oi_ r89
  exact (elimP_r ⟨(.slice a71 n72 c73), f94, b77, rfl, (fs_ wf (((fs_ wf ((fs_ wf ((f0_ wf).extR e19) e33 in_).extR e46) e52 (hb47.fresh n276)).extR e68).extR e79) e91 (hf69.fresh n277)), m93, u279, (Inn.trans (hf69.fresh n277) n280 i95), (hb80.fresh n281), d282⟩)
 have r283 := ite_f h57 r27
 refine l_' (.bool true) (aBin Try.prog .neq 38 (.tmp 14) (.const .nilIface) (.iface t58 x59) .nilIface) (aBin_nnil (by kernel_rfl)) (s_nil (k56 _ _ ?_))
 refine wb_ true (fun _ => ?_) fun h => by cases h
 refine sq_ fun k284 => g_' (q_ (.iface t58 x59) (q_ (.pointer none) (q_ (.iface t58 x59) (s_nil (k284 _ _ ?_)))))
 refine w_ret (th_ret ?_)
 refine br_ [.pointer none, .iface t58 x59] ?_
 have n285 := (t_ e19.n e33.n)
 obtain rfl := oi_ r283
 exact (elimP_l ⟨(.iface t58 x59), f31, rfl, (fs_ wf ((fs_ wf ((f0_ wf).extR e19) e33 in_).extR e46) e52 (hb47.fresh n285)), u60, (i37.fresh e19.n)⟩)
end Go.Vd

/-! (KSd2) -/

set_option maxRecDepth 100000
set_option maxHeartbeats 4000000
set_option linter.unusedVariables false
namespace Go.Vd
open Go.Proofs
attribute [local irreducible] wpSeq wpOrd aWp
theorem c_viaductref04_Distances {H : AH} {hd_Arcs : Value} {fp_Arcs : Fp} {N_ : Int} {Arcs : List (Int × Int × Int)} {r : List (List (Int))}
    (wf : WF H) (h_Arcs : Sq enc_i64_i64_i64 3 H hd_Arcs Arcs fp_Arcs) (hr : z_viaductref04_Distances N_ Arcs = some r) :
    ACalls Try.prog 23 #[.agg #[i_ N_, hd_Arcs]] H fun v H' => ∃ (s3 : Value) (f4 : Fp), v = s3 /\ FrS [] H H' /\ Nst (CR.sl (encI .u64) 1) H' s3 r f4 /\ Inn [] H f4 := by
 refine ab_ Try.func23 ?_
 unfold z_viaductref04_Distances at hr
 refine sq_ fun k6 => g_' ?_
 refine s_rwl wf [i_ N_, hd_Arcs] (one_cons (rfl) (one_cons (h_Arcs.one1) (one_nil))) (by kernel_rfl) fun b7 H8 e9 hb10 r11 => ?_
 refine q_ (.slice none 0 0) (s_nil (k6 _ _ (sq_ fun k13 => g_' (q_ (pt_ b7 0) (lr_ 3 0 (i_ N_) r11 ?_)))))
 obtain ⟨g14, r15⟩ := G_some hr
 refine s_mks (t := 49) (m := 24) (l := N_) (c := N_) (enc := id) (sz := 1) e9.wf [.slice none 0 0] (by kernel_rfl) (by decide) g14.1 (Int.le_refl _) (by omega) (by have := g14; omega) (by kernel_rfl) fun s16 f17 H18 e19 hf20 hm21 => ?_
 replace hm21 := Nst.zeros (C := (CR.sl (encI .u64) 1)) (x0 := ([] : List (Int))) hm21 (fun _ => cr_sl_mk (Ow.nil (by decide)))
 obtain ⟨a22, n23, c24, rfl⟩ := hm21.form
 have hm21 : Nst (CR.sl (encI .u64) 1) H18 (.slice a22 n23 c24) (List.replicate N_.toNat ([] : List (Int))) f17 := hm21
 refine q_ (.slice a22 n23 c24) (s_nil (k13 _ _ (sq_ fun k26 => sq_ fun k27 => g_' (q_ (.slice a22 n23 c24) (hm21.ln_ 49 (q_ (i_ 0) (s_nil (k27 _ _ ?_))))))))
 obtain ⟨o28, hx29, r30⟩ := bs_ r15
 refine w_mid (fun α H31 => ∃ (f35 : Fp), Has α [(1, pt_ b7 0), (3, .slice a22 n23 c24)] /\ FrS f17 H18 H31 /\ Nst (CR.sl (encI .u64) 1) H31 (.slice a22 n23 c24) o28 f35 /\ Inn f17 H18 f35) (fun _ k37 => ?_) (fun α H31 hM => ?_)
 ·refine w_block ?_
  obtain ⟨n39, hn40⟩ := loopO_iff.1 hx29
  refine w_loopn (fun n α H41 => ∃ (i2 : Int), ∃ (d3 : List (List (Int))), ∃ (f45 : Fp), iterO (fun zz_ => z_viaductref04_Distances_l1 N_ zz_.1 zz_.2) n (i2, d3) = some o28 /\ Has α [(1, pt_ b7 0), (3, .slice a22 n23 c24), (15, i_ ((List.replicate N_.toNat ([] : List (Int))).length : Int)), (16, i_ i2)] /\ FrS f17 H18 H41 /\ Nst (CR.sl (encI .u64) 1) H41 (.slice a22 n23 c24) d3 f45 /\ Inn f17 H18 f45) n39 ⟨0, (List.replicate N_.toNat ([] : List (Int))), f17, hn40, ha_, (fr_ e19.wf), hm21, ir_⟩ ?_
  rintro n39 α H41 ⟨i2, d3, f45, hi48, hh47, e42, m44, i46⟩ K53 k53
  obtain ⟨n49, z50, rfl, hz51, hn52⟩ := iter_succ hi48
  obtain ⟨β, rfl⟩ := has_ex hh47
  clear hh47
  replace hz51 : z_viaductref04_Distances_l1 N_ i2 d3 = some z50 := hz51
  unfold z_viaductref04_Distances_l1 at hz51
  refine sq_ fun k54 => g_' (q_ (.bool (decide (i2 < ((List.replicate N_.toNat ([] : List (Int))).length : Int)))) (s_nil (k54 _ _ (sq_ fun k55 => ?_))))
  refine wc_ (i2 < ((List.replicate N_.toNat ([] : List (Int))).length : Int)) (fun h56 => ?_) fun h56 => ?_
  ·have r57 := ite_t h56 hz51
   refine w_skip (k55 _ _ (sq_ fun k58 => w_block (sq_ fun k59 => g_' (q_ (i_ i2) (q_ (i_ i2) (s_nil (k59 _ _ (sq_ fun k60 => g_' (q_ (.slice a22 n23 c24) (q_ (i_ i2) (q_ (pt_ b7 0) ?_)))))))))))
   have u61 := ((r11.ext e19).frS e42 (hf20.djn r11.ltF))
   refine lr_ 3 0 (i_ N_) u61 ?_
   obtain ⟨g62, r63⟩ := G_some r57
   refine s_mks (t := 36) (m := 8) (l := N_) (c := N_) (enc := (encI .u64)) (sz := 1) e42.wf (0 : Int) (by kernel_rfl) (by decide) g62.1 (Int.le_refl _) (by omega) (by have := g62; omega) (by kernel_rfl) fun s64 f65 H66 e67 hf68 hm69 => ?_
   obtain ⟨a70, n71, c72, rfl⟩ := hm69.form
   have hm69 : Ow (encI .u64) 1 H66 (.slice a70 n71 c72) (List.replicate N_.toNat (0 : Int)) f65 := hm69
   obtain ⟨g74, r75⟩ := G_some r63
   have u76 := (m44.ext e67)
   refine u76.ix_ 49 g74.1 g74.2 ?_
   have d83 := (hf68.djn m44.lt)
   obtain ⟨H77, f81, q78, e79, hm80, hf82⟩ := Nst.store (P := Try.prog) (t := 36) (off := 0) e67.wf u76 g74.1 g74.2 (.slice a70 n71 c72) [.slice a70 n71 c72] (by kernel_rfl) (by kernel_rfl) rfl (List.replicate N_.toNat (0 : Int)) (Nat.le_of_ble_eq_true rfl) (Dj.symm d83) hm69.lt (fun cs_ f_ hr_ _ => by obtain ⟨_, rfl, _⟩ := cr_sl_open hr_; exact ⟨_, cr_sl_mk hm69, fun _ h => .inr h⟩)
   have w84 := hf82.grow2 (hf68.fresh (Nat.le_refl _)) e67.n
   refine ek_ q78 (s_nil (k60 _ _ (sq_ fun k85 => g_' (q_ (.slice a22 n23 c24) (q_ (i_ i2) ?_)))))
   obtain ⟨g86, r87⟩ := G_some r75
   refine hm80.ix_ 49 g74.1 g86 ?_
   obtain ⟨cs88, f89, hk90, hs91, hl92, hq93⟩ := hm80.kid g74.1 g86
   obtain ⟨s94, rfl, ho96⟩ := cr_sl_open hk90
   have kd97 : KdS (encI .u64) 1 H77 s94 (gt (d3.set i2.toNat (List.replicate N_.toNat (0 : Int))) i2) f81 (.slice a22 n23 c24) 1 i2.toNat 0 := ⟨ho96.sq.up hs91 hm80.lt, hq93 0 _ rfl (by decide)⟩
   obtain ⟨a98, n99, c100, rfl⟩ := kd97.sq.form
   refine l_' (.slice a98 n99 c100) (aL_ 36 (elp (.slice a22 n23 c24) 1 i2.toNat 0) H77) (hl92 _ _ _ _ (by kernel_rfl)) (kd97.sq.ln_ 36 (q_ (i_ 0) (s_nil (k85 _ _ ?_))))
   obtain ⟨o102, hx103, r104⟩ := bs_ r87
   refine w_mid (fun α H105 => Has α [(1, pt_ b7 0), (3, .slice a22 n23 c24), (15, i_ ((List.replicate N_.toNat ([] : List (Int))).length : Int)), (16, i_ i2)] /\ FrS f81 H77 H105 /\ Nst (CR.sl (encI .u64) 1) H105 (.slice a22 n23 c24) o102 f81) (fun _ k109 => ?_) (fun α H105 hM => ?_)
   ·refine w_block ?_
    obtain ⟨n111, hn112⟩ := loopO_iff.1 hx103
    refine w_loopn (fun n α H113 => ∃ (d0 : List (List (Int))), ∃ (i1 : Int), iterO (fun zz_ => z_viaductref04_Distances_l0 N_ i2 d3 zz_.1 zz_.2) n (d0, i1) = some o102 /\ Has α [(1, pt_ b7 0), (3, .slice a22 n23 c24), (4, i_ i2), (15, i_ ((List.replicate N_.toNat ([] : List (Int))).length : Int)), (16, i_ i2), (29, i_ ((gt (d3.set i2.toNat (List.replicate N_.toNat (0 : Int))) i2).length : Int)), (30, i_ i1)] /\ FrS f81 H77 H113 /\ Nst (CR.sl (encI .u64) 1) H113 (.slice a22 n23 c24) d0 f81) n111 ⟨(d3.set i2.toNat (List.replicate N_.toNat (0 : Int))), 0, hn112, ha_, (fr_ e79.wf), hm80⟩ ?_
    rintro n111 α H113 ⟨d0, i1, hi118, hh117, e114, m116⟩ K123 k123
    obtain ⟨n119, z120, rfl, hz121, hn122⟩ := iter_succ hi118
    obtain ⟨β, rfl⟩ := has_ex hh117
    clear hh117
    replace hz121 : z_viaductref04_Distances_l0 N_ i2 d3 d0 i1 = some z120 := hz121
    unfold z_viaductref04_Distances_l0 at hz121
    refine sq_ fun k124 => g_' (q_ (.bool (decide (i1 < ((gt (d3.set i2.toNat (List.replicate N_.toNat (0 : Int))) i2).length : Int)))) (s_nil (k124 _ _ (sq_ fun k125 => ?_))))
    refine wc_ (i1 < ((gt (d3.set i2.toNat (List.replicate N_.toNat (0 : Int))) i2).length : Int)) (fun h126 => ?_) fun h126 => ?_
    ·have r127 := ite_t h126 hz121
     refine w_skip (k125 _ _ (sq_ fun k128 => w_block (sq_ fun k129 => g_' (q_ (i_ i1) (q_ (i_ i1) (s_nil (k129 _ _ (sq_ fun k130 => g_' (q_ (i_ i2) (q_ (i_ i1) (q_ (.bool (!decide (i2 = i1))) (s_nil (k130 _ _ ?_)))))))))))))
     refine w_condn (i2 = i1) (by kernel_rfl) rfl (fun h131 => ?_) (fun h131 => ?_)
     ·have r132 := ite_f h131 r127
      refine g_' (q_ (.slice a22 n23 c24) (q_ (i_ i2) ?_))
      obtain ⟨g133, r134⟩ := G_some r132
      refine m116.ix_ 49 g74.1 g133 ?_
      obtain ⟨cs135, f136, hk137, hs138, hl139, hq140⟩ := m116.kid g74.1 g133
      obtain ⟨s141, rfl, ho143⟩ := cr_sl_open hk137
      have kd144 : KdS (encI .u64) 1 H113 s141 (gt d0 i2) f81 (.slice a22 n23 c24) 1 i2.toNat 0 := ⟨ho143.sq.up hs138 m116.lt, hq140 0 _ rfl (by decide)⟩
      obtain ⟨a145, n146, c147, rfl⟩ := kd144.sq.form
      refine l_' (.slice a145 n146 c147) (aL_ 36 (elp (.slice a22 n23 c24) 1 i2.toNat 0) H113) (hl139 _ _ _ _ (by kernel_rfl)) (q_ (i_ i1) ?_)
      obtain ⟨g149, r150⟩ := G_some r134
      refine kd144.sq.ix_ 36 g149.1 g149.2 ?_
      obtain ⟨H151, q152, e153, hm154, kd155⟩ := Nst.inner cr_sl_lens (P := Try.prog) (t := 27) (o2 := 0) e114.wf m116 g74.1 g133 kd144 rfl g149.1 g149.2 (.int .u64 18446744073709551615) [.int .u64 18446744073709551615] (by kernel_rfl) (by kernel_rfl) rfl 18446744073709551615 (Nat.le_of_ble_eq_true rfl) (by kernel_rfl)
      have h1156 : i2 < ((d0.set i2.toNat ((gt d0 i2).set i1.toNat 18446744073709551615)).length : Int) := by rw [List.length_set]; exact g133
      have eq157 : ((gt d0 i2).set i1.toNat 18446744073709551615) = (gt (d0.set i2.toNat ((gt d0 i2).set i1.toNat 18446744073709551615)) i2) := (gt_set_self g74.1 g133 _).symm
      refine ek_ q152 (s_nil (k128 _ _ (g_' ?_)))
      obtain ⟨g158, r159⟩ := G_some r150
      refine w_' ((i1 + 1)) (wrap64 (by have := g158; omega)) (q_ (i_ (i1 + 1)) (s_nil ?_))
      obtain rfl := oi_ r159
      exact k123 n119 _ _ lt_ ⟨(d0.set i2.toNat ((gt d0 i2).set i1.toNat 18446744073709551615)), (i1 + 1), hn122, ha_, (fs_ e79.wf (fs_ e79.wf (fr_ e79.wf) e114 ir_) e153 ir_), hm154⟩
     have r160 := ite_t h131 r127
     refine w_skip (k128 _ _ (g_' ?_))
     obtain ⟨g161, r162⟩ := G_some r160
     refine w_' ((i1 + 1)) (wrap64 g161) (q_ (i_ (i1 + 1)) (s_nil ?_))
     obtain rfl := oi_ r162
     exact k123 n119 _ _ lt_ ⟨d0, (i1 + 1), hn122, ha_, (fs_ e79.wf (fr_ e79.wf) e114 ir_), m116⟩
    have r163 := ite_f h126 hz121
    refine w_exit (th_exit (th_exit (bl_eq ?_)))
    obtain rfl := oi_ r163
    obtain rfl := it_inr hn122
    exact k109 _ _ ⟨ha_, (fs_ e79.wf (fr_ e79.wf) e114 ir_), m116⟩
   obtain ⟨hh110, e106, m108⟩ := hM
   obtain ⟨β, rfl⟩ := has_ex hh110
   clear hh110
   refine k58 _ _ (g_' ?_)
   obtain ⟨g164, r165⟩ := G_some r104
   refine w_' ((i2 + 1)) (wrap64 (by have := g164; omega)) (q_ (i_ (i2 + 1)) (s_nil ?_))
   obtain rfl := oi_ r165
   exact k53 n49 _ _ lt_ ⟨(i2 + 1), o102, f81, hn52, ha_, (fs_ e19.wf (fs_ e19.wf ((fs_ e19.wf (fr_ e19.wf) e42 ir_).extR e67) e79 (Inn.trans ir_ (Nat.le_refl _) i46)) e106 (Inn.trans (Inn.trans ir_ (Nat.le_refl _) i46) e42.n w84)), m108, (Inn.trans (Inn.trans ir_ (Nat.le_refl _) i46) e42.n w84)⟩
  have r166 := ite_f h56 hz51
  refine w_exit (th_exit (th_exit (bl_eq ?_)))
  obtain rfl := oi_ r166
  obtain rfl := it_inr hn52
  exact k37 _ _ ⟨f45, ha_, (fs_ e19.wf (fr_ e19.wf) e42 ir_), m44, (Inn.trans ir_ (Nat.le_refl _) i46)⟩
 obtain ⟨f35, hh38, e32, m34, i36⟩ := hM
 obtain ⟨β, rfl⟩ := has_ex hh38
 clear hh38
 refine k26 _ _ (sq_ fun k167 => sq_ fun k168 => g_' (q_ (pt_ b7 1) ?_))
 have u169 := ((r11.ext e19).frS e32 (hf20.djn r11.ltF))
 refine lr_ 22 1 (hd_Arcs) u169 ?_
 have d170 := (hf20.djn (h_Arcs.lt.le e9.n))
 have u171 := (((h_Arcs.ext e9).ext e19).fr e32 d170)
 refine u171.ln_ 22 (q_ (i_ 0) (s_nil (k168 _ _ ?_)))
 obtain ⟨o172, hx173, r174⟩ := bs_ r30
 refine w_mid (fun α H175 => Has α [(3, .slice a22 n23 c24)] /\ FrS f35 H31 H175 /\ Nst (CR.sl (encI .u64) 1) H175 (.slice a22 n23 c24) o172 f35) (fun _ k179 => ?_) (fun α H175 hM => ?_)
 ·refine w_block ?_
  obtain ⟨n181, hn182⟩ := loopO_iff.1 hx173
  refine w_loopn (fun n α H183 => ∃ (d4 : List (List (Int))), ∃ (i5 : Int), iterO (fun zz_ => z_viaductref04_Distances_l2 Arcs zz_.1 zz_.2) n (d4, i5) = some o172 /\ Has α [(3, .slice a22 n23 c24), (45, hd_Arcs), (46, i_ (Arcs.length : Int)), (47, i_ i5)] /\ FrS f35 H31 H183 /\ Nst (CR.sl (encI .u64) 1) H183 (.slice a22 n23 c24) d4 f35) n181 ⟨o28, 0, hn182, ha_, (fr_ e32.wf), m34⟩ ?_
  rintro n181 α H183 ⟨d4, i5, hi188, hh187, e184, m186⟩ K193 k193
  obtain ⟨n189, z190, rfl, hz191, hn192⟩ := iter_succ hi188
  obtain ⟨β, rfl⟩ := has_ex hh187
  clear hh187
  replace hz191 : z_viaductref04_Distances_l2 Arcs d4 i5 = some z190 := hz191
  unfold z_viaductref04_Distances_l2 at hz191
  refine sq_ fun k194 => g_' (q_ (.bool (decide (i5 < (Arcs.length : Int)))) (s_nil (k194 _ _ (sq_ fun k195 => ?_))))
  refine wc_ (i5 < (Arcs.length : Int)) (fun h196 => ?_) fun h196 => ?_
  ·have r197 := ite_t h196 hz191
   refine w_skip (k195 _ _ (sq_ fun k198 => w_block (sq_ fun k199 => g_' ?_)))
   obtain ⟨g200, r201⟩ := G_some r197
   have n202 := (t_ e9.n e19.n)
   have d203 := (i36.dj d170 (h_Arcs.lt.le n202))
   have u204 := (u171.fr e184 d203)
   refine u204.ix_ 22 g200 h196 (le_ 118 0 (.agg #[i_ ((gt Arcs i5).1), i_ ((gt Arcs i5).2.1), i_ ((gt Arcs i5).2.2)]) u204 g200 h196 ?_)
   refine rk_ e184.wf [i_ 0, i_ 0, i_ 0] fun b205 H206 e207 hb208 r209 => ?_
   obtain ⟨H211, q212, e213, r214⟩ := ra_ 118 0 e207.wf r209 [i_ ((gt Arcs i5).1), i_ ((gt Arcs i5).2.1), i_ ((gt Arcs i5).2.2)] [i_ ((gt Arcs i5).1), i_ ((gt Arcs i5).2.1), i_ ((gt Arcs i5).2.2)]
   refine ek_ q212 (s_nil (k199 _ _ ?_))
   refine w_draw [0, 1, 2, 3, 4, 5, 6, 7, 8, 9, 10, 11, 12, 13, 14, 15, 16, 17, 18, 19, 20, 21] (by kernel_rfl) ?_
   refine e_' (.slice a22 n23 c24) (e_' (pt_ b205 0) (mr_ 3 0 (i_ ((gt Arcs i5).1)) r214 ?_))
   obtain ⟨g215, r216⟩ := G_some r201
   have d217 := (hb208.djn (m34.lt.le e184.n))
   have u218 := ((m186.ext e207).fr e213 d217)
   refine u218.mx_ 49 g215.1 g215.2 ?_
   obtain ⟨cs219, f220, hk221, hs222, hl223, hq224⟩ := u218.kid g215.1 g215.2
   obtain ⟨s225, rfl, ho227⟩ := cr_sl_open hk221
   have kd228 : KdS (encI .u64) 1 H211 s225 (gt d4 ((gt Arcs i5).1)) f35 (.slice a22 n23 c24) 1 ((gt Arcs i5).1).toNat 0 := ⟨ho227.sq.up hs222 u218.lt, hq224 0 _ rfl (by decide)⟩
   obtain ⟨a229, n230, c231, rfl⟩ := kd228.sq.form
   refine m_' (.slice a229 n230 c231) (aL_ 36 (elp (.slice a22 n23 c24) 1 ((gt Arcs i5).1).toNat 0) H211) (hl223 _ _ _ _ (by kernel_rfl)) (e_' (pt_ b205 1) (mr_ 3 1 (i_ ((gt Arcs i5).2.1)) r214 (e_' (.slice a22 n23 c24) (e_' (pt_ b205 0) (mr_ 3 0 (i_ ((gt Arcs i5).1)) r214 (u218.mx_ 49 g215.1 g215.2 ?_))))))
   obtain ⟨cs233, f234, hk235, hs236, hl237, hq238⟩ := u218.kid g215.1 g215.2
   obtain ⟨s239, rfl, ho241⟩ := cr_sl_open hk235
   have kd242 : KdS (encI .u64) 1 H211 s239 (gt d4 ((gt Arcs i5).1)) f35 (.slice a22 n23 c24) 1 ((gt Arcs i5).1).toNat 0 := ⟨ho241.sq.up hs236 u218.lt, hq238 0 _ rfl (by decide)⟩
   obtain ⟨a243, n244, c245, rfl⟩ := kd242.sq.form
   refine m_' (.slice a243 n244 c245) (aL_ 36 (elp (.slice a22 n23 c24) 1 ((gt Arcs i5).1).toNat 0) H211) (hl237 _ _ _ _ (by kernel_rfl)) (e_' (pt_ b205 1) (mr_ 3 1 (i_ ((gt Arcs i5).2.1)) r214 ?_))
   obtain ⟨g247, r248⟩ := G_some r216
   refine kd242.sq.mx_ 36 g247.1 g247.2 (me_ 27 0 (.int .u64 (gt (gt d4 ((gt Arcs i5).1)) ((gt Arcs i5).2.1))) kd242.sq g247.1 g247.2 (e_' (pt_ b205 2) (mr_ 3 2 (i_ ((gt Arcs i5).2.2)) r214 ?_)))
   obtain ⟨g249, r250⟩ := G_some r248
   refine d_w ((gt Arcs i5).2.2) (k := .u64) (x := (gt Arcs i5).2.2) (by kernel_rfl) (wrapu64 g249) ?_
   refine m_' (.int .u64 (min (gt (gt d4 ((gt Arcs i5).1)) ((gt Arcs i5).2.1)) ((gt Arcs i5).2.2))) (aMin Try.prog [.int .u64 (gt (gt d4 ((gt Arcs i5).1)) ((gt Arcs i5).2.1)), .int .u64 ((gt Arcs i5).2.2)]) (aMin_two _ _) (kd228.sq.mx_ 36 g247.1 g247.2 ?_)
   obtain ⟨H251, q252, e253, hm254, kd255⟩ := Nst.inner cr_sl_lens (P := Try.prog) (t := 27) (o2 := 0) e213.wf u218 g215.1 g215.2 kd228 rfl g247.1 g247.2 (.int .u64 (min (gt (gt d4 ((gt Arcs i5).1)) ((gt Arcs i5).2.1)) ((gt Arcs i5).2.2))) [.int .u64 (min (gt (gt d4 ((gt Arcs i5).1)) ((gt Arcs i5).2.1)) ((gt Arcs i5).2.2))] (by kernel_rfl) (by kernel_rfl) rfl (min (gt (gt d4 ((gt Arcs i5).1)) ((gt Arcs i5).2.1)) ((gt Arcs i5).2.2)) (Nat.le_of_ble_eq_true rfl) (by kernel_rfl)
   have h1256 : (gt Arcs i5).1 < ((d4.set ((gt Arcs i5).1).toNat ((gt d4 ((gt Arcs i5).1)).set ((gt Arcs i5).2.1).toNat (min (gt (gt d4 ((gt Arcs i5).1)) ((gt Arcs i5).2.1)) ((gt Arcs i5).2.2)))).length : Int) := by rw [List.length_set]; exact g215.2
   have eq257 : ((gt d4 ((gt Arcs i5).1)).set ((gt Arcs i5).2.1).toNat (min (gt (gt d4 ((gt Arcs i5).1)) ((gt Arcs i5).2.1)) ((gt Arcs i5).2.2))) = (gt (d4.set ((gt Arcs i5).1).toNat ((gt d4 ((gt Arcs i5).1)).set ((gt Arcs i5).2.1).toNat (min (gt (gt d4 ((gt Arcs i5).1)) ((gt Arcs i5).2.1)) ((gt Arcs i5).2.2)))) ((gt Arcs i5).1)) := (gt_set_self g215.1 g215.2 _).symm
   refine fk_ q252 (st_nil) ?_
   refine d_nil ?_
   refine k198 _ _ (g_' ?_)
   obtain ⟨g258, r259⟩ := G_some r250
   refine w_' ((i5 + 1)) (wrap64 (by have := g258; omega)) (q_ (i_ (i5 + 1)) (s_nil ?_))
   obtain rfl := oi_ r259
   exact k193 n189 _ _ lt_ ⟨(d4.set ((gt Arcs i5).1).toNat ((gt d4 ((gt Arcs i5).1)).set ((gt Arcs i5).2.1).toNat (min (gt (gt d4 ((gt Arcs i5).1)) ((gt Arcs i5).2.1)) ((gt Arcs i5).2.2)))), (i5 + 1), hn192, ha_, (fs_ e32.wf (fs_ e32.wf ((fs_ e32.wf (fr_ e32.wf) e184 ir_).extR e207) e213 (hb208.fresh e184.n)) e253 ir_), hm254⟩
  have r260 := ite_f h196 hz191
  refine w_exit (th_exit (th_exit (bl_eq ?_)))
  obtain rfl := oi_ r260
  obtain rfl := it_inr hn192
  exact k179 _ _ ⟨ha_, (fs_ e32.wf (fr_ e32.wf) e184 ir_), m186⟩
 obtain ⟨hh180, e176, m178⟩ := hM
 obtain ⟨β, rfl⟩ := has_ex hh180
 clear hh180
 refine k167 _ _ (sq_ fun k261 => sq_ fun k262 => g_' (q_ (.slice a22 n23 c24) (m178.ln_ 49 (q_ (i_ 0) (s_nil (k262 _ _ ?_))))))
 obtain ⟨o263, hx264, r265⟩ := bs_ r174
 refine w_mid (fun α H266 => Has α [(3, .slice a22 n23 c24)] /\ FrS f35 H175 H266 /\ Nst (CR.sl (encI .u64) 1) H266 (.slice a22 n23 c24) o263 f35) (fun _ k270 => ?_) (fun α H266 hM => ?_)
 ·refine w_block ?_
  obtain ⟨n272, hn273⟩ := loopO_iff.1 hx264
  refine w_loopn (fun n α H274 => ∃ (d10 : List (List (Int))), ∃ (i11 : Int), iterO (fun zz_ => z_viaductref04_Distances_l5 o172 zz_.1 zz_.2) n (d10, i11) = some o263 /\ Has α [(3, .slice a22 n23 c24), (74, i_ (o172.length : Int)), (75, i_ i11)] /\ FrS f35 H175 H274 /\ Nst (CR.sl (encI .u64) 1) H274 (.slice a22 n23 c24) d10 f35) n272 ⟨o172, 0, hn273, ha_, (fr_ e176.wf), m178⟩ ?_
  rintro n272 α H274 ⟨d10, i11, hi279, hh278, e275, m277⟩ K284 k284
  obtain ⟨n280, z281, rfl, hz282, hn283⟩ := iter_succ hi279
  obtain ⟨β, rfl⟩ := has_ex hh278
  clear hh278
  replace hz282 : z_viaductref04_Distances_l5 o172 d10 i11 = some z281 := hz282
  unfold z_viaductref04_Distances_l5 at hz282
  refine sq_ fun k285 => g_' (q_ (.bool (decide (i11 < (o172.length : Int)))) (s_nil (k285 _ _ (sq_ fun k286 => ?_))))
  refine wc_ (i11 < (o172.length : Int)) (fun h287 => ?_) fun h287 => ?_
  ·have r288 := ite_t h287 hz282
   refine w_skip (k286 _ _ (sq_ fun k289 => w_block (sq_ fun k290 => g_' (q_ (i_ i11) (q_ (i_ i11) (s_nil (k290 _ _ (sq_ fun k291 => g_' (q_ (.slice a22 n23 c24) (m277.ln_ 49 (q_ (i_ 0) (s_nil (k291 _ _ ?_)))))))))))))
   obtain ⟨o292, hx293, r294⟩ := bs_ r288
   refine w_mid (fun α H295 => Has α [(3, .slice a22 n23 c24), (74, i_ (o172.length : Int)), (75, i_ i11)] /\ FrS f35 H274 H295 /\ Nst (CR.sl (encI .u64) 1) H295 (.slice a22 n23 c24) o292 f35) (fun _ k299 => ?_) (fun α H295 hM => ?_)
   ·refine w_block ?_
    obtain ⟨n301, hn302⟩ := loopO_iff.1 hx293
    refine w_loopn (fun n α H303 => ∃ (d8 : List (List (Int))), ∃ (i9 : Int), iterO (fun zz_ => z_viaductref04_Distances_l4 d10 i11 zz_.1 zz_.2) n (d8, i9) = some o292 /\ Has α [(3, .slice a22 n23 c24), (8, i_ i11), (74, i_ (o172.length : Int)), (75, i_ i11), (79, i_ (d10.length : Int)), (80, i_ i9)] /\ FrS f35 H274 H303 /\ Nst (CR.sl (encI .u64) 1) H303 (.slice a22 n23 c24) d8 f35) n301 ⟨d10, 0, hn302, ha_, (fr_ e275.wf), m277⟩ ?_
    rintro n301 α H303 ⟨d8, i9, hi308, hh307, e304, m306⟩ K313 k313
    obtain ⟨n309, z310, rfl, hz311, hn312⟩ := iter_succ hi308
    obtain ⟨β, rfl⟩ := has_ex hh307
    clear hh307
    replace hz311 : z_viaductref04_Distances_l4 d10 i11 d8 i9 = some z310 := hz311
    unfold z_viaductref04_Distances_l4 at hz311
    refine sq_ fun k314 => g_' (q_ (.bool (decide (i9 < (d10.length : Int)))) (s_nil (k314 _ _ (sq_ fun k315 => ?_))))
    refine wc_ (i9 < (d10.length : Int)) (fun h316 => ?_) fun h316 => ?_
    ·have r317 := ite_t h316 hz311
     refine w_skip (k315 _ _ (sq_ fun k318 => w_block (sq_ fun k319 => g_' (q_ (i_ i9) (q_ (i_ i9) (s_nil (k319 _ _ (sq_ fun k320 => g_' (q_ (.slice a22 n23 c24) (m306.ln_ 49 (q_ (i_ 0) (s_nil (k320 _ _ ?_)))))))))))))
     obtain ⟨o321, hx322, r323⟩ := bs_ r317
     refine w_mid (fun α H324 => Has α [(3, .slice a22 n23 c24), (8, i_ i11), (74, i_ (o172.length : Int)), (75, i_ i11), (79, i_ (d10.length : Int)), (80, i_ i9)] /\ FrS f35 H303 H324 /\ Nst (CR.sl (encI .u64) 1) H324 (.slice a22 n23 c24) o321 f35) (fun _ k328 => ?_) (fun α H324 hM => ?_)
     ·refine w_block ?_
      obtain ⟨n330, hn331⟩ := loopO_iff.1 hx322
      refine w_loopn (fun n α H332 => ∃ (d6 : List (List (Int))), ∃ (i7 : Int), iterO (fun zz_ => z_viaductref04_Distances_l3 i11 d8 i9 zz_.1 zz_.2) n (d6, i7) = some o321 /\ Has α [(3, .slice a22 n23 c24), (8, i_ i11), (9, i_ i9), (74, i_ (o172.length : Int)), (75, i_ i11), (79, i_ (d10.length : Int)), (80, i_ i9), (84, i_ (d8.length : Int)), (85, i_ i7)] /\ FrS f35 H303 H332 /\ Nst (CR.sl (encI .u64) 1) H332 (.slice a22 n23 c24) d6 f35) n330 ⟨d8, 0, hn331, ha_, (fr_ e304.wf), m306⟩ ?_
      rintro n330 α H332 ⟨d6, i7, hi337, hh336, e333, m335⟩ K342 k342
      obtain ⟨n338, z339, rfl, hz340, hn341⟩ := iter_succ hi337
      obtain ⟨β, rfl⟩ := has_ex hh336
      clear hh336
      replace hz340 : z_viaductref04_Distances_l3 i11 d8 i9 d6 i7 = some z339 := hz340
      unfold z_viaductref04_Distances_l3 at hz340
      refine sq_ fun k343 => g_' (q_ (.bool (decide (i7 < (d8.length : Int)))) (s_nil (k343 _ _ (sq_ fun k344 => ?_))))
      refine wc_ (i7 < (d8.length : Int)) (fun h345 => ?_) fun h345 => ?_
      ·have r346 := ite_t h345 hz340
       refine w_skip (k344 _ _ (sq_ fun k347 => w_block (sq_ fun k348 => g_' (q_ (i_ i7) (q_ (i_ i7) (s_nil (k348 _ _ (sq_ fun k349 => ?_))))))))
       obtain ⟨o350, hx351, r352⟩ := bs_ r346
       refine w_mid (fun α H353 => Has α [(3, .slice a22 n23 c24), (8, i_ i11), (9, i_ i9), (10, i_ i7), (74, i_ (o172.length : Int)), (75, i_ i11), (79, i_ (d10.length : Int)), (80, i_ i9), (84, i_ (d8.length : Int)), (85, i_ i7), (105, .bool o350)] /\ H332 = H353) (fun _ k355 => ?_) (fun α H353 hM => ?_)
       ·refine g_' (q_ (.slice a22 n23 c24) (q_ (i_ i9) ?_))
        obtain ⟨g357, r358⟩ := G_some hx351
        refine m335.ix_ 49 g357.1 g357.2 ?_
        obtain ⟨cs359, f360, hk361, hs362, hl363, hq364⟩ := m335.kid g357.1 g357.2
        obtain ⟨s365, rfl, ho367⟩ := cr_sl_open hk361
        have kd368 : KdS (encI .u64) 1 H332 s365 (gt d6 i9) f35 (.slice a22 n23 c24) 1 i9.toNat 0 := ⟨ho367.sq.up hs362 m335.lt, hq364 0 _ rfl (by decide)⟩
        obtain ⟨a369, n370, c371, rfl⟩ := kd368.sq.form
        refine l_' (.slice a369 n370 c371) (aL_ 36 (elp (.slice a22 n23 c24) 1 i9.toNat 0) H332) (hl363 _ _ _ _ (by kernel_rfl)) (q_ (i_ i11) ?_)
        obtain ⟨g373, r374⟩ := G_some r358
        refine kd368.sq.ix_ 36 g373.1 g373.2 (le_ 27 0 (.int .u64 (gt (gt d6 i9) i11)) kd368.sq g373.1 g373.2 ?_)
        refine s_bn ((gt (gt d6 i9) i11) = 18446744073709551615) (by kernel_rfl) (fun h375 => ?_) (fun h375 => ?_)
        ·have r376 := ite_t h375 r374
         refine q_ (.bool false) (n_' (n_' (n_' (n_' (n_' (n_' (n_' (n_' (q_ (.bool false) (s_nil ?_))))))))))
         obtain rfl := oi_ r376
         exact k355 _ _ ⟨ha_, rfl⟩
        have r377 := ite_f h375 r374
        refine q_ (.bool true) (q_ (.slice a22 n23 c24) (q_ (i_ i11) ?_))
        obtain ⟨g378, r379⟩ := G_some r377
        refine m335.ix_ 49 g373.1 g378 ?_
        obtain ⟨cs380, f381, hk382, hs383, hl384, hq385⟩ := m335.kid g373.1 g378
        obtain ⟨s386, rfl, ho388⟩ := cr_sl_open hk382
        have kd389 : KdS (encI .u64) 1 H332 s386 (gt d6 i11) f35 (.slice a22 n23 c24) 1 i11.toNat 0 := ⟨ho388.sq.up hs383 m335.lt, hq385 0 _ rfl (by decide)⟩
        obtain ⟨a390, n391, c392, rfl⟩ := kd389.sq.form
        refine l_' (.slice a390 n391 c392) (aL_ 36 (elp (.slice a22 n23 c24) 1 i11.toNat 0) H332) (hl384 _ _ _ _ (by kernel_rfl)) (q_ (i_ i7) ?_)
        obtain ⟨g394, r395⟩ := G_some r379
        refine kd389.sq.ix_ 36 g394.1 g394.2 (le_ 27 0 (.int .u64 (gt (gt d6 i11) i7)) kd389.sq g394.1 g394.2 (q_ (.bool (!decide ((gt (gt d6 i11) i7) = 18446744073709551615))) (q_ (.bool (!decide ((gt (gt d6 i11) i7) = 18446744073709551615))) (s_nil ?_))))
        obtain rfl := oi_ r395
        exact k355 _ _ ⟨ha_, rfl⟩
       obtain ⟨hh356, rfl⟩ := hM
       obtain ⟨β, rfl⟩ := has_ex hh356
       clear hh356
       refine k349 _ _ ?_
       refine wb_ (o350) (fun h396 => ?_) fun h396 => ?_
       ·have r397 := ite_t h396 r352
        refine w_draw [0, 1, 2, 3, 4, 5, 6, 7, 8, 9, 10, 11, 12, 13, 14, 15, 16, 17, 18, 19, 20, 21, 22, 23, 24, 25, 26, 27, 28, 29] (by kernel_rfl) ?_
        refine e_' (.slice a22 n23 c24) (e_' (i_ i9) ?_)
        obtain ⟨g398, r399⟩ := G_some r397
        refine m335.mx_ 49 g398.1 g398.2 ?_
        obtain ⟨cs400, f401, hk402, hs403, hl404, hq405⟩ := m335.kid g398.1 g398.2
        obtain ⟨s406, rfl, ho408⟩ := cr_sl_open hk402
        have kd409 : KdS (encI .u64) 1 H332 s406 (gt d6 i9) f35 (.slice a22 n23 c24) 1 i9.toNat 0 := ⟨ho408.sq.up hs403 m335.lt, hq405 0 _ rfl (by decide)⟩
        obtain ⟨a410, n411, c412, rfl⟩ := kd409.sq.form
        refine m_' (.slice a410 n411 c412) (aL_ 36 (elp (.slice a22 n23 c24) 1 i9.toNat 0) H332) (hl404 _ _ _ _ (by kernel_rfl)) (e_' (i_ i7) (e_' (.slice a22 n23 c24) (e_' (i_ i9) (m335.mx_ 49 g398.1 g398.2 ?_))))
        obtain ⟨cs414, f415, hk416, hs417, hl418, hq419⟩ := m335.kid g398.1 g398.2
        obtain ⟨s420, rfl, ho422⟩ := cr_sl_open hk416
        have kd423 : KdS (encI .u64) 1 H332 s420 (gt d6 i9) f35 (.slice a22 n23 c24) 1 i9.toNat 0 := ⟨ho422.sq.up hs417 m335.lt, hq419 0 _ rfl (by decide)⟩
        obtain ⟨a424, n425, c426, rfl⟩ := kd423.sq.form
        refine m_' (.slice a424 n425 c426) (aL_ 36 (elp (.slice a22 n23 c24) 1 i9.toNat 0) H332) (hl418 _ _ _ _ (by kernel_rfl)) (e_' (i_ i7) ?_)
        obtain ⟨g428, r429⟩ := G_some r399
        refine kd423.sq.mx_ 36 g428.1 g428.2 (me_ 27 0 (.int .u64 (gt (gt d6 i9) i7)) kd423.sq g428.1 g428.2 (e_' (.slice a22 n23 c24) (e_' (i_ i9) (m335.mx_ 49 g398.1 g398.2 ?_))))
        obtain ⟨cs430, f431, hk432, hs433, hl434, hq435⟩ := m335.kid g398.1 g398.2
        obtain ⟨s436, rfl, ho438⟩ := cr_sl_open hk432
        have kd439 : KdS (encI .u64) 1 H332 s436 (gt d6 i9) f35 (.slice a22 n23 c24) 1 i9.toNat 0 := ⟨ho438.sq.up hs433 m335.lt, hq435 0 _ rfl (by decide)⟩
        obtain ⟨a440, n441, c442, rfl⟩ := kd439.sq.form
        refine m_' (.slice a440 n441 c442) (aL_ 36 (elp (.slice a22 n23 c24) 1 i9.toNat 0) H332) (hl434 _ _ _ _ (by kernel_rfl)) (e_' (i_ i11) ?_)
        obtain ⟨g444, r445⟩ := G_some r429
        refine kd439.sq.mx_ 36 g444.1 g444.2 (me_ 27 0 (.int .u64 (gt (gt d6 i9) i11)) kd439.sq g444.1 g444.2 (e_' (.slice a22 n23 c24) (e_' (i_ i11) ?_)))
        obtain ⟨g446, r447⟩ := G_some r445
        refine m335.mx_ 49 g444.1 g446 ?_
        obtain ⟨cs448, f449, hk450, hs451, hl452, hq453⟩ := m335.kid g444.1 g446
        obtain ⟨s454, rfl, ho456⟩ := cr_sl_open hk450
        have kd457 : KdS (encI .u64) 1 H332 s454 (gt d6 i11) f35 (.slice a22 n23 c24) 1 i11.toNat 0 := ⟨ho456.sq.up hs451 m335.lt, hq453 0 _ rfl (by decide)⟩
        obtain ⟨a458, n459, c460, rfl⟩ := kd457.sq.form
        refine m_' (.slice a458 n459 c460) (aL_ 36 (elp (.slice a22 n23 c24) 1 i11.toNat 0) H332) (hl452 _ _ _ _ (by kernel_rfl)) (e_' (i_ i7) ?_)
        obtain ⟨g462, r463⟩ := G_some r447
        refine kd457.sq.mx_ 36 g428.1 g462 (me_ 27 0 (.int .u64 (gt (gt d6 i11) i7)) kd457.sq g428.1 g462 ?_)
        obtain ⟨g464, r465⟩ := G_some r463
        refine d_w (((gt (gt d6 i9) i11) + (gt (gt d6 i11) i7))) (k := .u64) (x := ((gt (gt d6 i9) i11) + (gt (gt d6 i11) i7))) (by kernel_rfl) (wrapu64 g464) ?_
        refine m_' (.int .u64 (min (gt (gt d6 i9) i7) ((gt (gt d6 i9) i11) + (gt (gt d6 i11) i7)))) (aMin Try.prog [.int .u64 (gt (gt d6 i9) i7), .int .u64 ((gt (gt d6 i9) i11) + (gt (gt d6 i11) i7))]) (aMin_two _ _) (kd409.sq.mx_ 36 g428.1 g428.2 ?_)
        obtain ⟨H466, q467, e468, hm469, kd470⟩ := Nst.inner cr_sl_lens (P := Try.prog) (t := 27) (o2 := 0) e333.wf m335 g398.1 g398.2 kd409 rfl g428.1 g428.2 (.int .u64 (min (gt (gt d6 i9) i7) ((gt (gt d6 i9) i11) + (gt (gt d6 i11) i7)))) [.int .u64 (min (gt (gt d6 i9) i7) ((gt (gt d6 i9) i11) + (gt (gt d6 i11) i7)))] (by kernel_rfl) (by kernel_rfl) rfl (min (gt (gt d6 i9) i7) ((gt (gt d6 i9) i11) + (gt (gt d6 i11) i7))) (Nat.le_of_ble_eq_true rfl) (by kernel_rfl)
        have h1471 : i9 < ((d6.set i9.toNat ((gt d6 i9).set i7.toNat (min (gt (gt d6 i9) i7) ((gt (gt d6 i9) i11) + (gt (gt d6 i11) i7))))).length : Int) := by rw [List.length_set]; exact g398.2
        have eq472 : ((gt d6 i9).set i7.toNat (min (gt (gt d6 i9) i7) ((gt (gt d6 i9) i11) + (gt (gt d6 i11) i7)))) = (gt (d6.set i9.toNat ((gt d6 i9).set i7.toNat (min (gt (gt d6 i9) i7) ((gt (gt d6 i9) i11) + (gt (gt d6 i11) i7))))) i9) := (gt_set_self g398.1 g398.2 _).symm
        refine fk_ q467 (st_nil) ?_
        refine d_nil ?_
        refine k347 _ _ (g_' ?_)
        obtain ⟨g473, r474⟩ := G_some r465
        refine w_' ((i7 + 1)) (wrap64 (by have := g473; omega)) (q_ (i_ (i7 + 1)) (s_nil ?_))
        obtain rfl := oi_ r474
        exact k342 n338 _ _ lt_ ⟨(d6.set i9.toNat ((gt d6 i9).set i7.toNat (min (gt (gt d6 i9) i7) ((gt (gt d6 i9) i11) + (gt (gt d6 i11) i7))))), (i7 + 1), hn341, ha_, (fs_ e304.wf (fs_ e304.wf (fr_ e304.wf) e333 ir_) e468 ir_), hm469⟩
       have r475 := ite_bf h396 r352
       refine w_skip (k347 _ _ (g_' ?_))
       obtain ⟨g476, r477⟩ := G_some r475
       refine w_' ((i7 + 1)) (wrap64 g476) (q_ (i_ (i7 + 1)) (s_nil ?_))
       obtain rfl := oi_ r477
       exact k342 n338 _ _ lt_ ⟨d6, (i7 + 1), hn341, ha_, (fs_ e304.wf (fr_ e304.wf) e333 ir_), m335⟩
      have r478 := ite_f h345 hz340
      refine w_exit (th_exit (th_exit (bl_eq ?_)))
      obtain rfl := oi_ r478
      obtain rfl := it_inr hn341
      exact k328 _ _ ⟨ha_, (fs_ e304.wf (fr_ e304.wf) e333 ir_), m335⟩
     obtain ⟨hh329, e325, m327⟩ := hM
     obtain ⟨β, rfl⟩ := has_ex hh329
     clear hh329
     refine k318 _ _ (g_' ?_)
     obtain ⟨g479, r480⟩ := G_some r323
     refine w_' ((i9 + 1)) (wrap64 g479) (q_ (i_ (i9 + 1)) (s_nil ?_))
     obtain rfl := oi_ r480
     exact k313 n309 _ _ lt_ ⟨o321, (i9 + 1), hn312, ha_, (fs_ e275.wf (fs_ e275.wf (fr_ e275.wf) e304 ir_) e325 ir_), m327⟩
    have r481 := ite_f h316 hz311
    refine w_exit (th_exit (th_exit (bl_eq ?_)))
    obtain rfl := oi_ r481
    obtain rfl := it_inr hn312
    exact k299 _ _ ⟨ha_, (fs_ e275.wf (fr_ e275.wf) e304 ir_), m306⟩
   obtain ⟨hh300, e296, m298⟩ := hM
   obtain ⟨β, rfl⟩ := has_ex hh300
   clear hh300
   refine k289 _ _ (g_' ?_)
   obtain ⟨g482, r483⟩ := G_some r294
   refine w_' ((i11 + 1)) (wrap64 g482) (q_ (i_ (i11 + 1)) (s_nil ?_))
   obtain rfl := oi_ r483
   exact k284 n280 _ _ lt_ ⟨o292, (i11 + 1), hn283, ha_, (fs_ e176.wf (fs_ e176.wf (fr_ e176.wf) e275 ir_) e296 ir_), m298⟩
  have r484 := ite_f h287 hz282
  refine w_exit (th_exit (th_exit (bl_eq ?_)))
  obtain rfl := oi_ r484
  obtain rfl := it_inr hn283
  exact k270 _ _ ⟨ha_, (fs_ e176.wf (fr_ e176.wf) e275 ir_), m277⟩
 obtain ⟨hh271, e267, m269⟩ := hM
 obtain ⟨β, rfl⟩ := has_ex hh271
 clear hh271
 refine k261 _ _ (sq_ fun k485 => g_' (q_ (.slice a22 n23 c24) (q_ (.slice a22 n23 c24) (s_nil (k485 _ _ ?_)))))
 refine w_ret ?_
 refine br_ [.slice a22 n23 c24] ?_
 have n486 := (t_ e9.n e19.n)
 obtain rfl := oi_ r265
 exact ⟨(.slice a22 n23 c24), f35, rfl, (fs_ wf (fs_ wf (fs_ wf (((f0_ wf).extR e9).extR e19) e32 (hf20.fresh e9.n)) e176 (Inn.trans (hf20.fresh e9.n) n486 i36)) e267 (Inn.trans (hf20.fresh e9.n) n486 i36)), m269, (Inn.trans (hf20.fresh e9.n) n486 i36)⟩
theorem c_overlay_Overlay_Alive {H : AH} {b_o : Nat} {hd_o_ : Value} {fp_o_ : Fp} {o_ : List (Bool × List (Int × Int × Int) × List (Int × Int × Int))} {o_2 : Int} {o_3 : Int} {v_ : Int} {r : Bool}
    (wf : WF H) (h_o_ : Nd enc_i64_u64_i64 3 H hd_o_ o_ fp_o_ []) (h_o : Row H b_o [hd_o_, i_ o_2, i_ o_3]) (hr : z_overlay_Overlay_Alive o_ o_2 o_3 v_ = some r) :
    ACalls Try.prog 24 #[pt_ b_o 0, i_ v_] H fun v H' => v = .bool r /\ H = H' := by
 refine ab_ Try.func24 ?_
 unfold z_overlay_Overlay_Alive at hr
 refine sq_ fun k1 => g_' (q_ (.bool false) (s_nil (k1 _ _ (sq_ fun k2 => g_' (q_ (pt_ b_o 0) (q_ (.bool true) (q_ (.bool true) (q_ (i_ v_) ?_))))))))
 refine sb_ (v_ ≥ 0) (fun h3 => ?_) fun h3 => ?_
 ·have r4 := ite_t h3 hr
  refine q_ (.bool true) (q_ (.bool true) (q_ (i_ v_) (q_ (pt_ b_o 0) (q_ (pt_ b_o 0) (q_ (pt_ b_o 0) (lr_ 114 0 (hd_o_) h_o (h_o_.ln_ 114 ?_)))))))
  refine sb_ (v_ < (o_.length : Int)) (fun h5 => ?_) fun h5 => ?_
  ·have r6 := ite_t h5 r4
   refine q_ (.bool true) (q_ (.bool true) (q_ (pt_ b_o 0) (q_ (pt_ b_o 0) (q_ (pt_ b_o 0) (lr_ 114 0 (hd_o_) h_o (q_ (i_ v_) ?_))))))
   obtain ⟨g7, r8⟩ := G_some r6
   refine h_o_.ix_ 114 g7 h5 (l_' (elp hd_o_ 3 v_.toNat 0) (aFieldAddr Try.prog 120 (elp hd_o_ 3 v_.toNat 0) 0) (Nd.fldq (d := 0) h_o_ g7 h5 (by kernel_rfl)) ?_)
   obtain ⟨u9, u10, hl11, hk12⟩ := Nd.at h_o_ g7 h5
   refine l_' (.bool ((gt o_ v_).1)) (aL_ 4 (elp hd_o_ 3 v_.toNat 0) H) (hl11 _ _ _ _ (by kernel_rfl)) (q_ (.bool (!(gt o_ v_).1)) (q_ (.bool (!(gt o_ v_).1)) (q_ (.bool (!(gt o_ v_).1)) (s_nil (k2 _ _ ?_)))))
   refine w_ret ?_
   refine br_ [.bool (!(gt o_ v_).1)] ?_
   obtain rfl := oi_ r8
   exact ⟨rfl, rfl⟩
  have r13 := ite_f h5 r4
  refine q_ (.bool false) (q_ (.bool false) (n_' (n_' (n_' (n_' (n_' (n_' (n_' (n_' (n_' (q_ (.bool false) (q_ (.bool false) (s_nil (k2 _ _ ?_))))))))))))))
  refine w_ret ?_
  refine br_ [.bool false] ?_
  obtain rfl := oi_ r13
  exact ⟨rfl, rfl⟩
 have r14 := ite_f h3 hr
 refine q_ (.bool false) (q_ (.bool false) (n_' (n_' (n_' (n_' (n_' (n_' (n_' (q_ (.bool false) (q_ (.bool false) (n_' (n_' (n_' (n_' (n_' (n_' (n_' (n_' (n_' (q_ (.bool false) (q_ (.bool false) (s_nil (k2 _ _ ?_)))))))))))))))))))))))
 refine w_ret ?_
 refine br_ [.bool false] ?_
 obtain rfl := oi_ r14
 exact ⟨rfl, rfl⟩
theorem c_shorts_check {H : AH} {b_o : Nat} {hd_o_ : Value} {fp_o_ : Fp} {o_ : List (Bool × List (Int × Int × Int) × List (Int × Int × Int))} {o_2 : Int} {o_3 : Int} {v_ : Int} {r : Er}
    (wf : WF H) (h_o_ : Nd enc_i64_u64_i64 3 H hd_o_ o_ fp_o_ []) (h_o : Row H b_o [hd_o_, i_ o_2, i_ o_3]) (hr : z_shorts_check o_ o_2 o_3 v_ = some r) :
    ACalls Try.prog 39 #[pt_ b_o 0, i_ v_] H fun v H' => ∃ (v3 : Value) (f4 : Fp), v = v3 /\ H = H' /\ Ev 90 129 H' v3 r f4 /\ Inn [] H f4 := by
 refine ab_ Try.func39 ?_
 unfold z_shorts_check at hr
 refine sq_ fun k6 => g_' (q_ (.nilIface) (s_nil (k6 _ _ (sq_ fun k7 => sq_ fun k8 => g_' (q_ (pt_ b_o 0) (q_ (.bool false) (s_nil (k8 _ _ ?_))))))))
 refine wb_ false (fun h => by cases h) fun _ => ?_
 refine w_skip (k7 _ _ (sq_ fun k9 => sq_ fun k10 => g_' (q_ (pt_ b_o 0) (q_ (i_ v_) ?_))))
 obtain ⟨y11, hy12, r13⟩ := bs_ hr
 refine ck_ (c_overlay_Overlay_Alive wf h_o_ h_o hy12) ?_
 rintro _ _ ⟨rfl, rfl⟩
 refine q_ (.bool (!y11)) (s_nil (k10 _ _ ?_))
 refine wb_ ((!y11)) (fun h16 => ?_) fun h16 => ?_
 ·have r17 := ite_t h16 r13
  refine sq_ fun k18 => g_' (q_ (.iface 90 (i_ 7)) (q_ (.iface 90 (i_ 7)) (s_nil (k18 _ _ ?_))))
  refine w_ret (th_ret ?_)
  refine br_ [.iface 90 (i_ 7)] ?_
  obtain rfl := oi_ r17
  exact ⟨(.iface 90 (i_ 7)), [], rfl, rfl, Ev.no, in_⟩
 have r19 := ite_bf h16 r13
 refine w_skip (k9 _ _ (sq_ fun k20 => g_' (q_ (.nilIface) (s_nil (k20 _ _ ?_)))))
 refine w_ret ?_
 refine br_ [.nilIface] ?_
 obtain rfl := oi_ r19
 exact ⟨(.nilIface), [], rfl, rfl, Ev.nil, in_⟩
theorem c_witness_Bounds_1 {H : AH} {n_ : Int} {r : Int}
    (wf : WF H) (hr : z_witness_Bounds_1 n_ = some r) :
    ACalls Try.prog 56 #[i_ n_] H fun v H' => v = i_ r /\ H = H' := by
 refine ab_ Try.func56 ?_
 unfold z_witness_Bounds_1 at hr
 refine sq_ fun k1 => g_' (q_ (i_ 0) (s_nil (k1 _ _ (sq_ fun k2 => g_' (q_ (i_ n_) (l_' (i_ (max n_ 0)) (aMax Try.prog [i_ n_, i_ 0]) (aMax_two _ _) (l_' (i_ (min (max n_ 0) 1048576)) (aMin Try.prog [i_ (max n_ 0), i_ 1048576]) (aMin_two _ _) (q_ (i_ (min (max n_ 0) 1048576)) (s_nil (k2 _ _ ?_))))))))))
 refine w_ret ?_
 refine br_ [i_ (min (max n_ 0) 1048576)] ?_
 obtain rfl := oi_ hr
 exact ⟨rfl, rfl⟩
theorem c_witness_Bounds {H : AH} {Hops : Int} {Settles : Int} {Edge : Int} {Deleted : Int} {Depth : Int} {r : Int × Int}
    (wf : WF H) (hr : z_witness_Bounds Hops Settles Edge Deleted Depth = some r) :
    ACalls Try.prog 40 #[.agg #[i_ Hops, i_ Settles, i_ Edge, i_ Deleted, i_ Depth]] H fun v H' => v = .tuple #[i_ r.1, i_ r.2] /\ FrS [] H H' := by
 refine ab_ Try.func40 ?_
 unfold z_witness_Bounds at hr
 refine sq_ fun k1 => g_' ?_
 refine rl_ wf [i_ Hops, i_ Settles, i_ Edge, i_ Deleted, i_ Depth] fun b2 H3 e4 hb5 r6 => ?_
 refine q_ (i_ 0) (q_ (i_ 0) (s_nil (k1 _ _ (sq_ fun k8 => g_' (q_ (.func (.func 56) #[] #[]) (s_nil (k8 _ _ (sq_ fun k9 => ?_))))))))
 refine w_draw [0, 1, 2, 4, 5, 6, 3, 7, 8, 9] (by kernel_rfl) ?_
 refine e_' (.func (.func 56) #[] #[]) (e_' (pt_ b2 0) (mr_ 3 0 (i_ Hops) r6 (e_' (.func (.func 56) #[] #[]) (e_' (pt_ b2 1) ?_))))
 refine d_fl (i_ Settles) (x := aL_ 3 (pt_ b2 1) H3) (by kernel_rfl) (r6.l_) ?_
 obtain ⟨y10, hy11, r12⟩ := bs_ hr
 refine dk_ (c_witness_Bounds_1 e4.wf hy11) ?_
 rintro _ _ ⟨rfl, rfl⟩
 refine ⟨st_ql (y := aL_ 3 (pt_ b2 1) H3) (by kernel_rfl) (r6.l_) (st_nil), ?_⟩
 obtain ⟨y15, hy16, r17⟩ := bs_ r12
 refine dk_ (c_witness_Bounds_1 e4.wf hy16) ?_
 rintro _ _ ⟨rfl, rfl⟩
 refine ⟨st_anc (by kernel_rfl) (st_nil), ?_⟩
 refine e_' (i_ y10) (e_' (i_ y15) ?_)
 refine d_nil ?_
 refine k9 _ _ ?_
 refine w_ret ?_
 refine br_ [i_ y10, i_ y15] ?_
 obtain rfl := oi_ r17
 exact ⟨rfl, ((f0_ wf).extR e4)⟩
theorem c_slices_Clone {H : AH} {hd_s : Value} {fp_s : Fp} {s : List (Int × Int × Int)} {r : List (Int × Int × Int)}
    (wf : WF H) (h_s : Sq enc_i64_u64_i64 3 H hd_s s fp_s) (hr : z_slices_Clone s = some r) :
    ACalls Try.prog 46 #[hd_s] H fun v H' => ∃ (s3 : Value) (f4 : Fp), v = s3 /\ FrS [] H H' /\ Ow enc_i64_u64_i64 3 H' s3 r f4 /\ Inn [] H f4 := by
 refine ab_ Try.func46 ?_
 unfold z_slices_Clone at hr
 refine sq_ fun k6 => g_' (q_ (.slice none 0 0) (s_nil (k6 _ _ (sq_ fun k7 => sq_ fun k8 => g_' (q_ (hd_s) ?_)))))
 rcases Sq.nilOr h_s with ⟨rfl, rfl⟩ | ⟨a9, n10, c11, rfl⟩
 ·refine q_ (.bool true) (s_nil (k8 _ _ ?_))
  refine wb_ true (fun _ => ?_) fun h => by cases h
  refine sq_ fun k12 => g_' (q_ (.slice none 0 0) (s_nil (k12 _ _ ?_)))
  refine w_ret (th_ret ?_)
  refine br_ [.slice none 0 0] ?_
  have hn_ : some ([] : List (Int × Int × Int)) = some r := by simpa [G] using hr
  obtain rfl := oi_ hn_
  exact ⟨(.slice none 0 0), [], rfl, (f0_ wf), (Ow.nil (by decide)), in_⟩
 refine q_ (.bool false) (s_nil (k8 _ _ ?_))
 refine wb_ false (fun h => by cases h) fun _ => ?_
 refine w_skip (k7 _ _ (sq_ fun k13 => g_' ?_))
 refine s_owk (enc := enc_i64_u64_i64) (sz := 3) wf ([] : List (Int × Int × Int)) 0 (by decide) (fun _ _ => rfl) (fun _ _ => rfl) rfl (by kernel_rfl) fun s14 f15 H16 e17 hf18 hm19 => ?_
 obtain ⟨a20, n21, c22, rfl⟩ := hm19.form
 refine q_ (.slice (some a9) n10 c11) ?_
 obtain ⟨g24, r25⟩ := G_some hr
 have u33 := (h_s.ext e17)
 obtain ⟨s26, H27, f28, q32, e29, hm30, hf31⟩ := Ow.append (P := Try.prog) 24 e17.wf hm19 u33 (fun _ _ => rfl) (at_ := #[69, 69]) rfl rfl (by kernel_rfl) (by kernel_rfl) (by decide) (by have := g24; first | omega | (simp only [List.length_cons, List.length_nil] at this ⊢; omega) | (simp at this ⊢; omega))
 obtain ⟨a34, n35, c36, rfl⟩ := hm30.form
 refine s_ek (.slice a34 n35 c36) (by kernel_rfl) (q32) ?_
 refine q_ (.slice a34 n35 c36) (s_nil (k13 _ _ ?_))
 refine w_ret ?_
 refine br_ [.slice a34 n35 c36] ?_
 obtain rfl := oi_ r25
 exact ⟨(.slice a34 n35 c36), f28, rfl, (fs_ wf ((f0_ wf).extR e17) e29 (hf18.fresh (Nat.le_refl _))), hm30, (Inn.trans (hf18.fresh (Nat.le_refl _)) e17.n hf31)⟩
theorem c_overlay_Overlay_Out {H : AH} {b_o : Nat} {hd_o_ : Value} {fp_o_ : Fp} {o_ : List (Bool × List (Int × Int × Int) × List (Int × Int × Int))} {o_2 : Int} {o_3 : Int} {v_ : Int} {r : List (Int × Int × Int)}
    (wf : WF H) (h_o_ : Nd enc_i64_u64_i64 3 H hd_o_ o_ fp_o_ []) (h_o : Row H b_o [hd_o_, i_ o_2, i_ o_3]) (hr : z_overlay_Overlay_Out o_ o_2 o_3 v_ = some r) :
    ACalls Try.prog 26 #[pt_ b_o 0, i_ v_] H fun v H' => ∃ (s3 : Value) (f4 : Fp), v = s3 /\ FrS [] H H' /\ Ow enc_i64_u64_i64 3 H' s3 r f4 /\ Inn [] H f4 := by
 refine ab_ Try.func26 ?_
 unfold z_overlay_Overlay_Out at hr
 refine sq_ fun k6 => g_' (q_ (.slice none 0 0) (s_nil (k6 _ _ (sq_ fun k7 => sq_ fun k8 => g_' (q_ (pt_ b_o 0) (q_ (i_ v_) ?_))))))
 obtain ⟨y9, hy10, r11⟩ := bs_ hr
 refine ck_ (c_overlay_Overlay_Alive wf h_o_ h_o hy10) ?_
 rintro _ _ ⟨rfl, rfl⟩
 refine q_ (.bool (!y9)) (s_nil (k8 _ _ ?_))
 refine wb_ ((!y9)) (fun h14 => ?_) fun h14 => ?_
 ·have r15 := ite_t h14 r11
  refine sq_ fun k16 => g_' (q_ (.slice none 0 0) (s_nil (k16 _ _ ?_)))
  refine w_ret (th_ret ?_)
  refine br_ [.slice none 0 0] ?_
  obtain rfl := oi_ r15
  exact ⟨(.slice none 0 0), [], rfl, (f0_ wf), (Ow.nil (by decide)), in_⟩
 have r17 := ite_bf h14 r11
 refine w_skip (k7 _ _ (sq_ fun k18 => g_' (q_ (pt_ b_o 0) (q_ (pt_ b_o 0) (q_ (pt_ b_o 0) (lr_ 114 0 (hd_o_) h_o (q_ (i_ v_) ?_)))))))
 obtain ⟨g19, r20⟩ := G_some r17
 refine h_o_.ix_ 114 g19.1 g19.2 (l_' (elp hd_o_ 3 v_.toNat 1) (aFieldAddr Try.prog 120 (elp hd_o_ 3 v_.toNat 0) 1) (Nd.fldq (d := 1) h_o_ g19.1 g19.2 (by kernel_rfl)) ?_)
 obtain ⟨u21, u22, hl23, hk24⟩ := Nd.at h_o_ g19.1 g19.2
 have kd25 : KdS enc_i64_u64_i64 3 H u21 ((gt o_ v_).2.1) fp_o_ hd_o_ 3 v_.toNat 1 := hk24 false (by simp)
 obtain ⟨a26, n27, c28, rfl⟩ := kd25.sq.form
 refine l_' (.slice a26 n27 c28) (aL_ 69 (elp hd_o_ 3 v_.toNat 1) H) (hl23 _ _ _ _ (by kernel_rfl)) ?_
 obtain ⟨y30, hy31, r32⟩ := bs_ r20
 refine ck_ (c_slices_Clone wf kd25.sq hy31) ?_
 rintro s33 H35 ⟨_, f34, rfl, e36, m37, i38⟩
 obtain ⟨a40, n41, c42, rfl⟩ := m37.form
 refine q_ (.slice a40 n41 c42) (s_nil (k18 _ _ ?_))
 refine w_ret ?_
 refine br_ [.slice a40 n41 c42] ?_
 obtain rfl := oi_ r32
 exact ⟨(.slice a40 n41 c42), f34, rfl, (fs_ wf (f0_ wf) e36 in_), m37, (i38.fresh (Nat.le_refl _))⟩
theorem c_overlay_Overlay_In {H : AH} {b_o : Nat} {hd_o_ : Value} {fp_o_ : Fp} {o_ : List (Bool × List (Int × Int × Int) × List (Int × Int × Int))} {o_2 : Int} {o_3 : Int} {v_ : Int} {r : List (Int × Int × Int)}
    (wf : WF H) (h_o_ : Nd enc_i64_u64_i64 3 H hd_o_ o_ fp_o_ []) (h_o : Row H b_o [hd_o_, i_ o_2, i_ o_3]) (hr : z_overlay_Overlay_In o_ o_2 o_3 v_ = some r) :
    ACalls Try.prog 41 #[pt_ b_o 0, i_ v_] H fun v H' => ∃ (s3 : Value) (f4 : Fp), v = s3 /\ FrS [] H H' /\ Ow enc_i64_u64_i64 3 H' s3 r f4 /\ Inn [] H f4 := by
 refine ab_ Try.func41 ?_
 unfold z_overlay_Overlay_In at hr
 refine sq_ fun k6 => g_' (q_ (.slice none 0 0) (s_nil (k6 _ _ (sq_ fun k7 => sq_ fun k8 => g_' (q_ (pt_ b_o 0) (q_ (i_ v_) ?_))))))
 obtain ⟨y9, hy10, r11⟩ := bs_ hr
 refine ck_ (c_overlay_Overlay_Alive wf h_o_ h_o hy10) ?_
 rintro _ _ ⟨rfl, rfl⟩
 refine q_ (.bool (!y9)) (s_nil (k8 _ _ ?_))
 refine wb_ ((!y9)) (fun h14 => ?_) fun h14 => ?_
 ·have r15 := ite_t h14 r11
  refine sq_ fun k16 => g_' (q_ (.slice none 0 0) (s_nil (k16 _ _ ?_)))
  refine w_ret (th_ret ?_)
  refine br_ [.slice none 0 0] ?_
  obtain rfl := oi_ r15
  exact ⟨(.slice none 0 0), [], rfl, (f0_ wf), (Ow.nil (by decide)), in_⟩
 have r17 := ite_bf h14 r11
 refine w_skip (k7 _ _ (sq_ fun k18 => g_' (q_ (pt_ b_o 0) (q_ (pt_ b_o 0) (q_ (pt_ b_o 0) (lr_ 114 0 (hd_o_) h_o (q_ (i_ v_) ?_)))))))
 obtain ⟨g19, r20⟩ := G_some r17
 refine h_o_.ix_ 114 g19.1 g19.2 (l_' (elp hd_o_ 3 v_.toNat 2) (aFieldAddr Try.prog 120 (elp hd_o_ 3 v_.toNat 0) 2) (Nd.fldq (d := 2) h_o_ g19.1 g19.2 (by kernel_rfl)) ?_)
 obtain ⟨u21, u22, hl23, hk24⟩ := Nd.at h_o_ g19.1 g19.2
 have kd25 : KdS enc_i64_u64_i64 3 H u22 ((gt o_ v_).2.2) fp_o_ hd_o_ 3 v_.toNat 2 := hk24 true (by simp)
 obtain ⟨a26, n27, c28, rfl⟩ := kd25.sq.form
 refine l_' (.slice a26 n27 c28) (aL_ 69 (elp hd_o_ 3 v_.toNat 2) H) (hl23 _ _ _ _ (by kernel_rfl)) ?_
 obtain ⟨y30, hy31, r32⟩ := bs_ r20
 refine ck_ (c_slices_Clone wf kd25.sq hy31) ?_
 rintro s33 H35 ⟨_, f34, rfl, e36, m37, i38⟩
 obtain ⟨a40, n41, c42, rfl⟩ := m37.form
 refine q_ (.slice a40 n41 c42) (s_nil (k18 _ _ ?_))
 refine w_ret ?_
 refine br_ [.slice a40 n41 c42] ?_
 obtain rfl := oi_ r32
 exact ⟨(.slice a40 n41 c42), f34, rfl, (fs_ wf (f0_ wf) e36 in_), m37, (i38.fresh (Nat.le_refl _))⟩
theorem c_witness_queue_Push {H : AH} {b_q : Nat} {b_q_ : Nat} {hd_q_2 : Value} {fp_q_2 : Fp} {hd_q_7 : Value} {fp_q_7 : Fp} {b_q_8 : Nat} {q_2 : List (Bool × List (Int × Int × Int) × List (Int × Int × Int))} {q_3 : Int} {q_4 : Int} {q_5 : Int} {q_6 : Int} {q_7 : List (Int × Int)} {q_8 : Int -> Option (Int × Int × Int)} {dist : Int} {node : Int} {r : List (Int × Int)}
    (wf : WF H) (h_q_2 : Nd enc_i64_u64_i64 3 H hd_q_2 q_2 fp_q_2 []) (h_q_ : Row H b_q_ [hd_q_2, i_ q_3, i_ q_4]) (h_q_7 : Ow enc_u64_i64 2 H hd_q_7 q_7 fp_q_7) (h_q_8 : Ms .i64 enc_u64_i64_i64 H b_q_8 q_8) (h_q : Row H b_q [pt_ b_q_ 0, i_ q_5, i_ q_6, hd_q_7, .map (some b_q_8)]) (dj_fp_q_7_b_q : Dj fp_q_7 [b_q]) (hr : z_witness_queue_Push q_2 q_3 q_4 q_5 q_6 q_7 q_8 dist node = some r) :
    ACalls Try.prog 126 #[pt_ b_q 3, .iface 152 (.agg #[.int .u64 dist, i_ node])] H fun v H' => ∃ (s3 : Value) (f4 : Fp), v = .tuple #[] /\ FrS ([b_q] ++ fp_q_7) H H' /\ Ow enc_u64_i64 2 H' s3 r f4 /\ Row H' b_q [pt_ b_q_ 0, i_ q_5, i_ q_6, s3, .map (some b_q_8)] /\ Inn fp_q_7 H f4 := by
 refine ab_ Try.func126 ?_
 unfold z_witness_queue_Push at hr
 refine w_draw [0, 1, 2, 3, 4, 5, 6, 7, 8, 9] (by kernel_rfl) ?_
 refine e_' (pt_ b_q 3) (e_' (pt_ b_q 3) (e_' (pt_ b_q 3) (mr_ 96 3 (hd_q_7) h_q (e_' (.iface 152 (.agg #[.int .u64 dist, i_ node])) (e_' (.agg #[.int .u64 dist, i_ node]) ?_)))))
 refine d_owk (enc := enc_u64_i64) (sz := 2) wf [(dist, node)] 1 (by decide) (fun _ _ => rfl) (fun _ _ => rfl) rfl (by kernel_rfl) fun s8 f9 H10 e11 hf12 hm13 => ?_
 obtain ⟨a14, n15, c16, rfl⟩ := hm13.form
 have u18 := (h_q_7.ext e11)
 obtain ⟨g19, r20⟩ := G_some hr
 obtain ⟨s21, H22, f23, q27, e24, hm25, hf26⟩ := Ow.append (P := Try.prog) 16 e11.wf u18 hm13.sq (fun _ _ => rfl) (at_ := #[96, 96]) rfl rfl (by kernel_rfl) (by kernel_rfl) (by decide) (by have := g19; first | omega | (simp only [List.length_cons, List.length_nil] at this ⊢; omega) | (simp at this ⊢; omega))
 obtain ⟨a28, n29, c30, rfl⟩ := hm25.form
 refine d_ek (.slice a28 n29 c30) (by kernel_rfl) (q27) (st_nil) ?_
 refine e_' (pt_ b_q 3) ?_
 have u36 := ((h_q.ext e11).frS e24 dj_fp_q_7_b_q)
 obtain ⟨H32, q33, e34, r35⟩ := rb_ 96 3 e24.wf u36 (.slice a28 n29 c30) [pt_ b_q_ 0, i_ q_5, i_ q_6, .slice a28 n29 c30, .map (some b_q_8)]
 refine fk_ q33 (st_nil) ?_
 refine d_nil ?_
 refine b_nrm (vs := []) (rfl) ?_
 have d37 := (hf26.dj dj_fp_q_7_b_q (h_q.ltF.le e11.n))
 have u38 := (hm25.fr e34 (Dj.symm d37))
 obtain rfl := oi_ r20
 exact ⟨(.slice a28 n29 c30), f23, rfl, (fs_ wf (fs_ wf ((fr_ wf).extR e11) e24 (Inn.right ir_)) e34 Inn.left), u38, r35, (Inn.trans ir_ e11.n hf26)⟩
theorem c_witness_queue_Len {H : AH} {hd_q : Value} {fp_q : Fp} {q : List (Int × Int)} {r : Int}
    (wf : WF H) (h_q : Sq enc_u64_i64 2 H hd_q q fp_q) (hr : z_witness_queue_Len q = some r) :
    ACalls Try.prog 121 #[hd_q] H fun v H' => v = i_ r /\ H = H' := by
 refine ab_ Try.func121 ?_
 unfold z_witness_queue_Len at hr
 refine sq_ fun k1 => g_' (q_ (i_ 0) (s_nil (k1 _ _ (sq_ fun k2 => g_' (q_ (hd_q) (h_q.ln_ 96 (q_ (i_ (q.length : Int)) (s_nil (k2 _ _ ?_)))))))))
 refine w_ret ?_
 refine br_ [i_ (q.length : Int)] ?_
 obtain rfl := oi_ hr
 exact ⟨rfl, rfl⟩
theorem c_witness_queue_Less {H : AH} {hd_q : Value} {fp_q : Fp} {q : List (Int × Int)} {i : Int} {j : Int} {r : Bool}
    (wf : WF H) (h_q : Sq enc_u64_i64 2 H hd_q q fp_q) (hr : z_witness_queue_Less q i j = some r) :
    ACalls Try.prog 122 #[hd_q, i_ i, i_ j] H fun v H' => v = .bool r /\ H = H' := by
 refine ab_ Try.func122 ?_
 unfold z_witness_queue_Less at hr
 refine sq_ fun k1 => g_' (q_ (.bool false) (s_nil (k1 _ _ (sq_ fun k2 => ?_))))
 refine w_draw [0, 1, 2, 3, 4, 5, 6, 7, 8, 9, 10, 11, 12, 13, 14, 15, 16, 17, 18, 19, 20, 21, 22, 23, 24, 25, 26, 27, 28, 29, 30, 31, 32, 33, 34, 35, 36, 37] (by kernel_rfl) ?_
 refine e_' (hd_q) (e_' (i_ i) ?_)
 obtain ⟨g3, r4⟩ := G_some hr
 refine h_q.mx_ 96 g3.1 g3.2 (m_' (elp hd_q 2 i.toNat 0) (aFieldAddr Try.prog 152 (elp hd_q 2 i.toNat 0) 0) (Sq.fldq (d := 0) h_q g3.1 g3.2 (by kernel_rfl)) (me_ 27 0 (.int .u64 ((gt q i).1)) h_q g3.1 g3.2 (e_' (hd_q) (e_' (i_ j) ?_))))
 obtain ⟨g5, r6⟩ := G_some r4
 refine h_q.mx_ 96 g5.1 g5.2 (m_' (elp hd_q 2 j.toNat 0) (aFieldAddr Try.prog 152 (elp hd_q 2 j.toNat 0) 0) (Sq.fldq (d := 0) h_q g5.1 g5.2 (by kernel_rfl)) (me_ 27 0 (.int .u64 ((gt q j).1)) h_q g5.1 g5.2 ?_))
 refine db_ (((gt q i).1) < ((gt q j).1)) (fun h7 => ?_) fun h7 => ?_
 ·have r8 := ite_t h7 r6
  refine e_' (.bool true) (j_' (j_' (j_' (j_' (j_' (j_' (j_' (j_' (j_' (j_' (j_' (j_' (j_' (j_' (j_' (j_' (j_' (j_' (j_' (j_' (j_' (j_' (j_' (j_' (e_' (.bool true) (e_' (.bool true) ?_))))))))))))))))))))))))))
  refine d_nil ?_
  refine k2 _ _ ?_
  refine w_ret ?_
  refine br_ [.bool true] ?_
  obtain rfl := oi_ r8
  exact ⟨rfl, rfl⟩
 have r9 := ite_f h7 r6
 refine e_' (.bool false) (e_' (hd_q) (e_' (i_ i) (h_q.mx_ 96 g3.1 g3.2 (m_' (elp hd_q 2 i.toNat 0) (aFieldAddr Try.prog 152 (elp hd_q 2 i.toNat 0) 0) (Sq.fldq (d := 0) h_q g3.1 g3.2 (by kernel_rfl)) (me_ 27 0 (.int .u64 ((gt q i).1)) h_q g3.1 g3.2 (e_' (hd_q) (e_' (i_ j) (h_q.mx_ 96 g5.1 g5.2 (m_' (elp hd_q 2 j.toNat 0) (aFieldAddr Try.prog 152 (elp hd_q 2 j.toNat 0) 0) (Sq.fldq (d := 0) h_q g5.1 g5.2 (by kernel_rfl)) (me_ 27 0 (.int .u64 ((gt q j).1)) h_q g5.1 g5.2 ?_))))))))))
 refine db_ (((gt q i).1) = ((gt q j).1)) (fun h10 => ?_) fun h10 => ?_
 ·have r11 := ite_t h10 r9
  refine e_' (.bool true) (e_' (hd_q) (e_' (i_ i) (h_q.mx_ 96 g3.1 g3.2 (m_' (elp hd_q 2 i.toNat 1) (aFieldAddr Try.prog 152 (elp hd_q 2 i.toNat 0) 1) (Sq.fldq (d := 1) h_q g3.1 g3.2 (by kernel_rfl)) (me_ 3 1 (i_ ((gt q i).2)) h_q g3.1 g3.2 (e_' (hd_q) (e_' (i_ j) (h_q.mx_ 96 g5.1 g5.2 (m_' (elp hd_q 2 j.toNat 1) (aFieldAddr Try.prog 152 (elp hd_q 2 j.toNat 0) 1) (Sq.fldq (d := 1) h_q g5.1 g5.2 (by kernel_rfl)) (me_ 3 1 (i_ ((gt q j).2)) h_q g5.1 g5.2 (e_' (.bool (decide (((gt q i).2) < ((gt q j).2)))) (e_' (.bool (decide (((gt q i).2) < ((gt q j).2)))) (e_' (.bool (decide (((gt q i).2) < ((gt q j).2)))) (e_' (.bool (decide (((gt q i).2) < ((gt q j).2)))) ?_))))))))))))))
  refine d_nil ?_
  refine k2 _ _ ?_
  refine w_ret ?_
  refine br_ [.bool (decide (((gt q i).2) < ((gt q j).2)))] ?_
  obtain rfl := oi_ r11
  exact ⟨rfl, rfl⟩
 have r12 := ite_f h10 r9
 refine e_' (.bool false) (j_' (j_' (j_' (j_' (j_' (j_' (j_' (j_' (j_' (j_' (j_' (e_' (.bool false) (e_' (.bool false) (e_' (.bool false) ?_))))))))))))))
 refine d_nil ?_
 refine k2 _ _ ?_
 refine w_ret ?_
 refine br_ [.bool false] ?_
 obtain rfl := oi_ r12
 exact ⟨rfl, rfl⟩
theorem c_witness_queue_Swap {H : AH} {hd_q : Value} {fp_q : Fp} {q : List (Int × Int)} {i : Int} {j : Int} {r : List (Int × Int)}
    (wf : WF H) (h_q : Ow enc_u64_i64 2 H hd_q q fp_q) (hr : z_witness_queue_Swap q i j = some r) :
    ACalls Try.prog 123 #[hd_q, i_ i, i_ j] H fun v H' => v = .tuple #[] /\ FrS fp_q H H' /\ Ow enc_u64_i64 2 H' hd_q r fp_q := by
 refine ab_ Try.func123 ?_
 unfold z_witness_queue_Swap at hr
 refine w_draw [0, 1, 2, 3, 4, 5, 6, 7, 8, 9, 10, 11, 12, 13, 14, 15] (by kernel_rfl) ?_
 refine e_' (hd_q) (e_' (i_ i) (e_' (hd_q) (e_' (i_ j) (e_' (hd_q) (e_' (i_ j) ?_)))))
 obtain ⟨g3, r4⟩ := G_some hr
 refine h_q.sq.mx_ 96 g3.1 g3.2 (me_ 152 0 (.agg #[.int .u64 ((gt q j).1), i_ ((gt q j).2)]) h_q.sq g3.1 g3.2 (e_' (hd_q) (e_' (i_ i) ?_)))
 obtain ⟨g5, r6⟩ := G_some r4
 refine h_q.sq.mx_ 96 g5.1 g5.2 (me_ 152 0 (.agg #[.int .u64 ((gt q i).1), i_ ((gt q i).2)]) h_q.sq g5.1 g5.2 (h_q.sq.mx_ 96 g5.1 g5.2 ?_))
 obtain ⟨H7, q8, e9, hm10⟩ := Ow.store (P := Try.prog) (t := 152) (off := 0) wf h_q g5.1 g5.2 (.agg #[.int .u64 ((gt q j).1), i_ ((gt q j).2)]) [.int .u64 ((gt q j).1), i_ ((gt q j).2)] (by kernel_rfl) (by kernel_rfl) rfl ((gt q j).1, (gt q j).2) (Nat.le_of_ble_eq_true rfl) (by kernel_rfl)
 refine fk_ q8 (st_nil) ?_
 obtain ⟨g11, r12⟩ := G_some r6
 refine hm10.sq.mx_ 96 g3.1 g11 ?_
 obtain ⟨H13, q14, e15, hm16⟩ := Ow.store (P := Try.prog) (t := 152) (off := 0) e9.wf hm10 g3.1 g11 (.agg #[.int .u64 ((gt q i).1), i_ ((gt q i).2)]) [.int .u64 ((gt q i).1), i_ ((gt q i).2)] (by kernel_rfl) (by kernel_rfl) rfl ((gt q i).1, (gt q i).2) (Nat.le_of_ble_eq_true rfl) (by kernel_rfl)
 refine fk_ q14 (st_nil) ?_
 refine d_nil ?_
 refine b_nrm (vs := []) (rfl) ?_
 obtain rfl := oi_ r12
 exact ⟨rfl, (fs_ wf (fs_ wf (fr_ wf) e9 ir_) e15 ir_), hm16⟩
theorem c_container_heap_up {H : AH} {b_h : Nat} {b_h_ : Nat} {hd_h_2 : Value} {fp_h_2 : Fp} {hd_h_7 : Value} {fp_h_7 : Fp} {b_h_8 : Nat} {h_2 : List (Bool × List (Int × Int × Int) × List (Int × Int × Int))} {h_3 : Int} {h_4 : Int} {h_5 : Int} {h_6 : Int} {h_7 : List (Int × Int)} {h_8 : Int -> Option (Int × Int × Int)} {j : Int} {r : List (Int × Int)}
    (wf : WF H) (h_h_2 : Nd enc_i64_u64_i64 3 H hd_h_2 h_2 fp_h_2 []) (h_h_ : Row H b_h_ [hd_h_2, i_ h_3, i_ h_4]) (h_h_7 : Ow enc_u64_i64 2 H hd_h_7 h_7 fp_h_7) (h_h_8 : Ms .i64 enc_u64_i64_i64 H b_h_8 h_8) (h_h : Row H b_h [pt_ b_h_ 0, i_ h_5, i_ h_6, hd_h_7, .map (some b_h_8)]) (dj_fp_h_7_b_h : Dj fp_h_7 [b_h]) (hr : z_container_heap_up h_2 h_3 h_4 h_5 h_6 h_7 h_8 j = some r) :
    ACalls Try.prog 79 #[.iface 150 (pt_ b_h 3), i_ j] H fun v H' => v = .tuple #[] /\ FrS fp_h_7 H H' /\ Ow enc_u64_i64 2 H' hd_h_7 r fp_h_7 := by
 refine ab_ Try.func79 ?_
 unfold z_container_heap_up at hr
 obtain ⟨o3, hx4, r5⟩ := bs_ hr
 refine w_mid (fun α H6 => Has α [] /\ FrS fp_h_7 H H6 /\ Ow enc_u64_i64 2 H6 hd_h_7 o3 fp_h_7) (fun _ k10 => ?_) (fun α H6 hM => ?_)
 ·refine w_block ?_
  obtain ⟨n12, hn13⟩ := loopO_iff.1 hx4
  refine w_loopn (fun n α H14 => ∃ (h0 : List (Int × Int)), ∃ (j1 : Int), iterO (fun zz_ => z_container_heap_up_l0 zz_.1 zz_.2) n (h0, j1) = some o3 /\ Has α [(0, .iface 150 (pt_ b_h 3)), (1, i_ j1)] /\ FrS fp_h_7 H H14 /\ Ow enc_u64_i64 2 H14 hd_h_7 h0 fp_h_7) n12 ⟨h_7, j, hn13, ha_, (fr_ wf), h_h_7⟩ ?_
  rintro n12 α H14 ⟨h0, j1, hi19, hh18, e15, m17⟩ K24 k24
  obtain ⟨n20, z21, rfl, hz22, hn23⟩ := iter_succ hi19
  obtain ⟨β, rfl⟩ := has_ex hh18
  clear hh18
  replace hz22 : z_container_heap_up_l0 h0 j1 = some z21 := hz22
  unfold z_container_heap_up_l0 at hz22
  refine w_block (sq_ fun k25 => g_' (q_ (i_ j1) ?_))
  obtain ⟨g26, r27⟩ := G_some hz22
  refine w_' ((j1 - 1)) (wrap64 g26) ?_
  obtain ⟨g28, r29⟩ := G_some r27
  refine w_' ((Int.tdiv (j1 - 1) 2)) (wrap64 g28) (q_ (i_ (Int.tdiv (j1 - 1) 2)) (s_nil (k25 _ _ (sq_ fun k30 => sq_ fun k31 => ?_))))
  obtain ⟨o32, hx33, r34⟩ := bs_ r29
  refine w_mid (fun α H35 => Has α [(0, .iface 150 (pt_ b_h 3)), (1, i_ j1), (4, i_ (Int.tdiv (j1 - 1) 2)), (17, .bool o32)] /\ H14 = H35) (fun _ k37 => ?_) (fun α H35 hM => ?_)
  ·refine g_' (q_ (i_ (Int.tdiv (j1 - 1) 2)) (q_ (i_ j1) ?_))
   refine sb_ ((Int.tdiv (j1 - 1) 2) = j1) (fun h39 => ?_) fun h39 => ?_
   ·have r40 := ite_t h39 hx33
    refine q_ (.bool true) (n_' (n_' (n_' (n_' (n_' (q_ (.bool true) (s_nil ?_)))))))
    obtain rfl := oi_ r40
    exact k37 _ _ ⟨ha_, rfl⟩
   have r41 := ite_f h39 hx33
   refine q_ (.bool false) (q_ (.iface 150 (pt_ b_h 3)) (q_ (i_ j1) (q_ (i_ (Int.tdiv (j1 - 1) 2)) ?_)))
   obtain ⟨y42, hy43, r44⟩ := bs_ r41
   have u45 := (h_h.frS e15 dj_fp_h_7_b_h)
   refine s_cl 122 96 ⟨b_h, 3, none⟩ #[i_ j1, i_ (Int.tdiv (j1 - 1) 2)] (hd_h_7) #[hd_h_7, i_ j1, i_ (Int.tdiv (j1 - 1) 2)] (by kernel_rfl) (by kernel_rfl) (u45.l_) (c_witness_queue_Less e15.wf m17.sq hy43) ?_
   rintro _ _ ⟨rfl, rfl⟩
   refine q_ (.bool (!y42)) (q_ (.bool (!y42)) (s_nil ?_))
   obtain rfl := oi_ r44
   exact k37 _ _ ⟨ha_, rfl⟩
  obtain ⟨hh38, rfl⟩ := hM
  obtain ⟨β, rfl⟩ := has_ex hh38
  clear hh38
  refine k31 _ _ ?_
  refine wb_ (o32) (fun h48 => ?_) fun h48 => ?_
  ·have r49 := ite_t h48 r34
   refine w_exit (th_exit (bl_ne (by decide) (th_exit (bl_eq ?_))))
   obtain rfl := oi_ r49
   obtain rfl := it_inr hn23
   exact k10 _ _ ⟨trivial, (fs_ wf (fr_ wf) e15 ir_), m17⟩
  have r50 := ite_bf h48 r34
  refine w_skip (k30 _ _ (sq_ fun k51 => g_' (q_ (.iface 150 (pt_ b_h 3)) (q_ (i_ (Int.tdiv (j1 - 1) 2)) (q_ (i_ j1) ?_)))))
  obtain ⟨y52, hy53, r54⟩ := bs_ r50
  have u55 := (h_h.frS e15 dj_fp_h_7_b_h)
  refine s_cl 123 96 ⟨b_h, 3, none⟩ #[i_ (Int.tdiv (j1 - 1) 2), i_ j1] (hd_h_7) #[hd_h_7, i_ (Int.tdiv (j1 - 1) 2), i_ j1] (by kernel_rfl) (by kernel_rfl) (u55.l_) (c_witness_queue_Swap e15.wf m17 hy53) ?_
  rintro _ H56 ⟨rfl, e57, m58⟩
  refine s_nil (k51 _ _ (g_' (q_ (i_ (Int.tdiv (j1 - 1) 2)) (q_ (i_ (Int.tdiv (j1 - 1) 2)) (s_nil ?_)))))
  obtain rfl := oi_ r54
  exact k24 n20 _ _ lt_ ⟨y52, (Int.tdiv (j1 - 1) 2), hn23, ha_, (fs_ wf (fs_ wf (fr_ wf) e15 ir_) e57 ir_), m58⟩
 obtain ⟨hh11, e7, m9⟩ := hM
 obtain ⟨β, rfl⟩ := has_ex hh11
 clear hh11
 refine b_nrm (vs := []) (rfl) ?_
 obtain rfl := oi_ r5
 exact ⟨rfl, (fs_ wf (fr_ wf) e7 ir_), m9⟩
end Go.Vd

/-! (KSd3) -/

set_option maxRecDepth 100000
set_option maxHeartbeats 4000000
set_option linter.unusedVariables false
namespace Go.Vd
open Go.Proofs
attribute [local irreducible] wpSeq wpOrd aWp
theorem c_container_heap_Push {H : AH} {b_h : Nat} {b_h_ : Nat} {hd_h_2 : Value} {fp_h_2 : Fp} {hd_h_7 : Value} {fp_h_7 : Fp} {b_h_8 : Nat} {h_2 : List (Bool × List (Int × Int × Int) × List (Int × Int × Int))} {h_3 : Int} {h_4 : Int} {h_5 : Int} {h_6 : Int} {h_7 : List (Int × Int)} {h_8 : Int -> Option (Int × Int × Int)} {dist : Int} {node : Int} {r : List (Int × Int)}
    (wf : WF H) (h_h_2 : Nd enc_i64_u64_i64 3 H hd_h_2 h_2 fp_h_2 []) (h_h_ : Row H b_h_ [hd_h_2, i_ h_3, i_ h_4]) (h_h_7 : Ow enc_u64_i64 2 H hd_h_7 h_7 fp_h_7) (h_h_8 : Ms .i64 enc_u64_i64_i64 H b_h_8 h_8) (h_h : Row H b_h [pt_ b_h_ 0, i_ h_5, i_ h_6, hd_h_7, .map (some b_h_8)]) (dj_fp_h_7_b_h : Dj fp_h_7 [b_h]) (dj_fp_h_7_fp_h_2 : Dj fp_h_7 fp_h_2) (dj_b_h_fp_h_2 : Dj [b_h] fp_h_2) (dj_fp_h_7_b_h_ : Dj fp_h_7 [b_h_]) (dj_b_h_b_h_ : Dj [b_h] [b_h_]) (dj_fp_h_7_b_h_8 : Dj fp_h_7 [b_h_8]) (dj_b_h_b_h_8 : Dj [b_h] [b_h_8]) (hr : z_container_heap_Push h_2 h_3 h_4 h_5 h_6 h_7 h_8 dist node = some r) :
    ACalls Try.prog 67 #[.iface 150 (pt_ b_h 3), .iface 152 (.agg #[.int .u64 dist, i_ node])] H fun v H' => ∃ (s3 : Value) (f4 : Fp), v = .tuple #[] /\ FrS ([b_h] ++ fp_h_7) H H' /\ Ow enc_u64_i64 2 H' s3 r f4 /\ Row H' b_h [pt_ b_h_ 0, i_ h_5, i_ h_6, s3, .map (some b_h_8)] /\ Inn fp_h_7 H f4 := by
 refine ab_ Try.func67 ?_
 unfold z_container_heap_Push at hr
 refine sq_ fun k8 => g_' (q_ (.iface 150 (pt_ b_h 3)) (q_ (.iface 152 (.agg #[.int .u64 dist, i_ node])) ?_))
 obtain ⟨y9, hy10, r11⟩ := bs_ hr
 refine ck_ (c_witness_queue_Push wf h_h_2 h_h_ h_h_7 h_h_8 h_h dj_fp_h_7_b_h hy10) ?_
 rintro _ H14 ⟨s12, f13, rfl, e15, m16, m17, i18⟩
 obtain ⟨a20, n21, c22, rfl⟩ := m16.form
 refine s_nil (k8 _ _ (g_' (q_ (.iface 150 (pt_ b_h 3)) (q_ (.iface 150 (pt_ b_h 3)) ?_))))
 obtain ⟨y23, hy24, r25⟩ := bs_ r11
 refine s_cl 121 96 ⟨b_h, 3, none⟩ #[] (.slice a20 n21 c22) #[.slice a20 n21 c22] (by kernel_rfl) (by kernel_rfl) (m17.l_) (c_witness_queue_Len e15.wf m16.sq hy24) ?_
 rintro _ _ ⟨rfl, rfl⟩
 obtain ⟨g28, r29⟩ := G_some r25
 refine w_' ((y23 - 1)) (wrap64 g28) ?_
 have u30 := (h_h_2.fr e15 (Dj.app dj_b_h_fp_h_2 dj_fp_h_7_fp_h_2))
 have u31 := (h_h_.frS e15 (Dj.app dj_b_h_b_h_ dj_fp_h_7_b_h_))
 have u32 := (h_h_8.frS e15 (Dj.app dj_b_h_b_h_8 dj_fp_h_7_b_h_8))
 have d33 := (i18.dj dj_fp_h_7_b_h h_h.ltF)
 obtain ⟨y34, hy35, r36⟩ := bs_ r29
 refine ck_ (c_container_heap_up e15.wf u30 u31 m16 u32 m17 d33 hy35) ?_
 rintro _ H37 ⟨rfl, e38, m39⟩
 refine s_nil ?_
 refine b_nrm (vs := []) (rfl) ?_
 have u40 := (m17.frS e38 d33)
 obtain rfl := oi_ r36
 exact ⟨(.slice a20 n21 c22), f13, rfl, (fs_ wf (fs_ wf (fr_ wf) e15 ir_) e38 (Inn.trans (Inn.right ir_) (Nat.le_refl _) i18)), m39, u40, (Inn.trans ir_ (Nat.le_refl _) i18)⟩
theorem c_witness_seek_set {H : AH} {b_s : Nat} {b_s_ : Nat} {hd_s_2 : Value} {fp_s_2 : Fp} {hd_s_7 : Value} {fp_s_7 : Fp} {b_s_8 : Nat} {s_2 : List (Bool × List (Int × Int × Int) × List (Int × Int × Int))} {s_3 : Int} {s_4 : Int} {s_5 : Int} {s_6 : Int} {s_7 : List (Int × Int)} {s_8 : Int -> Option (Int × Int × Int)} {v_ : Int} {dist : Int} {hops : Int} {settled : Int} {r : (Int -> Option (Int × Int × Int)) × List (Int × Int)}
    (wf : WF H) (h_s_2 : Nd enc_i64_u64_i64 3 H hd_s_2 s_2 fp_s_2 []) (h_s_ : Row H b_s_ [hd_s_2, i_ s_3, i_ s_4]) (h_s_7 : Ow enc_u64_i64 2 H hd_s_7 s_7 fp_s_7) (h_s_8 : Ms .i64 enc_u64_i64_i64 H b_s_8 s_8) (h_s : Row H b_s [pt_ b_s_ 0, i_ s_5, i_ s_6, hd_s_7, .map (some b_s_8)]) (dj_b_s_8_fp_s_2 : Dj [b_s_8] fp_s_2) (dj_b_s_8_b_s_ : Dj [b_s_8] [b_s_]) (dj_b_s_8_fp_s_7 : Dj [b_s_8] fp_s_7) (dj_b_s_8_b_s : Dj [b_s_8] [b_s]) (dj_fp_s_7_b_s : Dj fp_s_7 [b_s]) (dj_fp_s_7_fp_s_2 : Dj fp_s_7 fp_s_2) (dj_b_s_fp_s_2 : Dj [b_s] fp_s_2) (dj_fp_s_7_b_s_ : Dj fp_s_7 [b_s_]) (dj_b_s_b_s_ : Dj [b_s] [b_s_]) (hr : z_witness_seek_set s_2 s_3 s_4 s_5 s_6 s_7 s_8 v_ dist hops settled = some r) :
    ACalls Try.prog 53 #[pt_ b_s 0, i_ v_, .agg #[.int .u64 dist, i_ hops, i_ settled]] H fun v H' => ∃ (s5 : Value) (f6 : Fp), v = .tuple #[] /\ FrS ([b_s] ++ ([b_s_8] ++ fp_s_7)) H H' /\ Ms .i64 enc_u64_i64_i64 H' b_s_8 r.1 /\ Ow enc_u64_i64 2 H' s5 r.2 f6 /\ Row H' b_s [pt_ b_s_ 0, i_ s_5, i_ s_6, s5, .map (some b_s_8)] /\ Inn fp_s_7 H f6 := by
 refine ab_ Try.func53 ?_
 unfold z_witness_seek_set at hr
 refine sq_ fun k10 => g_' ?_
 refine rl_ wf [.int .u64 dist, i_ hops, i_ settled] fun b11 H12 e13 hb14 r15 => ?_
 refine s_nil (k10 _ _ (sq_ fun k17 => ?_))
 refine w_draw [0, 1, 2, 3, 4, 5, 6] (by kernel_rfl) ?_
 refine e_' (pt_ b_s 0) (e_' (pt_ b_s 0) (e_' (pt_ b_s 4) ?_))
 have u18 := (h_s.ext e13)
 refine mr_ 94 4 (.map (some b_s_8)) u18 (e_' (i_ v_) (mr_ 101 0 (.agg #[.int .u64 dist, i_ hops, i_ settled]) r15 ?_))
 have u23 := (h_s_8.ext e13)
 obtain ⟨H19, q21, e20, mp22⟩ := u23.put (P := Try.prog) e13.wf (t := 94) (zv := .agg #[.int .u64 0, i_ 0, i_ 0]) (val := .agg #[.int .u64 dist, i_ hops, i_ settled]) (by kernel_rfl) v_ (dist, hops, settled) rfl
 have e24 := e20.frS (W := [b_s_8]) (List.mem_singleton.2 rfl)
 refine fk_ q21 (st_nil) ?_
 refine d_nil ?_
 refine k17 _ _ ?_
 refine w_draw [0, 1, 2, 3, 4, 5, 6, 7, 8, 9] (by kernel_rfl) ?_
 refine e_' (pt_ b_s 0) (e_' (pt_ b_s 0) (e_' (pt_ b_s 3) (e_' (.iface 150 (pt_ b_s 3)) (e_' (pt_ b11 0) ?_))))
 have d25 := (hb14.djn h_s_8.ltF)
 have u26 := (r15.frS e24 (Dj.symm d25))
 refine mr_ 27 0 (.int .u64 dist) u26 (e_' (i_ v_) (e_' (.agg #[.int .u64 dist, i_ v_]) (e_' (.iface 152 (.agg #[.int .u64 dist, i_ v_])) ?_)))
 have u27 := ((h_s_2.ext e13).fr e24 dj_b_s_8_fp_s_2)
 have u28 := ((h_s_.ext e13).frS e24 dj_b_s_8_b_s_)
 have u29 := ((h_s_7.ext e13).fr e24 dj_b_s_8_fp_s_7)
 have u30 := (u18.frS e24 dj_b_s_8_b_s)
 obtain ⟨y31, hy32, r33⟩ := bs_ hr
 refine dk_ (c_container_heap_Push e24.wf u27 u28 u29 mp22 u30 dj_fp_s_7_b_s dj_fp_s_7_fp_s_2 dj_b_s_fp_s_2 dj_fp_s_7_b_s_ dj_b_s_b_s_ (Dj.symm dj_b_s_8_fp_s_7) (Dj.symm dj_b_s_8_b_s) hy32) ?_
 rintro _ H36 ⟨s34, f35, rfl, e37, m38, m39, i40⟩
 obtain ⟨a42, n43, c44, rfl⟩ := m38.form
 refine ⟨st_nil, ?_⟩
 refine d_nil ?_
 refine b_nrm (vs := []) (rfl) ?_
 have u45 := (mp22.frS e37 (Dj.app (Dj.symm dj_b_s_8_b_s) (Dj.symm dj_b_s_8_fp_s_7)))
 have n46 := (t_ e13.n e24.n)
 obtain rfl := oi_ r33
 exact ⟨(.slice a42 n43 c44), f35, rfl, (fs_ wf (fs_ wf ((fr_ wf).extR e13) e24 (Inn.right Inn.left)) e37 (Inn.app Inn.left (Inn.right (Inn.right ir_)))), u45, m38, m39, (Inn.trans ir_ n46 i40)⟩
theorem c_container_heap_down {H : AH} {b_h : Nat} {b_h_ : Nat} {hd_h_2 : Value} {fp_h_2 : Fp} {hd_h_7 : Value} {fp_h_7 : Fp} {b_h_8 : Nat} {h_2 : List (Bool × List (Int × Int × Int) × List (Int × Int × Int))} {h_3 : Int} {h_4 : Int} {h_5 : Int} {h_6 : Int} {h_7 : List (Int × Int)} {h_8 : Int -> Option (Int × Int × Int)} {i0 : Int} {n_ : Int} {r : Bool × List (Int × Int)}
    (wf : WF H) (h_h_2 : Nd enc_i64_u64_i64 3 H hd_h_2 h_2 fp_h_2 []) (h_h_ : Row H b_h_ [hd_h_2, i_ h_3, i_ h_4]) (h_h_7 : Ow enc_u64_i64 2 H hd_h_7 h_7 fp_h_7) (h_h_8 : Ms .i64 enc_u64_i64_i64 H b_h_8 h_8) (h_h : Row H b_h [pt_ b_h_ 0, i_ h_5, i_ h_6, hd_h_7, .map (some b_h_8)]) (dj_fp_h_7_b_h : Dj fp_h_7 [b_h]) (hr : z_container_heap_down h_2 h_3 h_4 h_5 h_6 h_7 h_8 i0 n_ = some r) :
    ACalls Try.prog 80 #[.iface 150 (pt_ b_h 3), i_ i0, i_ n_] H fun v H' => v = .bool r.1 /\ FrS fp_h_7 H H' /\ Ow enc_u64_i64 2 H' hd_h_7 r.2 fp_h_7 := by
 refine ab_ Try.func80 ?_
 unfold z_container_heap_down at hr
 refine sq_ fun k3 => g_' (q_ (.bool false) (s_nil (k3 _ _ (sq_ fun k4 => g_' (q_ (i_ i0) (q_ (i_ i0) (s_nil (k4 _ _ (sq_ fun k5 => ?_)))))))))
 obtain ⟨o6, hx7, r8⟩ := bs_ hr
 refine w_mid (fun α H9 => Has α [(1, i_ i0), (7, i_ o6.1)] /\ FrS fp_h_7 H H9 /\ Ow enc_u64_i64 2 H9 hd_h_7 o6.2 fp_h_7) (fun _ k13 => ?_) (fun α H9 hM => ?_)
 ·refine w_block ?_
  obtain ⟨n15, hn16⟩ := loopO_iff.1 hx7
  refine w_loopn (fun n α H17 => ∃ (h0 : List (Int × Int)), ∃ (i1 : Int), iterO (fun zz_ => z_container_heap_down_l0 n_ zz_.1 zz_.2) n (h0, i1) = some o6 /\ Has α [(0, .iface 150 (pt_ b_h 3)), (1, i_ i0), (2, i_ n_), (7, i_ i1)] /\ FrS fp_h_7 H H17 /\ Ow enc_u64_i64 2 H17 hd_h_7 h0 fp_h_7) n15 ⟨h_7, i0, hn16, ha_, (fr_ wf), h_h_7⟩ ?_
  rintro n15 α H17 ⟨h0, i1, hi22, hh21, e18, m20⟩ K27 k27
  obtain ⟨n23, z24, rfl, hz25, hn26⟩ := iter_succ hi22
  obtain ⟨β, rfl⟩ := has_ex hh21
  clear hh21
  replace hz25 : z_container_heap_down_l0 n_ h0 i1 = some z24 := hz25
  unfold z_container_heap_down_l0 at hz25
  refine w_block (sq_ fun k28 => g_' (q_ (i_ i1) ?_))
  obtain ⟨g29, r30⟩ := G_some hz25
  refine w_' ((2 * i1)) (wrap64 g29) ?_
  obtain ⟨g31, r32⟩ := G_some r30
  refine w_' (((2 * i1) + 1)) (wrap64 g31) (q_ (i_ ((2 * i1) + 1)) (s_nil (k28 _ _ (sq_ fun k33 => sq_ fun k34 => ?_))))
  obtain ⟨o35, hx36, r37⟩ := bs_ r32
  refine w_mid (fun α H38 => Has α [(0, .iface 150 (pt_ b_h 3)), (1, i_ i0), (2, i_ n_), (7, i_ i1), (8, i_ ((2 * i1) + 1)), (21, .bool o35)] /\ H17 = H38) (fun _ k40 => ?_) (fun α H38 hM => ?_)
  ·refine g_' (q_ (i_ ((2 * i1) + 1)) (q_ (i_ n_) ?_))
   refine sb_ (((2 * i1) + 1) ≥ n_) (fun h42 => ?_) fun h42 => ?_
   ·have r43 := ite_t h42 hx36
    refine q_ (.bool true) (n_' (n_' (q_ (.bool true) (s_nil ?_))))
    obtain rfl := oi_ r43
    exact k40 _ _ ⟨ha_, rfl⟩
   have r44 := ite_f h42 hx36
   refine q_ (.bool false) (q_ (i_ ((2 * i1) + 1)) (q_ (.bool (decide (((2 * i1) + 1) < 0))) (q_ (.bool (decide (((2 * i1) + 1) < 0))) (s_nil ?_))))
   obtain rfl := oi_ r44
   exact k40 _ _ ⟨ha_, rfl⟩
  obtain ⟨hh41, rfl⟩ := hM
  obtain ⟨β, rfl⟩ := has_ex hh41
  clear hh41
  refine k34 _ _ ?_
  refine wb_ (o35) (fun h45 => ?_) fun h45 => ?_
  ·have r46 := ite_t h45 r37
   refine w_exit (th_exit (bl_ne (by decide) (th_exit (bl_eq ?_))))
   obtain rfl := oi_ r46
   obtain rfl := it_inr hn26
   exact k13 _ _ ⟨ha_, (fs_ wf (fr_ wf) e18 ir_), m20⟩
  have r47 := ite_bf h45 r37
  refine w_skip (k33 _ _ (sq_ fun k48 => g_' (q_ (i_ ((2 * i1) + 1)) (q_ (i_ ((2 * i1) + 1)) (s_nil (k48 _ _ (sq_ fun k49 => sq_ fun k50 => g_' (q_ (i_ ((2 * i1) + 1)) ?_))))))))
  obtain ⟨g51, r52⟩ := G_some r47
  refine w_' ((((2 * i1) + 1) + 1)) (wrap64 g51) (q_ (i_ (((2 * i1) + 1) + 1)) (s_nil (k50 _ _ (sq_ fun k53 => ?_))))
  obtain ⟨o54, hx55, r56⟩ := bs_ r52
  refine w_mid (fun α H57 => Has α [(0, .iface 150 (pt_ b_h 3)), (1, i_ i0), (2, i_ n_), (7, i_ i1), (9, i_ ((2 * i1) + 1)), (10, i_ (((2 * i1) + 1) + 1)), (33, .bool o54)] /\ H17 = H57) (fun _ k59 => ?_) (fun α H57 hM => ?_)
  ·refine g_' (q_ (i_ (((2 * i1) + 1) + 1)) (q_ (i_ n_) ?_))
   refine sb_ ((((2 * i1) + 1) + 1) < n_) (fun h61 => ?_) fun h61 => ?_
   ·have r62 := ite_t h61 hx55
    refine q_ (.bool true) (q_ (.iface 150 (pt_ b_h 3)) (q_ (i_ (((2 * i1) + 1) + 1)) (q_ (i_ ((2 * i1) + 1)) ?_)))
    obtain ⟨y63, hy64, r65⟩ := bs_ r62
    have u66 := (h_h.frS e18 dj_fp_h_7_b_h)
    refine s_cl 122 96 ⟨b_h, 3, none⟩ #[i_ (((2 * i1) + 1) + 1), i_ ((2 * i1) + 1)] (hd_h_7) #[hd_h_7, i_ (((2 * i1) + 1) + 1), i_ ((2 * i1) + 1)] (by kernel_rfl) (by kernel_rfl) (u66.l_) (c_witness_queue_Less e18.wf m20.sq hy64) ?_
    rintro _ _ ⟨rfl, rfl⟩
    refine q_ (.bool y63) (s_nil ?_)
    obtain rfl := oi_ r65
    exact k59 _ _ ⟨ha_, rfl⟩
   have r69 := ite_f h61 hx55
   refine q_ (.bool false) (n_' (n_' (n_' (n_' (q_ (.bool false) (s_nil ?_))))))
   obtain rfl := oi_ r69
   exact k59 _ _ ⟨ha_, rfl⟩
  obtain ⟨hh60, rfl⟩ := hM
  obtain ⟨β, rfl⟩ := has_ex hh60
  clear hh60
  refine k53 _ _ ?_
  obtain ⟨o70, hx71, r72⟩ := bs_ r56
  refine w_mid (fun α H73 => Has α [(0, .iface 150 (pt_ b_h 3)), (1, i_ i0), (2, i_ n_), (7, i_ i1), (9, i_ o70)] /\ H17 = H73) (fun _ k75 => ?_) (fun α H73 hM => ?_)
  ·refine wb_ (o54) (fun h77 => ?_) fun h77 => ?_
   ·have r78 := ite_t h77 hx71
    refine g_' (q_ (i_ (((2 * i1) + 1) + 1)) (q_ (i_ (((2 * i1) + 1) + 1)) (s_nil ?_)))
    obtain rfl := oi_ r78
    exact k75 _ _ ⟨ha_, rfl⟩
   have r79 := ite_bf h77 hx71
   refine w_skip ?_
   obtain rfl := oi_ r79
   exact k75 _ _ ⟨ha_, rfl⟩
  obtain ⟨hh76, rfl⟩ := hM
  obtain ⟨β, rfl⟩ := has_ex hh76
  clear hh76
  refine k49 _ _ (sq_ fun k80 => sq_ fun k81 => g_' (q_ (.iface 150 (pt_ b_h 3)) (q_ (i_ o70) (q_ (i_ i1) ?_))))
  obtain ⟨y82, hy83, r84⟩ := bs_ r72
  have u85 := (h_h.frS e18 dj_fp_h_7_b_h)
  refine s_cl 122 96 ⟨b_h, 3, none⟩ #[i_ o70, i_ i1] (hd_h_7) #[hd_h_7, i_ o70, i_ i1] (by kernel_rfl) (by kernel_rfl) (u85.l_) (c_witness_queue_Less e18.wf m20.sq hy83) ?_
  rintro _ _ ⟨rfl, rfl⟩
  refine q_ (.bool (!y82)) (s_nil (k81 _ _ ?_))
  refine wb_ ((!y82)) (fun h88 => ?_) fun h88 => ?_
  ·have r89 := ite_t h88 r84
   refine w_exit (th_exit (bl_ne (by decide) (th_exit (bl_eq ?_))))
   obtain rfl := oi_ r89
   obtain rfl := it_inr hn26
   exact k13 _ _ ⟨ha_, (fs_ wf (fr_ wf) e18 ir_), m20⟩
  have r90 := ite_bf h88 r84
  refine w_skip (k80 _ _ (sq_ fun k91 => g_' (q_ (.iface 150 (pt_ b_h 3)) (q_ (i_ i1) (q_ (i_ o70) ?_)))))
  obtain ⟨y92, hy93, r94⟩ := bs_ r90
  refine s_cl 123 96 ⟨b_h, 3, none⟩ #[i_ i1, i_ o70] (hd_h_7) #[hd_h_7, i_ i1, i_ o70] (by kernel_rfl) (by kernel_rfl) (u85.l_) (c_witness_queue_Swap e18.wf m20 hy93) ?_
  rintro _ H95 ⟨rfl, e96, m97⟩
  refine s_nil (k91 _ _ (g_' (q_ (i_ o70) (q_ (i_ o70) (s_nil ?_)))))
  obtain rfl := oi_ r94
  exact k27 n23 _ _ lt_ ⟨y92, o70, hn26, ha_, (fs_ wf (fs_ wf (fr_ wf) e18 ir_) e96 ir_), m97⟩
 obtain ⟨hh14, e10, m12⟩ := hM
 obtain ⟨β, rfl⟩ := has_ex hh14
 clear hh14
 refine k5 _ _ (sq_ fun k98 => g_' (q_ (i_ o6.1) (q_ (i_ i0) (q_ (.bool (decide (o6.1 > i0))) (q_ (.bool (decide (o6.1 > i0))) (s_nil (k98 _ _ ?_)))))))
 refine w_ret ?_
 refine br_ [.bool (decide (o6.1 > i0))] ?_
 obtain rfl := oi_ r8
 exact ⟨rfl, (fs_ wf (fr_ wf) e10 ir_), m12⟩
theorem c_witness_queue_Pop {H : AH} {b_q : Nat} {b_q_ : Nat} {hd_q_2 : Value} {fp_q_2 : Fp} {hd_q_7 : Value} {fp_q_7 : Fp} {b_q_8 : Nat} {q_2 : List (Bool × List (Int × Int × Int) × List (Int × Int × Int))} {q_3 : Int} {q_4 : Int} {q_5 : Int} {q_6 : Int} {q_7 : List (Int × Int)} {q_8 : Int -> Option (Int × Int × Int)} {r : Int × Int × List (Int × Int)}
    (wf : WF H) (h_q_2 : Nd enc_i64_u64_i64 3 H hd_q_2 q_2 fp_q_2 []) (h_q_ : Row H b_q_ [hd_q_2, i_ q_3, i_ q_4]) (h_q_7 : Ow enc_u64_i64 2 H hd_q_7 q_7 fp_q_7) (h_q_8 : Ms .i64 enc_u64_i64_i64 H b_q_8 q_8) (h_q : Row H b_q [pt_ b_q_ 0, i_ q_5, i_ q_6, hd_q_7, .map (some b_q_8)]) (dj_b_q_fp_q_7 : Dj [b_q] fp_q_7) (hr : z_witness_queue_Pop q_2 q_3 q_4 q_5 q_6 q_7 q_8 = some r) :
    ACalls Try.prog 125 #[pt_ b_q 3] H fun v H' => ∃ (s3 : Value), v = .iface 152 (.agg #[.int .u64 r.1, i_ r.2.1]) /\ FrS [b_q] H H' /\ Ow enc_u64_i64 2 H' s3 r.2.2 fp_q_7 /\ Row H' b_q [pt_ b_q_ 0, i_ q_5, i_ q_6, s3, .map (some b_q_8)] := by
 refine ab_ Try.func125 ?_
 unfold z_witness_queue_Pop at hr
 refine sq_ fun k6 => g_' (q_ (.nilIface) (s_nil (k6 _ _ (sq_ fun k7 => g_' (q_ (pt_ b_q 3) (q_ (pt_ b_q 3) (lr_ 96 3 (hd_q_7) h_q (h_q_7.sq.ln_ 96 ?_))))))))
 obtain ⟨g8, r9⟩ := G_some hr
 refine w_' (((q_7.length : Int) - 1)) (wrap64 g8) (q_ (i_ ((q_7.length : Int) - 1)) (s_nil (k7 _ _ (sq_ fun k10 => g_' (q_ (pt_ b_q 3) (q_ (pt_ b_q 3) (lr_ 96 3 (hd_q_7) h_q (q_ (i_ ((q_7.length : Int) - 1)) ?_))))))))
 obtain ⟨g11, r12⟩ := G_some r9
 refine h_q_7.sq.ix_ 96 g11.1 g11.2 (le_ 152 0 (.agg #[.int .u64 ((gt q_7 ((q_7.length : Int) - 1)).1), i_ ((gt q_7 ((q_7.length : Int) - 1)).2)]) h_q_7.sq g11.1 g11.2 ?_)
 refine rk_ wf [.int .u64 0, i_ 0] fun b13 H14 e15 hb16 r17 => ?_
 obtain ⟨H19, q20, e21, r22⟩ := ra_ 152 0 e15.wf r17 [.int .u64 ((gt q_7 ((q_7.length : Int) - 1)).1), i_ ((gt q_7 ((q_7.length : Int) - 1)).2)] [.int .u64 ((gt q_7 ((q_7.length : Int) - 1)).1), i_ ((gt q_7 ((q_7.length : Int) - 1)).2)]
 refine ek_ q20 (s_nil (k10 _ _ (sq_ fun k23 => g_' (q_ (pt_ b_q 3) (q_ (pt_ b_q 3) (q_ (pt_ b_q 3) ?_))))))
 have u24 := ((h_q.ext e15).frS e21 (hb16.djn h_q.ltF))
 refine lr_ 96 3 (hd_q_7) u24 (q_ (i_ ((q_7.length : Int) - 1)) ?_)
 obtain ⟨g25, r26⟩ := G_some r12
 have u30 := ((h_q_7.ext e15).fr e21 (hb16.djn h_q_7.lt))
 obtain ⟨s27, q28, hs29⟩ := Ow.head (P := Try.prog) u30 (t := 96) (by kernel_rfl) (hi := (some (i_ ((q_7.length : Int) - 1)))) (r := ((q_7.length : Int) - 1).toNat) (aBound_int _ (by have := g25; omega)) (by have := g25; omega)
 obtain ⟨a31, n32, c33, rfl⟩ := hs29.form
 refine s_ql (.slice a31 n32 c33) (by kernel_rfl) q28 ?_
 refine q_ (pt_ b_q 3) ?_
 obtain ⟨H35, q36, e37, r38⟩ := rb_ 96 3 e21.wf u24 (.slice a31 n32 c33) [pt_ b_q_ 0, i_ q_5, i_ q_6, .slice a31 n32 c33, .map (some b_q_8)]
 refine ek_ q36 (s_nil (k23 _ _ (sq_ fun k39 => g_' ?_)))
 have d40 := (hb16.djn h_q.ltF)
 have u41 := (r22.frS e37 (Dj.symm d40))
 refine lr_ 152 0 (.agg #[.int .u64 ((gt q_7 ((q_7.length : Int) - 1)).1), i_ ((gt q_7 ((q_7.length : Int) - 1)).2)]) u41 (q_ (.iface 152 (.agg #[.int .u64 ((gt q_7 ((q_7.length : Int) - 1)).1), i_ ((gt q_7 ((q_7.length : Int) - 1)).2)])) (q_ (.iface 152 (.agg #[.int .u64 ((gt q_7 ((q_7.length : Int) - 1)).1), i_ ((gt q_7 ((q_7.length : Int) - 1)).2)])) (s_nil (k39 _ _ ?_))))
 refine w_ret ?_
 refine br_ [.iface 152 (.agg #[.int .u64 ((gt q_7 ((q_7.length : Int) - 1)).1), i_ ((gt q_7 ((q_7.length : Int) - 1)).2)])] ?_
 have u42 := (hs29.fr e37 dj_b_q_fp_q_7)
 obtain rfl := oi_ r26
 exact ⟨(.slice a31 n32 c33), rfl, (fs_ wf (fs_ wf ((fr_ wf).extR e15) e21 (hb16.fresh (Nat.le_refl _))) e37 ir_), u42, r38⟩
theorem c_container_heap_Pop {H : AH} {b_h : Nat} {b_h_ : Nat} {hd_h_2 : Value} {fp_h_2 : Fp} {hd_h_7 : Value} {fp_h_7 : Fp} {b_h_8 : Nat} {h_2 : List (Bool × List (Int × Int × Int) × List (Int × Int × Int))} {h_3 : Int} {h_4 : Int} {h_5 : Int} {h_6 : Int} {h_7 : List (Int × Int)} {h_8 : Int -> Option (Int × Int × Int)} {r : Int × Int × List (Int × Int) × List (Int × Int)}
    (wf : WF H) (h_h_2 : Nd enc_i64_u64_i64 3 H hd_h_2 h_2 fp_h_2 []) (h_h_ : Row H b_h_ [hd_h_2, i_ h_3, i_ h_4]) (h_h_7 : Ow enc_u64_i64 2 H hd_h_7 h_7 fp_h_7) (h_h_8 : Ms .i64 enc_u64_i64_i64 H b_h_8 h_8) (h_h : Row H b_h [pt_ b_h_ 0, i_ h_5, i_ h_6, hd_h_7, .map (some b_h_8)]) (dj_fp_h_7_fp_h_2 : Dj fp_h_7 fp_h_2) (dj_fp_h_7_b_h_ : Dj fp_h_7 [b_h_]) (dj_fp_h_7_b_h_8 : Dj fp_h_7 [b_h_8]) (dj_fp_h_7_b_h : Dj fp_h_7 [b_h]) (hr : z_container_heap_Pop h_2 h_3 h_4 h_5 h_6 h_7 h_8 = some r) :
    ACalls Try.prog 68 #[.iface 150 (pt_ b_h 3)] H fun v H' => ∃ (s5 : Value), v = .iface 152 (.agg #[.int .u64 r.1, i_ r.2.1]) /\ FrS ([b_h] ++ fp_h_7) H H' /\ Ow enc_u64_i64 2 H' hd_h_7 r.2.2.1 fp_h_7 /\ Ow enc_u64_i64 2 H' s5 r.2.2.2 fp_h_7 /\ Row H' b_h [pt_ b_h_ 0, i_ h_5, i_ h_6, s5, .map (some b_h_8)] := by
 refine ab_ Try.func68 ?_
 unfold z_container_heap_Pop at hr
 refine sq_ fun k8 => g_' (q_ (.nilIface) (s_nil (k8 _ _ (sq_ fun k9 => g_' (q_ (.iface 150 (pt_ b_h 3)) ?_)))))
 obtain ⟨y10, hy11, r12⟩ := bs_ hr
 refine s_cl 121 96 ⟨b_h, 3, none⟩ #[] (hd_h_7) #[hd_h_7] (by kernel_rfl) (by kernel_rfl) (h_h.l_) (c_witness_queue_Len wf h_h_7.sq hy11) ?_
 rintro _ _ ⟨rfl, rfl⟩
 obtain ⟨g15, r16⟩ := G_some r12
 refine w_' ((y10 - 1)) (wrap64 g15) (q_ (i_ (y10 - 1)) (s_nil (k9 _ _ (sq_ fun k17 => g_' (q_ (.iface 150 (pt_ b_h 3)) (q_ (i_ (y10 - 1)) ?_))))))
 obtain ⟨y18, hy19, r20⟩ := bs_ r16
 refine s_cl 123 96 ⟨b_h, 3, none⟩ #[i_ 0, i_ (y10 - 1)] (hd_h_7) #[hd_h_7, i_ 0, i_ (y10 - 1)] (by kernel_rfl) (by kernel_rfl) (h_h.l_) (c_witness_queue_Swap wf h_h_7 hy19) ?_
 rintro _ H21 ⟨rfl, e22, m23⟩
 refine s_nil (k17 _ _ (sq_ fun k24 => g_' (q_ (.iface 150 (pt_ b_h 3)) (q_ (i_ (y10 - 1)) ?_))))
 have u25 := (h_h_2.fr e22 dj_fp_h_7_fp_h_2)
 have u26 := (h_h_.frS e22 dj_fp_h_7_b_h_)
 have u27 := (h_h_8.frS e22 dj_fp_h_7_b_h_8)
 have u28 := (h_h.frS e22 dj_fp_h_7_b_h)
 obtain ⟨y29, hy30, r31⟩ := bs_ r20
 refine ck_ (c_container_heap_down e22.wf u25 u26 m23 u27 u28 dj_fp_h_7_b_h hy30) ?_
 rintro _ H32 ⟨rfl, e33, m34⟩
 refine s_nil (k24 _ _ (sq_ fun k35 => g_' (q_ (.iface 150 (pt_ b_h 3)) ?_)))
 have u36 := (u25.fr e33 dj_fp_h_7_fp_h_2)
 have u37 := (u26.frS e33 dj_fp_h_7_b_h_)
 have u38 := (u27.frS e33 dj_fp_h_7_b_h_8)
 have u39 := (u28.frS e33 dj_fp_h_7_b_h)
 obtain ⟨y40, hy41, r42⟩ := bs_ r31
 refine ck_ (c_witness_queue_Pop e33.wf u36 u37 m34 u38 u39 (Dj.symm dj_fp_h_7_b_h) hy41) ?_
 rintro _ H44 ⟨s43, rfl, e45, m46, m47⟩
 obtain ⟨a49, n50, c51, rfl⟩ := m46.form
 refine q_ (.iface 152 (.agg #[.int .u64 y40.1, i_ y40.2.1])) (s_nil (k35 _ _ ?_))
 refine w_ret ?_
 refine br_ [.iface 152 (.agg #[.int .u64 y40.1, i_ y40.2.1])] ?_
 have u52 := (m34.fr e45 (Dj.symm dj_fp_h_7_b_h))
 obtain rfl := oi_ r42
 exact ⟨(.slice a49 n50 c51), rfl, (fs_ wf (fs_ wf (fs_ wf (fr_ wf) e22 (Inn.right ir_)) e33 (Inn.right ir_)) e45 Inn.left), u52, m46, m47⟩
theorem c_witness_seek_next {H : AH} {b_s : Nat} {b_s_ : Nat} {hd_s_2 : Value} {fp_s_2 : Fp} {hd_s_7 : Value} {fp_s_7 : Fp} {b_s_8 : Nat} {s_2 : List (Bool × List (Int × Int × Int) × List (Int × Int × Int))} {s_3 : Int} {s_4 : Int} {s_5 : Int} {s_6 : Int} {s_7 : List (Int × Int)} {s_8 : Int -> Option (Int × Int × Int)} {r : Int × Int × Int × Int × Bool × List (Int × Int)}
    (wf : WF H) (h_s_2 : Nd enc_i64_u64_i64 3 H hd_s_2 s_2 fp_s_2 []) (h_s_ : Row H b_s_ [hd_s_2, i_ s_3, i_ s_4]) (h_s_7 : Ow enc_u64_i64 2 H hd_s_7 s_7 fp_s_7) (h_s_8 : Ms .i64 enc_u64_i64_i64 H b_s_8 s_8) (h_s : Row H b_s [pt_ b_s_ 0, i_ s_5, i_ s_6, hd_s_7, .map (some b_s_8)]) (dj_fp_s_7_fp_s_2 : Dj fp_s_7 fp_s_2) (dj_fp_s_7_b_s_ : Dj fp_s_7 [b_s_]) (dj_fp_s_7_b_s_8 : Dj fp_s_7 [b_s_8]) (dj_fp_s_7_b_s : Dj fp_s_7 [b_s]) (dj_b_s_b_s_8 : Dj [b_s] [b_s_8]) (dj_b_s_fp_s_2 : Dj [b_s] fp_s_2) (dj_b_s_b_s_ : Dj [b_s] [b_s_]) (hr : z_witness_seek_next s_2 s_3 s_4 s_5 s_6 s_7 s_8 = some r) :
    ACalls Try.prog 54 #[pt_ b_s 0] H fun v H' => ∃ (s3 : Value), v = .tuple #[i_ r.1, .agg #[.int .u64 r.2.1, i_ r.2.2.1, i_ r.2.2.2.1], .bool r.2.2.2.2.1] /\ FrS ([b_s] ++ fp_s_7) H H' /\ Ow enc_u64_i64 2 H' s3 r.2.2.2.2.2 fp_s_7 /\ Row H' b_s [pt_ b_s_ 0, i_ s_5, i_ s_6, s3, .map (some b_s_8)] := by
 refine ab_ Try.func54 ?_
 unfold z_witness_seek_next at hr
 refine sq_ fun k6 => g_' (q_ (i_ 0) ?_)
 refine rk_ wf [.int .u64 0, i_ 0, i_ 0] fun b7 H8 e9 hb10 r11 => ?_
 refine q_ (.bool false) (s_nil (k6 _ _ (sq_ fun k13 => ?_)))
 obtain ⟨z17, hx15, r16⟩ := bs_ hr
 refine w_mid (fun α H18 => ∃ o14, z17 = Sum.inr o14 /\ ∃ (s22 : Value), Has α [(3, pt_ b7 0)] /\ FrS ([b_s] ++ fp_s_7) H8 H18 /\ Ow enc_u64_i64 2 H18 s22 o14 fp_s_7 /\ Row H18 b_s [pt_ b_s_ 0, i_ s_5, i_ s_6, s22, .map (some b_s_8)]) (fun _ k25 => ?_) (fun α H18 hM => ?_)
 ·refine w_block ?_
  obtain ⟨n27, hn28⟩ := loopO_iff.1 hx15
  have u42 := (h_s_7.ext e9)
  have u43 := (h_s.ext e9)
  refine w_loopn (fun n α H29 => ∃ (s0 : List (Int × Int)), ∃ (s33 : Value), iterO (fun zz_ => z_witness_seek_next_l0 s_2 s_3 s_4 s_5 s_6 s_8 zz_) n s0 = some z17 /\ Has α [(0, pt_ b_s 0), (3, pt_ b7 0)] /\ FrS ([b_s] ++ fp_s_7) H8 H29 /\ Ow enc_u64_i64 2 H29 s33 s0 fp_s_7 /\ Row H29 b_s [pt_ b_s_ 0, i_ s_5, i_ s_6, s33, .map (some b_s_8)]) n27 ⟨s_7, (hd_s_7), hn28, ha_, (fr_ e9.wf), u42, u43⟩ ?_
  rintro n27 α H29 ⟨s0, s33, hi37, hh36, e30, m32, m35⟩ K44 k44
  obtain ⟨n38, z39, rfl, hz40, hn41⟩ := iter_succ hi37
  obtain ⟨β, rfl⟩ := has_ex hh36
  clear hh36
  replace hz40 : z_witness_seek_next_l0 s_2 s_3 s_4 s_5 s_6 s_8 s0 = some z39 := hz40
  unfold z_witness_seek_next_l0 at hz40
  obtain ⟨a45, n46, c47, rfl⟩ := m32.form
  refine sq_ fun k48 => sq_ fun k49 => g_' (q_ (pt_ b_s 0) (q_ (pt_ b_s 0) (q_ (pt_ b_s 3) (lr_ 96 3 (.slice a45 n46 c47) m35 (m32.sq.ln_ 96 (q_ (.bool (decide ((s0.length : Int) > 0))) (s_nil (k49 _ _ ?_))))))))
  refine wc_ ((s0.length : Int) > 0) (fun h50 => ?_) fun h50 => ?_
  ·have r51 := ite_t h50 hz40
   refine w_skip (k48 _ _ (w_block (sq_ fun k52 => g_' (q_ (pt_ b_s 0) (q_ (pt_ b_s 0) (q_ (pt_ b_s 3) (q_ (.iface 150 (pt_ b_s 3)) ?_)))))))
   have u53 := ((h_s_2.ext e9).fr e30 (Dj.app dj_b_s_fp_s_2 dj_fp_s_7_fp_s_2))
   have u54 := ((h_s_.ext e9).frS e30 (Dj.app dj_b_s_b_s_ dj_fp_s_7_b_s_))
   have u55 := ((h_s_8.ext e9).frS e30 (Dj.app dj_b_s_b_s_8 dj_fp_s_7_b_s_8))
   obtain ⟨y56, hy57, r58⟩ := bs_ r51
   refine ck_ (c_container_heap_Pop e30.wf u53 u54 m32 u55 m35 dj_fp_s_7_fp_s_2 dj_fp_s_7_b_s_ dj_fp_s_7_b_s_8 dj_fp_s_7_b_s hy57) ?_
   rintro _ H60 ⟨s59, rfl, e61, m62, m63, m64⟩
   obtain ⟨a66, n67, c68, rfl⟩ := m63.form
   refine q_ (.agg #[.int .u64 y56.1, i_ y56.2.1]) ?_
   refine rk_ e61.wf [.int .u64 0, i_ 0] fun b69 H70 e71 hb72 r73 => ?_
   obtain ⟨H75, q76, e77, r78⟩ := ra_ 152 0 e71.wf r73 [.int .u64 y56.1, i_ y56.2.1] [.int .u64 y56.1, i_ y56.2.1]
   refine ek_ q76 (s_nil (k52 _ _ (sq_ fun k79 => ?_)))
   refine w_draw [0, 1, 2, 3, 4, 5, 6, 7, 8] (by kernel_rfl) ?_
   refine e_' (pt_ b_s 0) (e_' (pt_ b_s 0) (e_' (pt_ b_s 4) ?_))
   have n80 := (t_ (t_ e9.n e30.n) e61.n)
   have d81 := (hb72.djn (h_s.ltF.le n80))
   have u82 := ((m64.ext e71).frS e77 d81)
   refine mr_ 94 4 (.map (some b_s_8)) u82 (e_' (pt_ b69 1) (mr_ 3 1 (i_ y56.2.1) r78 ?_))
   have d83 := (hb72.djn (h_s_8.ltF.le n80))
   have u84 := (((u55.frS e61 (Dj.app dj_b_s_b_s_8 dj_fp_s_7_b_s_8)).ext e71).frS e77 d83)
   refine m_' (.agg #[.int .u64 (((s_8 y56.2.1).getD ((0, 0, 0) : Int × Int × Int)).1), i_ (((s_8 y56.2.1).getD ((0, 0, 0) : Int × Int × Int)).2.1), i_ (((s_8 y56.2.1).getD ((0, 0, 0) : Int × Int × Int)).2.2)]) (aLookup Try.prog 94 (.map (some b_s_8)) (i_ y56.2.1) false H75) (u84.look ((0, 0, 0) : Int × Int × Int) (zv := .agg #[.int .u64 0, i_ 0, i_ 0]) rfl (by kernel_rfl) (by kernel_rfl) _ rfl) ?_
   refine d_rwk e77.wf [.int .u64 0, i_ 0, i_ 0] (by kernel_rfl) fun b85 H86 e87 hb88 r89 => ?_
   obtain ⟨H91, q92, e93, r94⟩ := ra_ 101 0 e87.wf r89 [.int .u64 (((s_8 y56.2.1).getD ((0, 0, 0) : Int × Int × Int)).1), i_ (((s_8 y56.2.1).getD ((0, 0, 0) : Int × Int × Int)).2.1), i_ (((s_8 y56.2.1).getD ((0, 0, 0) : Int × Int × Int)).2.2)] [.int .u64 (((s_8 y56.2.1).getD ((0, 0, 0) : Int × Int × Int)).1), i_ (((s_8 y56.2.1).getD ((0, 0, 0) : Int × Int × Int)).2.1), i_ (((s_8 y56.2.1).getD ((0, 0, 0) : Int × Int × Int)).2.2)]
   refine fk_ q92 (st_nil) ?_
   refine d_nil ?_
   refine k79 _ _ (sq_ fun k95 => g_' (q_ (pt_ b85 2) (lr_ 3 2 (i_ (((s_8 y56.2.1).getD ((0, 0, 0) : Int × Int × Int)).2.2)) r94 ?_)))
   refine sb_ ((((s_8 y56.2.1).getD ((0, 0, 0) : Int × Int × Int)).2.2) = 0) (fun h96 => ?_) fun h96 => ?_
   ·have r97 := ite_t h96 r58
    refine q_ (.bool true) (q_ (pt_ b85 0) (lr_ 27 0 (.int .u64 (((s_8 y56.2.1).getD ((0, 0, 0) : Int × Int × Int)).1)) r94 (q_ (pt_ b69 0) ?_)))
    have d98 := (hb88.djn (r73.ltF.le e77.n))
    have u99 := ((r78.ext e87).frS e93 d98)
    refine lr_ 27 0 (.int .u64 y56.1) u99 (q_ (.bool (decide ((((s_8 y56.2.1).getD ((0, 0, 0) : Int × Int × Int)).1) = y56.1))) (q_ (.bool (decide ((((s_8 y56.2.1).getD ((0, 0, 0) : Int × Int × Int)).1) = y56.1))) (s_nil (k95 _ _ ?_))))
    refine wc_ ((((s_8 y56.2.1).getD ((0, 0, 0) : Int × Int × Int)).1) = y56.1) (fun h100 => ?_) fun h100 => ?_
    ·have r101 := ite_t h100 r97
     refine sq_ fun k102 => ?_
     refine w_draw [0, 1, 2, 3, 4, 5] (by kernel_rfl) ?_
     refine e_' (pt_ b69 1) (mr_ 3 1 (i_ y56.2.1) u99 (mr_ 101 0 (.agg #[.int .u64 (((s_8 y56.2.1).getD ((0, 0, 0) : Int × Int × Int)).1), i_ (((s_8 y56.2.1).getD ((0, 0, 0) : Int × Int × Int)).2.1), i_ (((s_8 y56.2.1).getD ((0, 0, 0) : Int × Int × Int)).2.2)]) r94 (e_' (i_ y56.2.1) ?_)))
     have d107 := (hb10.djn h_s_7.lt)
     have d108 := (hb10.djn h_s.ltF)
     have n109 := (t_ e30.n e61.n)
     have d110 := (hb72.djn (r11.ltF.le n109))
     have n111 := (t_ (t_ (t_ e30.n e61.n) e71.n) e77.n)
     have d112 := (hb88.djn (r11.ltF.le n111))
     have u113 := ((((((r11.frS e30 (Dj.app (Dj.symm d108) (Dj.symm d107))).frS e61 (Dj.app (Dj.symm d108) (Dj.symm d107))).ext e71).frS e77 d110).ext e87).frS e93 d112)
     obtain ⟨H103, q104, e105, r106⟩ := ra_ 101 0 e93.wf u113 [.int .u64 (((s_8 y56.2.1).getD ((0, 0, 0) : Int × Int × Int)).1), i_ (((s_8 y56.2.1).getD ((0, 0, 0) : Int × Int × Int)).2.1), i_ (((s_8 y56.2.1).getD ((0, 0, 0) : Int × Int × Int)).2.2)] [.int .u64 (((s_8 y56.2.1).getD ((0, 0, 0) : Int × Int × Int)).1), i_ (((s_8 y56.2.1).getD ((0, 0, 0) : Int × Int × Int)).2.1), i_ (((s_8 y56.2.1).getD ((0, 0, 0) : Int × Int × Int)).2.2)]
     refine fk_ q104 (st_nil) (e_' (.bool true) ?_)
     refine d_nil ?_
     refine k102 _ _ ?_
     refine w_ret (bl_ret (th_ret (bl_ret (th_ret (th_ret ?_)))))
     obtain ⟨v114, hv115, hz116⟩ := map_some r101
     subst hz116
     obtain rfl := it_inr hn41
     have hq117 := elim_inl r16
     rw [hq117] at hv115
     refine b_ret (vs := [i_ y56.2.1, .agg #[.int .u64 (((s_8 y56.2.1).getD ((0, 0, 0) : Int × Int × Int)).1), i_ (((s_8 y56.2.1).getD ((0, 0, 0) : Int × Int × Int)).2.1), i_ (((s_8 y56.2.1).getD ((0, 0, 0) : Int × Int × Int)).2.2)], .bool true]) (aRes_tmp (by kernel_rfl) (aRes_cell (Eq.trans (b := aL_ 101 (pt_ b7 0) H103) (by kernel_rfl) (r106.l_)) (rt_ (rfl)))) ?_
     have n118 := (t_ (t_ (t_ (t_ e9.n e30.n) e61.n) e71.n) e77.n)
     have d119 := (hb72.djn (h_s_7.lt.le n80))
     have d120 := (hb88.djn (h_s_7.lt.le n118))
     have u121 := (((((m63.ext e71).fr e77 d119).ext e87).fr e93 d120).fr e105 d107)
     have d122 := (hb88.djn (h_s.ltF.le n118))
     have u123 := (((u82.ext e87).frS e93 d122).frS e105 d108)
     obtain rfl := oi_ hv115
     exact ⟨(.slice a66 n67 c68), rfl, (fs_ wf (fs_ wf ((fs_ wf ((fs_ wf (fs_ wf ((fr_ wf).extR e9) e30 ir_) e61 ir_).extR e71) e77 (hb72.fresh n80)).extR e87) e93 (hb88.fresh n118)) e105 (hb10.fresh (Nat.le_refl _))), u121, u123⟩
    have r124 := ite_f h100 r97
    refine w_skip ?_
    have n125 := (t_ e30.n e61.n)
    have n126 := (t_ (t_ (t_ e30.n e61.n) e71.n) e77.n)
    have d127 := (hb72.djn (h_s_7.lt.le n80))
    have n128 := (t_ (t_ (t_ (t_ e9.n e30.n) e61.n) e71.n) e77.n)
    have d129 := (hb88.djn (h_s_7.lt.le n128))
    have u130 := ((((m63.ext e71).fr e77 d127).ext e87).fr e93 d129)
    have d131 := (hb88.djn (h_s.ltF.le n128))
    have u132 := ((u82.ext e87).frS e93 d131)
    obtain rfl := oi_ r124
    exact k44 n38 _ _ lt_ ⟨y56.2.2.2, (.slice a66 n67 c68), hn41, ha_, (fs_ e9.wf ((fs_ e9.wf ((fs_ e9.wf (fs_ e9.wf (fr_ e9.wf) e30 ir_) e61 ir_).extR e71) e77 (hb72.fresh n125)).extR e87) e93 (hb88.fresh n126)), u130, u132⟩
   have r133 := ite_f h96 r58
   refine q_ (.bool false) (n_' (n_' (n_' (n_' (n_' (q_ (.bool false) (s_nil (k95 _ _ ?_))))))))
   refine wb_ false (fun h => by cases h) fun _ => ?_
   refine w_skip ?_
   have n134 := (t_ e30.n e61.n)
   have n135 := (t_ (t_ (t_ e30.n e61.n) e71.n) e77.n)
   have d136 := (hb72.djn (h_s_7.lt.le n80))
   have n137 := (t_ (t_ (t_ (t_ e9.n e30.n) e61.n) e71.n) e77.n)
   have d138 := (hb88.djn (h_s_7.lt.le n137))
   have u139 := ((((m63.ext e71).fr e77 d136).ext e87).fr e93 d138)
   have d140 := (hb88.djn (h_s.ltF.le n137))
   have u141 := ((u82.ext e87).frS e93 d140)
   obtain rfl := oi_ r133
   exact k44 n38 _ _ lt_ ⟨y56.2.2.2, (.slice a66 n67 c68), hn41, ha_, (fs_ e9.wf ((fs_ e9.wf ((fs_ e9.wf (fs_ e9.wf (fr_ e9.wf) e30 ir_) e61 ir_).extR e71) e77 (hb72.fresh n134)).extR e87) e93 (hb88.fresh n135)), u139, u141⟩
  have r142 := ite_f h50 hz40
  refine w_exit (th_exit (th_exit (bl_eq ?_)))
  obtain rfl := oi_ r142
  obtain rfl := it_inr hn41
  exact k25 _ _ ⟨_, rfl, (.slice a45 n46 c47), ha_, (fs_ e9.wf (fr_ e9.wf) e30 ir_), m32, m35⟩
 obtain ⟨o14, rfl, s22, hh26, e19, m21, m24⟩ := hM
 have r143 := elim_inr r16
 obtain ⟨β, rfl⟩ := has_ex hh26
 clear hh26
 obtain ⟨a144, n145, c146, rfl⟩ := m21.form
 refine k13 _ _ (sq_ fun k147 => g_' (q_ (.agg #[.int .u64 0, i_ 0, i_ 0]) (q_ (i_ 0) ?_)))
 have d152 := (hb10.djn h_s_7.lt)
 have d153 := (hb10.djn h_s.ltF)
 have u154 := (r11.frS e19 (Dj.app (Dj.symm d153) (Dj.symm d152)))
 obtain ⟨H148, q149, e150, r151⟩ := ra_ 101 0 e19.wf u154 [.int .u64 0, i_ 0, i_ 0] [.int .u64 0, i_ 0, i_ 0]
 refine ek_ q149 (q_ (.bool false) (s_nil (k147 _ _ ?_)))
 refine w_ret ?_
 refine b_ret (vs := [i_ 0, .agg #[.int .u64 0, i_ 0, i_ 0], .bool false]) (aRes_tmp (by kernel_rfl) (aRes_cell (Eq.trans (b := aL_ 101 (pt_ b7 0) H148) (by kernel_rfl) (r151.l_)) (rt_ (rfl)))) ?_
 have u155 := (m21.fr e150 d152)
 have u156 := (m24.frS e150 d153)
 obtain rfl := oi_ r143
 exact ⟨(.slice a144 n145 c146), rfl, (fs_ wf (fs_ wf ((fr_ wf).extR e9) e19 ir_) e150 (hb10.fresh (Nat.le_refl _))), u155, u156⟩
theorem c_witness_seek_settle {H : AH} {b_s : Nat} {b_s_ : Nat} {hd_s_2 : Value} {fp_s_2 : Fp} {hd_s_7 : Value} {fp_s_7 : Fp} {b_s_8 : Nat} {s_2 : List (Bool × List (Int × Int × Int) × List (Int × Int × Int))} {s_3 : Int} {s_4 : Int} {s_5 : Int} {s_6 : Int} {s_7 : List (Int × Int)} {s_8 : Int -> Option (Int × Int × Int)} {v_ : Int} {dist : Int} {hops : Int} {settled : Int} {r : (Int -> Option (Int × Int × Int)) × List (Int × Int)}
    (wf : WF H) (h_s_2 : Nd enc_i64_u64_i64 3 H hd_s_2 s_2 fp_s_2 []) (h_s_ : Row H b_s_ [hd_s_2, i_ s_3, i_ s_4]) (h_s_7 : Ow enc_u64_i64 2 H hd_s_7 s_7 fp_s_7) (h_s_8 : Ms .i64 enc_u64_i64_i64 H b_s_8 s_8) (h_s : Row H b_s [pt_ b_s_ 0, i_ s_5, i_ s_6, hd_s_7, .map (some b_s_8)]) (dj_b_s_8_b_s : Dj [b_s_8] [b_s]) (dj_b_s_8_fp_s_7 : Dj [b_s_8] fp_s_7) (dj_b_s_8_fp_s_2 : Dj [b_s_8] fp_s_2) (dj_b_s_8_b_s_ : Dj [b_s_8] [b_s_]) (dj_fp_s_7_b_s : Dj fp_s_7 [b_s]) (dj_fp_s_7_fp_s_2 : Dj fp_s_7 fp_s_2) (dj_b_s_fp_s_2 : Dj [b_s] fp_s_2) (dj_fp_s_7_b_s_ : Dj fp_s_7 [b_s_]) (dj_b_s_b_s_ : Dj [b_s] [b_s_]) (dj_fp_s_7_b_s_8 : Dj fp_s_7 [b_s_8]) (hr : z_witness_seek_settle s_2 s_3 s_4 s_5 s_6 s_7 s_8 v_ dist hops settled = some r) :
    ACalls Try.prog 55 #[pt_ b_s 0, i_ v_, .agg #[.int .u64 dist, i_ hops, i_ settled]] H fun v H' => ∃ (s5 : Value) (f6 : Fp), v = .tuple #[] /\ FrS ([b_s] ++ ([b_s_8] ++ fp_s_7)) H H' /\ Ms .i64 enc_u64_i64_i64 H' b_s_8 r.1 /\ Ow enc_u64_i64 2 H' s5 r.2 f6 /\ Row H' b_s [pt_ b_s_ 0, i_ s_5, i_ s_6, s5, .map (some b_s_8)] /\ Inn fp_s_7 H f6 := by
 refine ab_ Try.func55 ?_
 unfold z_witness_seek_settle at hr
 refine sq_ fun k10 => g_' ?_
 refine rl_ wf [.int .u64 dist, i_ hops, i_ settled] fun b11 H12 e13 hb14 r15 => ?_
 refine s_nil (k10 _ _ (sq_ fun k17 => g_' (q_ (pt_ b11 2) ?_)))
 obtain ⟨H18, q19, e20, r21⟩ := rb_ 3 2 e13.wf r15 (i_ 1) [.int .u64 dist, i_ hops, i_ 1]
 refine ek_ q19 (s_nil (k17 _ _ (sq_ fun k22 => ?_)))
 refine w_draw [0, 1, 2, 3, 4, 5, 6] (by kernel_rfl) ?_
 refine e_' (pt_ b_s 0) (e_' (pt_ b_s 0) (e_' (pt_ b_s 4) ?_))
 have u23 := ((h_s.ext e13).frS e20 (hb14.djn h_s.ltF))
 refine mr_ 94 4 (.map (some b_s_8)) u23 (e_' (i_ v_) (mr_ 101 0 (.agg #[.int .u64 dist, i_ hops, i_ 1]) r21 ?_))
 have u28 := ((h_s_8.ext e13).frS e20 (hb14.djn h_s_8.ltF))
 obtain ⟨H24, q26, e25, mp27⟩ := u28.put (P := Try.prog) e20.wf (t := 94) (zv := .agg #[.int .u64 0, i_ 0, i_ 0]) (val := .agg #[.int .u64 dist, i_ hops, i_ 1]) (by kernel_rfl) v_ (dist, hops, 1) rfl
 have e29 := e25.frS (W := [b_s_8]) (List.mem_singleton.2 rfl)
 refine fk_ q26 (st_nil) ?_
 refine d_nil ?_
 refine k22 _ _ (sq_ fun k30 => sq_ fun k31 => ?_)
 refine w_draw [0, 1, 2, 3, 4, 5, 6] (by kernel_rfl) ?_
 refine e_' (pt_ b11 1) ?_
 have d32 := (hb14.djn h_s_8.ltF)
 have u33 := (r21.frS e29 (Dj.symm d32))
 refine mr_ 3 1 (i_ hops) u33 (e_' (pt_ b_s 0) (e_' (pt_ b_s 0) (e_' (pt_ b_s 2) ?_)))
 have u34 := (u23.frS e29 dj_b_s_8_b_s)
 refine mr_ 3 2 (i_ s_6) u34 (e_' (.bool (decide (hops ≥ s_6))) ?_)
 refine d_nil ?_
 refine k31 _ _ ?_
 refine wc_ (hops ≥ s_6) (fun h35 => ?_) fun h35 => ?_
 ·have r36 := ite_t h35 hr
  refine w_ret (th_ret ?_)
  refine b_ret (vs := []) (rfl) ?_
  have u37 := (((h_s_7.ext e13).fr e20 (hb14.djn h_s_7.lt)).fr e29 dj_b_s_8_fp_s_7)
  obtain rfl := oi_ r36
  exact ⟨(hd_s_7), fp_s_7, rfl, (fs_ wf (fs_ wf ((fr_ wf).extR e13) e20 (hb14.fresh (Nat.le_refl _))) e29 (Inn.right Inn.left)), mp27, u37, u34, ir_⟩
 have r38 := ite_f h35 hr
 refine w_skip (k30 _ _ (sq_ fun k39 => g_' (q_ (pt_ b_s 0) (q_ (pt_ b_s 0) (q_ (pt_ b_s 0) (lr_ 29 0 (pt_ b_s_ 0) u34 (q_ (i_ v_) ?_)))))))
 have u40 := (((h_s_2.ext e13).fr e20 (hb14.djn h_s_2.lt)).fr e29 dj_b_s_8_fp_s_2)
 have u41 := (((h_s_.ext e13).frS e20 (hb14.djn h_s_.ltF)).frS e29 dj_b_s_8_b_s_)
 obtain ⟨y42, hy43, r44⟩ := bs_ r38
 refine ck_ (c_overlay_Overlay_Out e29.wf u40 u41 hy43) ?_
 rintro s45 H47 ⟨_, f46, rfl, e48, m49, i50⟩
 obtain ⟨a52, n53, c54, rfl⟩ := m49.form
 refine m49.sq.ln_ 69 (q_ (i_ 0) (s_nil (k39 _ _ ?_)))
 obtain ⟨o55, hx56, r57⟩ := bs_ r44
 refine w_mid (fun α H58 => ∃ (s64 : Value) (f65 : Fp), Has α [] /\ FrS ([b_s] ++ ([b_s_8] ++ fp_s_7)) H47 H58 /\ Ms .i64 enc_u64_i64_i64 H58 b_s_8 o55.1 /\ Ow enc_u64_i64 2 H58 s64 o55.2 f65 /\ Row H58 b_s [pt_ b_s_ 0, i_ s_5, i_ s_6, s64, .map (some b_s_8)] /\ Inn fp_s_7 H47 f65) (fun _ k69 => ?_) (fun α H58 hM => ?_)
 ·refine w_block ?_
  obtain ⟨n71, hn72⟩ := loopO_iff.1 hx56
  have u90 := ((((h_s_7.ext e13).fr e20 (hb14.djn h_s_7.lt)).fr e29 dj_b_s_8_fp_s_7).fr e48 dn_)
  have u91 := (mp27.frS e48 dn_)
  have u92 := (u34.frS e48 dn_)
  refine w_loopn (fun n α H73 => ∃ (s0 : List (Int × Int)), ∃ (s1 : Int -> Option (Int × Int × Int)), ∃ (i2 : Int), ∃ (s77 : Value), ∃ (f78 : Fp), iterO (fun zz_ => z_witness_seek_settle_l0 s_2 s_3 s_4 s_5 s_6 dist hops y42 zz_.1 zz_.2.1 zz_.2.2) n (s0, s1, i2) = some o55 /\ Has α [(0, pt_ b_s 0), (5, pt_ b11 0), (30, .slice a52 n53 c54), (31, i_ (y42.length : Int)), (32, i_ i2)] /\ FrS ([b_s] ++ ([b_s_8] ++ fp_s_7)) H47 H73 /\ Ow enc_u64_i64 2 H73 s77 s0 f78 /\ Ms .i64 enc_u64_i64_i64 H73 b_s_8 s1 /\ Row H73 b_s [pt_ b_s_ 0, i_ s_5, i_ s_6, s77, .map (some b_s_8)] /\ Inn fp_s_7 H47 f78) n71 ⟨s_7, (fun x => if x = v_ then some (dist, hops, 1) else s_8 x), 0, (hd_s_7), fp_s_7, hn72, ha_, (fr_ e48.wf), u90, u91, u92, ir_⟩ ?_
  rintro n71 α H73 ⟨s0, s1, i2, s77, f78, hi85, hh84, e74, m76, m80, m82, i83⟩ K93 k93
  obtain ⟨n86, z87, rfl, hz88, hn89⟩ := iter_succ hi85
  obtain ⟨β, rfl⟩ := has_ex hh84
  clear hh84
  replace hz88 : z_witness_seek_settle_l0 s_2 s_3 s_4 s_5 s_6 dist hops y42 s0 s1 i2 = some z87 := hz88
  unfold z_witness_seek_settle_l0 at hz88
  obtain ⟨a94, n95, c96, rfl⟩ := m76.form
  refine sq_ fun k97 => g_' (q_ (.bool (decide (i2 < (y42.length : Int)))) (s_nil (k97 _ _ (sq_ fun k98 => ?_))))
  refine wc_ (i2 < (y42.length : Int)) (fun h99 => ?_) fun h99 => ?_
  ·have r100 := ite_t h99 hz88
   refine w_skip (k98 _ _ (sq_ fun k101 => w_block (sq_ fun k102 => g_' ?_)))
   obtain ⟨g103, r104⟩ := G_some r100
   have n105 := (t_ (t_ e13.n e20.n) e29.n)
   have d106 := (i50.djn (h_s_7.lt.le n105))
   have d107 := (i50.djn (h_s_8.ltF.le n105))
   have d108 := (i50.djn (h_s.ltF.le n105))
   have u109 := (m49.fr e74 (Dj.app (Dj.symm d108) (Dj.app (Dj.symm d107) (Dj.symm d106))))
   refine u109.sq.ix_ 69 g103 h99 (le_ 71 0 (.agg #[i_ ((gt y42 i2).1), .int .u64 ((gt y42 i2).2.1), i_ ((gt y42 i2).2.2)]) u109.sq g103 h99 ?_)
   refine rk_ e74.wf [i_ 0, .int .u64 0, i_ 0] fun b110 H111 e112 hb113 r114 => ?_
   obtain ⟨H116, q117, e118, r119⟩ := ra_ 71 0 e112.wf r114 [i_ ((gt y42 i2).1), .int .u64 ((gt y42 i2).2.1), i_ ((gt y42 i2).2.2)] [i_ ((gt y42 i2).1), .int .u64 ((gt y42 i2).2.1), i_ ((gt y42 i2).2.2)]
   refine ek_ q117 (s_nil (k102 _ _ (sq_ fun k120 => ?_)))
   refine w_draw [0, 1, 2, 3, 4, 5, 6, 7, 8, 9, 10, 11, 12] (by kernel_rfl) ?_
   refine e_' (pt_ b_s 0) (e_' (pt_ b_s 0) (e_' (pt_ b_s 4) ?_))
   have n121 := (t_ (t_ (t_ (t_ e13.n e20.n) e29.n) e48.n) e74.n)
   have d122 := (hb113.djn (h_s.ltF.le n121))
   have u123 := ((m82.ext e112).frS e118 d122)
   refine mr_ 94 4 (.map (some b_s_8)) u123 (e_' (pt_ b110 0) (mr_ 3 0 (i_ ((gt y42 i2).1)) r119 ?_))
   have d124 := (hb113.djn (h_s_8.ltF.le n121))
   have u125 := ((m80.ext e112).frS e118 d124)
   refine m_' (.tuple #[.agg #[.int .u64 (((s1 ((gt y42 i2).1)).getD ((0, 0, 0) : Int × Int × Int)).1), i_ (((s1 ((gt y42 i2).1)).getD ((0, 0, 0) : Int × Int × Int)).2.1), i_ (((s1 ((gt y42 i2).1)).getD ((0, 0, 0) : Int × Int × Int)).2.2)], .bool ((s1 ((gt y42 i2).1)).isSome)]) (aLookup Try.prog 94 (.map (some b_s_8)) (i_ ((gt y42 i2).1)) true H116) (u125.look2 ((0, 0, 0) : Int × Int × Int) (zv := .agg #[.int .u64 0, i_ 0, i_ 0]) rfl (by kernel_rfl) (by kernel_rfl) _ rfl) (e_' (.tuple #[.agg #[.int .u64 (((s1 ((gt y42 i2).1)).getD ((0, 0, 0) : Int × Int × Int)).1), i_ (((s1 ((gt y42 i2).1)).getD ((0, 0, 0) : Int × Int × Int)).2.1), i_ (((s1 ((gt y42 i2).1)).getD ((0, 0, 0) : Int × Int × Int)).2.2)], .bool ((s1 ((gt y42 i2).1)).isSome)]) (e_' (.agg #[.int .u64 (((s1 ((gt y42 i2).1)).getD ((0, 0, 0) : Int × Int × Int)).1), i_ (((s1 ((gt y42 i2).1)).getD ((0, 0, 0) : Int × Int × Int)).2.1), i_ (((s1 ((gt y42 i2).1)).getD ((0, 0, 0) : Int × Int × Int)).2.2)]) (e_' (.bool ((s1 ((gt y42 i2).1)).isSome)) ?_)))
   refine d_rwk e118.wf [.int .u64 0, i_ 0, i_ 0] (by kernel_rfl) fun b126 H127 e128 hb129 r130 => ?_
   obtain ⟨H132, q133, e134, r135⟩ := ra_ 101 0 e128.wf r130 [.int .u64 (((s1 ((gt y42 i2).1)).getD ((0, 0, 0) : Int × Int × Int)).1), i_ (((s1 ((gt y42 i2).1)).getD ((0, 0, 0) : Int × Int × Int)).2.1), i_ (((s1 ((gt y42 i2).1)).getD ((0, 0, 0) : Int × Int × Int)).2.2)] [.int .u64 (((s1 ((gt y42 i2).1)).getD ((0, 0, 0) : Int × Int × Int)).1), i_ (((s1 ((gt y42 i2).1)).getD ((0, 0, 0) : Int × Int × Int)).2.1), i_ (((s1 ((gt y42 i2).1)).getD ((0, 0, 0) : Int × Int × Int)).2.2)]
   refine fk_ q133 (st_nil) (e_' (.bool ((s1 ((gt y42 i2).1)).isSome)) ?_)
   refine d_nil ?_
   refine k120 _ _ (sq_ fun k136 => g_' (q_ (pt_ b11 0) ?_))
   have d137 := (hb14.djn h_s_7.lt)
   have d138 := (hb14.djn h_s.ltF)
   have n139 := (t_ (t_ (t_ e20.n e29.n) e48.n) e74.n)
   have d140 := (hb113.djn (r15.ltF.le n139))
   have n141 := (t_ (t_ (t_ (t_ (t_ e20.n e29.n) e48.n) e74.n) e112.n) e118.n)
   have d142 := (hb129.djn (r15.ltF.le n141))
   have u143 := ((((((u33.frS e48 dn_).frS e74 (Dj.app (Dj.symm d138) (Dj.app (Dj.symm d32) (Dj.symm d137)))).ext e112).frS e118 d140).ext e128).frS e134 d142)
   refine lr_ 27 0 (.int .u64 dist) u143 (q_ (pt_ b110 1) ?_)
   have d144 := (hb129.djn (r114.ltF.le e118.n))
   have u145 := ((r119.ext e128).frS e134 d144)
   refine lr_ 27 1 (.int .u64 ((gt y42 i2).2.1)) u145 ?_
   obtain ⟨g146, r147⟩ := G_some r104
   refine s_w ((dist + ((gt y42 i2).2.1))) (k := .u64) (x := (dist + ((gt y42 i2).2.1))) (by kernel_rfl) (wrapu64 g146) ?_
   refine q_ (pt_ b11 1) (lr_ 3 1 (i_ hops) u143 ?_)
   obtain ⟨g148, r149⟩ := G_some r147
   refine w_' ((hops + 1)) (wrap64 g148) (q_ (.agg #[.int .u64 (dist + ((gt y42 i2).2.1)), i_ (hops + 1), i_ 0]) ?_)
   refine rk_ e134.wf [.int .u64 0, i_ 0, i_ 0] fun b150 H151 e152 hb153 r154 => ?_
   obtain ⟨H156, q157, e158, r159⟩ := ra_ 101 0 e152.wf r154 [.int .u64 (dist + ((gt y42 i2).2.1)), i_ (hops + 1), i_ 0] [.int .u64 (dist + ((gt y42 i2).2.1)), i_ (hops + 1), i_ 0]
   refine ek_ q157 (s_nil (k136 _ _ (sq_ fun k160 => sq_ fun k161 => ?_)))
   obtain ⟨o162, hx163, r164⟩ := bs_ r149
   refine w_mid (fun α H165 => Has α [(0, pt_ b_s 0), (5, pt_ b11 0), (7, pt_ b110 0), (10, pt_ b150 0), (30, .slice a52 n53 c54), (31, i_ (y42.length : Int)), (32, i_ i2), (76, .bool o162)] /\ H156 = H165) (fun _ k167 => ?_) (fun α H165 hM => ?_)
   ·refine w_draw [0, 1, 2, 3, 4, 5, 6, 7, 8, 9, 10, 11, 12, 13, 14, 15, 16, 17, 18, 19, 20, 21] (by kernel_rfl) ?_
    refine e_' (pt_ b110 0) ?_
    have n169 := (t_ (t_ e118.n e128.n) e134.n)
    have d170 := (hb153.djn (r114.ltF.le n169))
    have u171 := ((u145.ext e152).frS e158 d170)
    refine mr_ 3 0 (i_ ((gt y42 i2).1)) u171 (e_' (pt_ b_s 0) (e_' (pt_ b_s 0) (e_' (pt_ b_s 1) ?_)))
    have n172 := (t_ (t_ (t_ (t_ (t_ (t_ e13.n e20.n) e29.n) e48.n) e74.n) e112.n) e118.n)
    have d173 := (hb129.djn (h_s.ltF.le n172))
    have n174 := (t_ (t_ (t_ (t_ (t_ (t_ (t_ (t_ e13.n e20.n) e29.n) e48.n) e74.n) e112.n) e118.n) e128.n) e134.n)
    have d175 := (hb153.djn (h_s.ltF.le n174))
    have u176 := ((((u123.ext e128).frS e134 d173).ext e152).frS e158 d175)
    refine mr_ 3 1 (i_ s_5) u176 ?_
    refine db_ (((gt y42 i2).1) = s_5) (fun h177 => ?_) fun h177 => ?_
    ·have r178 := ite_t h177 hx163
     refine e_' (.bool true) (j_' (j_' (j_' (e_' (.bool true) (e_' (.bool true) (j_' (j_' (j_' (j_' (j_' (j_' (j_' (j_' (e_' (.bool true) ?_))))))))))))))
     refine d_nil ?_
     obtain rfl := oi_ r178
     exact k167 _ _ ⟨ha_, rfl⟩
    have r179 := ite_f h177 hx163
    refine e_' (.bool false) (e_' (pt_ b126 2) ?_)
    have d180 := (hb153.djn (r130.ltF.le e134.n))
    have u181 := ((r135.ext e152).frS e158 d180)
    refine mr_ 3 2 (i_ (((s1 ((gt y42 i2).1)).getD ((0, 0, 0) : Int × Int × Int)).2.2)) u181 ?_
    refine db_ ((((s1 ((gt y42 i2).1)).getD ((0, 0, 0) : Int × Int × Int)).2.2) > 0) (fun h182 => ?_) fun h182 => ?_
    ·have r183 := ite_t h182 r179
     refine e_' (.bool true) (e_' (.bool true) (j_' (j_' (j_' (j_' (j_' (j_' (j_' (j_' (e_' (.bool true) ?_))))))))))
     refine d_nil ?_
     obtain rfl := oi_ r183
     exact k167 _ _ ⟨ha_, rfl⟩
    have r184 := ite_f h182 r179
    refine e_' (.bool false) (e_' (.bool false) (e_' (.bool ((s1 ((gt y42 i2).1)).isSome)) (e_' (.bool ((s1 ((gt y42 i2).1)).isSome)) ?_)))
    by_cases h185 : (s1 ((gt y42 i2).1)).isSome = true
    ·have r186 := ite_t h185 r184
     rw [h185]
     refine e_' (pt_ b126 0) (mr_ 27 0 (.int .u64 (((s1 ((gt y42 i2).1)).getD ((0, 0, 0) : Int × Int × Int)).1)) u181 (e_' (pt_ b150 0) (mr_ 27 0 (.int .u64 (dist + ((gt y42 i2).2.1))) r159 (e_' (.bool (decide ((((s1 ((gt y42 i2).1)).getD ((0, 0, 0) : Int × Int × Int)).1) ≤ (dist + ((gt y42 i2).2.1))))) (e_' (.bool (decide ((((s1 ((gt y42 i2).1)).getD ((0, 0, 0) : Int × Int × Int)).1) ≤ (dist + ((gt y42 i2).2.1))))) (e_' (.bool (decide ((((s1 ((gt y42 i2).1)).getD ((0, 0, 0) : Int × Int × Int)).1) ≤ (dist + ((gt y42 i2).2.1))))) ?_))))))
     refine d_nil ?_
     obtain rfl := oi_ r186
     exact k167 _ _ ⟨ha_, rfl⟩
    have r187 := ite_f h185 r184
    rw [nb h185]
    refine j_' (j_' (j_' (j_' (j_' (e_' (.bool false) (e_' (.bool false) ?_))))))
    refine d_nil ?_
    obtain rfl := oi_ r187
    exact k167 _ _ ⟨ha_, rfl⟩
   obtain ⟨hh168, rfl⟩ := hM
   obtain ⟨β, rfl⟩ := has_ex hh168
   clear hh168
   refine k161 _ _ ?_
   refine wb_ (o162) (fun h188 => ?_) fun h188 => ?_
   ·have r189 := ite_t h188 r164
    refine w_exit (th_exit (bl_eq ?_))
    refine k101 _ _ (g_' ?_)
    obtain ⟨g190, r191⟩ := G_some r189
    refine w_' ((i2 + 1)) (wrap64 (by have := g190; omega)) (q_ (i_ (i2 + 1)) (s_nil ?_))
    have n192 := (t_ (t_ e74.n e112.n) e118.n)
    have n193 := (t_ (t_ (t_ (t_ e74.n e112.n) e118.n) e128.n) e134.n)
    have n194 := (t_ e112.n e118.n)
    have d195 := (hb129.djn (m76.lt.le n194))
    have n196 := (t_ (t_ (t_ e112.n e118.n) e128.n) e134.n)
    have d197 := (hb153.djn (m76.lt.le n196))
    have u198 := ((((((m76.ext e112).fr e118 (hb113.djn m76.lt)).ext e128).fr e134 d195).ext e152).fr e158 d197)
    have n199 := (t_ (t_ (t_ (t_ (t_ (t_ e13.n e20.n) e29.n) e48.n) e74.n) e112.n) e118.n)
    have d200 := (hb129.djn (h_s_8.ltF.le n199))
    have n201 := (t_ (t_ (t_ (t_ (t_ (t_ (t_ (t_ e13.n e20.n) e29.n) e48.n) e74.n) e112.n) e118.n) e128.n) e134.n)
    have d202 := (hb153.djn (h_s_8.ltF.le n201))
    have u203 := ((((u125.ext e128).frS e134 d200).ext e152).frS e158 d202)
    have d204 := (hb129.djn (h_s.ltF.le n199))
    have d205 := (hb153.djn (h_s.ltF.le n201))
    have u206 := ((((u123.ext e128).frS e134 d204).ext e152).frS e158 d205)
    obtain rfl := oi_ r191
    exact k93 n86 _ _ lt_ ⟨s0, s1, (i2 + 1), (.slice a94 n95 c96), f78, hn89, ha_, (fs_ e48.wf ((fs_ e48.wf ((fs_ e48.wf ((fs_ e48.wf (fr_ e48.wf) e74 ir_).extR e112) e118 (hb113.fresh e74.n)).extR e128) e134 (hb129.fresh n192)).extR e152) e158 (hb153.fresh n193)), u198, u203, u206, (Inn.trans ir_ (Nat.le_refl _) i83)⟩
   have r207 := ite_bf h188 r164
   refine w_skip (k160 _ _ (g_' (q_ (pt_ b_s 0) (q_ (pt_ b110 0) ?_))))
   have n208 := (t_ (t_ e118.n e128.n) e134.n)
   have d209 := (hb153.djn (r114.ltF.le n208))
   have u210 := ((u145.ext e152).frS e158 d209)
   refine lr_ 3 0 (i_ ((gt y42 i2).1)) u210 (lr_ 101 0 (.agg #[.int .u64 (dist + ((gt y42 i2).2.1)), i_ (hops + 1), i_ 0]) r159 ?_)
   have d211 := (hb113.djn (h_s_2.lt.le n121))
   have n212 := (t_ (t_ (t_ (t_ (t_ (t_ e13.n e20.n) e29.n) e48.n) e74.n) e112.n) e118.n)
   have d213 := (hb129.djn (h_s_2.lt.le n212))
   have n214 := (t_ (t_ (t_ (t_ (t_ (t_ (t_ (t_ e13.n e20.n) e29.n) e48.n) e74.n) e112.n) e118.n) e128.n) e134.n)
   have d215 := (hb153.djn (h_s_2.lt.le n214))
   have u216 := ((((((((u40.fr e48 dn_).fr e74 (Dj.app dj_b_s_fp_s_2 (Dj.app dj_b_s_8_fp_s_2 dj_fp_s_7_fp_s_2))).ext e112).fr e118 d211).ext e128).fr e134 d213).ext e152).fr e158 d215)
   have d217 := (hb113.djn (h_s_.ltF.le n121))
   have d218 := (hb129.djn (h_s_.ltF.le n212))
   have d219 := (hb153.djn (h_s_.ltF.le n214))
   have u220 := ((((((((u41.frS e48 dn_).frS e74 (Dj.app dj_b_s_b_s_ (Dj.app dj_b_s_8_b_s_ dj_fp_s_7_b_s_))).ext e112).frS e118 d217).ext e128).frS e134 d218).ext e152).frS e158 d219)
   have n221 := (t_ e112.n e118.n)
   have d222 := (hb129.djn (m76.lt.le n221))
   have n223 := (t_ (t_ (t_ e112.n e118.n) e128.n) e134.n)
   have d224 := (hb153.djn (m76.lt.le n223))
   have u225 := ((((((m76.ext e112).fr e118 (hb113.djn m76.lt)).ext e128).fr e134 d222).ext e152).fr e158 d224)
   have d226 := (hb129.djn (h_s_8.ltF.le n212))
   have d227 := (hb153.djn (h_s_8.ltF.le n214))
   have u228 := ((((u125.ext e128).frS e134 d226).ext e152).frS e158 d227)
   have d229 := (hb129.djn (h_s.ltF.le n212))
   have d230 := (hb153.djn (h_s.ltF.le n214))
   have u231 := ((((u123.ext e128).frS e134 d229).ext e152).frS e158 d230)
   have n232 := (t_ (t_ (t_ e13.n e20.n) e29.n) e48.n)
   have d233 := (i83.dj dj_fp_s_7_b_s_8 (h_s_8.ltF.le n232))
   have d234 := (i83.dj dj_fp_s_7_b_s (h_s.ltF.le n232))
   have d235 := (i83.dj dj_fp_s_7_fp_s_2 (h_s_2.lt.le n232))
   have d236 := (i83.dj dj_fp_s_7_b_s_ (h_s_.ltF.le n232))
   obtain ⟨y237, hy238, r239⟩ := bs_ r207
   refine ck_ (c_witness_seek_set e158.wf u216 u220 u225 u228 u231 dj_b_s_8_fp_s_2 dj_b_s_8_b_s_ (Dj.symm d233) dj_b_s_8_b_s d234 d235 dj_b_s_fp_s_2 d236 dj_b_s_b_s_ hy238) ?_
   rintro _ H242 ⟨s240, f241, rfl, e243, m244, m245, m246, i247⟩
   obtain ⟨a249, n250, c251, rfl⟩ := m245.form
   refine s_nil (k101 _ _ (g_' ?_))
   obtain ⟨g252, r253⟩ := G_some r239
   refine w_' ((i2 + 1)) (wrap64 (by have := g252; omega)) (q_ (i_ (i2 + 1)) (s_nil ?_))
   have n254 := (t_ (t_ e74.n e112.n) e118.n)
   have n255 := (t_ (t_ (t_ (t_ e74.n e112.n) e118.n) e128.n) e134.n)
   have n256 := (t_ (t_ (t_ (t_ (t_ (t_ e74.n e112.n) e118.n) e128.n) e134.n) e152.n) e158.n)
   obtain rfl := oi_ r253
   exact k93 n86 _ _ lt_ ⟨y237.2, y237.1, (i2 + 1), (.slice a249 n250 c251), f241, hn89, ha_, (fs_ e48.wf (fs_ e48.wf ((fs_ e48.wf ((fs_ e48.wf ((fs_ e48.wf (fr_ e48.wf) e74 ir_).extR e112) e118 (hb113.fresh e74.n)).extR e128) e134 (hb129.fresh n254)).extR e152) e158 (hb153.fresh n255)) e243 (Inn.app Inn.left (Inn.app (Inn.right Inn.left) (Inn.trans (Inn.right (Inn.right ir_)) (Nat.le_refl _) i83)))), m245, m244, m246, (Inn.trans (Inn.trans ir_ (Nat.le_refl _) i83) n256 i247)⟩
  have r257 := ite_f h99 hz88
  refine w_exit (th_exit (th_exit (bl_eq ?_)))
  obtain rfl := oi_ r257
  obtain rfl := it_inr hn89
  exact k69 _ _ ⟨(.slice a94 n95 c96), f78, trivial, (fs_ e48.wf (fr_ e48.wf) e74 ir_), m80, m76, m82, (Inn.trans ir_ (Nat.le_refl _) i83)⟩
 obtain ⟨s64, f65, hh70, e59, m61, m63, m67, i68⟩ := hM
 obtain ⟨β, rfl⟩ := has_ex hh70
 clear hh70
 obtain ⟨a258, n259, c260, rfl⟩ := m63.form
 refine b_nrm (vs := []) (rfl) ?_
 have n261 := (t_ (t_ (t_ e13.n e20.n) e29.n) e48.n)
 obtain rfl := oi_ r57
 exact ⟨(.slice a258 n259 c260), f65, rfl, (fs_ wf (fs_ wf (fs_ wf (fs_ wf ((fr_ wf).extR e13) e20 (hb14.fresh (Nat.le_refl _))) e29 (Inn.right Inn.left)) e48 in_) e59 ir_), m61, m63, m67, (Inn.trans ir_ n261 i68)⟩
theorem c_witness_seek_run {H : AH} {b_s : Nat} {b_s_ : Nat} {hd_s_2 : Value} {fp_s_2 : Fp} {hd_s_7 : Value} {fp_s_7 : Fp} {b_s_8 : Nat} {s_2 : List (Bool × List (Int × Int × Int) × List (Int × Int × Int))} {s_3 : Int} {s_4 : Int} {s_5 : Int} {s_6 : Int} {s_7 : List (Int × Int)} {s_8 : Int -> Option (Int × Int × Int)} {u : Int} {most : Int} {settles : Int} {r : (Int -> Option (Int × Int × Int)) × List (Int × Int)}
    (wf : WF H) (h_s_2 : Nd enc_i64_u64_i64 3 H hd_s_2 s_2 fp_s_2 []) (h_s_ : Row H b_s_ [hd_s_2, i_ s_3, i_ s_4]) (h_s_7 : Ow enc_u64_i64 2 H hd_s_7 s_7 fp_s_7) (h_s_8 : Ms .i64 enc_u64_i64_i64 H b_s_8 s_8) (h_s : Row H b_s [pt_ b_s_ 0, i_ s_5, i_ s_6, hd_s_7, .map (some b_s_8)]) (dj_b_s_8_fp_s_2 : Dj [b_s_8] fp_s_2) (dj_b_s_8_b_s_ : Dj [b_s_8] [b_s_]) (dj_b_s_8_fp_s_7 : Dj [b_s_8] fp_s_7) (dj_b_s_8_b_s : Dj [b_s_8] [b_s]) (dj_fp_s_7_b_s : Dj fp_s_7 [b_s]) (dj_fp_s_7_fp_s_2 : Dj fp_s_7 fp_s_2) (dj_b_s_fp_s_2 : Dj [b_s] fp_s_2) (dj_fp_s_7_b_s_ : Dj fp_s_7 [b_s_]) (dj_b_s_b_s_ : Dj [b_s] [b_s_]) (hr : z_witness_seek_run s_2 s_3 s_4 s_5 s_6 s_7 s_8 u most settles = some r) :
    ACalls Try.prog 36 #[pt_ b_s 0, i_ u, .int .u64 most, i_ settles] H fun v H' => ∃ (s5 : Value) (f6 : Fp), v = .tuple #[] /\ FrS ([b_s] ++ ([b_s_8] ++ fp_s_7)) H H' /\ Ms .i64 enc_u64_i64_i64 H' b_s_8 r.1 /\ Ow enc_u64_i64 2 H' s5 r.2 f6 /\ Row H' b_s [pt_ b_s_ 0, i_ s_5, i_ s_6, s5, .map (some b_s_8)] /\ Inn fp_s_7 H f6 := by
 refine ab_ Try.func36 ?_
 unfold z_witness_seek_run at hr
 refine sq_ fun k10 => g_' (q_ (pt_ b_s 0) (q_ (i_ u) (q_ (.agg #[.int .u64 0, i_ 0, i_ 0]) ?_)))
 obtain ⟨y11, hy12, r13⟩ := bs_ hr
 refine ck_ (c_witness_seek_set wf h_s_2 h_s_ h_s_7 h_s_8 h_s dj_b_s_8_fp_s_2 dj_b_s_8_b_s_ dj_b_s_8_fp_s_7 dj_b_s_8_b_s dj_fp_s_7_b_s dj_fp_s_7_fp_s_2 dj_b_s_fp_s_2 dj_fp_s_7_b_s_ dj_b_s_b_s_ hy12) ?_
 rintro _ H16 ⟨s14, f15, rfl, e17, m18, m19, m20, i21⟩
 obtain ⟨a23, n24, c25, rfl⟩ := m19.form
 refine s_nil (k10 _ _ (sq_ fun k26 => g_' (q_ (i_ settles) (l_' (i_ (max 0 settles)) (aMax Try.prog [i_ 0, i_ settles]) (aMax_two _ _) (q_ (i_ 0) (s_nil (k26 _ _ ?_)))))))
 obtain ⟨z30, hx28, r29⟩ := bs_ r13
 refine w_mid (fun α H31 => ∃ o27, z30 = Sum.inr o27 /\ ∃ (s37 : Value) (f38 : Fp), Has α [] /\ FrS ([b_s] ++ ([b_s_8] ++ f15)) H16 H31 /\ Ms .i64 enc_u64_i64_i64 H31 b_s_8 o27.1 /\ Ow enc_u64_i64 2 H31 s37 o27.2 f38 /\ Row H31 b_s [pt_ b_s_ 0, i_ s_5, i_ s_6, s37, .map (some b_s_8)] /\ Inn f15 H16 f38) (fun _ k42 => ?_) (fun α H31 hM => ?_)
 ·refine w_block ?_
  obtain ⟨n44, hn45⟩ := loopO_iff.1 hx28
  refine w_loopn (fun n α H46 => ∃ (s0 : List (Int × Int)), ∃ (s1 : Int -> Option (Int × Int × Int)), ∃ (i2 : Int), ∃ (s50 : Value), ∃ (f51 : Fp), iterO (fun zz_ => z_witness_seek_run_l0 s_2 s_3 s_4 s_5 s_6 most settles zz_.1 zz_.2.1 zz_.2.2) n (s0, s1, i2) = some z30 /\ Has α [(0, pt_ b_s 0), (2, .int .u64 most), (16, i_ (max 0 settles)), (17, i_ i2)] /\ FrS ([b_s] ++ ([b_s_8] ++ f15)) H16 H46 /\ Ow enc_u64_i64 2 H46 s50 s0 f51 /\ Ms .i64 enc_u64_i64_i64 H46 b_s_8 s1 /\ Row H46 b_s [pt_ b_s_ 0, i_ s_5, i_ s_6, s50, .map (some b_s_8)] /\ Inn f15 H16 f51) n44 ⟨y11.2, y11.1, 0, (.slice a23 n24 c25), f15, hn45, ha_, (fr_ e17.wf), m19, m18, m20, ir_⟩ ?_
  rintro n44 α H46 ⟨s0, s1, i2, s50, f51, hi58, hh57, e47, m49, m53, m55, i56⟩ K63 k63
  obtain ⟨n59, z60, rfl, hz61, hn62⟩ := iter_succ hi58
  obtain ⟨β, rfl⟩ := has_ex hh57
  clear hh57
  replace hz61 : z_witness_seek_run_l0 s_2 s_3 s_4 s_5 s_6 most settles s0 s1 i2 = some z60 := hz61
  unfold z_witness_seek_run_l0 at hz61
  obtain ⟨a64, n65, c66, rfl⟩ := m49.form
  refine sq_ fun k67 => g_' (q_ (.bool (decide (i2 < (max 0 settles)))) (s_nil (k67 _ _ (sq_ fun k68 => ?_))))
  refine wc_ (i2 < (max 0 settles)) (fun h69 => ?_) fun h69 => ?_
  ·have r70 := ite_t h69 hz61
   refine w_skip (k68 _ _ (sq_ fun k71 => w_block (sq_ fun k72 => g_' (q_ (pt_ b_s 0) ?_))))
   have d73 := (i21.dj dj_fp_s_7_fp_s_2 h_s_2.lt)
   have u74 := ((h_s_2.fr e17 (Dj.app dj_b_s_fp_s_2 (Dj.app dj_b_s_8_fp_s_2 dj_fp_s_7_fp_s_2))).fr e47 (Dj.app dj_b_s_fp_s_2 (Dj.app dj_b_s_8_fp_s_2 d73)))
   have d75 := (i21.dj dj_fp_s_7_b_s_ h_s_.ltF)
   have u76 := ((h_s_.frS e17 (Dj.app dj_b_s_b_s_ (Dj.app dj_b_s_8_b_s_ dj_fp_s_7_b_s_))).frS e47 (Dj.app dj_b_s_b_s_ (Dj.app dj_b_s_8_b_s_ d75)))
   have d77 := (i56.dj d73 (h_s_2.lt.le e17.n))
   have d78 := (i56.dj d75 (h_s_.ltF.le e17.n))
   have d79 := (i21.dj (Dj.symm dj_b_s_8_fp_s_7) h_s_8.ltF)
   have d80 := (i56.dj d79 (h_s_8.ltF.le e17.n))
   have d81 := (i21.dj dj_fp_s_7_b_s h_s.ltF)
   have d82 := (i56.dj d81 (h_s.ltF.le e17.n))
   obtain ⟨y83, hy84, r85⟩ := bs_ r70
   refine ck_ (c_witness_seek_next e47.wf u74 u76 m49 m53 m55 d77 d78 d80 d82 (Dj.symm dj_b_s_8_b_s) dj_b_s_fp_s_2 dj_b_s_b_s_ hy84) ?_
   rintro _ H87 ⟨s86, rfl, e88, m89, m90⟩
   obtain ⟨a92, n93, c94, rfl⟩ := m89.form
   refine q_ (.tuple #[i_ y83.1, .agg #[.int .u64 y83.2.1, i_ y83.2.2.1, i_ y83.2.2.2.1], .bool y83.2.2.2.2.1]) (q_ (i_ y83.1) (q_ (.agg #[.int .u64 y83.2.1, i_ y83.2.2.1, i_ y83.2.2.2.1]) (q_ (.bool y83.2.2.2.2.1) ?_)))
   refine rk_ e88.wf [.int .u64 0, i_ 0, i_ 0] fun b95 H96 e97 hb98 r99 => ?_
   refine q_ (i_ y83.1) ?_
   obtain ⟨H101, q102, e103, r104⟩ := ra_ 101 0 e97.wf r99 [.int .u64 y83.2.1, i_ y83.2.2.1, i_ y83.2.2.2.1] [.int .u64 y83.2.1, i_ y83.2.2.1, i_ y83.2.2.2.1]
   refine ek_ q102 (q_ (.bool y83.2.2.2.2.1) (s_nil (k72 _ _ (sq_ fun k105 => sq_ fun k106 => ?_))))
   obtain ⟨o107, hx108, r109⟩ := bs_ r85
   refine w_mid (fun α H110 => Has α [(0, pt_ b_s 0), (2, .int .u64 most), (8, i_ y83.1), (9, pt_ b95 0), (16, i_ (max 0 settles)), (17, i_ i2), (32, .bool o107)] /\ H101 = H110) (fun _ k112 => ?_) (fun α H110 hM => ?_)
   ·refine g_' (q_ (.bool y83.2.2.2.2.1) (q_ (.bool (!y83.2.2.2.2.1)) (q_ (.bool (!y83.2.2.2.2.1)) ?_)))
    by_cases h114 : (!y83.2.2.2.2.1) = true
    ·have r115 := ite_t h114 hx108
     rw [h114]
     refine n_' (n_' (n_' (n_' (q_ (.bool true) (s_nil ?_)))))
     obtain rfl := oi_ r115
     exact k112 _ _ ⟨ha_, rfl⟩
    have r116 := ite_f h114 hx108
    rw [nb h114]
    refine q_ (pt_ b95 0) (lr_ 27 0 (.int .u64 y83.2.1) r104 (q_ (.int .u64 most) (q_ (.bool (decide (y83.2.1 > most))) (q_ (.bool (decide (y83.2.1 > most))) (s_nil ?_)))))
    obtain rfl := oi_ r116
    exact k112 _ _ ⟨ha_, rfl⟩
   obtain ⟨hh113, rfl⟩ := hM
   obtain ⟨β, rfl⟩ := has_ex hh113
   clear hh113
   refine k106 _ _ ?_
   refine wb_ (o107) (fun h117 => ?_) fun h117 => ?_
   ·have r118 := ite_t h117 r109
    refine w_ret (th_ret (bl_ret (th_ret (th_ret (bl_ret (th_ret ?_))))))
    obtain ⟨v119, hv120, hz121⟩ := map_some r118
    subst hz121
    obtain rfl := it_inr hn62
    have hq122 := elim_inl r29
    rw [hq122] at hv120
    refine b_ret (vs := []) (rfl) ?_
    have n123 := (t_ (t_ e17.n e47.n) e88.n)
    have d124 := (hb98.djn (h_s_8.ltF.le n123))
    have u125 := (((m53.frS e88 (Dj.app (Dj.symm dj_b_s_8_b_s) d80)).ext e97).frS e103 d124)
    have d126 := (hb98.djn (m49.lt.le e88.n))
    have u127 := ((m89.ext e97).fr e103 d126)
    have d128 := (hb98.djn (h_s.ltF.le n123))
    have u129 := ((m90.ext e97).frS e103 d128)
    obtain rfl := oi_ hv120
    exact ⟨(.slice a92 n93 c94), f51, rfl, (fs_ wf ((fs_ wf (fs_ wf (fs_ wf (fr_ wf) e17 ir_) e47 (Inn.app Inn.left (Inn.app (Inn.right Inn.left) (Inn.trans (Inn.right (Inn.right ir_)) (Nat.le_refl _) i21)))) e88 (Inn.app Inn.left (Inn.trans (Inn.trans (Inn.right (Inn.right ir_)) (Nat.le_refl _) i21) e17.n i56))).extR e97) e103 (hb98.fresh n123)), u125, u127, u129, (Inn.trans (Inn.trans ir_ (Nat.le_refl _) i21) e17.n i56)⟩
   have r130 := ite_bf h117 r109
   refine w_skip (k105 _ _ (g_' (q_ (pt_ b_s 0) (q_ (i_ y83.1) (lr_ 101 0 (.agg #[.int .u64 y83.2.1, i_ y83.2.2.1, i_ y83.2.2.2.1]) r104 ?_)))))
   have n131 := (t_ (t_ e17.n e47.n) e88.n)
   have d132 := (hb98.djn (h_s_2.lt.le n131))
   have u133 := (((u74.fr e88 (Dj.app dj_b_s_fp_s_2 d77)).ext e97).fr e103 d132)
   have d134 := (hb98.djn (h_s_.ltF.le n131))
   have u135 := (((u76.frS e88 (Dj.app dj_b_s_b_s_ d78)).ext e97).frS e103 d134)
   have d136 := (hb98.djn (m49.lt.le e88.n))
   have u137 := ((m89.ext e97).fr e103 d136)
   have d138 := (hb98.djn (h_s_8.ltF.le n131))
   have u139 := (((m53.frS e88 (Dj.app (Dj.symm dj_b_s_8_b_s) d80)).ext e97).frS e103 d138)
   have d140 := (hb98.djn (h_s.ltF.le n131))
   have u141 := ((m90.ext e97).frS e103 d140)
   obtain ⟨y142, hy143, r144⟩ := bs_ r130
   refine ck_ (c_witness_seek_settle e103.wf u133 u135 u137 u139 u141 dj_b_s_8_b_s (Dj.symm d80) dj_b_s_8_fp_s_2 dj_b_s_8_b_s_ d82 d77 dj_b_s_fp_s_2 d78 dj_b_s_b_s_ d80 hy143) ?_
   rintro _ H147 ⟨s145, f146, rfl, e148, m149, m150, m151, i152⟩
   obtain ⟨a154, n155, c156, rfl⟩ := m150.form
   refine s_nil (k71 _ _ (g_' ?_))
   obtain ⟨g157, r158⟩ := G_some r144
   refine w_' ((i2 + 1)) (wrap64 g157) (q_ (i_ (i2 + 1)) (s_nil ?_))
   have n159 := (t_ e47.n e88.n)
   have n160 := (t_ (t_ (t_ e47.n e88.n) e97.n) e103.n)
   obtain rfl := oi_ r158
   exact k63 n59 _ _ lt_ ⟨y142.2, y142.1, (i2 + 1), (.slice a154 n155 c156), f146, hn62, ha_, (fs_ e17.wf (fs_ e17.wf ((fs_ e17.wf (fs_ e17.wf (fr_ e17.wf) e47 ir_) e88 (Inn.app Inn.left (Inn.trans (Inn.right (Inn.right ir_)) (Nat.le_refl _) i56))).extR e97) e103 (hb98.fresh n159)) e148 (Inn.app Inn.left (Inn.app (Inn.right Inn.left) (Inn.trans (Inn.right (Inn.right ir_)) (Nat.le_refl _) i56)))), m150, m149, m151, (Inn.trans (Inn.trans ir_ (Nat.le_refl _) i56) n160 i152)⟩
  have r161 := ite_f h69 hz61
  refine w_exit (th_exit (th_exit (bl_eq ?_)))
  obtain rfl := oi_ r161
  obtain rfl := it_inr hn62
  exact k42 _ _ ⟨_, rfl, (.slice a64 n65 c66), f51, trivial, (fs_ e17.wf (fr_ e17.wf) e47 ir_), m53, m49, m55, (Inn.trans ir_ (Nat.le_refl _) i56)⟩
 obtain ⟨o27, rfl, s37, f38, hh43, e32, m34, m36, m40, i41⟩ := hM
 have r162 := elim_inr r29
 obtain ⟨β, rfl⟩ := has_ex hh43
 clear hh43
 obtain ⟨a163, n164, c165, rfl⟩ := m36.form
 refine b_nrm (vs := []) (rfl) ?_
 obtain rfl := oi_ r162
 exact ⟨(.slice a163 n164 c165), f38, rfl, (fs_ wf (fs_ wf (fr_ wf) e17 ir_) e32 (Inn.app Inn.left (Inn.app (Inn.right Inn.left) (Inn.trans (Inn.right (Inn.right ir_)) (Nat.le_refl _) i21)))), m34, m36, m40, (Inn.trans (Inn.trans ir_ (Nat.le_refl _) i21) e17.n i41)⟩
end Go.Vd
