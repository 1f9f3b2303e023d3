/- The walks of the functions (printed by a program of ours). -/
import Derived.Test.YtlohhdkkhedejaaGreatDoorPst2
import Derived.Test.YtlohhdkkhedejaaGreatDoorPstDrG
import Derived.Test.YtlohhdkkhedejaaGreatDoorPstISt
import Derived.Test.YtlohhdkkhedejaaGreatDoorPstVeN
import Derived.Test.YtlohhdkkhedejaaGreatDoorPstSoA
import Derived.Test.YtlohhdkkhedejaaGreatDoorPstVeV
set_option linter.unusedVariables false
set_option linter.unusedSimpArgs false
set_option linter.unusedSectionVars false
/-! (KSt7) -/

set_option maxRecDepth 100000
set_option maxHeartbeats 4000000
set_option linter.unusedVariables false
namespace Go.Vd
open Go.Proofs
attribute [local irreducible] wpSeq wpOrd aWp
theorem c_viaductref05_DocCheck {H : AH} {hd_First : Value} {fp_First : Fp} {hd_To : Value} {fp_To : Fp} {hd_Weight : Value} {fp_Weight : Fp} {First : List (Int)} {To : List (Int)} {Weight : List (Int)} {r : Int × List (Int × Int)}
    (wf : WF H) (h_First : Sq (encI .i64) 1 H hd_First First fp_First) (h_To : Sq (encI .i64) 1 H hd_To To fp_To) (h_Weight : Sq (encI .i64) 1 H hd_Weight Weight fp_Weight) (hr : z_viaductref05_DocCheck First To Weight = some r) :
    ACalls Tryz.prog 73 #[.agg #[hd_First, hd_To, hd_Weight]] H fun v H' => ∃ (s3 : Value) (f4 : Fp), v = .agg #[i_ r.1, s3] ∧ FrS [] H H' ∧ Ow enc_i64_i64 2 H' s3 r.2 f4 ∧ Inn [] H f4 := by
 refine acalls_of_body mixed Tryz.func73 rfl (Nat.le_of_ble_eq_true rfl) ?_
 unfold z_viaductref05_DocCheck at hr
 refine w_seqk fun _ k6 => g_' ?_
 refine s_rwl wf [hd_First, hd_To, hd_Weight] (one_cons (h_First.one1) (one_cons (h_To.one1) (one_cons (h_Weight.one1) (one_nil)))) (by kernel_rfl) fun b7 H8 e9 hb10 r11 => ?_
 refine s_rwk e9.wf [i_ 0, .slice none 0 0] (by kernel_rfl) fun b13 H14 e15 hb16 r17 => ?_
 refine s_nil (k6 _ _ (w_seqk fun _ k19 => ?_))
 refine w_draw [0, 1, 2, 3, 4, 5, 6, 7, 8] (by kernel_rfl) ?_
 refine e_' (pt_ b7 0) ?_
 have u20 := (r11.ext e15)
 refine m_' (hd_First) (aLoad Tryz.prog 23 (pt_ b7 0) H14) (u20.ld (by kernel_rfl)) ?_
 have u21 := ((h_First.ext e9).ext e15)
 refine m_' (i_ (First.length : Int)) (aLen Tryz.prog 23 hd_First H14) (u21.lenb (by kernel_rfl)) ?_
 obtain ⟨g22, r23⟩ := G_some hr
 refine d_w (((First.length : Int) - 1)) (k := .i64) (x := ((First.length : Int) - 1)) (by kernel_rfl) (wrap64 g22) ?_
 refine e_' (pt_ b7 1) ?_
 refine m_' (hd_To) (aLoad Tryz.prog 23 (pt_ b7 1) H14) (u20.ld (by kernel_rfl)) ?_
 have u24 := ((h_To.ext e9).ext e15)
 refine m_' (i_ (To.length : Int)) (aLen Tryz.prog 23 hd_To H14) (u24.lenb (by kernel_rfl)) ?_
 refine e_' (i_ ((First.length : Int) - 1)) (e_' (i_ (To.length : Int)) ?_)
 refine d_nil ?_
 refine k19 _ _ (w_seqk fun _ k25 => w_seqk fun _ k26 => ?_)
 obtain ⟨o27, hx28, r29⟩ := bind_some r23
 refine w_mid (fun α H30 => Has α [(1, pt_ b7 0), (2, pt_ b13 0), (3, i_ ((First.length : Int) - 1)), (4, i_ (To.length : Int)), (40, .bool o27)] ∧ H14 = H30) (fun _ k32 => ?_) (fun α H30 hM => ?_)
 ·refine g_' (q_ (i_ ((First.length : Int) - 1)) ?_)
  refine s_b (((First.length : Int) - 1) < 0) (by kernel_rfl) (fun h34 => ?_) (fun h34 => ?_)
  ·have r35 := ite_t h34 hx28
   refine q_ (.bool true) (n_' (n_' (n_' (n_' (n_' (q_ (.bool true) (q_ (.bool true) (n_' (n_' (n_' (n_' (n_' (n_' (n_' (q_ (.bool true) (q_ (.bool true) (n_' (n_' (n_' (n_' (n_' (q_ (.bool true) (s_nil ?_)))))))))))))))))))))))
   obtain rfl := Option.some.inj r35
   exact k32 _ _ ⟨ha_, rfl⟩
  have r36 := ite_f h34 hx28
  refine q_ (.bool false) (q_ (pt_ b7 0) ?_)
  refine l_' (hd_First) (aLoad Tryz.prog 23 (pt_ b7 0) H14) (u20.ld (by kernel_rfl)) ?_
  obtain ⟨g37, r38⟩ := G_some r36
  refine l_' (elp hd_First 1 (0 : Int).toNat 0) (aIndexAddr Tryz.prog 23 hd_First (i_ 0)) (u21.idxb (by kernel_rfl) (by decide) g37) ?_
  refine l_' (i_ (gt First 0)) (aLoad Tryz.prog 3 (elp hd_First 1 (0 : Int).toNat 0) H14) (u21.ld (by decide) g37 (by kernel_rfl)) ?_
  refine s_bn ((gt First 0) = 0) (by kernel_rfl) (fun h39 => ?_) (fun h39 => ?_)
  ·have r40 := ite_t h39 r38
   refine q_ (.bool false) (q_ (.bool false) (q_ (pt_ b7 0) ?_))
   refine l_' (hd_First) (aLoad Tryz.prog 23 (pt_ b7 0) H14) (u20.ld (by kernel_rfl)) ?_
   refine q_ (i_ ((First.length : Int) - 1)) ?_
   obtain ⟨g41, r42⟩ := G_some r40
   refine l_' (elp hd_First 1 ((First.length : Int) - 1).toNat 0) (aIndexAddr Tryz.prog 23 hd_First (i_ ((First.length : Int) - 1))) (u21.idxb (by kernel_rfl) g41.1 g41.2) ?_
   refine l_' (i_ (gt First ((First.length : Int) - 1))) (aLoad Tryz.prog 3 (elp hd_First 1 ((First.length : Int) - 1).toNat 0) H14) (u21.ld g41.1 g41.2 (by kernel_rfl)) ?_
   refine q_ (i_ (To.length : Int)) ?_
   refine s_bn ((gt First ((First.length : Int) - 1)) = (To.length : Int)) (by kernel_rfl) (fun h43 => ?_) (fun h43 => ?_)
   ·have r44 := ite_t h43 r42
    refine q_ (.bool false) (q_ (.bool false) (q_ (pt_ b7 2) ?_))
    refine l_' (hd_Weight) (aLoad Tryz.prog 23 (pt_ b7 2) H14) (u20.ld (by kernel_rfl)) ?_
    have u45 := ((h_Weight.ext e9).ext e15)
    refine l_' (i_ (Weight.length : Int)) (aLen Tryz.prog 23 hd_Weight H14) (u45.lenb (by kernel_rfl)) ?_
    refine q_ (i_ (To.length : Int)) (q_ (.bool (!decide ((Weight.length : Int) = (To.length : Int)))) (q_ (.bool (!decide ((Weight.length : Int) = (To.length : Int)))) (s_nil ?_)))
    obtain rfl := Option.some.inj r44
    exact k32 _ _ ⟨ha_, rfl⟩
   have r46 := ite_f h43 r42
   refine q_ (.bool true) (q_ (.bool true) (n_' (n_' (n_' (n_' (n_' (q_ (.bool true) (s_nil ?_))))))))
   obtain rfl := Option.some.inj r46
   exact k32 _ _ ⟨ha_, rfl⟩
  have r47 := ite_f h39 r38
  refine q_ (.bool true) (q_ (.bool true) (n_' (n_' (n_' (n_' (n_' (n_' (n_' (q_ (.bool true) (q_ (.bool true) (n_' (n_' (n_' (n_' (n_' (q_ (.bool true) (s_nil ?_)))))))))))))))))
  obtain rfl := Option.some.inj r47
  exact k32 _ _ ⟨ha_, rfl⟩
 obtain ⟨hh33, rfl⟩ := hM
 obtain ⟨β, rfl⟩ := has_ex hh33
 clear hh33
 refine k26 _ _ ?_
 refine w_cond (o27) (by kernel_rfl) rfl (fun h48 => ?_) (fun h48 => ?_)
 ·have r49 := ite_t h48 r29
  refine w_seqk fun _ k50 => g_' ?_
  obtain ⟨y51, hy52, r53⟩ := bind_some r49
  refine s_ck 12 #[i_ 14] (by kernel_rfl) (c_viaductref01_E e15.wf hy52) ?_
  rintro _ H54 ⟨rfl, e55⟩
  have u60 := (r17.frS e55 Dj.nil_l)
  obtain ⟨H56, q57, e58, r59⟩ := Row.store (P := Tryz.prog) (t := 41) (p := 0) e55.wf u60 (.agg #[i_ y51, .slice none 0 0]) [i_ y51, .slice none 0 0] (by kernel_rfl) (by kernel_rfl) (one_cons (rfl) (one_cons (rfl) (one_nil))) (Nat.le_of_ble_eq_true (by kernel_rfl)) [i_ y51, .slice none 0 0] (by kernel_rfl)
  refine s_ek (undef) (by kernel_rfl) (map_ok q57) ?_
  refine s_nil (k50 _ _ ?_)
  refine w_ret (th_ret ?_)
  refine b_ret (fn := Tryz.f73) (vs := [.agg #[i_ y51, .slice none 0 0]]) (aRes_cell (Eq.trans (b := aLoad Tryz.prog 41 (pt_ b13 0) H56) (by kernel_rfl) (r59.ld (by kernel_rfl))) (rfl)) ?_
  obtain rfl := Option.some.inj r53
  exact ⟨(.slice none 0 0), [], rfl, (FrS.step wf (FrS.step wf (((FrS.refl (W := []) wf).extR e9).extR e15) e55 Inn.nil) e58 (hb16.fresh e9.next)), (Ow.nil (by decide)), Inn.nil⟩
 have r61 := ite_bf h48 r29
 refine w_skip (k25 _ _ (w_seqk fun _ k62 => w_seqk fun _ k63 => ?_))
 obtain ⟨o64, hx65, r66⟩ := bind_some r61
 refine w_mid (fun α H67 => Has α [(1, pt_ b7 0), (2, pt_ b13 0), (3, i_ ((First.length : Int) - 1)), (4, i_ (To.length : Int)), (47, .bool o64)] ∧ H14 = H67) (fun _ k69 => ?_) (fun α H67 hM => ?_)
 ·refine g_' (q_ (i_ ((First.length : Int) - 1)) ?_)
  refine s_b (((First.length : Int) - 1) > 65536) (by kernel_rfl) (fun h71 => ?_) (fun h71 => ?_)
  ·have r72 := ite_t h71 hx65
   refine q_ (.bool true) (n_' (n_' (q_ (.bool true) (s_nil ?_))))
   obtain rfl := Option.some.inj r72
   exact k69 _ _ ⟨ha_, rfl⟩
  have r73 := ite_f h71 hx65
  refine q_ (.bool false) (q_ (i_ (To.length : Int)) (q_ (.bool (decide ((To.length : Int) > 262144))) (q_ (.bool (decide ((To.length : Int) > 262144))) (s_nil ?_))))
  obtain rfl := Option.some.inj r73
  exact k69 _ _ ⟨ha_, rfl⟩
 obtain ⟨hh70, rfl⟩ := hM
 obtain ⟨β, rfl⟩ := has_ex hh70
 clear hh70
 refine k63 _ _ ?_
 refine w_cond (o64) (by kernel_rfl) rfl (fun h74 => ?_) (fun h74 => ?_)
 ·have r75 := ite_t h74 r66
  refine w_seqk fun _ k76 => g_' ?_
  obtain ⟨y77, hy78, r79⟩ := bind_some r75
  refine s_ck 12 #[i_ 9] (by kernel_rfl) (c_viaductref01_E e15.wf hy78) ?_
  rintro _ H80 ⟨rfl, e81⟩
  have u86 := (r17.frS e81 Dj.nil_l)
  obtain ⟨H82, q83, e84, r85⟩ := Row.store (P := Tryz.prog) (t := 41) (p := 0) e81.wf u86 (.agg #[i_ y77, .slice none 0 0]) [i_ y77, .slice none 0 0] (by kernel_rfl) (by kernel_rfl) (one_cons (rfl) (one_cons (rfl) (one_nil))) (Nat.le_of_ble_eq_true (by kernel_rfl)) [i_ y77, .slice none 0 0] (by kernel_rfl)
  refine s_ek (undef) (by kernel_rfl) (map_ok q83) ?_
  refine s_nil (k76 _ _ ?_)
  refine w_ret (th_ret ?_)
  refine b_ret (fn := Tryz.f73) (vs := [.agg #[i_ y77, .slice none 0 0]]) (aRes_cell (Eq.trans (b := aLoad Tryz.prog 41 (pt_ b13 0) H82) (by kernel_rfl) (r85.ld (by kernel_rfl))) (rfl)) ?_
  obtain rfl := Option.some.inj r79
  exact ⟨(.slice none 0 0), [], rfl, (FrS.step wf (FrS.step wf (((FrS.refl (W := []) wf).extR e9).extR e15) e81 Inn.nil) e84 (hb16.fresh e9.next)), (Ow.nil (by decide)), Inn.nil⟩
 have r87 := ite_bf h74 r66
 refine w_skip (k62 _ _ (w_seqk fun _ k88 => w_seqk fun _ k89 => g_' (q_ (i_ 0) (s_nil (k89 _ _ ?_)))))
 obtain ⟨z93, hx91, r92⟩ := bind_some r87
 refine w_mid (fun α H94 => ∃ o90, z93 = Sum.inr o90 ∧ Has α [(1, pt_ b7 0), (2, pt_ b13 0), (3, i_ ((First.length : Int) - 1)), (4, i_ (To.length : Int))] ∧ H14 = H94) (fun _ k96 => ?_) (fun α H94 hM => ?_)
 ·refine w_block ?_
  obtain ⟨n98, hn99⟩ := loopO_iff.1 hx91
  refine w_loopn (fun n α H100 => ∃ (v0 : Int), iterO (fun zz_ => z_viaductref05_DocCheck_l0 First zz_) n v0 = some z93 ∧ Has α [(1, pt_ b7 0), (2, pt_ b13 0), (3, i_ ((First.length : Int) - 1)), (4, i_ (To.length : Int)), (5, i_ v0)] ∧ H14 = H100) n98 ⟨0, hn99, ha_, rfl⟩ ?_
  rintro n98 α H100 ⟨v0, hi103, hh102, rfl⟩ K108 k108
  obtain ⟨n104, z105, rfl, hz106, hn107⟩ := iter_succ hi103
  obtain ⟨β, rfl⟩ := has_ex hh102
  clear hh102
  replace hz106 : z_viaductref05_DocCheck_l0 First v0 = some z105 := hz106
  unfold z_viaductref05_DocCheck_l0 at hz106
  refine w_seqk fun _ k109 => w_seqk fun _ k110 => g_' (q_ (i_ v0) (q_ (i_ ((First.length : Int) - 1)) (q_ (.bool (decide (v0 < ((First.length : Int) - 1)))) (s_nil (k110 _ _ ?_)))))
  refine w_condp (v0 < ((First.length : Int) - 1)) (by kernel_rfl) rfl (fun h111 => ?_) (fun h111 => ?_)
  ·have r112 := ite_t h111 hz106
   refine w_skip (k109 _ _ (w_seqk fun _ k113 => w_block (w_seqk fun _ k114 => ?_)))
   refine w_draw [0, 1, 2, 3, 4, 5, 6, 7, 8, 9, 10, 11] (by kernel_rfl) ?_
   refine e_' (pt_ b7 0) ?_
   refine m_' (hd_First) (aLoad Tryz.prog 23 (pt_ b7 0) H14) (u20.ld (by kernel_rfl)) ?_
   refine e_' (i_ v0) ?_
   obtain ⟨g115, r116⟩ := G_some r112
   refine d_w ((v0 + 1)) (k := .i64) (x := (v0 + 1)) (by kernel_rfl) (wrap64 g115) ?_
   obtain ⟨g117, r118⟩ := G_some r116
   refine m_' (elp hd_First 1 (v0 + 1).toNat 0) (aIndexAddr Tryz.prog 23 hd_First (i_ (v0 + 1))) (u21.idxb (by kernel_rfl) g117.1 g117.2) ?_
   refine m_' (i_ (gt First (v0 + 1))) (aLoad Tryz.prog 3 (elp hd_First 1 (v0 + 1).toNat 0) H14) (u21.ld g117.1 g117.2 (by kernel_rfl)) ?_
   refine e_' (pt_ b7 0) ?_
   refine m_' (hd_First) (aLoad Tryz.prog 23 (pt_ b7 0) H14) (u20.ld (by kernel_rfl)) ?_
   refine e_' (i_ v0) ?_
   obtain ⟨g119, r120⟩ := G_some r118
   refine m_' (elp hd_First 1 v0.toNat 0) (aIndexAddr Tryz.prog 23 hd_First (i_ v0)) (u21.idxb (by kernel_rfl) g119.1 g119.2) ?_
   refine m_' (i_ (gt First v0)) (aLoad Tryz.prog 3 (elp hd_First 1 v0.toNat 0) H14) (u21.ld g119.1 g119.2 (by kernel_rfl)) ?_
   refine e_' (.bool (decide ((gt First (v0 + 1)) < (gt First v0)))) ?_
   refine d_nil ?_
   refine k114 _ _ ?_
   refine w_condp ((gt First (v0 + 1)) < (gt First v0)) (by kernel_rfl) rfl (fun h121 => ?_) (fun h121 => ?_)
   ·have r122 := ite_t h121 r120
    refine w_seqk fun _ k123 => g_' (q_ (i_ v0) ?_)
    obtain ⟨y124, hy125, r126⟩ := bind_some r122
    refine s_ck 12 #[i_ 14] (by kernel_rfl) (c_viaductref01_E e15.wf hy125) ?_
    rintro _ H127 ⟨rfl, e128⟩
    obtain ⟨y129, hy130, r131⟩ := bind_some r126
    refine s_ck 61 #[i_ 3, i_ v0, .agg #[i_ y124, .slice none 0 0]] (by kernel_rfl) (c_viaductref01_At e128.wf (Sq.nil (enc := enc_i64_i64) (sz := 2) (by decide)) hy130) ?_
    rintro _ H134 ⟨s132, f133, rfl, e135, m136, i137⟩
    obtain ⟨a139, n140, c141, rfl⟩ := m136.form
    have u146 := ((r17.frS e128 Dj.nil_l).frS e135 Dj.nil_l)
    obtain ⟨H142, q143, e144, r145⟩ := Row.store (P := Tryz.prog) (t := 41) (p := 0) e135.wf u146 (.agg #[i_ y129.1, .slice a139 n140 c141]) [i_ y129.1, .slice a139 n140 c141] (by kernel_rfl) (by kernel_rfl) (one_cons (rfl) (one_cons (m136.one1) (one_nil))) (Nat.le_of_ble_eq_true (by kernel_rfl)) [i_ y129.1, .slice a139 n140 c141] (by kernel_rfl)
    refine s_ek (undef) (by kernel_rfl) (map_ok q143) ?_
    refine s_nil (k123 _ _ ?_)
    refine w_ret (bl_ret (th_ret (th_ret (bl_ret (th_ret (th_ret ?_))))))
    obtain ⟨v147, hv148, hz149⟩ := map_some r131
    subst hz149
    obtain rfl := it_inr hn107
    have hq150 := elim_inl r92
    rw [hq150] at hv148
    refine b_ret (fn := Tryz.f73) (vs := [.agg #[i_ y129.1, .slice a139 n140 c141]]) (aRes_cell (Eq.trans (b := aLoad Tryz.prog 41 (pt_ b13 0) H142) (by kernel_rfl) (r145.ld (by kernel_rfl))) (rfl)) ?_
    have u151 := (m136.fr e144 (Dj.symm (i137.djn (r17.ltF.le e128.next))))
    obtain rfl := Option.some.inj hv148
    exact ⟨(.slice a139 n140 c141), f133, rfl, (FrS.step wf (FrS.step wf (FrS.step wf (((FrS.refl (W := []) wf).extR e9).extR e15) e128 Inn.nil) e135 Inn.nil) e144 (hb16.fresh e9.next)), u151, (i137.fresh (ntr (ntr e9.next e15.next) e128.next))⟩
   have r152 := ite_f h121 r120
   refine w_skip (k113 _ _ (g_' (q_ (i_ v0) ?_)))
   obtain ⟨g153, r154⟩ := G_some r152
   refine w_' (v0 + 1) (wrap64 (by have := g153; omega)) ?_
   refine q_ (i_ (v0 + 1)) (s_nil ?_)
   obtain rfl := Option.some.inj r154
   exact k108 n104 _ _ (Nat.lt_succ_self _) ⟨(v0 + 1), hn107, ha_, rfl⟩
  have r155 := ite_f h111 hz106
  refine w_exit (th_exit (th_exit (bl_eq ?_)))
  obtain rfl := Option.some.inj r155
  obtain rfl := it_inr hn107
  exact k96 _ _ ⟨_, rfl, ha_, rfl⟩
 obtain ⟨o90, rfl, hh97, rfl⟩ := hM
 have r156 := elim_inr r92
 obtain ⟨β, rfl⟩ := has_ex hh97
 clear hh97
 refine k88 _ _ (w_seqk fun _ k157 => g_' (q_ (i_ 0) (s_nil (k157 _ _ (w_seqk fun _ k158 => w_seqk fun _ k159 => g_' (q_ (i_ 0) (s_nil (k159 _ _ ?_))))))))
 obtain ⟨z163, hx161, r162⟩ := bind_some r156
 refine w_mid (fun α H164 => ∃ o160, z163 = Sum.inr o160 ∧ Has α [(2, pt_ b13 0)] ∧ H14 = H164) (fun _ k166 => ?_) (fun α H164 hM => ?_)
 ·refine w_block ?_
  obtain ⟨n168, hn169⟩ := loopO_iff.1 hx161
  refine w_loopn (fun n α H170 => ∃ (v2 : Int), ∃ (i3 : Int), iterO (fun zz_ => z_viaductref05_DocCheck_l2 First To Weight zz_.1 zz_.2) n (v2, i3) = some z163 ∧ Has α [(1, pt_ b7 0), (2, pt_ b13 0), (3, i_ ((First.length : Int) - 1)), (4, i_ (To.length : Int)), (6, i_ v2), (7, i_ i3)] ∧ H14 = H170) n168 ⟨0, 0, hn169, ha_, rfl⟩ ?_
  rintro n168 α H170 ⟨v2, i3, hi173, hh172, rfl⟩ K178 k178
  obtain ⟨n174, z175, rfl, hz176, hn177⟩ := iter_succ hi173
  obtain ⟨β, rfl⟩ := has_ex hh172
  clear hh172
  replace hz176 : z_viaductref05_DocCheck_l2 First To Weight v2 i3 = some z175 := hz176
  unfold z_viaductref05_DocCheck_l2 at hz176
  refine w_seqk fun _ k179 => w_seqk fun _ k180 => g_' (q_ (i_ i3) (q_ (i_ (To.length : Int)) (q_ (.bool (decide (i3 < (To.length : Int)))) (s_nil (k180 _ _ ?_)))))
  refine w_condp (i3 < (To.length : Int)) (by kernel_rfl) rfl (fun h181 => ?_) (fun h181 => ?_)
  ·have r182 := ite_t h181 hz176
   refine w_skip (k179 _ _ (w_seqk fun _ k183 => w_block (w_seqk fun _ k184 => ?_)))
   obtain ⟨o185, hx186, r187⟩ := bind_some r182
   refine w_mid (fun α H188 => Has α [(1, pt_ b7 0), (2, pt_ b13 0), (3, i_ ((First.length : Int) - 1)), (4, i_ (To.length : Int)), (6, i_ o185), (7, i_ i3)] ∧ H14 = H188) (fun _ k190 => ?_) (fun α H188 hM => ?_)
   ·refine w_block ?_
    obtain ⟨n192, hn193⟩ := loopO_iff.1 hx186
    refine w_loopn (fun n α H194 => ∃ (v1 : Int), iterO (fun zz_ => z_viaductref05_DocCheck_l1 First i3 zz_) n v1 = some o185 ∧ Has α [(1, pt_ b7 0), (2, pt_ b13 0), (3, i_ ((First.length : Int) - 1)), (4, i_ (To.length : Int)), (6, i_ v1), (7, i_ i3)] ∧ H14 = H194) n192 ⟨v2, hn193, ha_, rfl⟩ ?_
    rintro n192 α H194 ⟨v1, hi197, hh196, rfl⟩ K202 k202
    obtain ⟨n198, z199, rfl, hz200, hn201⟩ := iter_succ hi197
    obtain ⟨β, rfl⟩ := has_ex hh196
    clear hh196
    replace hz200 : z_viaductref05_DocCheck_l1 First i3 v1 = some z199 := hz200
    unfold z_viaductref05_DocCheck_l1 at hz200
    refine w_seqk fun _ k203 => w_seqk fun _ k204 => g_' (q_ (pt_ b7 0) ?_)
    refine l_' (hd_First) (aLoad Tryz.prog 23 (pt_ b7 0) H14) (u20.ld (by kernel_rfl)) ?_
    refine q_ (i_ v1) ?_
    obtain ⟨g205, r206⟩ := G_some hz200
    refine w_' (v1 + 1) (wrap64 g205) ?_
    obtain ⟨g207, r208⟩ := G_some r206
    refine l_' (elp hd_First 1 (v1 + 1).toNat 0) (aIndexAddr Tryz.prog 23 hd_First (i_ (v1 + 1))) (u21.idxb (by kernel_rfl) g207.1 g207.2) ?_
    refine l_' (i_ (gt First (v1 + 1))) (aLoad Tryz.prog 3 (elp hd_First 1 (v1 + 1).toNat 0) H14) (u21.ld g207.1 g207.2 (by kernel_rfl)) ?_
    refine q_ (i_ i3) (q_ (.bool (decide ((gt First (v1 + 1)) ≤ i3))) (s_nil (k204 _ _ ?_)))
    refine w_condp ((gt First (v1 + 1)) ≤ i3) (by kernel_rfl) rfl (fun h209 => ?_) (fun h209 => ?_)
    ·have r210 := ite_t h209 r208
     refine w_skip (k203 _ _ (w_block (g_' (q_ (i_ v1) ?_))))
     obtain ⟨g211, r212⟩ := G_some r210
     refine w_' (v1 + 1) (wrap64 (by have := g211; omega)) ?_
     refine q_ (i_ (v1 + 1)) (s_nil ?_)
     obtain rfl := Option.some.inj r212
     exact k202 n198 _ _ (Nat.lt_succ_self _) ⟨(v1 + 1), hn201, ha_, rfl⟩
    have r213 := ite_f h209 r208
    refine w_exit (th_exit (th_exit (bl_eq ?_)))
    obtain rfl := Option.some.inj r213
    obtain rfl := it_inr hn201
    exact k190 _ _ ⟨ha_, rfl⟩
   obtain ⟨hh191, rfl⟩ := hM
   obtain ⟨β, rfl⟩ := has_ex hh191
   clear hh191
   refine k184 _ _ (w_seqk fun _ k214 => g_' (q_ (i_ 0) (s_nil (k214 _ _ (w_seqk fun _ k215 => w_block (w_seqk fun _ k216 => ?_))))))
   obtain ⟨o217, hx218, r219⟩ := bind_some r187
   refine w_mid (fun α H220 => Has α [(1, pt_ b7 0), (2, pt_ b13 0), (3, i_ ((First.length : Int) - 1)), (4, i_ (To.length : Int)), (6, i_ o185), (7, i_ i3), (8, i_ 0), (84, .bool o217)] ∧ H14 = H220) (fun _ k222 => ?_) (fun α H220 hM => ?_)
   ·refine g_' (q_ (pt_ b7 1) ?_)
    refine l_' (hd_To) (aLoad Tryz.prog 23 (pt_ b7 1) H14) (u20.ld (by kernel_rfl)) ?_
    refine q_ (i_ i3) ?_
    obtain ⟨g224, r225⟩ := G_some hx218
    refine l_' (elp hd_To 1 i3.toNat 0) (aIndexAddr Tryz.prog 23 hd_To (i_ i3)) (u24.idxb (by kernel_rfl) g224 h181) ?_
    refine l_' (i_ (gt To i3)) (aLoad Tryz.prog 3 (elp hd_To 1 i3.toNat 0) H14) (u24.ld g224 h181 (by kernel_rfl)) ?_
    refine s_b ((gt To i3) < 0) (by kernel_rfl) (fun h226 => ?_) (fun h226 => ?_)
    ·have r227 := ite_t h226 r225
     refine q_ (.bool true) (n_' (n_' (n_' (n_' (n_' (n_' (n_' (q_ (.bool true) (q_ (.bool true) (s_nil ?_))))))))))
     obtain rfl := Option.some.inj r227
     exact k222 _ _ ⟨ha_, rfl⟩
    have r228 := ite_f h226 r225
    refine q_ (.bool false) (q_ (pt_ b7 1) ?_)
    refine l_' (hd_To) (aLoad Tryz.prog 23 (pt_ b7 1) H14) (u20.ld (by kernel_rfl)) ?_
    refine q_ (i_ i3) ?_
    refine l_' (elp hd_To 1 i3.toNat 0) (aIndexAddr Tryz.prog 23 hd_To (i_ i3)) (u24.idxb (by kernel_rfl) g224 h181) ?_
    refine l_' (i_ (gt To i3)) (aLoad Tryz.prog 3 (elp hd_To 1 i3.toNat 0) H14) (u24.ld g224 h181 (by kernel_rfl)) ?_
    refine q_ (i_ ((First.length : Int) - 1)) (q_ (.bool (decide ((gt To i3) ≥ ((First.length : Int) - 1)))) (q_ (.bool (decide ((gt To i3) ≥ ((First.length : Int) - 1)))) (q_ (.bool (decide ((gt To i3) ≥ ((First.length : Int) - 1)))) (s_nil ?_))))
    obtain rfl := Option.some.inj r228
    exact k222 _ _ ⟨ha_, rfl⟩
   obtain ⟨hh223, rfl⟩ := hM
   obtain ⟨β, rfl⟩ := has_ex hh223
   clear hh223
   refine k216 _ _ ?_
   obtain ⟨o229, hx230, r231⟩ := bind_some r219
   refine w_mid (fun α H232 => Has α [(1, pt_ b7 0), (2, pt_ b13 0), (3, i_ ((First.length : Int) - 1)), (4, i_ (To.length : Int)), (6, i_ o185), (7, i_ i3), (8, i_ o229)] ∧ H14 = H232) (fun _ k234 => ?_) (fun α H232 hM => ?_)
   ·refine w_cond (o217) (by kernel_rfl) rfl (fun h236 => ?_) (fun h236 => ?_)
    ·have r237 := ite_t h236 hx230
     refine g_' (q_ (i_ 7) (s_nil ?_))
     obtain rfl := Option.some.inj r237
     exact k234 _ _ ⟨ha_, rfl⟩
    have r238 := ite_bf h236 hx230
    refine w_seqk fun _ k239 => ?_
    obtain ⟨o240, hx241, r242⟩ := bind_some r238
    refine w_mid (fun α H243 => Has α [(1, pt_ b7 0), (2, pt_ b13 0), (3, i_ ((First.length : Int) - 1)), (4, i_ (To.length : Int)), (6, i_ o185), (7, i_ i3), (8, i_ 0), (100, .bool o240)] ∧ H14 = H243) (fun _ k245 => ?_) (fun α H243 hM => ?_)
    ·refine w_draw [0, 1, 2, 3, 4, 5, 6, 7, 8, 9, 10, 11, 12, 13, 14, 15, 16, 17, 18, 19, 20, 21, 22, 23, 24, 25, 26, 27, 28, 29, 30] (by kernel_rfl) ?_
     refine e_' (pt_ b7 1) ?_
     refine m_' (hd_To) (aLoad Tryz.prog 23 (pt_ b7 1) H14) (u20.ld (by kernel_rfl)) ?_
     refine e_' (i_ i3) ?_
     obtain ⟨g247, r248⟩ := G_some hx241
     refine m_' (elp hd_To 1 i3.toNat 0) (aIndexAddr Tryz.prog 23 hd_To (i_ i3)) (u24.idxb (by kernel_rfl) g247 h181) ?_
     refine m_' (i_ (gt To i3)) (aLoad Tryz.prog 3 (elp hd_To 1 i3.toNat 0) H14) (u24.ld g247 h181 (by kernel_rfl)) ?_
     refine e_' (i_ o185) ?_
     refine d_b ((gt To i3) = o185) (by kernel_rfl) (fun h249 => ?_) (fun h249 => ?_)
     ·have r250 := ite_t h249 r248
      refine e_' (.bool true) (j_' (j_' (j_' (j_' (j_' (j_' (j_' (j_' (j_' (j_' (j_' (j_' (j_' (j_' (j_' (j_' (j_' (j_' (j_' (j_' (j_' (e_' (.bool true) (e_' (.bool true) ?_)))))))))))))))))))))))
      refine d_nil ?_
      obtain rfl := Option.some.inj r250
      exact k245 _ _ ⟨ha_, rfl⟩
     have r251 := ite_f h249 r248
     refine e_' (.bool false) (e_' (i_ i3) (e_' (pt_ b7 0) ?_))
     refine m_' (hd_First) (aLoad Tryz.prog 23 (pt_ b7 0) H14) (u20.ld (by kernel_rfl)) ?_
     refine e_' (i_ o185) ?_
     obtain ⟨g252, r253⟩ := G_some r251
     refine m_' (elp hd_First 1 o185.toNat 0) (aIndexAddr Tryz.prog 23 hd_First (i_ o185)) (u21.idxb (by kernel_rfl) g252.1 g252.2) ?_
     refine m_' (i_ (gt First o185)) (aLoad Tryz.prog 3 (elp hd_First 1 o185.toNat 0) H14) (u21.ld g252.1 g252.2 (by kernel_rfl)) ?_
     refine d_b (i3 > (gt First o185)) (by kernel_rfl) (fun h254 => ?_) (fun h254 => ?_)
     ·have r255 := ite_t h254 r253
      refine e_' (.bool true) (e_' (pt_ b7 1) ?_)
      refine m_' (hd_To) (aLoad Tryz.prog 23 (pt_ b7 1) H14) (u20.ld (by kernel_rfl)) ?_
      refine e_' (i_ i3) ?_
      refine m_' (elp hd_To 1 i3.toNat 0) (aIndexAddr Tryz.prog 23 hd_To (i_ i3)) (u24.idxb (by kernel_rfl) g247 h181) ?_
      refine m_' (i_ (gt To i3)) (aLoad Tryz.prog 3 (elp hd_To 1 i3.toNat 0) H14) (u24.ld g247 h181 (by kernel_rfl)) ?_
      refine e_' (pt_ b7 1) ?_
      refine m_' (hd_To) (aLoad Tryz.prog 23 (pt_ b7 1) H14) (u20.ld (by kernel_rfl)) ?_
      refine e_' (i_ i3) ?_
      obtain ⟨g256, r257⟩ := G_some r255
      refine d_w ((i3 - 1)) (k := .i64) (x := (i3 - 1)) (by kernel_rfl) (wrap64 g256) ?_
      obtain ⟨g258, r259⟩ := G_some r257
      refine m_' (elp hd_To 1 (i3 - 1).toNat 0) (aIndexAddr Tryz.prog 23 hd_To (i_ (i3 - 1))) (u24.idxb (by kernel_rfl) g258.1 g258.2) ?_
      refine m_' (i_ (gt To (i3 - 1))) (aLoad Tryz.prog 3 (elp hd_To 1 (i3 - 1).toNat 0) H14) (u24.ld g258.1 g258.2 (by kernel_rfl)) ?_
      refine e_' (.bool (decide ((gt To i3) ≤ (gt To (i3 - 1))))) (e_' (.bool (decide ((gt To i3) ≤ (gt To (i3 - 1))))) (e_' (.bool (decide ((gt To i3) ≤ (gt To (i3 - 1))))) (e_' (.bool (decide ((gt To i3) ≤ (gt To (i3 - 1))))) ?_)))
      refine d_nil ?_
      obtain rfl := Option.some.inj r259
      exact k245 _ _ ⟨ha_, rfl⟩
     have r260 := ite_f h254 r253
     refine e_' (.bool false) (j_' (j_' (j_' (j_' (j_' (j_' (j_' (j_' (j_' (j_' (j_' (j_' (e_' (.bool false) (e_' (.bool false) (e_' (.bool false) ?_)))))))))))))))
     refine d_nil ?_
     obtain rfl := Option.some.inj r260
     exact k245 _ _ ⟨ha_, rfl⟩
    obtain ⟨hh246, rfl⟩ := hM
    obtain ⟨β, rfl⟩ := has_ex hh246
    clear hh246
    refine k239 _ _ ?_
    refine w_cond (o240) (by kernel_rfl) rfl (fun h261 => ?_) (fun h261 => ?_)
    ·have r262 := ite_t h261 r242
     refine g_' (q_ (i_ 14) (s_nil ?_))
     obtain rfl := Option.some.inj r262
     exact k234 _ _ ⟨ha_, rfl⟩
    have r263 := ite_bf h261 r242
    refine w_seqk fun _ k264 => g_' (q_ (pt_ b7 2) ?_)
    refine l_' (hd_Weight) (aLoad Tryz.prog 23 (pt_ b7 2) H14) (u20.ld (by kernel_rfl)) ?_
    refine q_ (i_ i3) ?_
    obtain ⟨g265, r266⟩ := G_some r263
    have u267 := ((h_Weight.ext e9).ext e15)
    refine l_' (elp hd_Weight 1 i3.toNat 0) (aIndexAddr Tryz.prog 23 hd_Weight (i_ i3)) (u267.idxb (by kernel_rfl) g265.1 g265.2) ?_
    refine l_' (i_ (gt Weight i3)) (aLoad Tryz.prog 3 (elp hd_Weight 1 i3.toNat 0) H14) (u267.ld g265.1 g265.2 (by kernel_rfl)) ?_
    refine s_b ((gt Weight i3) < 0) (by kernel_rfl) (fun h268 => ?_) (fun h268 => ?_)
    ·have r269 := ite_t h268 r266
     refine q_ (.bool true) (n_' (n_' (n_' (n_' (n_' (n_' (q_ (.bool true) (q_ (.bool true) (s_nil (k264 _ _ ?_))))))))))
     refine w_cond true (by kernel_rfl) rfl (fun _ => ?_) (fun h => by cases h)
     refine g_' (q_ (i_ 8) (s_nil ?_))
     obtain rfl := Option.some.inj r269
     exact k234 _ _ ⟨ha_, rfl⟩
    have r270 := ite_f h268 r266
    refine q_ (.bool false) (q_ (pt_ b7 2) ?_)
    refine l_' (hd_Weight) (aLoad Tryz.prog 23 (pt_ b7 2) H14) (u20.ld (by kernel_rfl)) ?_
    refine q_ (i_ i3) ?_
    refine l_' (elp hd_Weight 1 i3.toNat 0) (aIndexAddr Tryz.prog 23 hd_Weight (i_ i3)) (u267.idxb (by kernel_rfl) g265.1 g265.2) ?_
    refine l_' (i_ (gt Weight i3)) (aLoad Tryz.prog 3 (elp hd_Weight 1 i3.toNat 0) H14) (u267.ld g265.1 g265.2 (by kernel_rfl)) ?_
    refine q_ (.bool (decide ((gt Weight i3) > 2147483647))) (q_ (.bool (decide ((gt Weight i3) > 2147483647))) (q_ (.bool (decide ((gt Weight i3) > 2147483647))) (s_nil (k264 _ _ ?_))))
    refine w_condp ((gt Weight i3) > 2147483647) (by kernel_rfl) rfl (fun h271 => ?_) (fun h271 => ?_)
    ·have r272 := ite_t h271 r270
     refine g_' (q_ (i_ 8) (s_nil ?_))
     obtain rfl := Option.some.inj r272
     exact k234 _ _ ⟨ha_, rfl⟩
    have r273 := ite_f h271 r270
    refine w_skip ?_
    obtain rfl := Option.some.inj r273
    exact k234 _ _ ⟨ha_, rfl⟩
   obtain ⟨hh235, rfl⟩ := hM
   obtain ⟨β, rfl⟩ := has_ex hh235
   clear hh235
   refine k215 _ _ (w_seqk fun _ k274 => g_' (q_ (i_ o229) (q_ (.bool (!decide (o229 = 0))) (s_nil (k274 _ _ ?_)))))
   refine w_condn (o229 = 0) (by kernel_rfl) rfl (fun h275 => ?_) (fun h275 => ?_)
   ·have r276 := ite_f h275 r231
    refine w_seqk fun _ k277 => g_' (q_ (i_ i3) (q_ (i_ o229) ?_))
    obtain ⟨y278, hy279, r280⟩ := bind_some r276
    refine s_ck 12 #[i_ o229] (by kernel_rfl) (c_viaductref01_E e15.wf hy279) ?_
    rintro _ H281 ⟨rfl, e282⟩
    obtain ⟨y283, hy284, r285⟩ := bind_some r280
    refine s_ck 61 #[i_ 4, i_ i3, .agg #[i_ y278, .slice none 0 0]] (by kernel_rfl) (c_viaductref01_At e282.wf (Sq.nil (enc := enc_i64_i64) (sz := 2) (by decide)) hy284) ?_
    rintro _ H288 ⟨s286, f287, rfl, e289, m290, i291⟩
    obtain ⟨a293, n294, c295, rfl⟩ := m290.form
    have u300 := ((r17.frS e282 Dj.nil_l).frS e289 Dj.nil_l)
    obtain ⟨H296, q297, e298, r299⟩ := Row.store (P := Tryz.prog) (t := 41) (p := 0) e289.wf u300 (.agg #[i_ y283.1, .slice a293 n294 c295]) [i_ y283.1, .slice a293 n294 c295] (by kernel_rfl) (by kernel_rfl) (one_cons (rfl) (one_cons (m290.one1) (one_nil))) (Nat.le_of_ble_eq_true (by kernel_rfl)) [i_ y283.1, .slice a293 n294 c295] (by kernel_rfl)
    refine s_ek (undef) (by kernel_rfl) (map_ok q297) ?_
    refine s_nil (k277 _ _ ?_)
    refine w_ret (bl_ret (th_ret (th_ret (bl_ret (th_ret (th_ret ?_))))))
    obtain ⟨v301, hv302, hz303⟩ := map_some r285
    subst hz303
    obtain rfl := it_inr hn177
    have hq304 := elim_inl r162
    rw [hq304] at hv302
    refine b_ret (fn := Tryz.f73) (vs := [.agg #[i_ y283.1, .slice a293 n294 c295]]) (aRes_cell (Eq.trans (b := aLoad Tryz.prog 41 (pt_ b13 0) H296) (by kernel_rfl) (r299.ld (by kernel_rfl))) (rfl)) ?_
    have u305 := (m290.fr e298 (Dj.symm (i291.djn (r17.ltF.le e282.next))))
    obtain rfl := Option.some.inj hv302
    exact ⟨(.slice a293 n294 c295), f287, rfl, (FrS.step wf (FrS.step wf (FrS.step wf (((FrS.refl (W := []) wf).extR e9).extR e15) e282 Inn.nil) e289 Inn.nil) e298 (hb16.fresh e9.next)), u305, (i291.fresh (ntr (ntr e9.next e15.next) e282.next))⟩
   have r306 := ite_t h275 r231
   refine w_skip (k183 _ _ (g_' (q_ (i_ i3) ?_)))
   obtain ⟨g307, r308⟩ := G_some r306
   refine w_' (i3 + 1) (wrap64 g307) ?_
   refine q_ (i_ (i3 + 1)) (s_nil ?_)
   obtain rfl := Option.some.inj r308
   exact k178 n174 _ _ (Nat.lt_succ_self _) ⟨o185, (i3 + 1), hn177, ha_, rfl⟩
  have r309 := ite_f h181 hz176
  refine w_exit (th_exit (th_exit (bl_eq ?_)))
  obtain rfl := Option.some.inj r309
  obtain rfl := it_inr hn177
  exact k166 _ _ ⟨_, rfl, ha_, rfl⟩
 obtain ⟨o160, rfl, hh167, rfl⟩ := hM
 have r310 := elim_inr r162
 obtain ⟨β, rfl⟩ := has_ex hh167
 clear hh167
 refine k158 _ _ (w_seqk fun _ k311 => g_' (q_ (.agg #[i_ 0, .slice none 0 0]) ?_))
 obtain ⟨H312, q313, e314, r315⟩ := Row.store (P := Tryz.prog) (t := 41) (p := 0) e15.wf r17 (.agg #[i_ 0, .slice none 0 0]) [i_ 0, .slice none 0 0] (by kernel_rfl) (by kernel_rfl) (one_cons (rfl) (one_cons (rfl) (one_nil))) (Nat.le_of_ble_eq_true (by kernel_rfl)) [i_ 0, .slice none 0 0] (by kernel_rfl)
 refine s_ek (undef) (by kernel_rfl) (map_ok q313) ?_
 refine s_nil (k311 _ _ ?_)
 refine w_ret ?_
 refine b_ret (fn := Tryz.f73) (vs := [.agg #[i_ 0, .slice none 0 0]]) (aRes_cell (Eq.trans (b := aLoad Tryz.prog 41 (pt_ b13 0) H312) (by kernel_rfl) (r315.ld (by kernel_rfl))) (rfl)) ?_
 obtain rfl := Option.some.inj r310
 exact ⟨(.slice none 0 0), [], rfl, (FrS.step wf (((FrS.refl (W := []) wf).extR e9).extR e15) e314 (hb16.fresh e9.next)), (Ow.nil (by decide)), Inn.nil⟩
theorem c_viaductref05_Row {H : AH} {hd_First : Value} {fp_First : Fp} {hd_To : Value} {fp_To : Fp} {hd_Weight : Value} {fp_Weight : Fp} {First : List (Int)} {To : List (Int)} {Weight : List (Int)} {v_ : Int} {r : List (Int × Int × Int)}
    (wf : WF H) (h_First : Sq (encI .i64) 1 H hd_First First fp_First) (h_To : Sq (encI .i64) 1 H hd_To To fp_To) (h_Weight : Sq (encI .i64) 1 H hd_Weight Weight fp_Weight) (hr : z_viaductref05_Row First To Weight v_ = some r) :
    ACalls Tryz.prog 74 #[.agg #[hd_First, hd_To, hd_Weight], i_ v_] H fun v H' => ∃ (s3 : Value) (f4 : Fp), v = s3 ∧ FrS [] H H' ∧ Ow enc_i64_i64_i64 3 H' s3 r f4 ∧ Inn [] H f4 := by
 refine acalls_of_body mixed Tryz.func74 rfl (Nat.le_of_ble_eq_true rfl) ?_
 unfold z_viaductref05_Row at hr
 refine w_seqk fun _ k6 => g_' ?_
 refine s_rwl wf [hd_First, hd_To, hd_Weight] (one_cons (h_First.one1) (one_cons (h_To.one1) (one_cons (h_Weight.one1) (one_nil)))) (by kernel_rfl) fun b7 H8 e9 hb10 r11 => ?_
 refine q_ (.slice none 0 0) (s_nil (k6 _ _ (w_seqk fun _ k13 => g_' (q_ (.slice none 0 0) (s_nil (k13 _ _ (w_seqk fun _ k14 => w_seqk fun _ k15 => g_' (q_ (pt_ b7 0) ?_))))))))
 refine l_' (hd_First) (aLoad Tryz.prog 23 (pt_ b7 0) H8) (r11.ld (by kernel_rfl)) ?_
 refine q_ (i_ v_) ?_
 obtain ⟨g16, r17⟩ := G_some hr
 have u18 := (h_First.ext e9)
 refine l_' (elp hd_First 1 v_.toNat 0) (aIndexAddr Tryz.prog 23 hd_First (i_ v_)) (u18.idxb (by kernel_rfl) g16.1 g16.2) ?_
 refine l_' (i_ (gt First v_)) (aLoad Tryz.prog 3 (elp hd_First 1 v_.toNat 0) H8) (u18.ld g16.1 g16.2 (by kernel_rfl)) ?_
 refine q_ (i_ (gt First v_)) (s_nil (k15 _ _ ?_))
 obtain ⟨o19, hx20, r21⟩ := bind_some r17
 refine w_mid (fun α H22 => ∃ (s26 : Value) (f27 : Fp), Has α [(5, s26)] ∧ FrS [] H8 H22 ∧ Ow enc_i64_i64_i64 3 H22 s26 o19 f27 ∧ Inn [] H8 f27) (fun _ k29 => ?_) (fun α H22 hM => ?_)
 ·refine w_block ?_
  obtain ⟨n31, hn32⟩ := loopO_iff.1 hx20
  refine w_loopn (fun n α H33 => ∃ (l0 : List (Int × Int × Int)), ∃ (i1 : Int), ∃ (s37 : Value), ∃ (f38 : Fp), iterO (fun zz_ => z_viaductref05_Row_l0 First To Weight v_ zz_.1 zz_.2) n (l0, i1) = some o19 ∧ Has α [(1, i_ v_), (2, pt_ b7 0), (5, s37), (6, i_ i1)] ∧ FrS [] H8 H33 ∧ Ow enc_i64_i64_i64 3 H33 s37 l0 f38 ∧ Inn [] H8 f38) n31 ⟨[], (gt First v_), (.slice none 0 0), [], hn32, ha_, (FrS.refl (W := []) e9.wf), (Ow.nil (by decide)), Inn.nil⟩ ?_
  rintro n31 α H33 ⟨l0, i1, s37, f38, hi41, hh40, e34, m36, i39⟩ K46 k46
  obtain ⟨n42, z43, rfl, hz44, hn45⟩ := iter_succ hi41
  obtain ⟨β, rfl⟩ := has_ex hh40
  clear hh40
  replace hz44 : z_viaductref05_Row_l0 First To Weight v_ l0 i1 = some z43 := hz44
  unfold z_viaductref05_Row_l0 at hz44
  obtain ⟨a47, n48, c49, rfl⟩ := m36.form
  refine w_seqk fun _ k50 => w_seqk fun _ k51 => g_' (q_ (i_ i1) (q_ (pt_ b7 0) ?_))
  have u52 := (r11.frS e34 Dj.nil_l)
  refine l_' (hd_First) (aLoad Tryz.prog 23 (pt_ b7 0) H33) (u52.ld (by kernel_rfl)) ?_
  refine q_ (i_ v_) ?_
  obtain ⟨g53, r54⟩ := G_some hz44
  refine w_' (v_ + 1) (wrap64 (by have := g53; omega)) ?_
  obtain ⟨g55, r56⟩ := G_some r54
  have u57 := (u18.fr e34 Dj.nil_l)
  refine l_' (elp hd_First 1 (v_ + 1).toNat 0) (aIndexAddr Tryz.prog 23 hd_First (i_ (v_ + 1))) (u57.idxb (by kernel_rfl) g55.1 g55.2) ?_
  refine l_' (i_ (gt First (v_ + 1))) (aLoad Tryz.prog 3 (elp hd_First 1 (v_ + 1).toNat 0) H33) (u57.ld g55.1 g55.2 (by kernel_rfl)) ?_
  refine q_ (.bool (decide (i1 < (gt First (v_ + 1))))) (s_nil (k51 _ _ ?_))
  refine w_condp (i1 < (gt First (v_ + 1))) (by kernel_rfl) rfl (fun h58 => ?_) (fun h58 => ?_)
  ·have r59 := ite_t h58 r56
   refine w_skip (k50 _ _ (w_seqk fun _ k60 => w_block ?_))
   refine w_draw [0, 1, 2, 3, 4, 5, 6, 7, 8, 9, 10, 11, 12, 13, 14, 15] (by kernel_rfl) ?_
   refine e_' (.slice a47 n48 c49) (e_' (i_ v_) (e_' (pt_ b7 1) ?_))
   refine m_' (hd_To) (aLoad Tryz.prog 23 (pt_ b7 1) H33) (u52.ld (by kernel_rfl)) ?_
   refine e_' (i_ i1) ?_
   obtain ⟨g61, r62⟩ := G_some r59
   have u63 := ((h_To.ext e9).fr e34 Dj.nil_l)
   refine m_' (elp hd_To 1 i1.toNat 0) (aIndexAddr Tryz.prog 23 hd_To (i_ i1)) (u63.idxb (by kernel_rfl) g61.1 g61.2) ?_
   refine m_' (i_ (gt To i1)) (aLoad Tryz.prog 3 (elp hd_To 1 i1.toNat 0) H33) (u63.ld g61.1 g61.2 (by kernel_rfl)) ?_
   refine e_' (pt_ b7 2) ?_
   refine m_' (hd_Weight) (aLoad Tryz.prog 23 (pt_ b7 2) H33) (u52.ld (by kernel_rfl)) ?_
   refine e_' (i_ i1) ?_
   obtain ⟨g64, r65⟩ := G_some r62
   have u66 := ((h_Weight.ext e9).fr e34 Dj.nil_l)
   refine m_' (elp hd_Weight 1 i1.toNat 0) (aIndexAddr Tryz.prog 23 hd_Weight (i_ i1)) (u66.idxb (by kernel_rfl) g61.1 g64) ?_
   refine m_' (i_ (gt Weight i1)) (aLoad Tryz.prog 3 (elp hd_Weight 1 i1.toNat 0) H33) (u66.ld g61.1 g64 (by kernel_rfl)) ?_
   refine e_' (.agg #[i_ v_, i_ (gt To i1), i_ (gt Weight i1)]) ?_
   refine d_owk (enc := enc_i64_i64_i64) (sz := 3) e34.wf [(v_, (gt To i1), (gt Weight i1))] 1 (by decide) (fun _ _ => rfl) (fun _ _ => rfl) rfl (by kernel_rfl) fun s67 f68 H69 e70 hf71 hm72 => ?_
   obtain ⟨a73, n74, c75, rfl⟩ := hm72.form
   have u77 := (m36.ext e70)
   obtain ⟨g78, r79⟩ := G_some r65
   obtain ⟨s80, H81, f82, q86, e83, hm84, hf85⟩ := Ow.append (P := Tryz.prog) 24 e70.wf u77 hm72.sq (fun _ _ => rfl) (at_ := #[49, 49]) rfl rfl (by kernel_rfl) (by kernel_rfl) (by decide) (by have := g78; first | omega | (simp only [List.length_cons, List.length_nil] at this ⊢; omega) | (simp at this ⊢; omega))
   obtain ⟨a87, n88, c89, rfl⟩ := hm84.form
   refine d_ek (.slice a87 n88 c89) (by kernel_rfl) (q86) (st_nil) ?_
   refine e_' (.slice a87 n88 c89) ?_
   refine d_nil ?_
   refine k60 _ _ (g_' (q_ (i_ i1) ?_))
   obtain ⟨g91, r92⟩ := G_some r79
   refine w_' (i1 + 1) (wrap64 (by have := g91; omega)) ?_
   refine q_ (i_ (i1 + 1)) (s_nil ?_)
   obtain rfl := Option.some.inj r92
   exact k46 n42 _ _ (Nat.lt_succ_self _) ⟨(l0 ++ [(v_, (gt To i1), (gt Weight i1))]), (i1 + 1), (.slice a87 n88 c89), f82, hn45, ha_, (FrS.step e9.wf ((FrS.step e9.wf (FrS.refl (W := []) e9.wf) e34 Inn.nil).extR e70) e83 (i39.fresh (Nat.le_refl _))), hm84, (Inn.trans (i39.fresh (Nat.le_refl _)) (ntr e34.next e70.next) hf85)⟩
  have r93 := ite_f h58 r56
  refine w_exit (th_exit (th_exit (bl_eq ?_)))
  obtain rfl := Option.some.inj r93
  obtain rfl := it_inr hn45
  exact k29 _ _ ⟨(.slice a47 n48 c49), f38, ha_, (FrS.step e9.wf (FrS.refl (W := []) e9.wf) e34 Inn.nil), m36, (i39.fresh (Nat.le_refl _))⟩
 obtain ⟨s26, f27, hh30, e23, m25, i28⟩ := hM
 obtain ⟨β, rfl⟩ := has_ex hh30
 clear hh30
 obtain ⟨a94, n95, c96, rfl⟩ := m25.form
 refine k14 _ _ (w_seqk fun _ k97 => g_' (q_ (.slice a94 n95 c96) (q_ (.slice a94 n95 c96) (s_nil (k97 _ _ ?_)))))
 refine w_ret ?_
 refine b_ret (fn := Tryz.f74) (vs := [.slice a94 n95 c96]) (aRes_tmp (by kernel_rfl) (rfl)) ?_
 obtain rfl := Option.some.inj r21
 exact ⟨(.slice a94 n95 c96), f27, rfl, (FrS.step wf ((FrS.refl (W := []) wf).extR e9) e23 Inn.nil), m25, (i28.fresh e9.next)⟩
theorem c_viaductref05_DocRow {H : AH} {hd_First : Value} {fp_First : Fp} {hd_To : Value} {fp_To : Fp} {hd_Weight : Value} {fp_Weight : Fp} {First : List (Int)} {To : List (Int)} {Weight : List (Int)} {v_ : Int} {r : List (Int × Int × Int) × Int × List (Int × Int)}
    (wf : WF H) (h_First : Sq (encI .i64) 1 H hd_First First fp_First) (h_To : Sq (encI .i64) 1 H hd_To To fp_To) (h_Weight : Sq (encI .i64) 1 H hd_Weight Weight fp_Weight) (hr : z_viaductref05_DocRow First To Weight v_ = some r) :
    ACalls Tryz.prog 62 #[.agg #[hd_First, hd_To, hd_Weight], i_ v_] H fun v H' => ∃ (s3 : Value) (f4 : Fp) (s7 : Value) (f8 : Fp), v = .tuple #[s3, .agg #[i_ r.2.1, s7]] ∧ FrS [] H H' ∧ Ow enc_i64_i64_i64 3 H' s3 r.1 f4 ∧ Ow enc_i64_i64 2 H' s7 r.2.2 f8 ∧ Inn [] H f4 ∧ Inn [] H f8 ∧ Dj f4 f8 := by
 refine acalls_of_body mixed Tryz.func62 rfl (Nat.le_of_ble_eq_true rfl) ?_
 unfold z_viaductref05_DocRow at hr
 refine w_seqk fun _ k12 => g_' ?_
 refine s_rwl wf [hd_First, hd_To, hd_Weight] (one_cons (h_First.one1) (one_cons (h_To.one1) (one_cons (h_Weight.one1) (one_nil)))) (by kernel_rfl) fun b13 H14 e15 hb16 r17 => ?_
 refine q_ (.slice none 0 0) ?_
 refine s_rwk e15.wf [i_ 0, .slice none 0 0] (by kernel_rfl) fun b19 H20 e21 hb22 r23 => ?_
 refine s_nil (k12 _ _ (w_seqk fun _ k25 => g_' ?_))
 have u26 := (r17.ext e21)
 refine l_' (.agg #[hd_First, hd_To, hd_Weight]) (aLoad Tryz.prog 27 (pt_ b13 0) H20) (u26.ld (by kernel_rfl)) ?_
 have u27 := ((h_First.ext e15).ext e21)
 have u28 := ((h_To.ext e15).ext e21)
 have u29 := ((h_Weight.ext e15).ext e21)
 obtain ⟨y30, hy31, r32⟩ := bind_some hr
 refine s_ck 73 #[.agg #[hd_First, hd_To, hd_Weight]] (by kernel_rfl) (c_viaductref05_DocCheck e21.wf u27 u28 u29 hy31) ?_
 rintro _ H35 ⟨s33, f34, rfl, e36, m37, i38⟩
 obtain ⟨a40, n41, c42, rfl⟩ := m37.form
 refine s_rwk e36.wf [i_ 0, .slice none 0 0] (by kernel_rfl) fun b43 H44 e45 hb46 r47 => ?_
 have u53 := (m37.ext e45)
 obtain ⟨H49, q50, e51, r52⟩ := Row.store (P := Tryz.prog) (t := 41) (p := 0) e45.wf r47 (.agg #[i_ y30.1, .slice a40 n41 c42]) [i_ y30.1, .slice a40 n41 c42] (by kernel_rfl) (by kernel_rfl) (one_cons (rfl) (one_cons (u53.one1) (one_nil))) (Nat.le_of_ble_eq_true (by kernel_rfl)) [i_ y30.1, .slice a40 n41 c42] (by kernel_rfl)
 refine s_ek (undef) (by kernel_rfl) (map_ok q50) ?_
 refine s_nil (k25 _ _ (w_seqk fun _ k54 => w_seqk fun _ k55 => ?_))
 obtain ⟨o56, hx57, r58⟩ := bind_some r32
 refine w_mid (fun α H59 => Has α [(1, i_ v_), (2, pt_ b13 0), (5, pt_ b19 0), (6, pt_ b43 0), (17, .bool o56)] ∧ FrS [] H49 H59) (fun _ k61 => ?_) (fun α H59 hM => ?_)
 ·refine g_' ?_
  refine l_' (.agg #[i_ y30.1, .slice a40 n41 c42]) (aLoad Tryz.prog 41 (pt_ b43 0) H49) (r52.ld (by kernel_rfl)) ?_
  have u63 := (u53.fr e51 (hb46.djn m37.lt))
  obtain ⟨y64, hy65, r66⟩ := bind_some hx57
  refine s_ck 27 #[.agg #[i_ y30.1, .slice a40 n41 c42]] (by kernel_rfl) (c_viaductref01_Err_Bad e51.wf u63.sq hy65) ?_
  rintro _ H67 ⟨rfl, e68⟩
  by_cases h69 : y64 = true
  ·have r70 := ite_t h69 r66
   rw [h69]
   refine q_ (.bool false) (q_ (.bool false) (n_' (n_' (n_' (n_' (q_ (.bool false) (s_nil ?_)))))))
   obtain rfl := Option.some.inj r70
   exact k61 _ _ ⟨ha_, (FrS.step e51.wf (FrS.refl (W := []) e51.wf) e68 Inn.nil)⟩
  have r72 := ite_f h69 r66
  rw [nb h69]
  refine q_ (.bool true) (q_ (.bool true) ?_)
  have u74 := ((((u26.frS e36 Dj.nil_l).ext e45).frS e51 (hb46.djn (r17.ltF.le (ntr e21.next e36.next)))).frS e68 Dj.nil_l)
  refine l_' (.agg #[hd_First, hd_To, hd_Weight]) (aLoad Tryz.prog 27 (pt_ b13 0) H67) (u74.ld (by kernel_rfl)) ?_
  refine q_ (i_ v_) ?_
  have u75 := ((((u27.fr e36 Dj.nil_l).ext e45).fr e51 (hb46.djn (h_First.lt.le (ntr (ntr e15.next e21.next) e36.next)))).fr e68 Dj.nil_l)
  have u76 := ((((u28.fr e36 Dj.nil_l).ext e45).fr e51 (hb46.djn (h_To.lt.le (ntr (ntr e15.next e21.next) e36.next)))).fr e68 Dj.nil_l)
  have u77 := ((((u29.fr e36 Dj.nil_l).ext e45).fr e51 (hb46.djn (h_Weight.lt.le (ntr (ntr e15.next e21.next) e36.next)))).fr e68 Dj.nil_l)
  obtain ⟨y78, hy79, r80⟩ := bind_some r72
  refine s_ck 38 #[.agg #[hd_First, hd_To, hd_Weight], i_ v_] (by kernel_rfl) (c_viaductref05_Node e68.wf u75 u76 u77 hy79) ?_
  rintro _ H81 ⟨rfl, e82⟩
  refine q_ (.bool (!y78)) (q_ (.bool (!y78)) (s_nil ?_))
  obtain rfl := Option.some.inj r80
  exact k61 _ _ ⟨ha_, (FrS.step e51.wf (FrS.step e51.wf (FrS.refl (W := []) e51.wf) e68 Inn.nil) e82 Inn.nil)⟩
 obtain ⟨hh62, e60⟩ := hM
 obtain ⟨β, rfl⟩ := has_ex hh62
 clear hh62
 refine k55 _ _ ?_
 obtain ⟨o83, hx84, r85⟩ := bind_some r58
 refine w_mid (fun α H86 => ∃ (s90 : Value) (f91 : Fp), Has α [(1, i_ v_), (2, pt_ b13 0), (5, pt_ b19 0), (6, pt_ b43 0)] ∧ FrS [b43] H59 H86 ∧ Ow enc_i64_i64 2 H86 s90 o83.2 f91 ∧ Row H86 b43 [i_ o83.1, s90] ∧ Inn f34 H59 f91) (fun _ k95 => ?_) (fun α H86 hM => ?_)
 ·refine w_cond (o56) (by kernel_rfl) rfl (fun h97 => ?_) (fun h97 => ?_)
  ·have r98 := ite_t h97 hx84
   refine g_' ?_
   obtain ⟨y99, hy100, r101⟩ := bind_some r98
   refine s_ck 12 #[i_ 7] (by kernel_rfl) (c_viaductref01_E e60.wf hy100) ?_
   rintro _ H102 ⟨rfl, e103⟩
   have u108 := ((r52.frS e60 Dj.nil_l).frS e103 Dj.nil_l)
   obtain ⟨H104, q105, e106, r107⟩ := Row.store (P := Tryz.prog) (t := 41) (p := 0) e103.wf u108 (.agg #[i_ y99, .slice none 0 0]) [i_ y99, .slice none 0 0] (by kernel_rfl) (by kernel_rfl) (one_cons (rfl) (one_cons (rfl) (one_nil))) (Nat.le_of_ble_eq_true (by kernel_rfl)) [i_ y99, .slice none 0 0] (by kernel_rfl)
   refine s_ek (undef) (by kernel_rfl) (map_ok q105) ?_
   refine s_nil ?_
   obtain rfl := Option.some.inj r101
   exact k95 _ _ ⟨(.slice none 0 0), [], ha_, (FrS.step e60.wf (FrS.step e60.wf (FrS.refl (W := [b43]) e60.wf) e103 Inn.nil) e106 Inn.refl'), (Ow.nil (by decide)), r107, Inn.nil⟩
  have r109 := ite_bf h97 hx84
  refine w_skip ?_
  have u110 := ((u53.fr e51 (hb46.djn m37.lt)).fr e60 Dj.nil_l)
  have u111 := (r52.frS e60 Dj.nil_l)
  obtain rfl := Option.some.inj r109
  exact k95 _ _ ⟨(.slice a40 n41 c42), f34, ha_, (FrS.refl (W := [b43]) e60.wf), u110, u111, Inn.refl'⟩
 obtain ⟨s90, f91, hh96, e87, m89, m93, i94⟩ := hM
 obtain ⟨β, rfl⟩ := has_ex hh96
 clear hh96
 obtain ⟨a112, n113, c114, rfl⟩ := m89.form
 refine k54 _ _ (w_seqk fun _ k115 => w_seqk fun _ k116 => g_' ?_)
 refine l_' (.agg #[i_ o83.1, .slice a112 n113 c114]) (aLoad Tryz.prog 41 (pt_ b43 0) H86) (m93.ld (by kernel_rfl)) ?_
 obtain ⟨y117, hy118, r119⟩ := bind_some r85
 refine s_ck 27 #[.agg #[i_ o83.1, .slice a112 n113 c114]] (by kernel_rfl) (c_viaductref01_Err_Bad e87.wf m89.sq hy118) ?_
 rintro _ H120 ⟨rfl, e121⟩
 refine s_nil (k116 _ _ ?_)
 refine w_cond (y117) (by kernel_rfl) rfl (fun h122 => ?_) (fun h122 => ?_)
 ·have r123 := ite_t h122 r119
  refine w_seqk fun _ k124 => ?_
  refine w_draw [0, 1, 2] (by kernel_rfl) ?_
  have u125 := (m93.frS e121 Dj.nil_l)
  refine m_' (.agg #[i_ o83.1, .slice a112 n113 c114]) (aLoad Tryz.prog 41 (pt_ b43 0) H120) (u125.ld (by kernel_rfl)) ?_
  refine e_' (.slice none 0 0) ?_
  have u130 := ((((((r23.frS e36 Dj.nil_l).ext e45).frS e51 (hb46.djn (r23.ltF.le e36.next))).frS e60 Dj.nil_l).frS e87 (hb46.djn (r23.ltF.le e36.next))).frS e121 Dj.nil_l)
  have u131 := (m89.fr e121 Dj.nil_l)
  obtain ⟨H126, q127, e128, r129⟩ := Row.store (P := Tryz.prog) (t := 41) (p := 0) e121.wf u130 (.agg #[i_ o83.1, .slice a112 n113 c114]) [i_ o83.1, .slice a112 n113 c114] (by kernel_rfl) (by kernel_rfl) (one_cons (rfl) (one_cons (u131.one1) (one_nil))) (Nat.le_of_ble_eq_true (by kernel_rfl)) [i_ o83.1, .slice a112 n113 c114] (by kernel_rfl)
  refine d_ek (undef) (by kernel_rfl) (map_ok q127) (st_nil) ?_
  refine d_nil ?_
  refine k124 _ _ ?_
  refine w_ret (th_ret ?_)
  refine b_ret (fn := Tryz.f62) (vs := [.slice none 0 0, .agg #[i_ o83.1, .slice a112 n113 c114]]) (aRes_tmp (by kernel_rfl) (aRes_cell (Eq.trans (b := aLoad Tryz.prog 41 (pt_ b19 0) H126) (by kernel_rfl) (r129.ld (by kernel_rfl))) (rfl))) ?_
  have u132 := (u131.fr e128 (Dj.symm (i94.dj (i38.djn r23.ltF) (r23.ltF.le (ntr (ntr (ntr e36.next e45.next) e51.next) e60.next)))))
  obtain rfl := Option.some.inj r123
  exact ⟨(.slice none 0 0), [], (.slice a112 n113 c114), f91, rfl, (FrS.step wf (FrS.step wf (FrS.step wf (FrS.step wf (FrS.step wf ((FrS.step wf (((FrS.refl (W := []) wf).extR e15).extR e21) e36 Inn.nil).extR e45) e51 (hb46.fresh (ntr (ntr e15.next e21.next) e36.next))) e60 Inn.nil) e87 (hb46.fresh (ntr (ntr e15.next e21.next) e36.next))) e121 Inn.nil) e128 (hb22.fresh e15.next)), (Ow.nil (by decide)), u132, Inn.nil, (Inn.trans (i38.fresh (ntr e15.next e21.next)) (ntr (ntr (ntr (ntr (ntr e15.next e21.next) e36.next) e45.next) e51.next) e60.next) i94), Dj.nil_l⟩
 have r133 := ite_bf h122 r119
 refine w_skip (k115 _ _ (w_seqk fun _ k134 => ?_))
 refine w_draw [0, 1, 3, 2, 4, 5] (by kernel_rfl) ?_
 have u135 := ((((((u26.frS e36 Dj.nil_l).ext e45).frS e51 (hb46.djn (r17.ltF.le (ntr e21.next e36.next)))).frS e60 Dj.nil_l).frS e87 (hb46.djn (r17.ltF.le (ntr e21.next e36.next)))).frS e121 Dj.nil_l)
 refine m_' (.agg #[hd_First, hd_To, hd_Weight]) (aLoad Tryz.prog 27 (pt_ b13 0) H120) (u135.ld (by kernel_rfl)) ?_
 refine e_' (i_ v_) ?_
 have u136 := (m93.frS e121 Dj.nil_l)
 refine d_fl (.agg #[i_ o83.1, .slice a112 n113 c114]) (x := aLoad Tryz.prog 41 (pt_ b43 0) H120) (by kernel_rfl) (u136.ld (by kernel_rfl)) ?_
 have u137 := ((((((u27.fr e36 Dj.nil_l).ext e45).fr e51 (hb46.djn (h_First.lt.le (ntr (ntr e15.next e21.next) e36.next)))).fr e60 Dj.nil_l).fr e87 (hb46.djn (h_First.lt.le (ntr (ntr e15.next e21.next) e36.next)))).fr e121 Dj.nil_l)
 have u138 := ((((((u28.fr e36 Dj.nil_l).ext e45).fr e51 (hb46.djn (h_To.lt.le (ntr (ntr e15.next e21.next) e36.next)))).fr e60 Dj.nil_l).fr e87 (hb46.djn (h_To.lt.le (ntr (ntr e15.next e21.next) e36.next)))).fr e121 Dj.nil_l)
 have u139 := ((((((u29.fr e36 Dj.nil_l).ext e45).fr e51 (hb46.djn (h_Weight.lt.le (ntr (ntr e15.next e21.next) e36.next)))).fr e60 Dj.nil_l).fr e87 (hb46.djn (h_Weight.lt.le (ntr (ntr e15.next e21.next) e36.next)))).fr e121 Dj.nil_l)
 obtain ⟨y140, hy141, r142⟩ := bind_some r133
 refine d_ck 74 #[.agg #[hd_First, hd_To, hd_Weight], i_ v_] (by kernel_rfl) (c_viaductref05_Row e121.wf u137 u138 u139 hy141) ?_
 rintro s143 H145 ⟨_, f144, rfl, e146, m147, i148⟩
 obtain ⟨a150, n151, c152, rfl⟩ := m147.form
 have u153 := (u136.frS e146 Dj.nil_l)
 refine ⟨st_ql (y := aLoad Tryz.prog 41 (pt_ b43 0) H145) (by kernel_rfl) (u153.ld (by kernel_rfl)) (st_nil), ?_⟩
 refine e_' (.slice a150 n151 c152) ?_
 have u158 := (((((((r23.frS e36 Dj.nil_l).ext e45).frS e51 (hb46.djn (r23.ltF.le e36.next))).frS e60 Dj.nil_l).frS e87 (hb46.djn (r23.ltF.le e36.next))).frS e121 Dj.nil_l).frS e146 Dj.nil_l)
 have u159 := ((m89.fr e121 Dj.nil_l).fr e146 Dj.nil_l)
 obtain ⟨H154, q155, e156, r157⟩ := Row.store (P := Tryz.prog) (t := 41) (p := 0) e146.wf u158 (.agg #[i_ o83.1, .slice a112 n113 c114]) [i_ o83.1, .slice a112 n113 c114] (by kernel_rfl) (by kernel_rfl) (one_cons (rfl) (one_cons (u159.one1) (one_nil))) (Nat.le_of_ble_eq_true (by kernel_rfl)) [i_ o83.1, .slice a112 n113 c114] (by kernel_rfl)
 refine d_ek (undef) (by kernel_rfl) (map_ok q155) (st_anc (by kernel_rfl) (st_nil)) ?_
 refine d_nil ?_
 refine k134 _ _ ?_
 refine w_ret ?_
 refine b_ret (fn := Tryz.f62) (vs := [.slice a150 n151 c152, .agg #[i_ o83.1, .slice a112 n113 c114]]) (aRes_tmp (by kernel_rfl) (aRes_cell (Eq.trans (b := aLoad Tryz.prog 41 (pt_ b19 0) H154) (by kernel_rfl) (r157.ld (by kernel_rfl))) (rfl))) ?_
 have u160 := (m147.fr e156 (Dj.symm (i148.djn (r23.ltF.le (ntr (ntr (ntr (ntr (ntr e36.next e45.next) e51.next) e60.next) e87.next) e121.next)))))
 have u161 := (u159.fr e156 (Dj.symm (i94.dj (i38.djn r23.ltF) (r23.ltF.le (ntr (ntr (ntr e36.next e45.next) e51.next) e60.next)))))
 obtain rfl := Option.some.inj r142
 exact ⟨(.slice a150 n151 c152), f144, (.slice a112 n113 c114), f91, rfl, (FrS.step wf (FrS.step wf (FrS.step wf (FrS.step wf (FrS.step wf (FrS.step wf ((FrS.step wf (((FrS.refl (W := []) wf).extR e15).extR e21) e36 Inn.nil).extR e45) e51 (hb46.fresh (ntr (ntr e15.next e21.next) e36.next))) e60 Inn.nil) e87 (hb46.fresh (ntr (ntr e15.next e21.next) e36.next))) e121 Inn.nil) e146 Inn.nil) e156 (hb22.fresh e15.next)), u160, u161, (i148.fresh (ntr (ntr (ntr (ntr (ntr (ntr (ntr e15.next e21.next) e36.next) e45.next) e51.next) e60.next) e87.next) e121.next)), (Inn.trans (i38.fresh (ntr e15.next e21.next)) (ntr (ntr (ntr (ntr (ntr e15.next e21.next) e36.next) e45.next) e51.next) e60.next) i94), (i148.djn (m89.lt.le e121.next))⟩
theorem c_viaductref05_DocFind {H : AH} {hd_First : Value} {fp_First : Fp} {hd_To : Value} {fp_To : Fp} {hd_Weight : Value} {fp_Weight : Fp} {First : List (Int)} {To : List (Int)} {Weight : List (Int)} {v_ : Int} {w : Int} {r : Int × Int × List (Int × Int)}
    (wf : WF H) (h_First : Sq (encI .i64) 1 H hd_First First fp_First) (h_To : Sq (encI .i64) 1 H hd_To To fp_To) (h_Weight : Sq (encI .i64) 1 H hd_Weight Weight fp_Weight) (hr : z_viaductref05_DocFind First To Weight v_ w = some r) :
    ACalls Tryz.prog 39 #[.agg #[hd_First, hd_To, hd_Weight], i_ v_, i_ w] H fun v H' => ∃ (s3 : Value) (f4 : Fp), v = .tuple #[i_ r.1, .agg #[i_ r.2.1, s3]] ∧ FrS [] H H' ∧ Ow enc_i64_i64 2 H' s3 r.2.2 f4 ∧ Inn [] H f4 := by
 refine acalls_of_body mixed Tryz.func39 rfl (Nat.le_of_ble_eq_true rfl) ?_
 unfold z_viaductref05_DocFind at hr
 refine w_seqk fun _ k6 => g_' ?_
 refine s_rwl wf [hd_First, hd_To, hd_Weight] (one_cons (h_First.one1) (one_cons (h_To.one1) (one_cons (h_Weight.one1) (one_nil)))) (by kernel_rfl) fun b7 H8 e9 hb10 r11 => ?_
 refine q_ (i_ 0) ?_
 refine s_rwk e9.wf [i_ 0, .slice none 0 0] (by kernel_rfl) fun b13 H14 e15 hb16 r17 => ?_
 refine s_nil (k6 _ _ (w_seqk fun _ k19 => g_' ?_))
 have u20 := (r11.ext e15)
 refine l_' (.agg #[hd_First, hd_To, hd_Weight]) (aLoad Tryz.prog 27 (pt_ b7 0) H14) (u20.ld (by kernel_rfl)) ?_
 refine q_ (i_ v_) ?_
 have u21 := ((h_First.ext e9).ext e15)
 have u22 := ((h_To.ext e9).ext e15)
 have u23 := ((h_Weight.ext e9).ext e15)
 obtain ⟨y24, hy25, r26⟩ := bind_some hr
 refine s_ck 62 #[.agg #[hd_First, hd_To, hd_Weight], i_ v_] (by kernel_rfl) (c_viaductref05_DocRow e15.wf u21 u22 u23 hy25) ?_
 rintro _ H31 ⟨s27, f28, s29, f30, rfl, e32, m33, m34, i35, i36, d37⟩
 obtain ⟨a40, n41, c42, rfl⟩ := m33.form
 obtain ⟨a43, n44, c45, rfl⟩ := m34.form
 refine q_ (.tuple #[.slice a40 n41 c42, .agg #[i_ y24.2.1, .slice a43 n44 c45]]) (q_ (.slice a40 n41 c42) (q_ (.agg #[i_ y24.2.1, .slice a43 n44 c45]) ?_))
 refine s_rwk e32.wf [i_ 0, .slice none 0 0] (by kernel_rfl) fun b46 H47 e48 hb49 r50 => ?_
 refine q_ (.slice a40 n41 c42) ?_
 have u56 := (m34.ext e48)
 obtain ⟨H52, q53, e54, r55⟩ := Row.store (P := Tryz.prog) (t := 41) (p := 0) e48.wf r50 (.agg #[i_ y24.2.1, .slice a43 n44 c45]) [i_ y24.2.1, .slice a43 n44 c45] (by kernel_rfl) (by kernel_rfl) (one_cons (rfl) (one_cons (u56.one1) (one_nil))) (Nat.le_of_ble_eq_true (by kernel_rfl)) [i_ y24.2.1, .slice a43 n44 c45] (by kernel_rfl)
 refine s_ek (undef) (by kernel_rfl) (map_ok q53) ?_
 refine s_nil (k19 _ _ (w_seqk fun _ k57 => w_seqk fun _ k58 => ?_))
 obtain ⟨o59, hx60, r61⟩ := bind_some r26
 refine w_mid (fun α H62 => Has α [(2, i_ w), (7, pt_ b13 0), (8, .slice a40 n41 c42), (9, pt_ b46 0), (26, .bool o59)] ∧ FrS [] H52 H62) (fun _ k64 => ?_) (fun α H62 hM => ?_)
 ·refine g_' ?_
  refine l_' (.agg #[i_ y24.2.1, .slice a43 n44 c45]) (aLoad Tryz.prog 41 (pt_ b46 0) H52) (r55.ld (by kernel_rfl)) ?_
  have u66 := (u56.fr e54 (hb49.djn m34.lt))
  obtain ⟨y67, hy68, r69⟩ := bind_some hx60
  refine s_ck 27 #[.agg #[i_ y24.2.1, .slice a43 n44 c45]] (by kernel_rfl) (c_viaductref01_Err_Bad e54.wf u66.sq hy68) ?_
  rintro _ H70 ⟨rfl, e71⟩
  by_cases h72 : y67 = true
  ·have r73 := ite_t h72 r69
   rw [h72]
   refine q_ (.bool false) (q_ (.bool false) (n_' (n_' (n_' (n_' (q_ (.bool false) (s_nil ?_)))))))
   obtain rfl := Option.some.inj r73
   exact k64 _ _ ⟨ha_, (FrS.step e54.wf (FrS.refl (W := []) e54.wf) e71 Inn.nil)⟩
  have r75 := ite_f h72 r69
  rw [nb h72]
  refine q_ (.bool true) (q_ (.bool true) ?_)
  have u77 := ((((u20.frS e32 Dj.nil_l).ext e48).frS e54 (hb49.djn (r11.ltF.le (ntr e15.next e32.next)))).frS e71 Dj.nil_l)
  refine l_' (.agg #[hd_First, hd_To, hd_Weight]) (aLoad Tryz.prog 27 (pt_ b7 0) H70) (u77.ld (by kernel_rfl)) ?_
  refine q_ (i_ w) ?_
  have u78 := ((((u21.fr e32 Dj.nil_l).ext e48).fr e54 (hb49.djn (h_First.lt.le (ntr (ntr e9.next e15.next) e32.next)))).fr e71 Dj.nil_l)
  have u79 := ((((u22.fr e32 Dj.nil_l).ext e48).fr e54 (hb49.djn (h_To.lt.le (ntr (ntr e9.next e15.next) e32.next)))).fr e71 Dj.nil_l)
  have u80 := ((((u23.fr e32 Dj.nil_l).ext e48).fr e54 (hb49.djn (h_Weight.lt.le (ntr (ntr e9.next e15.next) e32.next)))).fr e71 Dj.nil_l)
  obtain ⟨y81, hy82, r83⟩ := bind_some r75
  refine s_ck 38 #[.agg #[hd_First, hd_To, hd_Weight], i_ w] (by kernel_rfl) (c_viaductref05_Node e71.wf u78 u79 u80 hy82) ?_
  rintro _ H84 ⟨rfl, e85⟩
  refine q_ (.bool (!y81)) (q_ (.bool (!y81)) (s_nil ?_))
  obtain rfl := Option.some.inj r83
  exact k64 _ _ ⟨ha_, (FrS.step e54.wf (FrS.step e54.wf (FrS.refl (W := []) e54.wf) e71 Inn.nil) e85 Inn.nil)⟩
 obtain ⟨hh65, e63⟩ := hM
 obtain ⟨β, rfl⟩ := has_ex hh65
 clear hh65
 refine k58 _ _ ?_
 obtain ⟨o86, hx87, r88⟩ := bind_some r61
 refine w_mid (fun α H89 => ∃ (s93 : Value) (f94 : Fp), Has α [(2, i_ w), (7, pt_ b13 0), (8, .slice a40 n41 c42), (9, pt_ b46 0)] ∧ FrS [b46] H62 H89 ∧ Ow enc_i64_i64 2 H89 s93 o86.2 f94 ∧ Row H89 b46 [i_ o86.1, s93] ∧ Inn f30 H62 f94) (fun _ k98 => ?_) (fun α H89 hM => ?_)
 ·refine w_cond (o59) (by kernel_rfl) rfl (fun h100 => ?_) (fun h100 => ?_)
  ·have r101 := ite_t h100 hx87
   refine g_' ?_
   obtain ⟨y102, hy103, r104⟩ := bind_some r101
   refine s_ck 12 #[i_ 7] (by kernel_rfl) (c_viaductref01_E e63.wf hy103) ?_
   rintro _ H105 ⟨rfl, e106⟩
   have u111 := ((r55.frS e63 Dj.nil_l).frS e106 Dj.nil_l)
   obtain ⟨H107, q108, e109, r110⟩ := Row.store (P := Tryz.prog) (t := 41) (p := 0) e106.wf u111 (.agg #[i_ y102, .slice none 0 0]) [i_ y102, .slice none 0 0] (by kernel_rfl) (by kernel_rfl) (one_cons (rfl) (one_cons (rfl) (one_nil))) (Nat.le_of_ble_eq_true (by kernel_rfl)) [i_ y102, .slice none 0 0] (by kernel_rfl)
   refine s_ek (undef) (by kernel_rfl) (map_ok q108) ?_
   refine s_nil ?_
   obtain rfl := Option.some.inj r104
   exact k98 _ _ ⟨(.slice none 0 0), [], ha_, (FrS.step e63.wf (FrS.step e63.wf (FrS.refl (W := [b46]) e63.wf) e106 Inn.nil) e109 Inn.refl'), (Ow.nil (by decide)), r110, Inn.nil⟩
  have r112 := ite_bf h100 hx87
  refine w_skip ?_
  have u113 := ((u56.fr e54 (hb49.djn m34.lt)).fr e63 Dj.nil_l)
  have u114 := (r55.frS e63 Dj.nil_l)
  obtain rfl := Option.some.inj r112
  exact k98 _ _ ⟨(.slice a43 n44 c45), f30, ha_, (FrS.refl (W := [b46]) e63.wf), u113, u114, Inn.refl'⟩
 obtain ⟨s93, f94, hh99, e90, m92, m96, i97⟩ := hM
 obtain ⟨β, rfl⟩ := has_ex hh99
 clear hh99
 obtain ⟨a115, n116, c117, rfl⟩ := m92.form
 refine k57 _ _ (w_seqk fun _ k118 => w_seqk fun _ k119 => g_' ?_)
 refine l_' (.agg #[i_ o86.1, .slice a115 n116 c117]) (aLoad Tryz.prog 41 (pt_ b46 0) H89) (m96.ld (by kernel_rfl)) ?_
 obtain ⟨y120, hy121, r122⟩ := bind_some r88
 refine s_ck 27 #[.agg #[i_ o86.1, .slice a115 n116 c117]] (by kernel_rfl) (c_viaductref01_Err_Bad e90.wf m92.sq hy121) ?_
 rintro _ H123 ⟨rfl, e124⟩
 refine s_nil (k119 _ _ ?_)
 refine w_cond (y120) (by kernel_rfl) rfl (fun h125 => ?_) (fun h125 => ?_)
 ·have r126 := ite_t h125 r122
  refine w_seqk fun _ k127 => ?_
  refine w_draw [0, 1, 2] (by kernel_rfl) ?_
  have u128 := (m96.frS e124 Dj.nil_l)
  refine m_' (.agg #[i_ o86.1, .slice a115 n116 c117]) (aLoad Tryz.prog 41 (pt_ b46 0) H123) (u128.ld (by kernel_rfl)) ?_
  refine e_' (i_ 0) ?_
  have u133 := ((((((r17.frS e32 Dj.nil_l).ext e48).frS e54 (hb49.djn (r17.ltF.le e32.next))).frS e63 Dj.nil_l).frS e90 (hb49.djn (r17.ltF.le e32.next))).frS e124 Dj.nil_l)
  have u134 := (m92.fr e124 Dj.nil_l)
  obtain ⟨H129, q130, e131, r132⟩ := Row.store (P := Tryz.prog) (t := 41) (p := 0) e124.wf u133 (.agg #[i_ o86.1, .slice a115 n116 c117]) [i_ o86.1, .slice a115 n116 c117] (by kernel_rfl) (by kernel_rfl) (one_cons (rfl) (one_cons (u134.one1) (one_nil))) (Nat.le_of_ble_eq_true (by kernel_rfl)) [i_ o86.1, .slice a115 n116 c117] (by kernel_rfl)
  refine d_ek (undef) (by kernel_rfl) (map_ok q130) (st_nil) ?_
  refine d_nil ?_
  refine k127 _ _ ?_
  refine w_ret (th_ret ?_)
  refine b_ret (fn := Tryz.f39) (vs := [i_ 0, .agg #[i_ o86.1, .slice a115 n116 c117]]) (aRes_tmp (by kernel_rfl) (aRes_cell (Eq.trans (b := aLoad Tryz.prog 41 (pt_ b13 0) H129) (by kernel_rfl) (r132.ld (by kernel_rfl))) (rfl))) ?_
  have u135 := (u134.fr e131 (Dj.symm (i97.dj (i36.djn r17.ltF) (r17.ltF.le (ntr (ntr (ntr e32.next e48.next) e54.next) e63.next)))))
  obtain rfl := Option.some.inj r126
  exact ⟨(.slice a115 n116 c117), f94, rfl, (FrS.step wf (FrS.step wf (FrS.step wf (FrS.step wf (FrS.step wf ((FrS.step wf (((FrS.refl (W := []) wf).extR e9).extR e15) e32 Inn.nil).extR e48) e54 (hb49.fresh (ntr (ntr e9.next e15.next) e32.next))) e63 Inn.nil) e90 (hb49.fresh (ntr (ntr e9.next e15.next) e32.next))) e124 Inn.nil) e131 (hb16.fresh e9.next)), u135, (Inn.trans (i36.fresh (ntr e9.next e15.next)) (ntr (ntr (ntr (ntr (ntr e9.next e15.next) e32.next) e48.next) e54.next) e63.next) i97)⟩
 have r136 := ite_bf h125 r122
 refine w_skip (k118 _ _ (w_seqk fun _ k137 => w_seqk fun _ k138 => g_' (q_ (.slice a40 n41 c42) ?_)))
 have u139 := (((((m33.ext e48).fr e54 (hb49.djn m33.lt)).fr e63 Dj.nil_l).fr e90 (hb49.djn m33.lt)).fr e124 Dj.nil_l)
 refine l_' (i_ (y24.1.length : Int)) (aLen Tryz.prog 49 (.slice a40 n41 c42) H123) (u139.sq.lenb (by kernel_rfl)) ?_
 refine q_ (i_ 0) (s_nil (k138 _ _ ?_))
 obtain ⟨z143, hx141, r142⟩ := bind_some r136
 refine w_mid (fun α H144 => ∃ o140, z143 = Sum.inr o140 ∧ Has α [(7, pt_ b13 0)] ∧ FrS [] H123 H144) (fun _ k146 => ?_) (fun α H144 hM => ?_)
 ·refine w_block ?_
  obtain ⟨n148, hn149⟩ := loopO_iff.1 hx141
  refine w_loopn (fun n α H150 => ∃ (i0 : Int), iterO (fun zz_ => z_viaductref05_DocFind_l0 w y24 o86 zz_) n i0 = some z143 ∧ Has α [(2, i_ w), (7, pt_ b13 0), (9, pt_ b46 0), (31, .slice a40 n41 c42), (32, i_ (y24.1.length : Int)), (33, i_ i0)] ∧ FrS [] H123 H150) n148 ⟨0, hn149, ha_, (FrS.refl (W := []) e124.wf)⟩ ?_
  rintro n148 α H150 ⟨i0, hi153, hh152, e151⟩ K158 k158
  obtain ⟨n154, z155, rfl, hz156, hn157⟩ := iter_succ hi153
  obtain ⟨β, rfl⟩ := has_ex hh152
  clear hh152
  replace hz156 : z_viaductref05_DocFind_l0 w y24 o86 i0 = some z155 := hz156
  unfold z_viaductref05_DocFind_l0 at hz156
  refine w_seqk fun _ k159 => g_' (q_ (.bool (decide (i0 < (y24.1.length : Int)))) (s_nil (k159 _ _ (w_seqk fun _ k160 => ?_))))
  refine w_condp (i0 < (y24.1.length : Int)) (by kernel_rfl) rfl (fun h161 => ?_) (fun h161 => ?_)
  ·have r162 := ite_t h161 hz156
   refine w_skip (k160 _ _ (w_seqk fun _ k163 => w_block (w_seqk fun _ k164 => g_' ?_)))
   obtain ⟨g165, r166⟩ := G_some r162
   have u167 := (u139.fr e151 Dj.nil_l)
   refine l_' (elp (.slice a40 n41 c42) 3 i0.toNat 0) (aIndexAddr Tryz.prog 49 (.slice a40 n41 c42) (i_ i0)) (u167.sq.idxb (by kernel_rfl) g165 h161) ?_
   refine l_' (.agg #[i_ ((gt y24.1 i0).1), i_ ((gt y24.1 i0).2.1), i_ ((gt y24.1 i0).2.2)]) (aLoad Tryz.prog 53 (elp (.slice a40 n41 c42) 3 i0.toNat 0) H150) (u167.sq.ld g165 h161 (by kernel_rfl)) ?_
   refine s_rwk e151.wf [i_ 0, i_ 0, i_ 0] (by kernel_rfl) fun b168 H169 e170 hb171 r172 => ?_
   obtain ⟨H174, q175, e176, r177⟩ := Row.store (P := Tryz.prog) (t := 53) (p := 0) e170.wf r172 (.agg #[i_ ((gt y24.1 i0).1), i_ ((gt y24.1 i0).2.1), i_ ((gt y24.1 i0).2.2)]) [i_ ((gt y24.1 i0).1), i_ ((gt y24.1 i0).2.1), i_ ((gt y24.1 i0).2.2)] (by kernel_rfl) (by kernel_rfl) (one_cons (rfl) (one_cons (rfl) (one_cons (rfl) (one_nil)))) (Nat.le_of_ble_eq_true (by kernel_rfl)) [i_ ((gt y24.1 i0).1), i_ ((gt y24.1 i0).2.1), i_ ((gt y24.1 i0).2.2)] (by kernel_rfl)
   refine s_ek (undef) (by kernel_rfl) (map_ok q175) ?_
   refine s_nil (k164 _ _ (w_seqk fun _ k178 => g_' (q_ (pt_ b168 1) ?_)))
   refine l_' (i_ ((gt y24.1 i0).2.1)) (aLoad Tryz.prog 3 (pt_ b168 1) H174) (r177.ld (by kernel_rfl)) ?_
   refine q_ (i_ w) (q_ (.bool (decide (((gt y24.1 i0).2.1) = w))) (s_nil (k178 _ _ ?_)))
   refine w_condp (((gt y24.1 i0).2.1) = w) (by kernel_rfl) rfl (fun h179 => ?_) (fun h179 => ?_)
   ·have r180 := ite_t h179 r166
    refine w_seqk fun _ k181 => ?_
    refine w_draw [0, 1, 2, 3, 4] (by kernel_rfl) ?_
    refine e_' (pt_ b168 2) ?_
    refine m_' (i_ ((gt y24.1 i0).2.2)) (aLoad Tryz.prog 3 (pt_ b168 2) H174) (r177.ld (by kernel_rfl)) ?_
    have u182 := ((((m96.frS e124 Dj.nil_l).frS e151 Dj.nil_l).ext e170).frS e176 (hb171.djn (r50.ltF.le (ntr (ntr (ntr (ntr e54.next e63.next) e90.next) e124.next) e151.next))))
    refine m_' (.agg #[i_ o86.1, .slice a115 n116 c117]) (aLoad Tryz.prog 41 (pt_ b46 0) H174) (u182.ld (by kernel_rfl)) ?_
    refine e_' (i_ ((gt y24.1 i0).2.2)) ?_
    have u187 := (((((((((r17.frS e32 Dj.nil_l).ext e48).frS e54 (hb49.djn (r17.ltF.le e32.next))).frS e63 Dj.nil_l).frS e90 (hb49.djn (r17.ltF.le e32.next))).frS e124 Dj.nil_l).frS e151 Dj.nil_l).ext e170).frS e176 (hb171.djn (r17.ltF.le (ntr (ntr (ntr (ntr (ntr (ntr e32.next e48.next) e54.next) e63.next) e90.next) e124.next) e151.next))))
    have u188 := ((((m92.fr e124 Dj.nil_l).fr e151 Dj.nil_l).ext e170).fr e176 (hb171.djn (m92.lt.le (ntr e124.next e151.next))))
    obtain ⟨H183, q184, e185, r186⟩ := Row.store (P := Tryz.prog) (t := 41) (p := 0) e176.wf u187 (.agg #[i_ o86.1, .slice a115 n116 c117]) [i_ o86.1, .slice a115 n116 c117] (by kernel_rfl) (by kernel_rfl) (one_cons (rfl) (one_cons (u188.one1) (one_nil))) (Nat.le_of_ble_eq_true (by kernel_rfl)) [i_ o86.1, .slice a115 n116 c117] (by kernel_rfl)
    refine d_ek (undef) (by kernel_rfl) (map_ok q184) (st_nil) ?_
    refine d_nil ?_
    refine k181 _ _ ?_
    refine w_ret (bl_ret (th_ret (th_ret (bl_ret (th_ret (th_ret ?_))))))
    obtain ⟨v189, hv190, hz191⟩ := map_some r180
    subst hz191
    obtain rfl := it_inr hn157
    have hq192 := elim_inl r142
    rw [hq192] at hv190
    refine b_ret (fn := Tryz.f39) (vs := [i_ ((gt y24.1 i0).2.2), .agg #[i_ o86.1, .slice a115 n116 c117]]) (aRes_tmp (by kernel_rfl) (aRes_cell (Eq.trans (b := aLoad Tryz.prog 41 (pt_ b13 0) H183) (by kernel_rfl) (r186.ld (by kernel_rfl))) (rfl))) ?_
    have u193 := (u188.fr e185 (Dj.symm (i97.dj (i36.djn r17.ltF) (r17.ltF.le (ntr (ntr (ntr e32.next e48.next) e54.next) e63.next)))))
    obtain rfl := Option.some.inj hv190
    exact ⟨(.slice a115 n116 c117), f94, rfl, (FrS.step wf (FrS.step wf ((FrS.step wf (FrS.step wf (FrS.step wf (FrS.step wf (FrS.step wf ((FrS.step wf (((FrS.refl (W := []) wf).extR e9).extR e15) e32 Inn.nil).extR e48) e54 (hb49.fresh (ntr (ntr e9.next e15.next) e32.next))) e63 Inn.nil) e90 (hb49.fresh (ntr (ntr e9.next e15.next) e32.next))) e124 Inn.nil) e151 Inn.nil).extR e170) e176 (hb171.fresh (ntr (ntr (ntr (ntr (ntr (ntr (ntr (ntr e9.next e15.next) e32.next) e48.next) e54.next) e63.next) e90.next) e124.next) e151.next))) e185 (hb16.fresh e9.next)), u193, (Inn.trans (i36.fresh (ntr e9.next e15.next)) (ntr (ntr (ntr (ntr (ntr e9.next e15.next) e32.next) e48.next) e54.next) e63.next) i97)⟩
   have r194 := ite_f h179 r166
   refine w_skip (k163 _ _ (g_' ?_))
   obtain ⟨g195, r196⟩ := G_some r194
   refine w_' (i0 + 1) (wrap64 (by have := g195; omega)) ?_
   refine q_ (i_ (i0 + 1)) (s_nil ?_)
   obtain rfl := Option.some.inj r196
   exact k158 n154 _ _ (Nat.lt_succ_self _) ⟨(i0 + 1), hn157, ha_, (FrS.step e124.wf ((FrS.step e124.wf (FrS.refl (W := []) e124.wf) e151 Inn.nil).extR e170) e176 (hb171.fresh e151.next))⟩
  have r197 := ite_f h161 hz156
  refine w_exit (th_exit (th_exit (bl_eq ?_)))
  obtain rfl := Option.some.inj r197
  obtain rfl := it_inr hn157
  exact k146 _ _ ⟨_, rfl, ha_, (FrS.step e124.wf (FrS.refl (W := []) e124.wf) e151 Inn.nil)⟩
 obtain ⟨o140, rfl, hh147, e145⟩ := hM
 have r198 := elim_inr r142
 obtain ⟨β, rfl⟩ := has_ex hh147
 clear hh147
 refine k137 _ _ (w_seqk fun _ k199 => g_' ?_)
 obtain ⟨y200, hy201, r202⟩ := bind_some r198
 refine s_ck 12 #[i_ 16] (by kernel_rfl) (c_viaductref01_E e145.wf hy201) ?_
 rintro _ H203 ⟨rfl, e204⟩
 refine q_ (i_ 0) ?_
 have u209 := ((((((((r17.frS e32 Dj.nil_l).ext e48).frS e54 (hb49.djn (r17.ltF.le e32.next))).frS e63 Dj.nil_l).frS e90 (hb49.djn (r17.ltF.le e32.next))).frS e124 Dj.nil_l).frS e145 Dj.nil_l).frS e204 Dj.nil_l)
 obtain ⟨H205, q206, e207, r208⟩ := Row.store (P := Tryz.prog) (t := 41) (p := 0) e204.wf u209 (.agg #[i_ y200, .slice none 0 0]) [i_ y200, .slice none 0 0] (by kernel_rfl) (by kernel_rfl) (one_cons (rfl) (one_cons (rfl) (one_nil))) (Nat.le_of_ble_eq_true (by kernel_rfl)) [i_ y200, .slice none 0 0] (by kernel_rfl)
 refine s_ek (undef) (by kernel_rfl) (map_ok q206) ?_
 refine s_nil (k199 _ _ ?_)
 refine w_ret ?_
 refine b_ret (fn := Tryz.f39) (vs := [i_ 0, .agg #[i_ y200, .slice none 0 0]]) (aRes_tmp (by kernel_rfl) (aRes_cell (Eq.trans (b := aLoad Tryz.prog 41 (pt_ b13 0) H205) (by kernel_rfl) (r208.ld (by kernel_rfl))) (rfl))) ?_
 obtain rfl := Option.some.inj r202
 exact ⟨(.slice none 0 0), [], rfl, (FrS.step wf (FrS.step wf (FrS.step wf (FrS.step wf (FrS.step wf (FrS.step wf (FrS.step wf ((FrS.step wf (((FrS.refl (W := []) wf).extR e9).extR e15) e32 Inn.nil).extR e48) e54 (hb49.fresh (ntr (ntr e9.next e15.next) e32.next))) e63 Inn.nil) e90 (hb49.fresh (ntr (ntr e9.next e15.next) e32.next))) e124 Inn.nil) e145 Inn.nil) e204 Inn.nil) e207 (hb16.fresh e9.next)), (Ow.nil (by decide)), Inn.nil⟩
end Go.Vd

/-! (KSt8) -/

set_option maxRecDepth 100000
set_option maxHeartbeats 4000000
set_option linter.unusedVariables false
namespace Go.Vd
open Go.Proofs
attribute [local irreducible] wpSeq wpOrd aWp
theorem c_viaductref08_Path {H : AH} {hd_First : Value} {fp_First : Fp} {hd_To : Value} {fp_To : Fp} {hd_Weight : Value} {fp_Weight : Fp} {hd_l : Value} {fp_l : Fp} {First : List (Int)} {To : List (Int)} {Weight : List (Int)} {l : List (Int)} {s : Int} {t : Int} {length_ : Int} {r : Bool}
    (wf : WF H) (h_First : Sq (encI .i64) 1 H hd_First First fp_First) (h_To : Sq (encI .i64) 1 H hd_To To fp_To) (h_Weight : Sq (encI .i64) 1 H hd_Weight Weight fp_Weight) (h_l : Sq (encI .i64) 1 H hd_l l fp_l) (hr : z_viaductref08_Path First To Weight l s t length_ = some r) :
    ACalls Tryz.prog 18 #[.agg #[hd_First, hd_To, hd_Weight], hd_l, i_ s, i_ t, .int .u64 length_] H fun v H' => v = .bool r ∧ FrS [] H H' := by
 refine acalls_of_body mixed Tryz.func18 rfl (Nat.le_of_ble_eq_true rfl) ?_
 unfold z_viaductref08_Path at hr
 refine w_seqk fun _ k1 => g_' ?_
 refine s_rwl wf [hd_First, hd_To, hd_Weight] (one_cons (h_First.one1) (one_cons (h_To.one1) (one_cons (h_Weight.one1) (one_nil)))) (by kernel_rfl) fun b2 H3 e4 hb5 r6 => ?_
 refine q_ (.bool false) (s_nil (k1 _ _ (w_seqk fun _ k8 => w_seqk fun _ k9 => ?_)))
 obtain ⟨o10, hx11, r12⟩ := bind_some hr
 refine w_mid (fun α H13 => Has α [(1, hd_l), (4, .int .u64 length_), (5, pt_ b2 0), (37, .bool o10)] ∧ H3 = H13) (fun _ k15 => ?_) (fun α H13 hM => ?_)
 ·refine g_' (q_ (hd_l) ?_)
  have u17 := (h_l.ext e4)
  refine l_' (i_ (l.length : Int)) (aLen Tryz.prog 23 hd_l H3) (u17.lenb (by kernel_rfl)) ?_
  refine s_b ((l.length : Int) = 0) (by kernel_rfl) (fun h18 => ?_) (fun h18 => ?_)
  ·have r19 := ite_t h18 hx11
   refine q_ (.bool true) (n_' (n_' (n_' (n_' (n_' (q_ (.bool true) (q_ (.bool true) (n_' (n_' (n_' (n_' (n_' (n_' (n_' (n_' (q_ (.bool true) (s_nil ?_)))))))))))))))))
   obtain rfl := Option.some.inj r19
   exact k15 _ _ ⟨ha_, rfl⟩
  have r20 := ite_f h18 hx11
  refine q_ (.bool false) (q_ (hd_l) ?_)
  obtain ⟨g21, r22⟩ := G_some r20
  refine l_' (elp hd_l 1 (0 : Int).toNat 0) (aIndexAddr Tryz.prog 23 hd_l (i_ 0)) (u17.idxb (by kernel_rfl) (by decide) g21) ?_
  refine l_' (i_ (gt l 0)) (aLoad Tryz.prog 3 (elp hd_l 1 (0 : Int).toNat 0) H3) (u17.ld (by decide) g21 (by kernel_rfl)) ?_
  refine q_ (i_ s) ?_
  refine s_bn ((gt l 0) = s) (by kernel_rfl) (fun h23 => ?_) (fun h23 => ?_)
  ·have r24 := ite_t h23 r22
   refine q_ (.bool false) (q_ (.bool false) (q_ (hd_l) (q_ (hd_l) ?_)))
   refine l_' (i_ (l.length : Int)) (aLen Tryz.prog 23 hd_l H3) (u17.lenb (by kernel_rfl)) ?_
   obtain ⟨g25, r26⟩ := G_some r24
   refine w_' ((l.length : Int) - 1) (wrap64 g25) ?_
   obtain ⟨g27, r28⟩ := G_some r26
   refine l_' (elp hd_l 1 ((l.length : Int) - 1).toNat 0) (aIndexAddr Tryz.prog 23 hd_l (i_ ((l.length : Int) - 1))) (u17.idxb (by kernel_rfl) g27.1 g27.2) ?_
   refine l_' (i_ (gt l ((l.length : Int) - 1))) (aLoad Tryz.prog 3 (elp hd_l 1 ((l.length : Int) - 1).toNat 0) H3) (u17.ld g27.1 g27.2 (by kernel_rfl)) ?_
   refine q_ (i_ t) (q_ (.bool (!decide ((gt l ((l.length : Int) - 1)) = t))) (q_ (.bool (!decide ((gt l ((l.length : Int) - 1)) = t))) (s_nil ?_)))
   obtain rfl := Option.some.inj r28
   exact k15 _ _ ⟨ha_, rfl⟩
  have r29 := ite_f h23 r22
  refine q_ (.bool true) (q_ (.bool true) (n_' (n_' (n_' (n_' (n_' (n_' (n_' (n_' (q_ (.bool true) (s_nil ?_)))))))))))
  obtain rfl := Option.some.inj r29
  exact k15 _ _ ⟨ha_, rfl⟩
 obtain ⟨hh16, rfl⟩ := hM
 obtain ⟨β, rfl⟩ := has_ex hh16
 clear hh16
 refine k9 _ _ ?_
 refine w_cond (o10) (by kernel_rfl) rfl (fun h30 => ?_) (fun h30 => ?_)
 ·have r31 := ite_t h30 r12
  refine w_seqk fun _ k32 => g_' (q_ (.bool false) (s_nil (k32 _ _ ?_)))
  refine w_ret (th_ret ?_)
  refine b_ret (fn := Tryz.f18) (vs := [.bool false]) (aRes_tmp (by kernel_rfl) (rfl)) ?_
  obtain rfl := Option.some.inj r31
  exact ⟨rfl, ((FrS.refl (W := []) wf).extR e4)⟩
 have r33 := ite_bf h30 r12
 refine w_skip (k8 _ _ (w_seqk fun _ k34 => g_' (q_ (.int .u64 0) (s_nil (k34 _ _ (w_seqk fun _ k35 => w_seqk fun _ k36 => g_' (q_ (hd_l) ?_)))))))
 have u37 := (h_l.ext e4)
 refine l_' (i_ (l.length : Int)) (aLen Tryz.prog 23 hd_l H3) (u37.lenb (by kernel_rfl)) ?_
 refine q_ (i_ 0) (s_nil (k36 _ _ ?_))
 obtain ⟨z41, hx39, r40⟩ := bind_some r33
 refine w_mid (fun α H42 => ∃ o38, z41 = Sum.inr o38 ∧ Has α [(4, .int .u64 length_), (11, .int .u64 o38)] ∧ FrS [] H3 H42) (fun _ k44 => ?_) (fun α H42 hM => ?_)
 ·refine w_block ?_
  obtain ⟨n46, hn47⟩ := loopO_iff.1 hx39
  refine w_loopn (fun n α H48 => ∃ (sum1 : Int), ∃ (i2 : Int), iterO (fun zz_ => z_viaductref08_Path_l1 First To Weight l zz_.1 zz_.2) n (sum1, i2) = some z41 ∧ Has α [(1, hd_l), (4, .int .u64 length_), (5, pt_ b2 0), (11, .int .u64 sum1), (38, hd_l), (39, i_ (l.length : Int)), (40, i_ i2)] ∧ FrS [] H3 H48) n46 ⟨0, 0, hn47, ha_, (FrS.refl (W := []) e4.wf)⟩ ?_
  rintro n46 α H48 ⟨sum1, i2, hi51, hh50, e49⟩ K56 k56
  obtain ⟨n52, z53, rfl, hz54, hn55⟩ := iter_succ hi51
  obtain ⟨β, rfl⟩ := has_ex hh50
  clear hh50
  replace hz54 : z_viaductref08_Path_l1 First To Weight l sum1 i2 = some z53 := hz54
  unfold z_viaductref08_Path_l1 at hz54
  refine w_seqk fun _ k57 => g_' (q_ (.bool (decide (i2 < (l.length : Int)))) (s_nil (k57 _ _ (w_seqk fun _ k58 => ?_))))
  refine w_condp (i2 < (l.length : Int)) (by kernel_rfl) rfl (fun h59 => ?_) (fun h59 => ?_)
  ·have r60 := ite_t h59 hz54
   refine w_skip (k58 _ _ (w_seqk fun _ k61 => w_block (w_seqk fun _ k62 => g_' (q_ (i_ i2) ?_))))
   obtain ⟨g63, r64⟩ := G_some r60
   have u65 := (u37.fr e49 Dj.nil_l)
   refine l_' (elp hd_l 1 i2.toNat 0) (aIndexAddr Tryz.prog 23 hd_l (i_ i2)) (u65.idxb (by kernel_rfl) g63 h59) ?_
   refine l_' (i_ (gt l i2)) (aLoad Tryz.prog 3 (elp hd_l 1 i2.toNat 0) H48) (u65.ld g63 h59 (by kernel_rfl)) ?_
   refine q_ (i_ i2) (q_ (i_ (gt l i2)) (s_nil (k62 _ _ (w_seqk fun _ k66 => w_seqk fun _ k67 => g_' ?_))))
   have u68 := (r6.frS e49 Dj.nil_l)
   refine l_' (.agg #[hd_First, hd_To, hd_Weight]) (aLoad Tryz.prog 27 (pt_ b2 0) H48) (u68.ld (by kernel_rfl)) ?_
   refine q_ (i_ (gt l i2)) ?_
   have u69 := ((h_First.ext e4).fr e49 Dj.nil_l)
   have u70 := ((h_To.ext e4).fr e49 Dj.nil_l)
   have u71 := ((h_Weight.ext e4).fr e49 Dj.nil_l)
   obtain ⟨y72, hy73, r74⟩ := bind_some r64
   refine s_ck 38 #[.agg #[hd_First, hd_To, hd_Weight], i_ (gt l i2)] (by kernel_rfl) (c_viaductref05_Node e49.wf u69 u70 u71 hy73) ?_
   rintro _ H75 ⟨rfl, e76⟩
   refine q_ (.bool (!y72)) (s_nil (k67 _ _ ?_))
   refine w_cond ((!y72)) (by kernel_rfl) rfl (fun h77 => ?_) (fun h77 => ?_)
   ·have r78 := ite_t h77 r74
    refine w_seqk fun _ k79 => g_' (q_ (.bool false) (s_nil (k79 _ _ ?_)))
    refine w_ret (th_ret (bl_ret (th_ret (th_ret (bl_ret (th_ret (th_ret ?_)))))))
    obtain ⟨v80, hv81, hz82⟩ := map_some r78
    subst hz82
    obtain rfl := it_inr hn55
    have hq83 := elim_inl r40
    rw [hq83] at hv81
    refine b_ret (fn := Tryz.f18) (vs := [.bool false]) (aRes_tmp (by kernel_rfl) (rfl)) ?_
    obtain rfl := Option.some.inj hv81
    exact ⟨rfl, (FrS.step wf (FrS.step wf ((FrS.refl (W := []) wf).extR e4) e49 Inn.nil) e76 Inn.nil)⟩
   have r84 := ite_bf h77 r74
   refine w_skip (k66 _ _ (w_seqk fun _ k85 => w_seqk fun _ k86 => g_' (q_ (hd_l) (q_ (i_ i2) ?_))))
   obtain ⟨g87, r88⟩ := G_some r84
   have u92 := (u65.fr e76 Dj.nil_l)
   obtain ⟨s89, q90, hs91⟩ := Sq.cut (P := Tryz.prog) u92 (t := 23) (by kernel_rfl) (lo := none) (hi := (some (i_ i2))) (l := 0) (r := i2.toNat) (rfl) (aBound_int _ (by have := g87; omega)) (by have := g87; omega) (by have := g87; omega)
   obtain ⟨a93, n94, c95, rfl⟩ := hs91.form
   refine s_ql (.slice a93 n94 c95) (by kernel_rfl) q90 ?_
   refine l_' (i_ (((l.take i2.toNat).drop 0).length : Int)) (aLen Tryz.prog 23 (.slice a93 n94 c95) H75) (hs91.lenb (by kernel_rfl)) ?_
   refine q_ (i_ 0) (s_nil (k86 _ _ ?_))
   obtain ⟨z100, hx98, r99⟩ := bind_some r88
   refine w_mid (fun α H101 => ∃ o97, z100 = Sum.inr o97 ∧ Has α [(1, hd_l), (4, .int .u64 length_), (5, pt_ b2 0), (11, .int .u64 sum1), (12, i_ i2), (13, i_ (gt l i2)), (38, hd_l), (39, i_ (l.length : Int)), (40, i_ i2)] ∧ H75 = H101) (fun _ k103 => ?_) (fun α H101 hM => ?_)
   ·refine w_block ?_
    obtain ⟨n105, hn106⟩ := loopO_iff.1 hx98
    refine w_loopn (fun n α H107 => ∃ (i0 : Int), iterO (fun zz_ => z_viaductref08_Path_l0 l i2 zz_) n i0 = some z100 ∧ Has α [(1, hd_l), (4, .int .u64 length_), (5, pt_ b2 0), (11, .int .u64 sum1), (12, i_ i2), (13, i_ (gt l i2)), (38, hd_l), (39, i_ (l.length : Int)), (40, i_ i2), (51, .slice a93 n94 c95), (52, i_ (((l.take i2.toNat).drop 0).length : Int)), (53, i_ i0)] ∧ H75 = H107) n105 ⟨0, hn106, ha_, rfl⟩ ?_
    rintro n105 α H107 ⟨i0, hi110, hh109, rfl⟩ K115 k115
    obtain ⟨n111, z112, rfl, hz113, hn114⟩ := iter_succ hi110
    obtain ⟨β, rfl⟩ := has_ex hh109
    clear hh109
    replace hz113 : z_viaductref08_Path_l0 l i2 i0 = some z112 := hz113
    unfold z_viaductref08_Path_l0 at hz113
    refine w_seqk fun _ k116 => g_' (q_ (.bool (decide (i0 < (((l.take i2.toNat).drop 0).length : Int)))) (s_nil (k116 _ _ (w_seqk fun _ k117 => ?_))))
    refine w_condp (i0 < (((l.take i2.toNat).drop 0).length : Int)) (by kernel_rfl) rfl (fun h118 => ?_) (fun h118 => ?_)
    ·have r119 := ite_t h118 hz113
     refine w_skip (k117 _ _ (w_seqk fun _ k120 => w_block (w_seqk fun _ k121 => g_' ?_)))
     obtain ⟨g122, r123⟩ := G_some r119
     refine l_' (elp (.slice a93 n94 c95) 1 i0.toNat 0) (aIndexAddr Tryz.prog 23 (.slice a93 n94 c95) (i_ i0)) (hs91.idxb (by kernel_rfl) g122 h118) ?_
     refine l_' (i_ (gt ((l.take i2.toNat).drop 0) i0)) (aLoad Tryz.prog 3 (elp (.slice a93 n94 c95) 1 i0.toNat 0) H75) (hs91.ld g122 h118 (by kernel_rfl)) ?_
     refine q_ (i_ (gt ((l.take i2.toNat).drop 0) i0)) (s_nil (k121 _ _ (w_seqk fun _ k124 => g_' (q_ (i_ (gt ((l.take i2.toNat).drop 0) i0)) (q_ (i_ (gt l i2)) (q_ (.bool (decide ((gt ((l.take i2.toNat).drop 0) i0) = (gt l i2)))) (s_nil (k124 _ _ ?_))))))))
     refine w_condp ((gt ((l.take i2.toNat).drop 0) i0) = (gt l i2)) (by kernel_rfl) rfl (fun h125 => ?_) (fun h125 => ?_)
     ·have r126 := ite_t h125 r123
      refine w_seqk fun _ k127 => g_' (q_ (.bool false) (s_nil (k127 _ _ ?_)))
      refine w_ret (bl_ret (th_ret (th_ret (bl_ret (th_ret (th_ret (bl_ret (th_ret (th_ret (bl_ret (th_ret (th_ret ?_))))))))))))
      obtain ⟨v128, hv129, hz130⟩ := map_some r126
      subst hz130
      obtain rfl := it_inr hn114
      have hq131 := elim_inl r99
      rw [hq131] at hv129
      obtain ⟨v132, hv133, hz134⟩ := map_some hv129
      subst hz134
      obtain rfl := it_inr hn55
      have hq135 := elim_inl r40
      rw [hq135] at hv133
      refine b_ret (fn := Tryz.f18) (vs := [.bool false]) (aRes_tmp (by kernel_rfl) (rfl)) ?_
      obtain rfl := Option.some.inj hv133
      exact ⟨rfl, (FrS.step wf (FrS.step wf ((FrS.refl (W := []) wf).extR e4) e49 Inn.nil) e76 Inn.nil)⟩
     have r136 := ite_f h125 r123
     refine w_skip (k120 _ _ (g_' ?_))
     obtain ⟨g137, r138⟩ := G_some r136
     refine w_' (i0 + 1) (wrap64 (by have := g137; omega)) ?_
     refine q_ (i_ (i0 + 1)) (s_nil ?_)
     obtain rfl := Option.some.inj r138
     exact k115 n111 _ _ (Nat.lt_succ_self _) ⟨(i0 + 1), hn114, ha_, rfl⟩
    have r139 := ite_f h118 hz113
    refine w_exit (th_exit (th_exit (bl_eq ?_)))
    obtain rfl := Option.some.inj r139
    obtain rfl := it_inr hn114
    exact k103 _ _ ⟨_, rfl, ha_, rfl⟩
   obtain ⟨o97, rfl, hh104, rfl⟩ := hM
   have r140 := elim_inr r99
   obtain ⟨β, rfl⟩ := has_ex hh104
   clear hh104
   refine k85 _ _ (w_seqk fun _ k141 => g_' (q_ (i_ i2) (q_ (.bool (decide (i2 > 0))) (s_nil (k141 _ _ ?_)))))
   refine w_condp (i2 > 0) (by kernel_rfl) rfl (fun h142 => ?_) (fun h142 => ?_)
   ·have r143 := ite_t h142 r140
    refine w_seqk fun _ k144 => ?_
    refine w_draw [0, 1, 2, 3, 4, 5, 6, 11, 7, 8, 9, 10, 12, 13] (by kernel_rfl) ?_
    have u145 := (u68.frS e76 Dj.nil_l)
    refine m_' (.agg #[hd_First, hd_To, hd_Weight]) (aLoad Tryz.prog 27 (pt_ b2 0) H75) (u145.ld (by kernel_rfl)) ?_
    refine e_' (hd_l) (e_' (i_ i2) ?_)
    obtain ⟨g146, r147⟩ := G_some r143
    refine d_w ((i2 - 1)) (k := .i64) (x := (i2 - 1)) (by kernel_rfl) (wrap64 g146) ?_
    obtain ⟨g148, r149⟩ := G_some r147
    refine m_' (elp hd_l 1 (i2 - 1).toNat 0) (aIndexAddr Tryz.prog 23 hd_l (i_ (i2 - 1))) (u92.idxb (by kernel_rfl) g148.1 g148.2) ?_
    refine m_' (i_ (gt l (i2 - 1))) (aLoad Tryz.prog 3 (elp hd_l 1 (i2 - 1).toNat 0) H75) (u92.ld g148.1 g148.2 (by kernel_rfl)) ?_
    refine e_' (i_ (gt l i2)) ?_
    refine d_rwk e76.wf [i_ 0, .slice none 0 0] (by kernel_rfl) fun b150 H151 e152 hb153 r154 => ?_
    have u156 := ((u69.fr e76 Dj.nil_l).ext e152)
    have u157 := ((u70.fr e76 Dj.nil_l).ext e152)
    have u158 := ((u71.fr e76 Dj.nil_l).ext e152)
    obtain ⟨y159, hy160, r161⟩ := bind_some r149
    refine d_ck 39 #[.agg #[hd_First, hd_To, hd_Weight], i_ (gt l (i2 - 1)), i_ (gt l i2)] (by kernel_rfl) (c_viaductref05_DocFind e152.wf u156 u157 u158 hy160) ?_
    rintro _ H164 ⟨s162, f163, rfl, e165, m166, i167⟩
    obtain ⟨a169, n170, c171, rfl⟩ := m166.form
    refine ⟨st_nil, ?_⟩
    refine e_' (.tuple #[i_ y159.1, .agg #[i_ y159.2.1, .slice a169 n170 c171]]) (e_' (i_ y159.1) (e_' (.agg #[i_ y159.2.1, .slice a169 n170 c171]) (e_' (i_ y159.1) ?_)))
    have u176 := (r154.frS e165 Dj.nil_l)
    obtain ⟨H172, q173, e174, r175⟩ := Row.store (P := Tryz.prog) (t := 41) (p := 0) e165.wf u176 (.agg #[i_ y159.2.1, .slice a169 n170 c171]) [i_ y159.2.1, .slice a169 n170 c171] (by kernel_rfl) (by kernel_rfl) (one_cons (rfl) (one_cons (m166.one1) (one_nil))) (Nat.le_of_ble_eq_true (by kernel_rfl)) [i_ y159.2.1, .slice a169 n170 c171] (by kernel_rfl)
    refine d_ek (undef) (by kernel_rfl) (map_ok q173) (st_nil) ?_
    refine d_nil ?_
    refine k144 _ _ (w_seqk fun _ k177 => w_seqk fun _ k178 => g_' ?_)
    refine l_' (.agg #[i_ y159.2.1, .slice a169 n170 c171]) (aLoad Tryz.prog 41 (pt_ b150 0) H172) (r175.ld (by kernel_rfl)) ?_
    have u179 := (m166.fr e174 (Dj.symm (i167.djn r154.ltF)))
    obtain ⟨y180, hy181, r182⟩ := bind_some r161
    refine s_ck 27 #[.agg #[i_ y159.2.1, .slice a169 n170 c171]] (by kernel_rfl) (c_viaductref01_Err_Bad e174.wf u179.sq hy181) ?_
    rintro _ H183 ⟨rfl, e184⟩
    refine s_nil (k178 _ _ ?_)
    refine w_cond (y180) (by kernel_rfl) rfl (fun h185 => ?_) (fun h185 => ?_)
    ·have r186 := ite_t h185 r182
     refine w_seqk fun _ k187 => g_' (q_ (.bool false) (s_nil (k187 _ _ ?_)))
     refine w_ret (th_ret (bl_ret (th_ret (th_ret (bl_ret (th_ret (th_ret ?_)))))))
     obtain ⟨v188, hv189, hz190⟩ := map_some r186
     subst hz190
     obtain rfl := it_inr hn55
     have hq191 := elim_inl r40
     rw [hq191] at hv189
     refine b_ret (fn := Tryz.f18) (vs := [.bool false]) (aRes_tmp (by kernel_rfl) (rfl)) ?_
     obtain rfl := Option.some.inj hv189
     exact ⟨rfl, (FrS.step wf (FrS.step wf (FrS.step wf ((FrS.step wf (FrS.step wf ((FrS.refl (W := []) wf).extR e4) e49 Inn.nil) e76 Inn.nil).extR e152) e165 Inn.nil) e174 (hb153.fresh (ntr (ntr e4.next e49.next) e76.next))) e184 Inn.nil)⟩
    have r192 := ite_bf h185 r182
    refine w_skip (k177 _ _ (g_' (q_ (.int .u64 sum1) (q_ (i_ y159.1) ?_))))
    obtain ⟨g193, r194⟩ := G_some r192
    refine s_w (y159.1) (k := .u64) (x := y159.1) (by kernel_rfl) (wrapu64 g193) ?_
    obtain ⟨g195, r196⟩ := G_some r194
    refine s_w ((sum1 + y159.1)) (k := .u64) (x := (sum1 + y159.1)) (by kernel_rfl) (wrapu64 g195) ?_
    refine q_ (.int .u64 (sum1 + y159.1)) (s_nil (k61 _ _ (g_' ?_)))
    obtain ⟨g197, r198⟩ := G_some r196
    refine w_' (i2 + 1) (wrap64 (by have := g197; omega)) ?_
    refine q_ (i_ (i2 + 1)) (s_nil ?_)
    obtain rfl := Option.some.inj r198
    exact k56 n52 _ _ (Nat.lt_succ_self _) ⟨(sum1 + y159.1), (i2 + 1), hn55, ha_, (FrS.step e4.wf (FrS.step e4.wf (FrS.step e4.wf ((FrS.step e4.wf (FrS.step e4.wf (FrS.refl (W := []) e4.wf) e49 Inn.nil) e76 Inn.nil).extR e152) e165 Inn.nil) e174 (hb153.fresh (ntr e49.next e76.next))) e184 Inn.nil)⟩
   have r199 := ite_f h142 r140
   refine w_skip (k61 _ _ (g_' ?_))
   obtain ⟨g200, r201⟩ := G_some r199
   refine w_' (i2 + 1) (wrap64 (by have := g200; omega)) ?_
   refine q_ (i_ (i2 + 1)) (s_nil ?_)
   obtain rfl := Option.some.inj r201
   exact k56 n52 _ _ (Nat.lt_succ_self _) ⟨sum1, (i2 + 1), hn55, ha_, (FrS.step e4.wf (FrS.step e4.wf (FrS.refl (W := []) e4.wf) e49 Inn.nil) e76 Inn.nil)⟩
  have r202 := ite_f h59 hz54
  refine w_exit (th_exit (th_exit (bl_eq ?_)))
  obtain rfl := Option.some.inj r202
  obtain rfl := it_inr hn55
  exact k44 _ _ ⟨_, rfl, ha_, (FrS.step e4.wf (FrS.refl (W := []) e4.wf) e49 Inn.nil)⟩
 obtain ⟨o38, rfl, hh45, e43⟩ := hM
 have r203 := elim_inr r40
 obtain ⟨β, rfl⟩ := has_ex hh45
 clear hh45
 refine k35 _ _ (w_seqk fun _ k204 => g_' (q_ (.int .u64 o38) (q_ (.int .u64 length_) (q_ (.bool (decide (o38 = length_))) (q_ (.bool (decide (o38 = length_))) (s_nil (k204 _ _ ?_)))))))
 refine w_ret ?_
 refine b_ret (fn := Tryz.f18) (vs := [.bool (decide (o38 = length_))]) (aRes_tmp (by kernel_rfl) (rfl)) ?_
 obtain rfl := Option.some.inj r203
 exact ⟨rfl, (FrS.step wf ((FrS.refl (W := []) wf).extR e4) e43 Inn.nil)⟩
end Go.Vd

/-! (KSt9) -/

set_option maxRecDepth 100000
set_option maxHeartbeats 4000000
set_option linter.unusedVariables false
namespace Go.Vd
open Go.Proofs
attribute [local irreducible] wpSeq wpOrd aWp
theorem c_viaductlaw08_SearchTurned {H : AH} {hd_Arcs : Value} {fp_Arcs : Fp} {N_ : Int} {Arcs : List (Int × Int × Int)} {s : Int} {t : Int} {r : Bool}
    (wf : WF H) (h_Arcs : Sq enc_i64_i64_i64 3 H hd_Arcs Arcs fp_Arcs) (hr : z_viaductlaw08_SearchTurned N_ Arcs s t = some r) :
    ACalls Tryz.prog 4 #[.agg #[i_ N_, hd_Arcs], i_ s, i_ t] H fun v H' => v = .bool r ∧ FrS [] H H' := by
 refine acalls_of_body mixed Tryz.func4 rfl (Nat.le_of_ble_eq_true rfl) ?_
 unfold z_viaductlaw08_SearchTurned at hr
 refine w_seqk fun _ k1 => g_' ?_
 refine s_rwl wf [i_ N_, hd_Arcs] (one_cons (rfl) (one_cons (h_Arcs.one1) (one_nil))) (by kernel_rfl) fun b2 H3 e4 hb5 r6 => ?_
 refine q_ (.bool false) (s_nil (k1 _ _ (w_seqk fun _ k8 => w_seqk fun _ k9 => g_' ?_)))
 refine s_ck 5 #[] (by kernel_rfl) c_viaductlaw08_awake ?_
 rintro _ _ ⟨rfl, rfl⟩
 refine q_ (.bool false) (s_nil (k9 _ _ ?_))
 refine w_cond false (by kernel_rfl) rfl (fun h => by cases h) (fun _ => ?_)
 refine w_skip (k8 _ _ (w_seqk fun _ k10 => w_seqk fun _ k11 => ?_))
 obtain ⟨o12, hx13, r14⟩ := bind_some hr
 refine w_mid (fun α H15 => Has α [(1, i_ s), (2, i_ t), (3, pt_ b2 0), (47, .bool o12)] ∧ FrS [] H3 H15) (fun _ k17 => ?_) (fun α H15 hM => ?_)
 ·refine g_' ?_
  refine l_' (.agg #[i_ N_, hd_Arcs]) (aLoad Tryz.prog 51 (pt_ b2 0) H3) (r6.ld (by kernel_rfl)) ?_
  have u19 := (h_Arcs.ext e4)
  obtain ⟨y20, hy21, r22⟩ := bind_some hx13
  refine s_ck 16 #[.agg #[i_ N_, hd_Arcs], i_ 12] (by kernel_rfl) (c_viaductref04_Few e4.wf u19 hy21) ?_
  rintro _ H23 ⟨rfl, e24⟩
  by_cases h25 : y20 = true
  ·have r26 := ite_t h25 r22
   rw [h25]
   refine q_ (.bool false) (q_ (.bool false) (q_ (i_ s) ?_))
   refine s_b (s < 0) (by kernel_rfl) (fun h28 => ?_) (fun h28 => ?_)
   ·have r29 := ite_t h28 r26
    refine q_ (.bool true) (q_ (.bool true) (n_' (n_' (n_' (n_' (q_ (.bool true) (q_ (.bool true) (n_' (n_' (q_ (.bool true) (q_ (.bool true) (n_' (n_' (n_' (n_' (q_ (.bool true) (s_nil ?_)))))))))))))))))
    obtain rfl := Option.some.inj r29
    exact k17 _ _ ⟨ha_, (FrS.step e4.wf (FrS.refl (W := []) e4.wf) e24 Inn.nil)⟩
   have r30 := ite_f h28 r26
   refine q_ (.bool false) (q_ (.bool false) (q_ (i_ s) (q_ (pt_ b2 0) ?_)))
   have u31 := (r6.frS e24 Dj.nil_l)
   refine l_' (i_ N_) (aLoad Tryz.prog 3 (pt_ b2 0) H23) (u31.ld (by kernel_rfl)) ?_
   refine s_b (s ≥ N_) (by kernel_rfl) (fun h32 => ?_) (fun h32 => ?_)
   ·have r33 := ite_t h32 r30
    refine q_ (.bool true) (q_ (.bool true) (n_' (n_' (q_ (.bool true) (q_ (.bool true) (n_' (n_' (n_' (n_' (q_ (.bool true) (s_nil ?_)))))))))))
    obtain rfl := Option.some.inj r33
    exact k17 _ _ ⟨ha_, (FrS.step e4.wf (FrS.refl (W := []) e4.wf) e24 Inn.nil)⟩
   have r34 := ite_f h32 r30
   refine q_ (.bool false) (q_ (.bool false) (q_ (i_ t) ?_))
   refine s_b (t < 0) (by kernel_rfl) (fun h35 => ?_) (fun h35 => ?_)
   ·have r36 := ite_t h35 r34
    refine q_ (.bool true) (q_ (.bool true) (n_' (n_' (n_' (n_' (q_ (.bool true) (s_nil ?_)))))))
    obtain rfl := Option.some.inj r36
    exact k17 _ _ ⟨ha_, (FrS.step e4.wf (FrS.refl (W := []) e4.wf) e24 Inn.nil)⟩
   have r37 := ite_f h35 r34
   refine q_ (.bool false) (q_ (.bool false) (q_ (i_ t) (q_ (pt_ b2 0) ?_)))
   refine l_' (i_ N_) (aLoad Tryz.prog 3 (pt_ b2 0) H23) (u31.ld (by kernel_rfl)) ?_
   refine q_ (.bool (decide (t ≥ N_))) (q_ (.bool (decide (t ≥ N_))) (s_nil ?_))
   obtain rfl := Option.some.inj r37
   exact k17 _ _ ⟨ha_, (FrS.step e4.wf (FrS.refl (W := []) e4.wf) e24 Inn.nil)⟩
  have r38 := ite_f h25 r22
  rw [nb h25]
  refine q_ (.bool true) (q_ (.bool true) (n_' (n_' (q_ (.bool true) (q_ (.bool true) (n_' (n_' (n_' (n_' (q_ (.bool true) (q_ (.bool true) (n_' (n_' (q_ (.bool true) (q_ (.bool true) (n_' (n_' (n_' (n_' (q_ (.bool true) (s_nil ?_)))))))))))))))))))))
  obtain rfl := Option.some.inj r38
  exact k17 _ _ ⟨ha_, (FrS.step e4.wf (FrS.refl (W := []) e4.wf) e24 Inn.nil)⟩
 obtain ⟨hh18, e16⟩ := hM
 obtain ⟨β, rfl⟩ := has_ex hh18
 clear hh18
 refine k11 _ _ ?_
 refine w_cond (o12) (by kernel_rfl) rfl (fun h40 => ?_) (fun h40 => ?_)
 ·have r41 := ite_t h40 r14
  refine w_seqk fun _ k42 => g_' (q_ (.bool true) (s_nil (k42 _ _ ?_)))
  refine w_ret (th_ret ?_)
  refine b_ret (fn := Tryz.f4) (vs := [.bool true]) (aRes_tmp (by kernel_rfl) (rfl)) ?_
  obtain rfl := Option.some.inj r41
  exact ⟨rfl, (FrS.step wf ((FrS.refl (W := []) wf).extR e4) e16 Inn.nil)⟩
 have r43 := ite_bf h40 r14
 refine w_skip (k10 _ _ (w_seqk fun _ k44 => g_' ?_))
 have u45 := (r6.frS e16 Dj.nil_l)
 refine l_' (.agg #[i_ N_, hd_Arcs]) (aLoad Tryz.prog 51 (pt_ b2 0) H15) (u45.ld (by kernel_rfl)) ?_
 have u46 := ((h_Arcs.ext e4).fr e16 Dj.nil_l)
 obtain ⟨y47, hy48, r49⟩ := bind_some r43
 refine s_ck 14 #[.agg #[i_ N_, hd_Arcs]] (by kernel_rfl) (c_csr_Build e16.wf u46 hy48) ?_
 rintro _ H58 ⟨s50, f51, s52, f53, s54, f55, v56, f57, rfl, e59, m60, m61, m62, m63, i64, i65, i66, i67, d68, d69, d70, d71, d72, d73⟩
 obtain ⟨a78, n79, c80, rfl⟩ := m60.form
 obtain ⟨a81, n82, c83, rfl⟩ := m61.form
 obtain ⟨a84, n85, c86, rfl⟩ := m62.form
 refine q_ (.tuple #[.agg #[.slice a78 n79 c80, .slice a81 n82 c83, .slice a84 n85 c86], v56]) (q_ (.agg #[.slice a78 n79 c80, .slice a81 n82 c83, .slice a84 n85 c86]) (q_ (v56) ?_))
 refine s_rwk e59.wf [.slice none 0 0, .slice none 0 0, .slice none 0 0] (by kernel_rfl) fun b87 H88 e89 hb90 r91 => ?_
 have u97 := (m62.ext e89)
 have u98 := (m61.ext e89)
 have u99 := (m60.ext e89)
 obtain ⟨H93, q94, e95, r96⟩ := Row.store (P := Tryz.prog) (t := 25) (p := 0) e89.wf r91 (.agg #[.slice a78 n79 c80, .slice a81 n82 c83, .slice a84 n85 c86]) [.slice a78 n79 c80, .slice a81 n82 c83, .slice a84 n85 c86] (by kernel_rfl) (by kernel_rfl) (one_cons (u99.one1) (one_cons (u98.one1) (one_cons (u97.one1) (one_nil)))) (Nat.le_of_ble_eq_true (by kernel_rfl)) [.slice a78 n79 c80, .slice a81 n82 c83, .slice a84 n85 c86] (by kernel_rfl)
 refine s_ek (undef) (by kernel_rfl) (map_ok q94) ?_
 refine q_ (v56) (s_nil (k44 _ _ (w_seqk fun _ k100 => g_' ?_)))
 have u101 := (((u45.frS e59 Dj.nil_l).ext e89).frS e95 (hb90.djn (r6.ltF.le (ntr e16.next e59.next))))
 refine l_' (.agg #[i_ N_, hd_Arcs]) (aLoad Tryz.prog 51 (pt_ b2 0) H93) (u101.ld (by kernel_rfl)) ?_
 have u102 := (((u46.fr e59 Dj.nil_l).ext e89).fr e95 (hb90.djn (h_Arcs.lt.le (ntr (ntr e4.next e16.next) e59.next))))
 obtain ⟨y103, hy104, r105⟩ := bind_some r49
 refine s_ck 17 #[.agg #[i_ N_, hd_Arcs]] (by kernel_rfl) (c_csr_Back e95.wf u102 hy104) ?_
 rintro _ H114 ⟨s106, f107, s108, f109, s110, f111, v112, f113, rfl, e115, m116, m117, m118, m119, i120, i121, i122, i123, d124, d125, d126, d127, d128, d129⟩
 obtain ⟨a134, n135, c136, rfl⟩ := m116.form
 obtain ⟨a137, n138, c139, rfl⟩ := m117.form
 obtain ⟨a140, n141, c142, rfl⟩ := m118.form
 refine q_ (.tuple #[.agg #[.slice a134 n135 c136, .slice a137 n138 c139, .slice a140 n141 c142], v112]) (q_ (.agg #[.slice a134 n135 c136, .slice a137 n138 c139, .slice a140 n141 c142]) (q_ (v112) ?_))
 refine s_rwk e115.wf [.slice none 0 0, .slice none 0 0, .slice none 0 0] (by kernel_rfl) fun b143 H144 e145 hb146 r147 => ?_
 have u153 := (m118.ext e145)
 have u154 := (m117.ext e145)
 have u155 := (m116.ext e145)
 obtain ⟨H149, q150, e151, r152⟩ := Row.store (P := Tryz.prog) (t := 25) (p := 0) e145.wf r147 (.agg #[.slice a134 n135 c136, .slice a137 n138 c139, .slice a140 n141 c142]) [.slice a134 n135 c136, .slice a137 n138 c139, .slice a140 n141 c142] (by kernel_rfl) (by kernel_rfl) (one_cons (u155.one1) (one_cons (u154.one1) (one_cons (u153.one1) (one_nil)))) (Nat.le_of_ble_eq_true (by kernel_rfl)) [.slice a134 n135 c136, .slice a137 n138 c139, .slice a140 n141 c142] (by kernel_rfl)
 refine s_ek (undef) (by kernel_rfl) (map_ok q150) ?_
 refine q_ (v112) (s_nil (k100 _ _ (w_seqk fun _ k156 => g_' ?_)))
 have u157 := (((r96.frS e115 Dj.nil_l).ext e145).frS e151 (hb146.djn (r91.ltF.le (ntr e95.next e115.next))))
 refine l_' (.agg #[.slice a78 n79 c80, .slice a81 n82 c83, .slice a84 n85 c86]) (aLoad Tryz.prog 25 (pt_ b87 0) H149) (u157.ld (by kernel_rfl)) ?_
 refine q_ (i_ s) ?_
 have u158 := ((((u99.fr e95 (hb90.djn m60.lt)).fr e115 Dj.nil_l).ext e145).fr e151 (hb146.djn (m60.lt.le (ntr (ntr e89.next e95.next) e115.next))))
 have u159 := ((((u98.fr e95 (hb90.djn m61.lt)).fr e115 Dj.nil_l).ext e145).fr e151 (hb146.djn (m61.lt.le (ntr (ntr e89.next e95.next) e115.next))))
 have u160 := ((((u97.fr e95 (hb90.djn m62.lt)).fr e115 Dj.nil_l).ext e145).fr e151 (hb146.djn (m62.lt.le (ntr (ntr e89.next e95.next) e115.next))))
 obtain ⟨y161, hy162, r163⟩ := bind_some r105
 refine s_ck 8 #[.agg #[.slice a78 n79 c80, .slice a81 n82 c83, .slice a84 n85 c86], i_ s] (by kernel_rfl) (c_search_From e151.wf u158.sq u159.sq u160.sq hy162) ?_
 rintro _ H168 ⟨s164, f165, v166, f167, rfl, e169, m170, m171, i172, i173, d174⟩
 obtain ⟨a177, n178, c179, rfl⟩ := m170.form
 refine q_ (.tuple #[.slice a177 n178 c179, v166]) (q_ (.slice a177 n178 c179) (q_ (v166) (q_ (.slice a177 n178 c179) (q_ (v166) (s_nil (k156 _ _ (w_seqk fun _ k180 => g_' ?_)))))))
 have u181 := (r152.frS e169 Dj.nil_l)
 refine l_' (.agg #[.slice a134 n135 c136, .slice a137 n138 c139, .slice a140 n141 c142]) (aLoad Tryz.prog 25 (pt_ b143 0) H168) (u181.ld (by kernel_rfl)) ?_
 have u182 := ((u155.fr e151 (hb146.djn m116.lt)).fr e169 Dj.nil_l)
 have u183 := ((u154.fr e151 (hb146.djn m117.lt)).fr e169 Dj.nil_l)
 have u184 := ((u153.fr e151 (hb146.djn m118.lt)).fr e169 Dj.nil_l)
 obtain ⟨y185, hy186, r187⟩ := bind_some r163
 refine s_ck 15 #[.agg #[.slice a134 n135 c136, .slice a137 n138 c139, .slice a140 n141 c142]] (by kernel_rfl) (c_search_Matrix e169.wf u182.sq u183.sq u184.sq hy186) ?_
 rintro _ H192 ⟨s188, f189, v190, f191, rfl, e193, m194, m195, i196, i197, d198⟩
 obtain ⟨a201, n202, c203, rfl⟩ := m194.form
 refine q_ (.tuple #[.slice a201 n202 c203, v190]) (q_ (.slice a201 n202 c203) (q_ (v190) (q_ (.slice a201 n202 c203) (q_ (v190) (s_nil (k180 _ _ (w_seqk fun _ k204 => g_' ?_)))))))
 have u205 := ((u157.frS e169 Dj.nil_l).frS e193 Dj.nil_l)
 refine l_' (.agg #[.slice a78 n79 c80, .slice a81 n82 c83, .slice a84 n85 c86]) (aLoad Tryz.prog 25 (pt_ b87 0) H192) (u205.ld (by kernel_rfl)) ?_
 refine q_ (i_ s) ?_
 have u206 := ((u158.fr e169 Dj.nil_l).fr e193 Dj.nil_l)
 have u207 := ((u159.fr e169 Dj.nil_l).fr e193 Dj.nil_l)
 have u208 := ((u160.fr e169 Dj.nil_l).fr e193 Dj.nil_l)
 obtain ⟨y209, hy210, r211⟩ := bind_some r187
 refine s_ck 13 #[.agg #[.slice a78 n79 c80, .slice a81 n82 c83, .slice a84 n85 c86], i_ s, i_ 4611686018427387904, i_ 4611686018427387904, .int .u64 18446744073709551615] (by kernel_rfl) (c_search_Bounded e193.wf u206.sq u207.sq u208.sq hy210) ?_
 rintro _ H216 ⟨s212, f213, v214, f215, rfl, e217, m218, m219, i220, i221, d222⟩
 obtain ⟨a225, n226, c227, rfl⟩ := m218.form
 refine q_ (.tuple #[.slice a225 n226 c227, v214]) (q_ (.slice a225 n226 c227) (q_ (v214) (q_ (.slice a225 n226 c227) (q_ (v214) (s_nil (k204 _ _ (w_seqk fun _ k228 => w_seqk fun _ k229 => ?_)))))))
 obtain ⟨o230, hx231, r232⟩ := bind_some r211
 refine w_mid (fun α H233 => Has α [(1, i_ s), (2, i_ t), (3, pt_ b2 0), (7, pt_ b87 0), (11, .slice a177 n178 c179), (13, .slice a201 n202 c203), (15, .slice a225 n226 c227), (106, .bool o230)] ∧ H216 = H233) (fun _ k235 => ?_) (fun α H233 hM => ?_)
 ·refine g_' (q_ (v56) ?_)
  have u240 := ((((((((m63.ext e89).fr e95 (hb90.djn m63.lt)).fr e115 Dj.nil_l).ext e145).fr e151 (hb146.djn (m63.lt.le (ntr (ntr e89.next e95.next) e115.next)))).fr e169 Dj.nil_l).fr e193 Dj.nil_l).fr e217 Dj.nil_l)
  rcases (u240).cases with ⟨h237, rfl⟩ | ⟨h237, t238, x239, rfl⟩
  ·have r241 := ite_t h237 hx231
   refine q_ (.bool false) (q_ (.bool false) (q_ (v112) ?_))
   have u245 := (((((m119.ext e145).fr e151 (hb146.djn m119.lt)).fr e169 Dj.nil_l).fr e193 Dj.nil_l).fr e217 Dj.nil_l)
   rcases (u245).cases with ⟨h242, rfl⟩ | ⟨h242, t243, x244, rfl⟩
   ·have r246 := ite_t h242 r241
    refine q_ (.bool false) (q_ (.bool false) (q_ (.bool false) (q_ (v166) ?_)))
    have u250 := ((m171.fr e193 Dj.nil_l).fr e217 Dj.nil_l)
    rcases (u250).cases with ⟨h247, rfl⟩ | ⟨h247, t248, x249, rfl⟩
    ·have r251 := ite_t h247 r246
     refine q_ (.bool false) (q_ (.bool false) (q_ (.bool false) (q_ (v190) ?_)))
     have u255 := (m195.fr e217 Dj.nil_l)
     rcases (u255).cases with ⟨h252, rfl⟩ | ⟨h252, t253, x254, rfl⟩
     ·have r256 := ite_t h252 r251
      refine q_ (.bool false) (q_ (.bool false) (q_ (.bool false) (q_ (v214) ?_)))
      rcases (m219).cases with ⟨h257, rfl⟩ | ⟨h257, t258, x259, rfl⟩
      ·have r260 := ite_t h257 r256
       refine q_ (.bool false) (q_ (.bool false) (q_ (.bool false) (q_ (.slice a177 n178 c179) ?_)))
       have u261 := ((m170.fr e193 Dj.nil_l).fr e217 Dj.nil_l)
       refine l_' (i_ (y161.1.length : Int)) (aLen Tryz.prog 29 (.slice a177 n178 c179) H216) (u261.sq.lenb (by kernel_rfl)) ?_
       refine q_ (pt_ b2 0) ?_
       have u262 := ((((((u101.frS e115 Dj.nil_l).ext e145).frS e151 (hb146.djn (r6.ltF.le (ntr (ntr (ntr (ntr e16.next e59.next) e89.next) e95.next) e115.next)))).frS e169 Dj.nil_l).frS e193 Dj.nil_l).frS e217 Dj.nil_l)
       refine l_' (i_ N_) (aLoad Tryz.prog 3 (pt_ b2 0) H216) (u262.ld (by kernel_rfl)) ?_
       refine s_bn ((y161.1.length : Int) = N_) (by kernel_rfl) (fun h263 => ?_) (fun h263 => ?_)
       ·have r264 := ite_t h263 r260
        refine q_ (.bool false) (q_ (.bool false) (q_ (.slice a201 n202 c203) ?_))
        have u265 := (m194.fr e217 Dj.nil_l)
        refine l_' (i_ (y185.1.length : Int)) (aLen Tryz.prog 56 (.slice a201 n202 c203) H216) (u265.lenb (by kernel_rfl)) ?_
        refine q_ (pt_ b2 0) ?_
        refine l_' (i_ N_) (aLoad Tryz.prog 3 (pt_ b2 0) H216) (u262.ld (by kernel_rfl)) ?_
        refine q_ (.bool (!decide ((y185.1.length : Int) = N_))) (q_ (.bool (!decide ((y185.1.length : Int) = N_))) (s_nil ?_))
        obtain rfl := Option.some.inj r264
        exact k235 _ _ ⟨ha_, rfl⟩
       have r266 := ite_f h263 r260
       refine q_ (.bool true) (q_ (.bool true) (n_' (n_' (n_' (n_' (n_' (q_ (.bool true) (s_nil ?_))))))))
       obtain rfl := Option.some.inj r266
       exact k235 _ _ ⟨ha_, rfl⟩
      have r267 := ite_f h257 r256
      refine l_' (.bool true) (aBin Tryz.prog .neq 31 (.tmp 90) (.const .nilIface) (.iface t258 x259) .nilIface) (aBin_nnil (by kernel_rfl)) ?_
      refine q_ (.bool true) (q_ (.bool true) (n_' (n_' (n_' (n_' (n_' (q_ (.bool true) (q_ (.bool true) (n_' (n_' (n_' (n_' (n_' (q_ (.bool true) (s_nil ?_)))))))))))))))
      obtain rfl := Option.some.inj r267
      exact k235 _ _ ⟨ha_, rfl⟩
     have r268 := ite_f h252 r251
     refine l_' (.bool true) (aBin Tryz.prog .neq 31 (.tmp 86) (.const .nilIface) (.iface t253 x254) .nilIface) (aBin_nnil (by kernel_rfl)) ?_
     refine q_ (.bool true) (q_ (.bool true) (n_' (n_' (q_ (.bool true) (q_ (.bool true) (n_' (n_' (n_' (n_' (n_' (q_ (.bool true) (q_ (.bool true) (n_' (n_' (n_' (n_' (n_' (q_ (.bool true) (s_nil ?_)))))))))))))))))))
     obtain rfl := Option.some.inj r268
     exact k235 _ _ ⟨ha_, rfl⟩
    have r269 := ite_f h247 r246
    refine l_' (.bool true) (aBin Tryz.prog .neq 31 (.tmp 82) (.const .nilIface) (.iface t248 x249) .nilIface) (aBin_nnil (by kernel_rfl)) ?_
    refine q_ (.bool true) (q_ (.bool true) (n_' (n_' (q_ (.bool true) (q_ (.bool true) (n_' (n_' (q_ (.bool true) (q_ (.bool true) (n_' (n_' (n_' (n_' (n_' (q_ (.bool true) (q_ (.bool true) (n_' (n_' (n_' (n_' (n_' (q_ (.bool true) (s_nil ?_)))))))))))))))))))))))
    obtain rfl := Option.some.inj r269
    exact k235 _ _ ⟨ha_, rfl⟩
   have r270 := ite_f h242 r241
   refine l_' (.bool true) (aBin Tryz.prog .neq 31 (.tmp 78) (.const .nilIface) (.iface t243 x244) .nilIface) (aBin_nnil (by kernel_rfl)) ?_
   refine q_ (.bool true) (q_ (.bool true) (n_' (n_' (q_ (.bool true) (q_ (.bool true) (n_' (n_' (q_ (.bool true) (q_ (.bool true) (n_' (n_' (q_ (.bool true) (q_ (.bool true) (n_' (n_' (n_' (n_' (n_' (q_ (.bool true) (q_ (.bool true) (n_' (n_' (n_' (n_' (n_' (q_ (.bool true) (s_nil ?_)))))))))))))))))))))))))))
   obtain rfl := Option.some.inj r270
   exact k235 _ _ ⟨ha_, rfl⟩
  have r271 := ite_f h237 hx231
  refine l_' (.bool true) (aBin Tryz.prog .neq 31 (.tmp 75) (.const .nilIface) (.iface t238 x239) .nilIface) (aBin_nnil (by kernel_rfl)) ?_
  refine q_ (.bool true) (n_' (n_' (q_ (.bool true) (q_ (.bool true) (n_' (n_' (q_ (.bool true) (q_ (.bool true) (n_' (n_' (q_ (.bool true) (q_ (.bool true) (n_' (n_' (q_ (.bool true) (q_ (.bool true) (n_' (n_' (n_' (n_' (n_' (q_ (.bool true) (q_ (.bool true) (n_' (n_' (n_' (n_' (n_' (q_ (.bool true) (s_nil ?_))))))))))))))))))))))))))))))
  obtain rfl := Option.some.inj r271
  exact k235 _ _ ⟨ha_, rfl⟩
 obtain ⟨hh236, rfl⟩ := hM
 obtain ⟨β, rfl⟩ := has_ex hh236
 clear hh236
 refine k229 _ _ ?_
 refine w_cond (o230) (by kernel_rfl) rfl (fun h272 => ?_) (fun h272 => ?_)
 ·have r273 := ite_t h272 r232
  refine w_seqk fun _ k274 => g_' (q_ (.bool false) (s_nil (k274 _ _ ?_)))
  refine w_ret (th_ret ?_)
  refine b_ret (fn := Tryz.f4) (vs := [.bool false]) (aRes_tmp (by kernel_rfl) (rfl)) ?_
  obtain rfl := Option.some.inj r273
  exact ⟨rfl, (FrS.step wf (FrS.step wf (FrS.step wf (FrS.step wf ((FrS.step wf (FrS.step wf ((FrS.step wf (FrS.step wf ((FrS.refl (W := []) wf).extR e4) e16 Inn.nil) e59 Inn.nil).extR e89) e95 (hb90.fresh (ntr (ntr e4.next e16.next) e59.next))) e115 Inn.nil).extR e145) e151 (hb146.fresh (ntr (ntr (ntr (ntr (ntr e4.next e16.next) e59.next) e89.next) e95.next) e115.next))) e169 Inn.nil) e193 Inn.nil) e217 Inn.nil)⟩
 have r275 := ite_bf h272 r232
 refine w_skip (k228 _ _ (w_seqk fun _ k276 => g_' (q_ (i_ 0) (s_nil (k276 _ _ (w_seqk fun _ k277 => w_seqk fun _ k278 => g_' (q_ (.slice a177 n178 c179) ?_)))))))
 have u279 := ((m170.fr e193 Dj.nil_l).fr e217 Dj.nil_l)
 refine l_' (i_ (y161.1.length : Int)) (aLen Tryz.prog 29 (.slice a177 n178 c179) H216) (u279.sq.lenb (by kernel_rfl)) ?_
 refine q_ (i_ 0) (s_nil (k278 _ _ ?_))
 obtain ⟨z283, hx281, r282⟩ := bind_some r275
 refine w_mid (fun α H284 => ∃ o280, z283 = Sum.inr o280 ∧ Has α [(1, i_ s), (2, i_ t), (3, pt_ b2 0), (7, pt_ b87 0), (11, .slice a177 n178 c179), (15, .slice a225 n226 c227), (17, i_ o280)] ∧ H216 = H284) (fun _ k286 => ?_) (fun α H284 hM => ?_)
 ·refine w_block ?_
  obtain ⟨n288, hn289⟩ := loopO_iff.1 hx281
  refine w_loopn (fun n α H290 => ∃ (i0 : Int), ∃ (i1 : Int), iterO (fun zz_ => z_viaductlaw08_SearchTurned_l0 N_ s y161 y185 y209 zz_.1 zz_.2) n (i0, i1) = some z283 ∧ Has α [(1, i_ s), (2, i_ t), (3, pt_ b2 0), (7, pt_ b87 0), (11, .slice a177 n178 c179), (13, .slice a201 n202 c203), (15, .slice a225 n226 c227), (17, i_ i1), (108, i_ (y161.1.length : Int)), (109, i_ i0)] ∧ H216 = H290) n288 ⟨0, 0, hn289, ha_, rfl⟩ ?_
  rintro n288 α H290 ⟨i0, i1, hi293, hh292, rfl⟩ K298 k298
  obtain ⟨n294, z295, rfl, hz296, hn297⟩ := iter_succ hi293
  obtain ⟨β, rfl⟩ := has_ex hh292
  clear hh292
  replace hz296 : z_viaductlaw08_SearchTurned_l0 N_ s y161 y185 y209 i0 i1 = some z295 := hz296
  unfold z_viaductlaw08_SearchTurned_l0 at hz296
  refine w_seqk fun _ k299 => g_' (q_ (.bool (decide (i0 < (y161.1.length : Int)))) (s_nil (k299 _ _ (w_seqk fun _ k300 => ?_))))
  refine w_condp (i0 < (y161.1.length : Int)) (by kernel_rfl) rfl (fun h301 => ?_) (fun h301 => ?_)
  ·have r302 := ite_t h301 hz296
   refine w_skip (k300 _ _ (w_seqk fun _ k303 => w_block (w_seqk fun _ k304 => g_' (q_ (i_ i0) (q_ (i_ i0) (s_nil (k304 _ _ (w_seqk fun _ k305 => w_seqk fun _ k306 => ?_))))))))
   obtain ⟨o307, hx308, r309⟩ := bind_some r302
   refine w_mid (fun α H310 => Has α [(1, i_ s), (2, i_ t), (3, pt_ b2 0), (7, pt_ b87 0), (11, .slice a177 n178 c179), (13, .slice a201 n202 c203), (15, .slice a225 n226 c227), (17, i_ i1), (18, i_ i0), (108, i_ (y161.1.length : Int)), (109, i_ i0), (133, .bool o307)] ∧ H216 = H310) (fun _ k312 => ?_) (fun α H310 hM => ?_)
   ·refine w_draw [0, 1, 2, 3, 4, 5, 6, 7, 8, 9, 10, 11, 12, 13, 14, 15, 16, 17, 18, 19, 20, 21] (by kernel_rfl) ?_
    refine e_' (.slice a201 n202 c203) (e_' (i_ i0) ?_)
    obtain ⟨g314, r315⟩ := G_some hx308
    have u316 := (m194.fr e217 Dj.nil_l)
    refine m_' (elp (.slice a201 n202 c203) 1 i0.toNat 0) (aIndexAddr Tryz.prog 56 (.slice a201 n202 c203) (i_ i0)) (u316.idxb (by kernel_rfl) g314.1 g314.2) ?_
    obtain ⟨cs317, f318, hk319, hs320, hl321, hq322⟩ := u316.kid g314.1 g314.2
    obtain ⟨s323, rfl, ho325⟩ := cr_sl_open hk319
    have kd326 : KdS (encI .u64) 1 H216 s323 (gt y185.1 i0) f189 (.slice a201 n202 c203) 1 i0.toNat 0 := ⟨ho325.sq.up hs320 u316.lt, hq322 0 _ rfl (by decide)⟩
    obtain ⟨a327, n328, c329, rfl⟩ := kd326.sq.form
    refine m_' (.slice a327 n328 c329) (aLoad Tryz.prog 29 (elp (.slice a201 n202 c203) 1 i0.toNat 0) H216) (hl321 _ _ _ _ (by kernel_rfl)) ?_
    refine m_' (i_ ((gt y185.1 i0).length : Int)) (aLen Tryz.prog 29 (.slice a327 n328 c329) H216) (kd326.sq.lenb (by kernel_rfl)) ?_
    refine e_' (pt_ b2 0) ?_
    have u331 := ((((((u101.frS e115 Dj.nil_l).ext e145).frS e151 (hb146.djn (r6.ltF.le (ntr (ntr (ntr (ntr e16.next e59.next) e89.next) e95.next) e115.next)))).frS e169 Dj.nil_l).frS e193 Dj.nil_l).frS e217 Dj.nil_l)
    refine m_' (i_ N_) (aLoad Tryz.prog 3 (pt_ b2 0) H216) (u331.ld (by kernel_rfl)) ?_
    refine d_bn (((gt y185.1 i0).length : Int) = N_) (by kernel_rfl) (fun h332 => ?_) (fun h332 => ?_)
    ·have r333 := ite_t h332 r315
     refine e_' (.bool false) (e_' (.slice a201 n202 c203) (e_' (i_ i0) ?_))
     refine m_' (elp (.slice a201 n202 c203) 1 i0.toNat 0) (aIndexAddr Tryz.prog 56 (.slice a201 n202 c203) (i_ i0)) (u316.idxb (by kernel_rfl) g314.1 g314.2) ?_
     obtain ⟨cs334, f335, hk336, hs337, hl338, hq339⟩ := u316.kid g314.1 g314.2
     obtain ⟨s340, rfl, ho342⟩ := cr_sl_open hk336
     have kd343 : KdS (encI .u64) 1 H216 s340 (gt y185.1 i0) f189 (.slice a201 n202 c203) 1 i0.toNat 0 := ⟨ho342.sq.up hs337 u316.lt, hq339 0 _ rfl (by decide)⟩
     obtain ⟨a344, n345, c346, rfl⟩ := kd343.sq.form
     refine m_' (.slice a344 n345 c346) (aLoad Tryz.prog 29 (elp (.slice a201 n202 c203) 1 i0.toNat 0) H216) (hl338 _ _ _ _ (by kernel_rfl)) ?_
     refine e_' (i_ s) ?_
     obtain ⟨g348, r349⟩ := G_some r333
     refine m_' (elp (.slice a344 n345 c346) 1 s.toNat 0) (aIndexAddr Tryz.prog 29 (.slice a344 n345 c346) (i_ s)) (kd343.sq.idxb (by kernel_rfl) g348.1 g348.2) ?_
     refine m_' (.int .u64 (gt (gt y185.1 i0) s)) (aLoad Tryz.prog 37 (elp (.slice a344 n345 c346) 1 s.toNat 0) H216) (kd343.sq.ld g348.1 g348.2 (by kernel_rfl)) ?_
     refine e_' (.slice a177 n178 c179) (e_' (i_ i0) ?_)
     refine m_' (elp (.slice a177 n178 c179) 1 i0.toNat 0) (aIndexAddr Tryz.prog 29 (.slice a177 n178 c179) (i_ i0)) (u279.sq.idxb (by kernel_rfl) g314.1 h301) ?_
     refine m_' (.int .u64 (gt y161.1 i0)) (aLoad Tryz.prog 37 (elp (.slice a177 n178 c179) 1 i0.toNat 0) H216) (u279.sq.ld g314.1 h301 (by kernel_rfl)) ?_
     refine e_' (.bool (!decide ((gt (gt y185.1 i0) s) = (gt y161.1 i0)))) (e_' (.bool (!decide ((gt (gt y185.1 i0) s) = (gt y161.1 i0)))) ?_)
     refine d_nil ?_
     obtain rfl := Option.some.inj r349
     exact k312 _ _ ⟨ha_, rfl⟩
    have r350 := ite_f h332 r315
    refine e_' (.bool true) (j_' (j_' (j_' (j_' (j_' (j_' (j_' (j_' (j_' (j_' (j_' (j_' (e_' (.bool true) ?_)))))))))))))
    refine d_nil ?_
    obtain rfl := Option.some.inj r350
    exact k312 _ _ ⟨ha_, rfl⟩
   obtain ⟨hh313, rfl⟩ := hM
   obtain ⟨β, rfl⟩ := has_ex hh313
   clear hh313
   refine k306 _ _ ?_
   refine w_cond (o307) (by kernel_rfl) rfl (fun h351 => ?_) (fun h351 => ?_)
   ·have r352 := ite_t h351 r309
    refine w_seqk fun _ k353 => g_' (q_ (.bool false) (s_nil (k353 _ _ ?_)))
    refine w_ret (th_ret (bl_ret (th_ret (th_ret (bl_ret (th_ret (th_ret ?_)))))))
    obtain ⟨v354, hv355, hz356⟩ := map_some r352
    subst hz356
    obtain rfl := it_inr hn297
    have hq357 := elim_inl r282
    rw [hq357] at hv355
    refine b_ret (fn := Tryz.f4) (vs := [.bool false]) (aRes_tmp (by kernel_rfl) (rfl)) ?_
    obtain rfl := Option.some.inj hv355
    exact ⟨rfl, (FrS.step wf (FrS.step wf (FrS.step wf (FrS.step wf ((FrS.step wf (FrS.step wf ((FrS.step wf (FrS.step wf ((FrS.refl (W := []) wf).extR e4) e16 Inn.nil) e59 Inn.nil).extR e89) e95 (hb90.fresh (ntr (ntr e4.next e16.next) e59.next))) e115 Inn.nil).extR e145) e151 (hb146.fresh (ntr (ntr (ntr (ntr (ntr e4.next e16.next) e59.next) e89.next) e95.next) e115.next))) e169 Inn.nil) e193 Inn.nil) e217 Inn.nil)⟩
   have r358 := ite_bf h351 r309
   refine w_skip (k305 _ _ (w_seqk fun _ k359 => w_seqk fun _ k360 => g_' (q_ (.slice a177 n178 c179) (q_ (i_ i0) ?_))))
   obtain ⟨g361, r362⟩ := G_some r358
   refine l_' (elp (.slice a177 n178 c179) 1 i0.toNat 0) (aIndexAddr Tryz.prog 29 (.slice a177 n178 c179) (i_ i0)) (u279.sq.idxb (by kernel_rfl) g361 h301) ?_
   refine l_' (.int .u64 (gt y161.1 i0)) (aLoad Tryz.prog 37 (elp (.slice a177 n178 c179) 1 i0.toNat 0) H216) (u279.sq.ld g361 h301 (by kernel_rfl)) ?_
   refine q_ (.bool (decide ((gt y161.1 i0) = 18446744073709551615))) (s_nil (k360 _ _ ?_))
   refine w_condp ((gt y161.1 i0) = 18446744073709551615) (by kernel_rfl) rfl (fun h363 => ?_) (fun h363 => ?_)
   ·have r364 := ite_t h363 r362
    refine w_exit (th_exit (bl_eq ?_))
    refine k303 _ _ (g_' ?_)
    obtain ⟨g365, r366⟩ := G_some r364
    refine w_' (i0 + 1) (wrap64 (by have := g365; omega)) ?_
    refine q_ (i_ (i0 + 1)) (s_nil ?_)
    obtain rfl := Option.some.inj r366
    exact k298 n294 _ _ (Nat.lt_succ_self _) ⟨(i0 + 1), i1, hn297, ha_, rfl⟩
   have r367 := ite_f h363 r362
   refine w_skip (k359 _ _ (w_seqk fun _ k368 => w_seqk fun _ k369 => ?_))
   refine w_draw [0, 1, 2, 3, 4, 5, 6, 7, 8, 9, 10, 11, 12, 13, 14, 15, 16, 17, 18, 19, 20, 21, 22, 23, 24, 25, 26, 27, 28, 29, 30, 31, 32] (by kernel_rfl) ?_
   refine e_' (i_ i1) (e_' (.slice a225 n226 c227) ?_)
   refine m_' (i_ (y209.1.length : Int)) (aLen Tryz.prog 44 (.slice a225 n226 c227) H216) (m218.sq.lenb (by kernel_rfl)) ?_
   refine d_b (i1 ≥ (y209.1.length : Int)) (by kernel_rfl) (fun h370 => ?_) (fun h370 => ?_)
   ·have r371 := ite_t h370 r367
    refine e_' (.bool true) (j_' (j_' (j_' (j_' (j_' (j_' (j_' (e_' (.bool true) (e_' (.bool true) (j_' (j_' (j_' (j_' (j_' (j_' (j_' (j_' (j_' (j_' (e_' (.bool true) (e_' (.bool true) (j_' (j_' (j_' (j_' (j_' (j_' (e_' (.bool true) ?_))))))))))))))))))))))))))))
    refine d_nil ?_
    refine k369 _ _ ?_
    refine w_cond true (by kernel_rfl) rfl (fun _ => ?_) (fun h => by cases h)
    refine w_seqk fun _ k372 => g_' (q_ (.bool false) (s_nil (k372 _ _ ?_)))
    refine w_ret (th_ret (bl_ret (th_ret (th_ret (bl_ret (th_ret (th_ret ?_)))))))
    obtain ⟨v373, hv374, hz375⟩ := map_some r371
    subst hz375
    obtain rfl := it_inr hn297
    have hq376 := elim_inl r282
    rw [hq376] at hv374
    refine b_ret (fn := Tryz.f4) (vs := [.bool false]) (aRes_tmp (by kernel_rfl) (rfl)) ?_
    obtain rfl := Option.some.inj hv374
    exact ⟨rfl, (FrS.step wf (FrS.step wf (FrS.step wf (FrS.step wf ((FrS.step wf (FrS.step wf ((FrS.step wf (FrS.step wf ((FrS.refl (W := []) wf).extR e4) e16 Inn.nil) e59 Inn.nil).extR e89) e95 (hb90.fresh (ntr (ntr e4.next e16.next) e59.next))) e115 Inn.nil).extR e145) e151 (hb146.fresh (ntr (ntr (ntr (ntr (ntr e4.next e16.next) e59.next) e89.next) e95.next) e115.next))) e169 Inn.nil) e193 Inn.nil) e217 Inn.nil)⟩
   have r377 := ite_f h370 r367
   refine e_' (.bool false) (e_' (.slice a225 n226 c227) (e_' (i_ i1) ?_))
   obtain ⟨g378, r379⟩ := G_some r377
   refine m_' (elp (.slice a225 n226 c227) 4 i1.toNat 0) (aIndexAddr Tryz.prog 44 (.slice a225 n226 c227) (i_ i1)) (m218.sq.idxb (by kernel_rfl) g378.1 g378.2) ?_
   refine m_' (elp (.slice a225 n226 c227) 4 i1.toNat 0) (aFieldAddr Tryz.prog 48 (elp (.slice a225 n226 c227) 4 i1.toNat 0) 0) (Sq.fldq (d := 0) m218.sq g378.1 g378.2 (by kernel_rfl)) ?_
   refine m_' (i_ ((gt y209.1 i1).1)) (aLoad Tryz.prog 3 (elp (.slice a225 n226 c227) 4 i1.toNat 0) H216) (m218.sq.ld g378.1 g378.2 (by kernel_rfl)) ?_
   refine e_' (i_ i0) ?_
   refine d_bn (((gt y209.1 i1).1) = i0) (by kernel_rfl) (fun h380 => ?_) (fun h380 => ?_)
   ·have r381 := ite_t h380 r379
    refine e_' (.bool false) (e_' (.bool false) (e_' (.slice a225 n226 c227) (e_' (i_ i1) ?_)))
    refine m_' (elp (.slice a225 n226 c227) 4 i1.toNat 0) (aIndexAddr Tryz.prog 44 (.slice a225 n226 c227) (i_ i1)) (m218.sq.idxb (by kernel_rfl) g378.1 g378.2) ?_
    refine m_' (elp (.slice a225 n226 c227) 4 i1.toNat 1) (aFieldAddr Tryz.prog 48 (elp (.slice a225 n226 c227) 4 i1.toNat 0) 1) (Sq.fldq (d := 1) m218.sq g378.1 g378.2 (by kernel_rfl)) ?_
    refine m_' (.int .u64 ((gt y209.1 i1).2.1)) (aLoad Tryz.prog 37 (elp (.slice a225 n226 c227) 4 i1.toNat 1) H216) (m218.sq.ld g378.1 g378.2 (by kernel_rfl)) ?_
    refine e_' (.slice a177 n178 c179) (e_' (i_ i0) ?_)
    refine m_' (elp (.slice a177 n178 c179) 1 i0.toNat 0) (aIndexAddr Tryz.prog 29 (.slice a177 n178 c179) (i_ i0)) (u279.sq.idxb (by kernel_rfl) g361 h301) ?_
    refine m_' (.int .u64 (gt y161.1 i0)) (aLoad Tryz.prog 37 (elp (.slice a177 n178 c179) 1 i0.toNat 0) H216) (u279.sq.ld g361 h301 (by kernel_rfl)) ?_
    refine d_bn (((gt y209.1 i1).2.1) = (gt y161.1 i0)) (by kernel_rfl) (fun h382 => ?_) (fun h382 => ?_)
    ·have r383 := ite_t h382 r381
     refine e_' (.bool false) (e_' (.bool false) (e_' (.slice a225 n226 c227) (e_' (i_ i1) ?_)))
     refine m_' (elp (.slice a225 n226 c227) 4 i1.toNat 0) (aIndexAddr Tryz.prog 44 (.slice a225 n226 c227) (i_ i1)) (m218.sq.idxb (by kernel_rfl) g378.1 g378.2) ?_
     refine m_' (elp (.slice a225 n226 c227) 4 i1.toNat 3) (aFieldAddr Tryz.prog 48 (elp (.slice a225 n226 c227) 4 i1.toNat 0) 3) (Sq.fldq (d := 3) m218.sq g378.1 g378.2 (by kernel_rfl)) ?_
     refine m_' (.bool ((gt y209.1 i1).2.2.2)) (aLoad Tryz.prog 4 (elp (.slice a225 n226 c227) 4 i1.toNat 3) H216) (m218.sq.ld g378.1 g378.2 (by kernel_rfl)) ?_
     refine e_' (.bool (!(gt y209.1 i1).2.2.2)) (e_' (.bool (!(gt y209.1 i1).2.2.2)) ?_)
     refine d_nil ?_
     refine k369 _ _ ?_
     refine w_cond ((!(gt y209.1 i1).2.2.2)) (by kernel_rfl) rfl (fun h384 => ?_) (fun h384 => ?_)
     ·have r385 := ite_t h384 r383
      refine w_seqk fun _ k386 => g_' (q_ (.bool false) (s_nil (k386 _ _ ?_)))
      refine w_ret (th_ret (bl_ret (th_ret (th_ret (bl_ret (th_ret (th_ret ?_)))))))
      obtain ⟨v387, hv388, hz389⟩ := map_some r385
      subst hz389
      obtain rfl := it_inr hn297
      have hq390 := elim_inl r282
      rw [hq390] at hv388
      refine b_ret (fn := Tryz.f4) (vs := [.bool false]) (aRes_tmp (by kernel_rfl) (rfl)) ?_
      obtain rfl := Option.some.inj hv388
      exact ⟨rfl, (FrS.step wf (FrS.step wf (FrS.step wf (FrS.step wf ((FrS.step wf (FrS.step wf ((FrS.step wf (FrS.step wf ((FrS.refl (W := []) wf).extR e4) e16 Inn.nil) e59 Inn.nil).extR e89) e95 (hb90.fresh (ntr (ntr e4.next e16.next) e59.next))) e115 Inn.nil).extR e145) e151 (hb146.fresh (ntr (ntr (ntr (ntr (ntr e4.next e16.next) e59.next) e89.next) e95.next) e115.next))) e169 Inn.nil) e193 Inn.nil) e217 Inn.nil)⟩
     have r391 := ite_bf h384 r383
     refine w_skip (k368 _ _ (g_' (q_ (i_ i1) ?_)))
     obtain ⟨g392, r393⟩ := G_some r391
     refine w_' (i1 + 1) (wrap64 (by have := g392; omega)) ?_
     refine q_ (i_ (i1 + 1)) (s_nil (k303 _ _ (g_' ?_)))
     obtain ⟨g394, r395⟩ := G_some r393
     refine w_' (i0 + 1) (wrap64 (by have := g394; omega)) ?_
     refine q_ (i_ (i0 + 1)) (s_nil ?_)
     obtain rfl := Option.some.inj r395
     exact k298 n294 _ _ (Nat.lt_succ_self _) ⟨(i0 + 1), (i1 + 1), hn297, ha_, rfl⟩
    have r396 := ite_f h382 r381
    refine e_' (.bool true) (e_' (.bool true) (j_' (j_' (j_' (j_' (j_' (j_' (e_' (.bool true) ?_))))))))
    refine d_nil ?_
    refine k369 _ _ ?_
    refine w_cond true (by kernel_rfl) rfl (fun _ => ?_) (fun h => by cases h)
    refine w_seqk fun _ k397 => g_' (q_ (.bool false) (s_nil (k397 _ _ ?_)))
    refine w_ret (th_ret (bl_ret (th_ret (th_ret (bl_ret (th_ret (th_ret ?_)))))))
    obtain ⟨v398, hv399, hz400⟩ := map_some r396
    subst hz400
    obtain rfl := it_inr hn297
    have hq401 := elim_inl r282
    rw [hq401] at hv399
    refine b_ret (fn := Tryz.f4) (vs := [.bool false]) (aRes_tmp (by kernel_rfl) (rfl)) ?_
    obtain rfl := Option.some.inj hv399
    exact ⟨rfl, (FrS.step wf (FrS.step wf (FrS.step wf (FrS.step wf ((FrS.step wf (FrS.step wf ((FrS.step wf (FrS.step wf ((FrS.refl (W := []) wf).extR e4) e16 Inn.nil) e59 Inn.nil).extR e89) e95 (hb90.fresh (ntr (ntr e4.next e16.next) e59.next))) e115 Inn.nil).extR e145) e151 (hb146.fresh (ntr (ntr (ntr (ntr (ntr e4.next e16.next) e59.next) e89.next) e95.next) e115.next))) e169 Inn.nil) e193 Inn.nil) e217 Inn.nil)⟩
   have r402 := ite_f h380 r379
   refine e_' (.bool true) (e_' (.bool true) (j_' (j_' (j_' (j_' (j_' (j_' (j_' (j_' (j_' (j_' (e_' (.bool true) (e_' (.bool true) (j_' (j_' (j_' (j_' (j_' (j_' (e_' (.bool true) ?_))))))))))))))))))))
   refine d_nil ?_
   refine k369 _ _ ?_
   refine w_cond true (by kernel_rfl) rfl (fun _ => ?_) (fun h => by cases h)
   refine w_seqk fun _ k403 => g_' (q_ (.bool false) (s_nil (k403 _ _ ?_)))
   refine w_ret (th_ret (bl_ret (th_ret (th_ret (bl_ret (th_ret (th_ret ?_)))))))
   obtain ⟨v404, hv405, hz406⟩ := map_some r402
   subst hz406
   obtain rfl := it_inr hn297
   have hq407 := elim_inl r282
   rw [hq407] at hv405
   refine b_ret (fn := Tryz.f4) (vs := [.bool false]) (aRes_tmp (by kernel_rfl) (rfl)) ?_
   obtain rfl := Option.some.inj hv405
   exact ⟨rfl, (FrS.step wf (FrS.step wf (FrS.step wf (FrS.step wf ((FrS.step wf (FrS.step wf ((FrS.step wf (FrS.step wf ((FrS.refl (W := []) wf).extR e4) e16 Inn.nil) e59 Inn.nil).extR e89) e95 (hb90.fresh (ntr (ntr e4.next e16.next) e59.next))) e115 Inn.nil).extR e145) e151 (hb146.fresh (ntr (ntr (ntr (ntr (ntr e4.next e16.next) e59.next) e89.next) e95.next) e115.next))) e169 Inn.nil) e193 Inn.nil) e217 Inn.nil)⟩
  have r408 := ite_f h301 hz296
  refine w_exit (th_exit (th_exit (bl_eq ?_)))
  obtain rfl := Option.some.inj r408
  obtain rfl := it_inr hn297
  exact k286 _ _ ⟨_, rfl, ha_, rfl⟩
 obtain ⟨o280, rfl, hh287, rfl⟩ := hM
 have r409 := elim_inr r282
 obtain ⟨β, rfl⟩ := has_ex hh287
 clear hh287
 refine k277 _ _ (w_seqk fun _ k410 => w_seqk fun _ k411 => g_' (q_ (i_ o280) (q_ (.slice a225 n226 c227) ?_)))
 refine l_' (i_ (y209.1.length : Int)) (aLen Tryz.prog 44 (.slice a225 n226 c227) H216) (m218.sq.lenb (by kernel_rfl)) ?_
 refine q_ (.bool (!decide (o280 = (y209.1.length : Int)))) (s_nil (k411 _ _ ?_))
 refine w_condn (o280 = (y209.1.length : Int)) (by kernel_rfl) rfl (fun h412 => ?_) (fun h412 => ?_)
 ·have r413 := ite_f h412 r409
  refine w_seqk fun _ k414 => g_' (q_ (.bool false) (s_nil (k414 _ _ ?_)))
  refine w_ret (th_ret ?_)
  refine b_ret (fn := Tryz.f4) (vs := [.bool false]) (aRes_tmp (by kernel_rfl) (rfl)) ?_
  obtain rfl := Option.some.inj r413
  exact ⟨rfl, (FrS.step wf (FrS.step wf (FrS.step wf (FrS.step wf ((FrS.step wf (FrS.step wf ((FrS.step wf (FrS.step wf ((FrS.refl (W := []) wf).extR e4) e16 Inn.nil) e59 Inn.nil).extR e89) e95 (hb90.fresh (ntr (ntr e4.next e16.next) e59.next))) e115 Inn.nil).extR e145) e151 (hb146.fresh (ntr (ntr (ntr (ntr (ntr e4.next e16.next) e59.next) e89.next) e95.next) e115.next))) e169 Inn.nil) e193 Inn.nil) e217 Inn.nil)⟩
 have r415 := ite_t h412 r409
 refine w_skip (k410 _ _ (w_seqk fun _ k416 => g_' ?_))
 have u417 := (u205.frS e217 Dj.nil_l)
 refine l_' (.agg #[.slice a78 n79 c80, .slice a81 n82 c83, .slice a84 n85 c86]) (aLoad Tryz.prog 25 (pt_ b87 0) H216) (u417.ld (by kernel_rfl)) ?_
 refine q_ (i_ s) (q_ (i_ t) ?_)
 have u418 := (u206.fr e217 Dj.nil_l)
 have u419 := (u207.fr e217 Dj.nil_l)
 have u420 := (u208.fr e217 Dj.nil_l)
 obtain ⟨y421, hy422, r423⟩ := bind_some r415
 refine s_ck 9 #[.agg #[.slice a78 n79 c80, .slice a81 n82 c83, .slice a84 n85 c86], i_ s, i_ t] (by kernel_rfl) (c_search_Path e217.wf u418.sq u419.sq u420.sq hy422) ?_
 rintro _ H428 ⟨s424, f425, v426, f427, rfl, e429, m430, m431, i432, i433, d434⟩
 obtain ⟨a437, n438, c439, rfl⟩ := m430.form
 refine q_ (.tuple #[.slice a437 n438 c439, v426]) (q_ (.slice a437 n438 c439) (q_ (v426) (q_ (.slice a437 n438 c439) (q_ (v426) (s_nil (k416 _ _ (w_seqk fun _ k440 => w_seqk fun _ k441 => g_' (q_ (.slice a177 n178 c179) (q_ (i_ t) ?_)))))))))
 obtain ⟨g442, r443⟩ := G_some r423
 have u444 := (u279.fr e429 Dj.nil_l)
 refine l_' (elp (.slice a177 n178 c179) 1 t.toNat 0) (aIndexAddr Tryz.prog 29 (.slice a177 n178 c179) (i_ t)) (u444.sq.idxb (by kernel_rfl) g442.1 g442.2) ?_
 refine l_' (.int .u64 (gt y161.1 t)) (aLoad Tryz.prog 37 (elp (.slice a177 n178 c179) 1 t.toNat 0) H428) (u444.sq.ld g442.1 g442.2 (by kernel_rfl)) ?_
 refine q_ (.bool (decide ((gt y161.1 t) = 18446744073709551615))) (s_nil (k441 _ _ ?_))
 refine w_condp ((gt y161.1 t) = 18446744073709551615) (by kernel_rfl) rfl (fun h445 => ?_) (fun h445 => ?_)
 ·have r446 := ite_t h445 r443
  refine w_seqk fun _ k447 => ?_
  obtain ⟨o448, hx449, r450⟩ := bind_some r446
  refine w_mid (fun α H451 => Has α [(6, .bool o448)] ∧ FrS [] H428 H451) (fun _ k453 => ?_) (fun α H451 hM => ?_)
  ·refine g_' (q_ (v426) ?_)
   obtain ⟨y455, hy456, r457⟩ := bind_some hx449
   refine s_ck 12 #[i_ 16] (by kernel_rfl) (c_viaductref01_E e429.wf hy456) ?_
   rintro _ H458 ⟨rfl, e459⟩
   have u460 := (m431.fr e459 Dj.nil_l)
   obtain ⟨y461, hy462, r463⟩ := bind_some r457
   refine s_ck 11 #[v426, .agg #[i_ y455, .slice none 0 0]] (by kernel_rfl) (c_viaductseen_Same e459.wf u460 (Sq.nil (enc := enc_i64_i64) (sz := 2) (by decide)) hy462) ?_
   rintro _ H464 ⟨rfl, e465⟩
   by_cases h466 : y461 = true
   ·have r467 := ite_t h466 r463
    rw [h466]
    refine q_ (.bool true) (q_ (.slice a437 n438 c439) ?_)
    have u469 := ((m430.fr e459 Dj.nil_l).fr e465 Dj.nil_l)
    refine l_' (i_ (y421.1.length : Int)) (aLen Tryz.prog 23 (.slice a437 n438 c439) H464) (u469.sq.lenb (by kernel_rfl)) ?_
    refine q_ (.bool (decide ((y421.1.length : Int) = 0))) (q_ (.bool (decide ((y421.1.length : Int) = 0))) (q_ (.bool (decide ((y421.1.length : Int) = 0))) (s_nil ?_)))
    obtain rfl := Option.some.inj r467
    exact k453 _ _ ⟨ha_, (FrS.step e429.wf (FrS.step e429.wf (FrS.refl (W := []) e429.wf) e459 Inn.nil) e465 Inn.nil)⟩
   have r470 := ite_f h466 r463
   rw [nb h466]
   refine q_ (.bool false) (n_' (n_' (n_' (q_ (.bool false) (q_ (.bool false) (s_nil ?_))))))
   obtain rfl := Option.some.inj r470
   exact k453 _ _ ⟨ha_, (FrS.step e429.wf (FrS.step e429.wf (FrS.refl (W := []) e429.wf) e459 Inn.nil) e465 Inn.nil)⟩
  obtain ⟨hh454, e452⟩ := hM
  obtain ⟨β, rfl⟩ := has_ex hh454
  clear hh454
  refine k447 _ _ ?_
  refine w_ret (th_ret ?_)
  refine b_ret (fn := Tryz.f4) (vs := [.bool o448]) (aRes_tmp (by kernel_rfl) (rfl)) ?_
  obtain rfl := Option.some.inj r450
  exact ⟨rfl, (FrS.step wf (FrS.step wf (FrS.step wf (FrS.step wf (FrS.step wf (FrS.step wf ((FrS.step wf (FrS.step wf ((FrS.step wf (FrS.step wf ((FrS.refl (W := []) wf).extR e4) e16 Inn.nil) e59 Inn.nil).extR e89) e95 (hb90.fresh (ntr (ntr e4.next e16.next) e59.next))) e115 Inn.nil).extR e145) e151 (hb146.fresh (ntr (ntr (ntr (ntr (ntr e4.next e16.next) e59.next) e89.next) e95.next) e115.next))) e169 Inn.nil) e193 Inn.nil) e217 Inn.nil) e429 Inn.nil) e452 Inn.nil)⟩
 have r472 := ite_f h445 r443
 refine w_skip (k440 _ _ (w_seqk fun _ k473 => w_seqk fun _ k474 => ?_))
 obtain ⟨o475, hx476, r477⟩ := bind_some r472
 refine w_mid (fun α H478 => Has α [(1, i_ s), (3, pt_ b2 0), (7, pt_ b87 0), (11, .slice a177 n178 c179), (19, .slice a437 n438 c439), (212, .bool o475)] ∧ H428 = H478) (fun _ k480 => ?_) (fun α H478 hM => ?_)
 ·refine g_' (q_ (v426) ?_)
  rcases (m431).cases with ⟨h482, rfl⟩ | ⟨h482, t483, x484, rfl⟩
  ·have r485 := ite_t h482 hx476
   refine q_ (.bool false) (q_ (.bool false) (q_ (.slice a437 n438 c439) ?_))
   refine l_' (i_ (y421.1.length : Int)) (aLen Tryz.prog 23 (.slice a437 n438 c439) H428) (m430.sq.lenb (by kernel_rfl)) ?_
   refine s_b ((y421.1.length : Int) = 0) (by kernel_rfl) (fun h486 => ?_) (fun h486 => ?_)
   ·have r487 := ite_t h486 r485
    refine q_ (.bool true) (q_ (.bool true) (n_' (n_' (n_' (n_' (n_' (q_ (.bool true) (s_nil ?_))))))))
    obtain rfl := Option.some.inj r487
    exact k480 _ _ ⟨ha_, rfl⟩
   have r488 := ite_f h486 r485
   refine q_ (.bool false) (q_ (.bool false) (q_ (.slice a437 n438 c439) ?_))
   refine l_' (i_ (y421.1.length : Int)) (aLen Tryz.prog 23 (.slice a437 n438 c439) H428) (m430.sq.lenb (by kernel_rfl)) ?_
   refine q_ (pt_ b2 0) ?_
   have u489 := (((((((u101.frS e115 Dj.nil_l).ext e145).frS e151 (hb146.djn (r6.ltF.le (ntr (ntr (ntr (ntr e16.next e59.next) e89.next) e95.next) e115.next)))).frS e169 Dj.nil_l).frS e193 Dj.nil_l).frS e217 Dj.nil_l).frS e429 Dj.nil_l)
   refine l_' (i_ N_) (aLoad Tryz.prog 3 (pt_ b2 0) H428) (u489.ld (by kernel_rfl)) ?_
   refine q_ (.bool (decide ((y421.1.length : Int) > N_))) (q_ (.bool (decide ((y421.1.length : Int) > N_))) (s_nil ?_))
   obtain rfl := Option.some.inj r488
   exact k480 _ _ ⟨ha_, rfl⟩
  have r490 := ite_f h482 hx476
  refine l_' (.bool true) (aBin Tryz.prog .neq 31 (.tmp 199) (.const .nilIface) (.iface t483 x484) .nilIface) (aBin_nnil (by kernel_rfl)) ?_
  refine q_ (.bool true) (n_' (n_' (n_' (q_ (.bool true) (q_ (.bool true) (n_' (n_' (n_' (n_' (n_' (q_ (.bool true) (s_nil ?_))))))))))))
  obtain rfl := Option.some.inj r490
  exact k480 _ _ ⟨ha_, rfl⟩
 obtain ⟨hh481, rfl⟩ := hM
 obtain ⟨β, rfl⟩ := has_ex hh481
 clear hh481
 refine k474 _ _ ?_
 refine w_cond (o475) (by kernel_rfl) rfl (fun h491 => ?_) (fun h491 => ?_)
 ·have r492 := ite_t h491 r477
  refine w_seqk fun _ k493 => g_' (q_ (.bool false) (s_nil (k493 _ _ ?_)))
  refine w_ret (th_ret ?_)
  refine b_ret (fn := Tryz.f4) (vs := [.bool false]) (aRes_tmp (by kernel_rfl) (rfl)) ?_
  obtain rfl := Option.some.inj r492
  exact ⟨rfl, (FrS.step wf (FrS.step wf (FrS.step wf (FrS.step wf (FrS.step wf ((FrS.step wf (FrS.step wf ((FrS.step wf (FrS.step wf ((FrS.refl (W := []) wf).extR e4) e16 Inn.nil) e59 Inn.nil).extR e89) e95 (hb90.fresh (ntr (ntr e4.next e16.next) e59.next))) e115 Inn.nil).extR e145) e151 (hb146.fresh (ntr (ntr (ntr (ntr (ntr e4.next e16.next) e59.next) e89.next) e95.next) e115.next))) e169 Inn.nil) e193 Inn.nil) e217 Inn.nil) e429 Inn.nil)⟩
 have r494 := ite_bf h491 r477
 refine w_skip (k473 _ _ (w_seqk fun _ k495 => w_seqk fun _ k496 => g_' (q_ (.slice a437 n438 c439) ?_)))
 refine l_' (i_ (y421.1.length : Int)) (aLen Tryz.prog 23 (.slice a437 n438 c439) H428) (m430.sq.lenb (by kernel_rfl)) ?_
 refine q_ (i_ 0) (s_nil (k496 _ _ ?_))
 obtain ⟨z500, hx498, r499⟩ := bind_some r494
 refine w_mid (fun α H501 => ∃ o497, z500 = Sum.inr o497 ∧ Has α [] ∧ FrS [] H428 H501) (fun _ k503 => ?_) (fun α H501 hM => ?_)
 ·refine w_block ?_
  obtain ⟨n505, hn506⟩ := loopO_iff.1 hx498
  refine w_loopn (fun n α H507 => ∃ (i2 : Int), iterO (fun zz_ => z_viaductlaw08_SearchTurned_l1 N_ s y47 y161 y421 zz_) n i2 = some z500 ∧ Has α [(1, i_ s), (3, pt_ b2 0), (7, pt_ b87 0), (11, .slice a177 n178 c179), (19, .slice a437 n438 c439), (213, .slice a437 n438 c439), (214, i_ (y421.1.length : Int)), (215, i_ i2)] ∧ FrS [] H428 H507) n505 ⟨0, hn506, ha_, (FrS.refl (W := []) e429.wf)⟩ ?_
  rintro n505 α H507 ⟨i2, hi510, hh509, e508⟩ K515 k515
  obtain ⟨n511, z512, rfl, hz513, hn514⟩ := iter_succ hi510
  obtain ⟨β, rfl⟩ := has_ex hh509
  clear hh509
  replace hz513 : z_viaductlaw08_SearchTurned_l1 N_ s y47 y161 y421 i2 = some z512 := hz513
  unfold z_viaductlaw08_SearchTurned_l1 at hz513
  refine w_seqk fun _ k516 => g_' (q_ (.bool (decide (i2 < (y421.1.length : Int)))) (s_nil (k516 _ _ (w_seqk fun _ k517 => ?_))))
  refine w_condp (i2 < (y421.1.length : Int)) (by kernel_rfl) rfl (fun h518 => ?_) (fun h518 => ?_)
  ·have r519 := ite_t h518 hz513
   refine w_skip (k517 _ _ (w_seqk fun _ k520 => w_block (w_seqk fun _ k521 => g_' (q_ (i_ i2) ?_))))
   obtain ⟨g522, r523⟩ := G_some r519
   have u524 := (m430.fr e508 Dj.nil_l)
   refine l_' (elp (.slice a437 n438 c439) 1 i2.toNat 0) (aIndexAddr Tryz.prog 23 (.slice a437 n438 c439) (i_ i2)) (u524.sq.idxb (by kernel_rfl) g522 h518) ?_
   refine l_' (i_ (gt y421.1 i2)) (aLoad Tryz.prog 3 (elp (.slice a437 n438 c439) 1 i2.toNat 0) H507) (u524.sq.ld g522 h518 (by kernel_rfl)) ?_
   refine q_ (i_ i2) (q_ (i_ (gt y421.1 i2)) (s_nil (k521 _ _ (w_seqk fun _ k525 => ?_))))
   refine w_draw [0, 1, 2, 3, 4, 5, 6, 7, 8, 9, 10, 11, 12, 13, 14, 15, 16, 17, 18, 19, 20, 21, 22, 23, 24, 25, 26, 27, 28] (by kernel_rfl) ?_
   refine e_' (i_ (gt y421.1 i2)) ?_
   refine d_b ((gt y421.1 i2) < 0) (by kernel_rfl) (fun h526 => ?_) (fun h526 => ?_)
   ·have r527 := ite_t h526 r523
    refine e_' (.bool true) (j_' (j_' (j_' (j_' (e_' (.bool true) (e_' (.bool true) (j_' (j_' (j_' (j_' (j_' (j_' (j_' (j_' (j_' (j_' (j_' (j_' (j_' (j_' (j_' (j_' (j_' (j_' (j_' (e_' (.bool true) ?_))))))))))))))))))))))))))
    refine d_nil ?_
    refine k525 _ _ ?_
    refine w_cond true (by kernel_rfl) rfl (fun _ => ?_) (fun h => by cases h)
    refine w_seqk fun _ k528 => g_' (q_ (.bool false) (s_nil (k528 _ _ ?_)))
    refine w_ret (bl_ret (th_ret (th_ret (bl_ret (th_ret (th_ret ?_))))))
    obtain ⟨v529, hv530, hz531⟩ := map_some r527
    subst hz531
    obtain rfl := it_inr hn514
    have hq532 := elim_inl r499
    rw [hq532] at hv530
    refine b_ret (fn := Tryz.f4) (vs := [.bool false]) (aRes_tmp (by kernel_rfl) (rfl)) ?_
    obtain rfl := Option.some.inj hv530
    exact ⟨rfl, (FrS.step wf (FrS.step wf (FrS.step wf (FrS.step wf (FrS.step wf (FrS.step wf ((FrS.step wf (FrS.step wf ((FrS.step wf (FrS.step wf ((FrS.refl (W := []) wf).extR e4) e16 Inn.nil) e59 Inn.nil).extR e89) e95 (hb90.fresh (ntr (ntr e4.next e16.next) e59.next))) e115 Inn.nil).extR e145) e151 (hb146.fresh (ntr (ntr (ntr (ntr (ntr e4.next e16.next) e59.next) e89.next) e95.next) e115.next))) e169 Inn.nil) e193 Inn.nil) e217 Inn.nil) e429 Inn.nil) e508 Inn.nil)⟩
   have r533 := ite_f h526 r523
   refine e_' (.bool false) (e_' (i_ (gt y421.1 i2)) (e_' (pt_ b2 0) ?_))
   have u534 := ((((((((u101.frS e115 Dj.nil_l).ext e145).frS e151 (hb146.djn (r6.ltF.le (ntr (ntr (ntr (ntr e16.next e59.next) e89.next) e95.next) e115.next)))).frS e169 Dj.nil_l).frS e193 Dj.nil_l).frS e217 Dj.nil_l).frS e429 Dj.nil_l).frS e508 Dj.nil_l)
   refine m_' (i_ N_) (aLoad Tryz.prog 3 (pt_ b2 0) H507) (u534.ld (by kernel_rfl)) ?_
   refine d_b ((gt y421.1 i2) ≥ N_) (by kernel_rfl) (fun h535 => ?_) (fun h535 => ?_)
   ·have r536 := ite_t h535 r533
    refine e_' (.bool true) (e_' (.bool true) (j_' (j_' (j_' (j_' (j_' (j_' (j_' (j_' (j_' (j_' (j_' (j_' (j_' (j_' (j_' (j_' (j_' (j_' (j_' (e_' (.bool true) ?_)))))))))))))))))))))
    refine d_nil ?_
    refine k525 _ _ ?_
    refine w_cond true (by kernel_rfl) rfl (fun _ => ?_) (fun h => by cases h)
    refine w_seqk fun _ k537 => g_' (q_ (.bool false) (s_nil (k537 _ _ ?_)))
    refine w_ret (bl_ret (th_ret (th_ret (bl_ret (th_ret (th_ret ?_))))))
    obtain ⟨v538, hv539, hz540⟩ := map_some r536
    subst hz540
    obtain rfl := it_inr hn514
    have hq541 := elim_inl r499
    rw [hq541] at hv539
    refine b_ret (fn := Tryz.f4) (vs := [.bool false]) (aRes_tmp (by kernel_rfl) (rfl)) ?_
    obtain rfl := Option.some.inj hv539
    exact ⟨rfl, (FrS.step wf (FrS.step wf (FrS.step wf (FrS.step wf (FrS.step wf (FrS.step wf ((FrS.step wf (FrS.step wf ((FrS.step wf (FrS.step wf ((FrS.refl (W := []) wf).extR e4) e16 Inn.nil) e59 Inn.nil).extR e89) e95 (hb90.fresh (ntr (ntr e4.next e16.next) e59.next))) e115 Inn.nil).extR e145) e151 (hb146.fresh (ntr (ntr (ntr (ntr (ntr e4.next e16.next) e59.next) e89.next) e95.next) e115.next))) e169 Inn.nil) e193 Inn.nil) e217 Inn.nil) e429 Inn.nil) e508 Inn.nil)⟩
   have r542 := ite_f h535 r533
   refine e_' (.bool false) (e_' (.bool false) (e_' (pt_ b87 0) ?_))
   have u543 := ((u417.frS e429 Dj.nil_l).frS e508 Dj.nil_l)
   refine m_' (.slice a78 n79 c80) (aLoad Tryz.prog 23 (pt_ b87 0) H507) (u543.ld (by kernel_rfl)) ?_
   refine e_' (pt_ b87 1) ?_
   refine m_' (.slice a81 n82 c83) (aLoad Tryz.prog 23 (pt_ b87 1) H507) (u543.ld (by kernel_rfl)) ?_
   refine e_' (pt_ b87 2) ?_
   refine m_' (.slice a84 n85 c86) (aLoad Tryz.prog 23 (pt_ b87 2) H507) (u543.ld (by kernel_rfl)) ?_
   refine e_' (.agg #[.slice a78 n79 c80, .slice a81 n82 c83, .slice a84 n85 c86]) (e_' (.slice a437 n438 c439) (e_' (i_ i2) ?_))
   obtain ⟨g544, r545⟩ := G_some r542
   refine d_w ((i2 + 1)) (k := .i64) (x := (i2 + 1)) (by kernel_rfl) (wrap64 (by have := g544; omega)) ?_
   obtain ⟨g546, r547⟩ := G_some r545
   obtain ⟨s548, q549, hs550⟩ := Ow.head (P := Tryz.prog) u524 (t := 23) (by kernel_rfl) (hi := (some (i_ (i2 + 1)))) (r := (i2 + 1).toNat) (aBound_int _ (by have := g546; omega)) (by have := g546; omega)
   obtain ⟨a551, n552, c553, rfl⟩ := hs550.form
   refine d_ql (.slice a551 n552 c553) (by kernel_rfl) q549 ?_
   refine e_' (i_ s) (e_' (i_ (gt y421.1 i2)) (e_' (.slice a177 n178 c179) (e_' (i_ (gt y421.1 i2)) ?_)))
   obtain ⟨g555, r556⟩ := G_some r547
   have u557 := (u444.fr e508 Dj.nil_l)
   refine m_' (elp (.slice a177 n178 c179) 1 (gt y421.1 i2).toNat 0) (aIndexAddr Tryz.prog 29 (.slice a177 n178 c179) (i_ (gt y421.1 i2))) (u557.sq.idxb (by kernel_rfl) g555.1 g555.2) ?_
   refine m_' (.int .u64 (gt y161.1 (gt y421.1 i2))) (aLoad Tryz.prog 37 (elp (.slice a177 n178 c179) 1 (gt y421.1 i2).toNat 0) H507) (u557.sq.ld g555.1 g555.2 (by kernel_rfl)) ?_
   have u558 := ((u418.fr e429 Dj.nil_l).fr e508 Dj.nil_l)
   have u559 := ((u419.fr e429 Dj.nil_l).fr e508 Dj.nil_l)
   have u560 := ((u420.fr e429 Dj.nil_l).fr e508 Dj.nil_l)
   obtain ⟨y561, hy562, r563⟩ := bind_some r556
   refine d_ck 18 #[.agg #[.slice a78 n79 c80, .slice a81 n82 c83, .slice a84 n85 c86], .slice a551 n552 c553, i_ s, i_ (gt y421.1 i2), .int .u64 (gt y161.1 (gt y421.1 i2))] (by kernel_rfl) (c_viaductref08_Path e508.wf u558.sq u559.sq u560.sq hs550.sq hy562) ?_
   rintro _ H564 ⟨rfl, e565⟩
   refine ⟨st_nil, ?_⟩
   refine e_' (.bool (!y561)) (e_' (.bool (!y561)) ?_)
   refine d_nil ?_
   refine k525 _ _ ?_
   refine w_cond ((!y561)) (by kernel_rfl) rfl (fun h566 => ?_) (fun h566 => ?_)
   ·have r567 := ite_t h566 r563
    refine w_seqk fun _ k568 => g_' (q_ (.bool false) (s_nil (k568 _ _ ?_)))
    refine w_ret (bl_ret (th_ret (th_ret (bl_ret (th_ret (th_ret ?_))))))
    obtain ⟨v569, hv570, hz571⟩ := map_some r567
    subst hz571
    obtain rfl := it_inr hn514
    have hq572 := elim_inl r499
    rw [hq572] at hv570
    refine b_ret (fn := Tryz.f4) (vs := [.bool false]) (aRes_tmp (by kernel_rfl) (rfl)) ?_
    obtain rfl := Option.some.inj hv570
    exact ⟨rfl, (FrS.step wf (FrS.step wf (FrS.step wf (FrS.step wf (FrS.step wf (FrS.step wf (FrS.step wf ((FrS.step wf (FrS.step wf ((FrS.step wf (FrS.step wf ((FrS.refl (W := []) wf).extR e4) e16 Inn.nil) e59 Inn.nil).extR e89) e95 (hb90.fresh (ntr (ntr e4.next e16.next) e59.next))) e115 Inn.nil).extR e145) e151 (hb146.fresh (ntr (ntr (ntr (ntr (ntr e4.next e16.next) e59.next) e89.next) e95.next) e115.next))) e169 Inn.nil) e193 Inn.nil) e217 Inn.nil) e429 Inn.nil) e508 Inn.nil) e565 Inn.nil)⟩
   have r573 := ite_bf h566 r563
   refine w_skip (k520 _ _ (g_' ?_))
   refine w_' (i2 + 1) (wrap64 (by have := g544; omega)) ?_
   refine q_ (i_ (i2 + 1)) (s_nil ?_)
   obtain rfl := Option.some.inj r573
   exact k515 n511 _ _ (Nat.lt_succ_self _) ⟨(i2 + 1), hn514, ha_, (FrS.step e429.wf (FrS.step e429.wf (FrS.refl (W := []) e429.wf) e508 Inn.nil) e565 Inn.nil)⟩
  have r574 := ite_f h518 hz513
  refine w_exit (th_exit (th_exit (bl_eq ?_)))
  obtain rfl := Option.some.inj r574
  obtain rfl := it_inr hn514
  exact k503 _ _ ⟨_, rfl, trivial, (FrS.step e429.wf (FrS.refl (W := []) e429.wf) e508 Inn.nil)⟩
 obtain ⟨o497, rfl, hh504, e502⟩ := hM
 have r575 := elim_inr r499
 obtain ⟨β, rfl⟩ := has_ex hh504
 clear hh504
 refine k495 _ _ (w_seqk fun _ k576 => g_' (q_ (.bool true) (s_nil (k576 _ _ ?_))))
 refine w_ret ?_
 refine b_ret (fn := Tryz.f4) (vs := [.bool true]) (aRes_tmp (by kernel_rfl) (rfl)) ?_
 obtain rfl := Option.some.inj r575
 exact ⟨rfl, (FrS.step wf (FrS.step wf (FrS.step wf (FrS.step wf (FrS.step wf (FrS.step wf ((FrS.step wf (FrS.step wf ((FrS.step wf (FrS.step wf ((FrS.refl (W := []) wf).extR e4) e16 Inn.nil) e59 Inn.nil).extR e89) e95 (hb90.fresh (ntr (ntr e4.next e16.next) e59.next))) e115 Inn.nil).extR e145) e151 (hb146.fresh (ntr (ntr (ntr (ntr (ntr e4.next e16.next) e59.next) e89.next) e95.next) e115.next))) e169 Inn.nil) e193 Inn.nil) e217 Inn.nil) e429 Inn.nil) e502 Inn.nil)⟩
end Go.Vd
