/- The walks of the functions (printed by a program of ours). -/
import Derived.Test.YtnepbkkdhalbiaaPwg1
import Derived.Test.YtnepbkkdhalbiaaPwgVeC
import Derived.Test.YtnepbkkdhalbiaaPwgIWg
import Derived.Test.YtnepbkkdhalbiaaPwgVeN
import Derived.Test.YtnepbkkdhalbiaaPwgVeM
import Derived.Test.YtnepbkkdhalbiaaPwgVeG
import Derived.Test.YtnepbkkdhalbiaaPwgSoA
import Derived.Test.YtnepbkkdhalbiaaPwgVeP
import Derived.Test.YtnepbkkdhalbiaaPwgVeV
set_option linter.unusedVariables false
set_option linter.unusedSimpArgs false
set_option linter.unusedSectionVars false
/-! (KWg4) -/

set_option maxRecDepth 100000
set_option maxHeartbeats 4000000
set_option linter.unusedVariables false
namespace Go.Vd
open Go.Proofs
attribute [local irreducible] wpSeq wpOrd aWp
theorem c_overlay_Overlay_Put {H : AH} {b_o : Nat} {hd_o_ : Value} {fp_o_ : Fp} {o_ : List (Bool × List (Int × Int × Int) × List (Int × Int × Int))} {o_2 : Int} {o_3 : Int} {u : Int} {w : Int} {weight : Int} {via : Int} {r : Bool × Er × List (Bool × List (Int × Int × Int) × List (Int × Int × Int)) × Int}
    (wf : WF H) (h_o_ : Nd enc_i64_u64_i64 3 H hd_o_ o_ fp_o_ []) (h_o : Row H b_o [hd_o_, i_ o_2, i_ o_3]) (dj_b_o_fp_o_ : Dj [b_o] fp_o_) (hr : z_overlay_Overlay_Put o_ o_2 o_3 u w weight via = some r) :
    ACalls Try.prog 30 #[pt_ b_o 0, i_ u, i_ w, .int .u64 weight, i_ via] H fun v H' => ∃ (v3 : Value) (f4 : Fp) (f7 : Fp), v = .tuple #[.bool r.1, v3] ∧ FrS ([b_o] ++ fp_o_) H H' ∧ Ev 90 129 H' v3 r.2.1 f4 ∧ Nd enc_i64_u64_i64 3 H' hd_o_ r.2.2.1 f7 [] ∧ Row H' b_o [hd_o_, i_ o_2, i_ r.2.2.2] ∧ Inn [] H f4 ∧ Inn fp_o_ H f7 ∧ Dj f4 f7 := by
 refine acalls_of_body mixed Try.func30 rfl (Nat.le_of_ble_eq_true rfl) ?_
 unfold z_overlay_Overlay_Put at hr
 refine w_seqk fun _ k13 => g_' (q_ (.bool false) (q_ (.nilIface) (s_nil (k13 _ _ (w_seqk fun _ k14 => w_block (w_seqk fun _ k15 => g_' (q_ (pt_ b_o 0) (q_ (.bool false) (q_ (.bool false) (s_nil (k15 _ _ ?_)))))))))))
 refine w_cond false (by kernel_rfl) rfl (fun h => by cases h) (fun _ => ?_)
 refine w_seqk fun _ k16 => ?_
 obtain ⟨o17, hx18, r19⟩ := bind_some hr
 refine w_mid (fun α H20 => Has α [(0, pt_ b_o 0), (1, i_ u), (2, i_ w), (3, .int .u64 weight), (4, i_ via), (18, .bool o17)] ∧ H = H20) (fun _ k22 => ?_) (fun α H20 hM => ?_)
 ·refine g_' (q_ (pt_ b_o 0) (q_ (i_ u) ?_))
  obtain ⟨y24, hy25, r26⟩ := bind_some hx18
  refine s_ck 24 #[pt_ b_o 0, i_ u] (by kernel_rfl) (c_overlay_Overlay_Alive wf h_o_ h_o hy25) ?_
  rintro _ _ ⟨rfl, rfl⟩
  by_cases h29 : y24 = true
  ·have r30 := ite_t h29 r26
   rw [h29]
   refine q_ (.bool false) (q_ (.bool false) (q_ (pt_ b_o 0) (q_ (i_ w) ?_)))
   obtain ⟨y32, hy33, r34⟩ := bind_some r30
   refine s_ck 24 #[pt_ b_o 0, i_ w] (by kernel_rfl) (c_overlay_Overlay_Alive wf h_o_ h_o hy33) ?_
   rintro _ _ ⟨rfl, rfl⟩
   refine q_ (.bool (!y32)) (q_ (.bool (!y32)) (q_ (.bool (!y32)) (s_nil ?_)))
   obtain rfl := oi_ r34
   exact k22 _ _ ⟨ha_, rfl⟩
  have r37 := ite_f h29 r26
  rw [nb h29]
  refine q_ (.bool true) (q_ (.bool true) (n_' (n_' (n_' (n_' (q_ (.bool true) (q_ (.bool true) (s_nil ?_))))))))
  obtain rfl := oi_ r37
  exact k22 _ _ ⟨ha_, rfl⟩
 obtain ⟨hh23, rfl⟩ := hM
 obtain ⟨β, rfl⟩ := has_ex hh23
 clear hh23
 refine k16 _ _ ?_
 refine w_cond (o17) (by kernel_rfl) rfl (fun h39 => ?_) (fun h39 => ?_)
 ·have r40 := ite_t h39 r19
  refine w_seqk fun _ k41 => g_' (q_ (.iface 90 (i_ 7)) (q_ (.bool false) (q_ (.iface 90 (i_ 7)) (s_nil (k41 _ _ ?_)))))
  refine w_ret (bl_ret (th_ret ?_))
  refine b_ret (fn := Try.f30) (vs := [.bool false, .iface 90 (i_ 7)]) (rt_ (aRes_tmp (by kernel_rfl) (rfl))) ?_
  obtain rfl := oi_ r40
  exact ⟨(.iface 90 (i_ 7)), [], fp_o_, rfl, (FrS.refl (W := ([b_o] ++ fp_o_)) wf), Ev.no, h_o_, h_o, Inn.nil, Inn.refl', Dj.nil_l⟩
 have r42 := ite_bf h39 r19
 refine w_seqk fun _ k43 => g_' (q_ (i_ u) (q_ (i_ w) (q_ (.bool (decide (u = w))) (q_ (.bool (decide (u = w))) (s_nil (k43 _ _ ?_))))))
 refine w_condp (u = w) (by kernel_rfl) rfl (fun h44 => ?_) (fun h44 => ?_)
 ·have r45 := ite_t h44 r42
  refine w_seqk fun _ k46 => g_' (q_ (.iface 90 (i_ 1)) (q_ (.bool false) (q_ (.iface 90 (i_ 1)) (s_nil (k46 _ _ ?_)))))
  refine w_ret (bl_ret (th_ret ?_))
  refine b_ret (fn := Try.f30) (vs := [.bool false, .iface 90 (i_ 1)]) (rt_ (aRes_tmp (by kernel_rfl) (rfl))) ?_
  obtain rfl := oi_ r45
  exact ⟨(.iface 90 (i_ 1)), [], fp_o_, rfl, (FrS.refl (W := ([b_o] ++ fp_o_)) wf), Ev.no, h_o_, h_o, Inn.nil, Inn.refl', Dj.nil_l⟩
 have r47 := ite_f h44 r42
 refine w_seqk fun _ k48 => g_' (q_ (.int .u64 weight) (q_ (.bool (decide (weight > 140737488355328))) (q_ (.bool (decide (weight > 140737488355328))) (s_nil (k48 _ _ ?_)))))
 refine w_condp (weight > 140737488355328) (by kernel_rfl) rfl (fun h49 => ?_) (fun h49 => ?_)
 ·have r50 := ite_t h49 r47
  refine w_seqk fun _ k51 => g_' (q_ (.iface 90 (i_ 8)) (q_ (.bool false) (q_ (.iface 90 (i_ 8)) (s_nil (k51 _ _ ?_)))))
  refine w_ret (bl_ret (th_ret ?_))
  refine b_ret (fn := Try.f30) (vs := [.bool false, .iface 90 (i_ 8)]) (rt_ (aRes_tmp (by kernel_rfl) (rfl))) ?_
  obtain rfl := oi_ r50
  exact ⟨(.iface 90 (i_ 8)), [], fp_o_, rfl, (FrS.refl (W := ([b_o] ++ fp_o_)) wf), Ev.no, h_o_, h_o, Inn.nil, Inn.refl', Dj.nil_l⟩
 have r52 := ite_f h49 r47
 refine w_seqk fun _ k53 => ?_
 obtain ⟨o54, hx55, r56⟩ := bind_some r52
 refine w_mid (fun α H57 => Has α [(0, pt_ b_o 0), (1, i_ u), (2, i_ w), (3, .int .u64 weight), (4, i_ via), (39, .bool o54)] ∧ H = H57) (fun _ k59 => ?_) (fun α H57 hM => ?_)
 ·refine g_' (q_ (i_ via) ?_)
  refine s_b (via < (-1)) (by kernel_rfl) (fun h61 => ?_) (fun h61 => ?_)
  ·have r62 := ite_t h61 hx55
   refine q_ (.bool true) (n_' (n_' (n_' (n_' (n_' (n_' (n_' (q_ (.bool true) (q_ (.bool true) (n_' (n_' (n_' (n_' (n_' (n_' (n_' (n_' (n_' (n_' (n_' (n_' (n_' (q_ (.bool true) (q_ (.bool true) (s_nil ?_)))))))))))))))))))))))))
   obtain rfl := oi_ r62
   exact k59 _ _ ⟨ha_, rfl⟩
  have r63 := ite_f h61 hx55
  refine q_ (.bool false) (q_ (i_ via) (q_ (pt_ b_o 0) (q_ (pt_ b_o 0) (q_ (pt_ b_o 0) ?_))))
  refine l_' (hd_o_) (aL_ 114 (pt_ b_o 0) H) (h_o.l_) ?_
  refine l_' (i_ (o_.length : Int)) (aLen Try.prog 114 hd_o_ H) (h_o_.lenb (by kernel_rfl)) ?_
  refine s_b (via ≥ (o_.length : Int)) (by kernel_rfl) (fun h64 => ?_) (fun h64 => ?_)
  ·have r65 := ite_t h64 r63
   refine q_ (.bool true) (q_ (.bool true) (n_' (n_' (n_' (n_' (n_' (n_' (n_' (n_' (n_' (n_' (n_' (n_' (n_' (q_ (.bool true) (q_ (.bool true) (s_nil ?_)))))))))))))))))
   obtain rfl := oi_ r65
   exact k59 _ _ ⟨ha_, rfl⟩
  have r66 := ite_f h64 r63
  refine q_ (.bool false) (q_ (.bool false) (q_ (i_ via) ?_))
  refine s_b (via ≥ 0) (by kernel_rfl) (fun h67 => ?_) (fun h67 => ?_)
  ·have r68 := ite_t h67 r66
   refine q_ (.bool true) (q_ (pt_ b_o 0) (q_ (pt_ b_o 0) (q_ (pt_ b_o 0) ?_)))
   refine l_' (hd_o_) (aL_ 114 (pt_ b_o 0) H) (h_o.l_) ?_
   refine q_ (i_ via) ?_
   obtain ⟨g69, r70⟩ := G_some r68
   refine l_' (elp hd_o_ 3 via.toNat 0) (aIndexAddr Try.prog 114 hd_o_ (i_ via)) (h_o_.idxb (by kernel_rfl) g69.1 g69.2) ?_
   refine l_' (elp hd_o_ 3 via.toNat 0) (aFieldAddr Try.prog 120 (elp hd_o_ 3 via.toNat 0) 0) (Nd.fldq (d := 0) h_o_ g69.1 g69.2 (by kernel_rfl)) ?_
   obtain ⟨u71, u72, hl73, hk74⟩ := Nd.at h_o_ g69.1 g69.2
   refine l_' (.bool ((gt o_ via).1)) (aL_ 4 (elp hd_o_ 3 via.toNat 0) H) (hl73 _ _ _ _ (by kernel_rfl)) ?_
   refine q_ (.bool (!(gt o_ via).1)) (q_ (.bool (!(gt o_ via).1)) (q_ (.bool (!(gt o_ via).1)) (q_ (.bool (!(gt o_ via).1)) (s_nil ?_))))
   obtain rfl := oi_ r70
   exact k59 _ _ ⟨ha_, rfl⟩
  have r75 := ite_f h67 r66
  refine q_ (.bool false) (n_' (n_' (n_' (n_' (n_' (n_' (n_' (n_' (n_' (q_ (.bool false) (q_ (.bool false) (q_ (.bool false) (s_nil ?_)))))))))))))
  obtain rfl := oi_ r75
  exact k59 _ _ ⟨ha_, rfl⟩
 obtain ⟨hh60, rfl⟩ := hM
 obtain ⟨β, rfl⟩ := has_ex hh60
 clear hh60
 refine k53 _ _ ?_
 refine w_cond (o54) (by kernel_rfl) rfl (fun h76 => ?_) (fun h76 => ?_)
 ·have r77 := ite_t h76 r56
  refine w_seqk fun _ k78 => g_' (q_ (.iface 90 (i_ 1)) (q_ (.bool false) (q_ (.iface 90 (i_ 1)) (s_nil (k78 _ _ ?_)))))
  refine w_ret (bl_ret (th_ret ?_))
  refine b_ret (fn := Try.f30) (vs := [.bool false, .iface 90 (i_ 1)]) (rt_ (aRes_tmp (by kernel_rfl) (rfl))) ?_
  obtain rfl := oi_ r77
  exact ⟨(.iface 90 (i_ 1)), [], fp_o_, rfl, (FrS.refl (W := ([b_o] ++ fp_o_)) wf), Ev.no, h_o_, h_o, Inn.nil, Inn.refl', Dj.nil_l⟩
 have r79 := ite_bf h76 r56
 refine w_skip (k14 _ _ (w_seqk fun _ k80 => g_' (q_ (pt_ b_o 0) (q_ (i_ u) (q_ (i_ w) ?_)))))
 obtain ⟨y81, hy82, r83⟩ := bind_some r79
 refine s_ck 49 #[pt_ b_o 0, i_ u, i_ w] (by kernel_rfl) (c_overlay_Overlay_Weight wf h_o_ h_o hy82) ?_
 rintro _ H84 ⟨rfl, e85⟩
 refine q_ (.tuple #[.int .u64 y81.1, .bool y81.2]) (q_ (.int .u64 y81.1) (q_ (.bool y81.2) (q_ (.int .u64 y81.1) (q_ (.bool y81.2) (s_nil (k80 _ _ (w_seqk fun _ k86 => w_seqk fun _ k87 => ?_)))))))
 obtain ⟨o88, hx89, r90⟩ := bind_some r83
 refine w_mid (fun α H91 => Has α [(0, pt_ b_o 0), (1, i_ u), (2, i_ w), (3, .int .u64 weight), (4, i_ via), (13, .bool o88.1), (79, .bool o88.2)] ∧ H84 = H91) (fun _ k93 => ?_) (fun α H91 hM => ?_)
 ·refine g_' (q_ (.bool y81.2) (q_ (.bool y81.2) ?_))
  by_cases h95 : y81.2 = true
  ·have r96 := ite_t h95 hx89
   rw [h95]
   refine q_ (.int .u64 y81.1) (q_ (.int .u64 weight) (q_ (.bool (decide (y81.1 ≤ weight))) (q_ (.bool (decide (y81.1 ≤ weight))) (s_nil ?_))))
   obtain rfl := oi_ r96
   exact k93 _ _ ⟨ha_, rfl⟩
  have r97 := ite_f h95 hx89
  rw [nb h95]
  refine n_' (n_' (n_' (q_ (.bool false) (s_nil ?_))))
  obtain rfl := oi_ r97
  exact k93 _ _ ⟨ha_, rfl⟩
 obtain ⟨hh94, rfl⟩ := hM
 obtain ⟨β, rfl⟩ := has_ex hh94
 clear hh94
 refine k87 _ _ ?_
 refine w_cond (o88.2) (by kernel_rfl) rfl (fun h98 => ?_) (fun h98 => ?_)
 ·have r99 := ite_t h98 r90
  refine w_seqk fun _ k100 => g_' (q_ (.bool false) (q_ (.nilIface) (s_nil (k100 _ _ ?_))))
  refine w_ret (th_ret ?_)
  refine b_ret (fn := Try.f30) (vs := [.bool false, .nilIface]) (rt_ (aRes_tmp (by kernel_rfl) (rfl))) ?_
  have u101 := (h_o_.fr e85 Dj.nil_l)
  have u102 := (h_o.frS e85 Dj.nil_l)
  obtain rfl := oi_ r99
  exact ⟨(.nilIface), [], fp_o_, rfl, (FrS.step wf (FrS.refl (W := ([b_o] ++ fp_o_)) wf) e85 Inn.nil), Ev.nil, u101, u102, Inn.nil, Inn.refl', Dj.nil_l⟩
 have r103 := ite_bf h98 r90
 refine w_skip (k86 _ _ (w_seqk fun _ k104 => w_seqk fun _ k105 => g_' (q_ (.bool o88.1) (q_ (.bool (!o88.1)) (s_nil (k105 _ _ ?_))))))
 obtain ⟨o106, hx107, r108⟩ := bind_some r103
 refine w_mid (fun α H109 => Has α [(0, pt_ b_o 0), (1, i_ u), (2, i_ w), (3, .int .u64 weight), (4, i_ via)] ∧ FrS [b_o] H84 H109 ∧ Row H109 b_o [hd_o_, i_ o_2, i_ o106]) (fun _ k113 => ?_) (fun α H109 hM => ?_)
 ·refine w_cond ((!o88.1)) (by kernel_rfl) rfl (fun h115 => ?_) (fun h115 => ?_)
  ·have r116 := ite_t h115 hx107
   refine g_' (q_ (pt_ b_o 0) (q_ (pt_ b_o 0) (q_ (pt_ b_o 2) ?_)))
   have u117 := (h_o.frS e85 Dj.nil_l)
   refine l_' (i_ o_3) (aL_ 3 (pt_ b_o 2) H84) (u117.l_) ?_
   obtain ⟨g118, r119⟩ := G_some r116
   refine w_' (o_3 + 1) (wrap64 g118) ?_
   refine q_ (pt_ b_o 0) (q_ (pt_ b_o 2) ?_)
   obtain ⟨H120, q121, e122, r123⟩ := Row.store (P := Try.prog) (t := 3) (p := 2) e85.wf u117 (i_ (o_3 + 1)) [i_ (o_3 + 1)] (by kernel_rfl) (by kernel_rfl) (one_cons (rfl) (one_nil)) (Nat.le_of_ble_eq_true (by kernel_rfl)) [hd_o_, i_ o_2, i_ (o_3 + 1)] (by kernel_rfl)
   refine s_ek (undef) (by kernel_rfl) (map_ok q121) ?_
   refine s_nil ?_
   obtain rfl := oi_ r119
   exact k113 _ _ ⟨ha_, (FrS.step e85.wf (FrS.refl (W := [b_o]) e85.wf) e122 Inn.refl'), r123⟩
  have r124 := ite_bf h115 hx107
  refine w_skip ?_
  have u125 := (h_o.frS e85 Dj.nil_l)
  obtain rfl := oi_ r124
  exact k113 _ _ ⟨ha_, (FrS.refl (W := [b_o]) e85.wf), u125⟩
 obtain ⟨hh114, e110, m112⟩ := hM
 obtain ⟨β, rfl⟩ := has_ex hh114
 clear hh114
 refine k104 _ _ (w_seqk fun _ k126 => ?_)
 refine w_draw [0, 1, 2, 3, 4, 5, 6, 7, 8, 9, 10, 11, 12, 13, 14, 15, 16, 17, 18, 19, 20] (by kernel_rfl) ?_
 refine e_' (pt_ b_o 0) (e_' (pt_ b_o 0) (e_' (pt_ b_o 0) ?_))
 refine d_fl (hd_o_) (x := aL_ 114 (pt_ b_o 0) H109) (by kernel_rfl) (m112.l_) ?_
 refine e_' (i_ u) (e_' (pt_ b_o 0) (e_' (pt_ b_o 0) (e_' (pt_ b_o 0) ?_)))
 refine m_' (hd_o_) (aL_ 114 (pt_ b_o 0) H109) (m112.l_) ?_
 refine e_' (i_ u) ?_
 obtain ⟨g127, r128⟩ := G_some r108
 have u129 := ((h_o_.fr e85 Dj.nil_l).fr e110 dj_b_o_fp_o_)
 refine m_' (elp hd_o_ 3 u.toNat 0) (aIndexAddr Try.prog 114 hd_o_ (i_ u)) (u129.idxb (by kernel_rfl) g127.1 g127.2) ?_
 refine m_' (elp hd_o_ 3 u.toNat 1) (aFieldAddr Try.prog 120 (elp hd_o_ 3 u.toNat 0) 1) (Nd.fldq (d := 1) u129 g127.1 g127.2 (by kernel_rfl)) ?_
 obtain ⟨u130, u131, hl132, hk133⟩ := Nd.at u129 g127.1 g127.2
 have kd134 : KdS enc_i64_u64_i64 3 H109 u130 ((gt o_ u).2.1) fp_o_ hd_o_ 3 u.toNat 1 := hk133 false (by simp)
 obtain ⟨a135, n136, c137, rfl⟩ := kd134.sq.form
 refine m_' (.slice a135 n136 c137) (aL_ 69 (elp hd_o_ 3 u.toNat 1) H109) (hl132 _ _ _ _ (by kernel_rfl)) ?_
 refine e_' (i_ w) (e_' (.int .u64 weight) (e_' (i_ via) (e_' (.agg #[i_ w, .int .u64 weight, i_ via]) ?_)))
 obtain ⟨f139, f140, hh141, ho142, d143, hs144, hs145⟩ := Nd.borrow false u129 g127.1 g127.2 (by simp) kd134 rfl
 have w146 := Inn.sub' (H := H109) hs144
 have w147 := Inn.sub' (H := H109) hs145
 have hh141 : Nd enc_i64_u64_i64 3 H109 hd_o_ o_ f139 [(u.toNat, false)] := hh141
 obtain ⟨y148, hy149, r150⟩ := bind_some r128
 refine d_ck 50 #[.slice a135 n136 c137, .agg #[i_ w, .int .u64 weight, i_ via]] (by kernel_rfl) (c_overlay_laid e110.wf ho142 hy149) ?_
 rintro s151 H153 ⟨_, f152, rfl, e154, m155, i156⟩
 obtain ⟨a158, n159, c160, rfl⟩ := m155.form
 have u161 := (m112.frS e154 (w147.dj (Dj.symm dj_b_o_fp_o_) (h_o.ltF.le (t_ e85.n e110.n))))
 refine ⟨st_ql (y := aL_ 114 (pt_ b_o 0) H153) (by kernel_rfl) (u161.l_) (st_nil), ?_⟩
 have u162 := (hh141.fr e154 (Dj.symm d143))
 refine m_' (elp hd_o_ 3 u.toNat 0) (aIndexAddr Try.prog 114 hd_o_ (i_ u)) (u162.idxb (by kernel_rfl) g127.1 g127.2) ?_
 refine m_' (elp hd_o_ 3 u.toNat 1) (aFieldAddr Try.prog 120 (elp hd_o_ 3 u.toNat 0) 1) (Nd.fldq (d := 1) u162 g127.1 g127.2 (by kernel_rfl)) ?_
 obtain ⟨H163, f164, q165, e166, hm167, hf168⟩ := Nd.close (P := Try.prog) (t := 69) false e154.wf u162 m155 (Dj.symm (i156.dj (Dj.symm d143) hh141.lt)) g127.1 g127.2 (by kernel_rfl) (by kernel_rfl) (by kernel_rfl)
 have hm167 : Nd enc_i64_u64_i64 3 H163 hd_o_ (o_.set u.toNat ((gt o_ u).1, y148, (gt o_ u).2.2)) f164 [] := hm167
 have w169 := hf168.grow3 (Inn.trans Inn.refl' (Nat.le_refl _) w146) (Inn.trans (Inn.trans Inn.refl' (Nat.le_refl _) w147) (Nat.le_refl _) i156) e154.n
 refine d_ek (undef) (by kernel_rfl) (map_ok q165) (st_anc (by kernel_rfl) (st_nil)) ?_
 refine d_nil ?_
 refine k126 _ _ (w_seqk fun _ k170 => ?_)
 refine w_draw [0, 1, 2, 3, 4, 5, 6, 7, 8, 9, 10, 11, 12, 13, 14, 15, 16, 17, 18, 19, 20] (by kernel_rfl) ?_
 refine e_' (pt_ b_o 0) (e_' (pt_ b_o 0) (e_' (pt_ b_o 0) ?_))
 have u171 := (u161.frS e166 (w146.dj (Dj.symm dj_b_o_fp_o_) (h_o.ltF.le (t_ e85.n e110.n))))
 refine d_fl (hd_o_) (x := aL_ 114 (pt_ b_o 0) H163) (by kernel_rfl) (u171.l_) ?_
 refine e_' (i_ w) (e_' (pt_ b_o 0) (e_' (pt_ b_o 0) (e_' (pt_ b_o 0) ?_)))
 refine m_' (hd_o_) (aL_ 114 (pt_ b_o 0) H163) (u171.l_) ?_
 refine e_' (i_ w) ?_
 obtain ⟨g172, r173⟩ := G_some r150
 refine m_' (elp hd_o_ 3 w.toNat 0) (aIndexAddr Try.prog 114 hd_o_ (i_ w)) (hm167.idxb (by kernel_rfl) g172.1 g172.2) ?_
 refine m_' (elp hd_o_ 3 w.toNat 2) (aFieldAddr Try.prog 120 (elp hd_o_ 3 w.toNat 0) 2) (Nd.fldq (d := 2) hm167 g172.1 g172.2 (by kernel_rfl)) ?_
 obtain ⟨u174, u175, hl176, hk177⟩ := Nd.at hm167 g172.1 g172.2
 have kd178 : KdS enc_i64_u64_i64 3 H163 u175 ((gt (o_.set u.toNat ((gt o_ u).1, y148, (gt o_ u).2.2)) w).2.2) f164 hd_o_ 3 w.toNat 2 := hk177 true (by simp)
 obtain ⟨a179, n180, c181, rfl⟩ := kd178.sq.form
 refine m_' (.slice a179 n180 c181) (aL_ 69 (elp hd_o_ 3 w.toNat 2) H163) (hl176 _ _ _ _ (by kernel_rfl)) ?_
 refine e_' (i_ u) (e_' (.int .u64 weight) (e_' (i_ via) (e_' (.agg #[i_ u, .int .u64 weight, i_ via]) ?_)))
 obtain ⟨f183, f184, hh185, ho186, d187, hs188, hs189⟩ := Nd.borrow true hm167 g172.1 g172.2 (by simp) kd178 rfl
 have w190 := Inn.sub' (H := H163) hs188
 have w191 := Inn.sub' (H := H163) hs189
 have hh185 : Nd enc_i64_u64_i64 3 H163 hd_o_ (o_.set u.toNat ((gt o_ u).1, y148, (gt o_ u).2.2)) f183 [(w.toNat, true)] := hh185
 obtain ⟨y192, hy193, r194⟩ := bind_some r173
 refine d_ck 50 #[.slice a179 n180 c181, .agg #[i_ u, .int .u64 weight, i_ via]] (by kernel_rfl) (c_overlay_laid e166.wf ho186 hy193) ?_
 rintro s195 H197 ⟨_, f196, rfl, e198, m199, i200⟩
 obtain ⟨a202, n203, c204, rfl⟩ := m199.form
 have u205 := (u171.frS e198 (w191.dj (w169.dj (Dj.symm dj_b_o_fp_o_) (h_o.ltF.le (t_ e85.n e110.n))) (h_o.ltF.le (t_ (t_ (t_ e85.n e110.n) e154.n) e166.n))))
 refine ⟨st_ql (y := aL_ 114 (pt_ b_o 0) H197) (by kernel_rfl) (u205.l_) (st_nil), ?_⟩
 have u206 := (hh185.fr e198 (Dj.symm d187))
 refine m_' (elp hd_o_ 3 w.toNat 0) (aIndexAddr Try.prog 114 hd_o_ (i_ w)) (u206.idxb (by kernel_rfl) g172.1 g172.2) ?_
 refine m_' (elp hd_o_ 3 w.toNat 2) (aFieldAddr Try.prog 120 (elp hd_o_ 3 w.toNat 0) 2) (Nd.fldq (d := 2) u206 g172.1 g172.2 (by kernel_rfl)) ?_
 obtain ⟨H207, f208, q209, e210, hm211, hf212⟩ := Nd.close (P := Try.prog) (t := 69) true e198.wf u206 m199 (Dj.symm (i200.dj (Dj.symm d187) hh185.lt)) g172.1 g172.2 (by kernel_rfl) (by kernel_rfl) (by kernel_rfl)
 have hm211 : Nd enc_i64_u64_i64 3 H207 hd_o_ ((o_.set u.toNat ((gt o_ u).1, y148, (gt o_ u).2.2)).set w.toNat ((gt (o_.set u.toNat ((gt o_ u).1, y148, (gt o_ u).2.2)) w).1, (gt (o_.set u.toNat ((gt o_ u).1, y148, (gt o_ u).2.2)) w).2.1, y192)) f208 [] := hm211
 have w213 := hf212.grow3 (Inn.trans Inn.refl' (Nat.le_refl _) w190) (Inn.trans (Inn.trans Inn.refl' (Nat.le_refl _) w191) (Nat.le_refl _) i200) e198.n
 refine d_ek (undef) (by kernel_rfl) (map_ok q209) (st_anc (by kernel_rfl) (st_nil)) ?_
 refine d_nil ?_
 refine k170 _ _ (w_seqk fun _ k214 => g_' (q_ (.bool true) (q_ (.nilIface) (s_nil (k214 _ _ ?_)))))
 refine w_ret ?_
 refine b_ret (fn := Try.f30) (vs := [.bool true, .nilIface]) (rt_ (aRes_tmp (by kernel_rfl) (rfl))) ?_
 have u215 := (u205.frS e210 (w190.dj (w169.dj (Dj.symm dj_b_o_fp_o_) (h_o.ltF.le (t_ e85.n e110.n))) (h_o.ltF.le (t_ (t_ (t_ e85.n e110.n) e154.n) e166.n))))
 obtain rfl := oi_ r194
 exact ⟨(.nilIface), [], f208, rfl, (FrS.step wf (FrS.step wf (FrS.step wf (FrS.step wf (FrS.step wf (FrS.step wf (FrS.refl (W := ([b_o] ++ fp_o_)) wf) e85 Inn.nil) e110 Inn.left) e154 (Inn.trans (Inn.right Inn.refl') (t_ e85.n e110.n) w147)) e166 (Inn.trans (Inn.right Inn.refl') (t_ e85.n e110.n) w146)) e198 (Inn.trans (Inn.trans (Inn.right Inn.refl') (t_ e85.n e110.n) w169) (t_ (t_ (t_ e85.n e110.n) e154.n) e166.n) w191)) e210 (Inn.trans (Inn.trans (Inn.right Inn.refl') (t_ e85.n e110.n) w169) (t_ (t_ (t_ e85.n e110.n) e154.n) e166.n) w190)), Ev.nil, hm211, u215, Inn.nil, (Inn.trans (Inn.trans Inn.refl' (t_ e85.n e110.n) w169) (t_ (t_ (t_ e85.n e110.n) e154.n) e166.n) w213), Dj.nil_l⟩
theorem c_overlay_without {H : AH} {hd_l : Value} {fp_l : Fp} {l : List (Int × Int × Int)} {v_ : Int} {r : List (Int × Int × Int)}
    (wf : WF H) (h_l : Ow enc_i64_u64_i64 3 H hd_l l fp_l) (hr : z_overlay_without l v_ = some r) :
    ACalls Try.prog 52 #[hd_l, i_ v_] H fun v H' => ∃ (s3 : Value) (f4 : Fp), v = s3 ∧ FrS fp_l H H' ∧ Ow enc_i64_u64_i64 3 H' s3 r f4 ∧ Inn fp_l H f4 := by
 refine acalls_of_body mixed Try.func52 rfl (Nat.le_of_ble_eq_true rfl) ?_
 unfold z_overlay_without at hr
 refine w_seqk fun _ k6 => g_' (q_ (.slice none 0 0) (s_nil (k6 _ _ (w_seqk fun _ k7 => g_' (q_ (hd_l) (q_ (i_ v_) ?_))))))
 obtain ⟨y8, hy9, r10⟩ := bind_some hr
 refine s_ck 64 #[hd_l, i_ v_] (by kernel_rfl) (c_overlay_find wf h_l.sq hy9) ?_
 rintro _ H11 ⟨rfl, e12⟩
 refine q_ (.tuple #[i_ y8.1, .bool y8.2]) (q_ (i_ y8.1) (q_ (.bool y8.2) (q_ (i_ y8.1) (q_ (.bool y8.2) (s_nil (k7 _ _ (w_seqk fun _ k13 => w_seqk fun _ k14 => g_' (q_ (.bool y8.2) (q_ (.bool (!y8.2)) (s_nil (k14 _ _ ?_)))))))))))
 refine w_cond ((!y8.2)) (by kernel_rfl) rfl (fun h15 => ?_) (fun h15 => ?_)
 ·have r16 := ite_t h15 r10
  refine w_seqk fun _ k17 => g_' (q_ (hd_l) (q_ (hd_l) (s_nil (k17 _ _ ?_))))
  refine w_ret (th_ret ?_)
  refine b_ret (fn := Try.f52) (vs := [hd_l]) (rt_ (rfl)) ?_
  have u18 := (h_l.fr e12 Dj.nil_l)
  obtain rfl := oi_ r16
  exact ⟨(hd_l), fp_l, rfl, (FrS.step wf (FrS.refl (W := fp_l) wf) e12 Inn.nil), u18, Inn.refl'⟩
 have r19 := ite_bf h15 r10
 refine w_skip (k13 _ _ (w_seqk fun _ k20 => g_' (q_ (hd_l) (q_ (i_ y8.1) (q_ (i_ y8.1) ?_)))))
 obtain ⟨g21, r22⟩ := G_some r19
 refine w_' (y8.1 + 1) (wrap64 g21) ?_
 have u23 := (h_l.fr e12 Dj.nil_l)
 obtain ⟨g24, r25⟩ := G_some r22
 refine s_ck 66 #[hd_l, i_ y8.1, i_ (y8.1 + 1)] (by kernel_rfl) (a_Delete e12.wf u23 g24) ?_
 rintro s26 H27 ⟨f28, e29, hm30, hf31⟩
 obtain ⟨a32, n33, c34, rfl⟩ := hm30.form
 refine q_ (.slice a32 n33 c34) (s_nil (k20 _ _ ?_))
 refine w_ret ?_
 refine b_ret (fn := Try.f52) (vs := [.slice a32 n33 c34]) (rt_ (rfl)) ?_
 obtain rfl := oi_ r25
 exact ⟨(.slice a32 n33 c34), f28, rfl, (FrS.step wf (FrS.step wf (FrS.refl (W := fp_l) wf) e12 Inn.nil) e29 Inn.refl'), hm30, (Inn.trans Inn.refl' e12.n hf31)⟩
theorem c_overlay_Overlay_Remove {H : AH} {b_o : Nat} {hd_o_ : Value} {fp_o_ : Fp} {o_ : List (Bool × List (Int × Int × Int) × List (Int × Int × Int))} {o_2 : Int} {o_3 : Int} {v_ : Int} {r : Er × List (Bool × List (Int × Int × Int) × List (Int × Int × Int)) × Int × Int}
    (wf : WF H) (h_o_ : Nd enc_i64_u64_i64 3 H hd_o_ o_ fp_o_ []) (h_o : Row H b_o [hd_o_, i_ o_2, i_ o_3]) (dj_fp_o__b_o : Dj fp_o_ [b_o]) (hr : z_overlay_Overlay_Remove o_ o_2 o_3 v_ = some r) :
    ACalls Try.prog 34 #[pt_ b_o 0, i_ v_] H fun v H' => ∃ (v3 : Value) (f4 : Fp) (f7 : Fp), v = v3 ∧ FrS ([b_o] ++ fp_o_) H H' ∧ Ev 90 129 H' v3 r.1 f4 ∧ Nd enc_i64_u64_i64 3 H' hd_o_ r.2.1 f7 [] ∧ Row H' b_o [hd_o_, i_ r.2.2.1, i_ r.2.2.2] ∧ Inn [] H f4 ∧ Inn fp_o_ H f7 ∧ Dj f4 f7 := by
 refine acalls_of_body mixed Try.func34 rfl (Nat.le_of_ble_eq_true rfl) ?_
 unfold z_overlay_Overlay_Remove at hr
 refine w_seqk fun _ k13 => g_' (q_ (.nilIface) (s_nil (k13 _ _ (w_seqk fun _ k14 => w_seqk fun _ k15 => g_' (q_ (pt_ b_o 0) (q_ (.bool false) (s_nil (k15 _ _ ?_))))))))
 refine w_cond false (by kernel_rfl) rfl (fun h => by cases h) (fun _ => ?_)
 refine w_skip (k14 _ _ (w_seqk fun _ k16 => w_seqk fun _ k17 => g_' (q_ (pt_ b_o 0) (q_ (i_ v_) ?_))))
 obtain ⟨y18, hy19, r20⟩ := bind_some hr
 refine s_ck 24 #[pt_ b_o 0, i_ v_] (by kernel_rfl) (c_overlay_Overlay_Alive wf h_o_ h_o hy19) ?_
 rintro _ _ ⟨rfl, rfl⟩
 refine q_ (.bool (!y18)) (s_nil (k17 _ _ ?_))
 refine w_cond ((!y18)) (by kernel_rfl) rfl (fun h23 => ?_) (fun h23 => ?_)
 ·have r24 := ite_t h23 r20
  refine w_seqk fun _ k25 => g_' (q_ (.iface 90 (i_ 7)) (q_ (.iface 90 (i_ 7)) (s_nil (k25 _ _ ?_))))
  refine w_ret (th_ret ?_)
  refine b_ret (fn := Try.f34) (vs := [.iface 90 (i_ 7)]) (rt_ (rfl)) ?_
  obtain rfl := oi_ r24
  exact ⟨(.iface 90 (i_ 7)), [], fp_o_, rfl, (FrS.refl (W := ([b_o] ++ fp_o_)) wf), Ev.no, h_o_, h_o, Inn.nil, Inn.refl', Dj.nil_l⟩
 have r26 := ite_bf h23 r20
 refine w_skip (k16 _ _ (w_seqk fun _ k27 => g_' (q_ (pt_ b_o 0) (q_ (pt_ b_o 0) (q_ (pt_ b_o 0) ?_)))))
 refine l_' (hd_o_) (aL_ 114 (pt_ b_o 0) H) (h_o.l_) ?_
 refine q_ (i_ v_) ?_
 obtain ⟨g28, r29⟩ := G_some r26
 refine l_' (elp hd_o_ 3 v_.toNat 0) (aIndexAddr Try.prog 114 hd_o_ (i_ v_)) (h_o_.idxb (by kernel_rfl) g28.1 g28.2) ?_
 obtain ⟨u30, u31, f32, g33, g34, hl35, hm36, ho37, ho38, d39, d40, d41, hs42, hs43, hs44⟩ := Nd.open2 h_o_ g28.1 g28.2
 have w45 := Inn.sub' (H := H) hs42
 have w46 := Inn.sub' (H := H) hs43
 have w47 := Inn.sub' (H := H) hs44
 obtain ⟨a48, n49, c50, rfl⟩ := ho37.form
 obtain ⟨a51, n52, c53, rfl⟩ := ho38.form
 refine l_' (.agg #[.bool ((gt o_ v_).1), .slice a48 n49 c50, .slice a51 n52 c53]) (aL_ 120 (elp hd_o_ 3 v_.toNat 0) H) (hl35 _ _ _ (by kernel_rfl)) ?_
 refine s_rwk wf [.bool false, .slice none 0 0, .slice none 0 0] (by kernel_rfl) fun b56 H57 e58 hb59 r60 => ?_
 have u66 := (ho38.ext e58)
 have u67 := (ho37.ext e58)
 obtain ⟨H62, q63, e64, r65⟩ := Row.store (P := Try.prog) (t := 120) (p := 0) e58.wf r60 (.agg #[.bool ((gt o_ v_).1), .slice a48 n49 c50, .slice a51 n52 c53]) [.bool ((gt o_ v_).1), .slice a48 n49 c50, .slice a51 n52 c53] (by kernel_rfl) (by kernel_rfl) (one_cons (rfl) (one_cons (u67.one1) (one_cons (u66.one1) (one_nil)))) (Nat.le_of_ble_eq_true (by kernel_rfl)) [.bool ((gt o_ v_).1), .slice a48 n49 c50, .slice a51 n52 c53] (by kernel_rfl)
 refine s_ek (undef) (by kernel_rfl) (map_ok q63) ?_
 refine s_nil (k27 _ _ (w_seqk fun _ k68 => w_seqk fun _ k69 => g_' (q_ (pt_ b56 1) ?_)))
 refine l_' (.slice a48 n49 c50) (aL_ 69 (pt_ b56 1) H62) (r65.l_) ?_
 have u70 := (u67.fr e64 (hb59.djn ho37.lt))
 refine l_' (i_ (((gt o_ v_).2.1).length : Int)) (aLen Try.prog 69 (.slice a48 n49 c50) H62) (u70.sq.lenb (by kernel_rfl)) ?_
 refine q_ (i_ 0) (s_nil (k69 _ _ ?_))
 obtain ⟨o71, hx72, r73⟩ := bind_some r29
 refine w_mid (fun α H74 => ∃ (f78 : Fp), Has α [(0, pt_ b_o 0), (1, i_ v_), (5, pt_ b56 0)] ∧ FrS f32 H62 H74 ∧ Nd enc_i64_u64_i64 3 H74 hd_o_ o71 f78 [(v_.toNat, true), (v_.toNat, false)] ∧ Inn f32 H62 f78) (fun _ k80 => ?_) (fun α H74 hM => ?_)
 ·refine w_block ?_
  obtain ⟨n82, hn83⟩ := loopO_iff.1 hx72
  have u96 := ((hm36.ext e58).fr e64 (hb59.djn hm36.lt))
  refine w_loopn (fun n α H84 => ∃ (o0 : List (Bool × List (Int × Int × Int) × List (Int × Int × Int))), ∃ (i1 : Int), ∃ (f88 : Fp), iterO (fun zz_ => z_overlay_Overlay_Remove_l0 o_ v_ zz_.1 zz_.2) n (o0, i1) = some o71 ∧ Has α [(0, pt_ b_o 0), (1, i_ v_), (5, pt_ b56 0), (26, .slice a48 n49 c50), (27, i_ (((gt o_ v_).2.1).length : Int)), (28, i_ i1)] ∧ FrS f32 H62 H84 ∧ Nd enc_i64_u64_i64 3 H84 hd_o_ o0 f88 [(v_.toNat, true), (v_.toNat, false)] ∧ Inn f32 H62 f88) n82 ⟨o_, 0, f32, hn83, ha_, (FrS.refl (W := f32) e64.wf), u96, Inn.refl'⟩ ?_
  rintro n82 α H84 ⟨o0, i1, f88, hi91, hh90, e85, m87, i89⟩ K97 k97
  obtain ⟨n92, z93, rfl, hz94, hn95⟩ := iter_succ hi91
  obtain ⟨β, rfl⟩ := has_ex hh90
  clear hh90
  replace hz94 : z_overlay_Overlay_Remove_l0 o_ v_ o0 i1 = some z93 := hz94
  unfold z_overlay_Overlay_Remove_l0 at hz94
  refine w_seqk fun _ k98 => g_' (q_ (.bool (decide (i1 < (((gt o_ v_).2.1).length : Int)))) (s_nil (k98 _ _ (w_seqk fun _ k99 => ?_))))
  refine w_condp (i1 < (((gt o_ v_).2.1).length : Int)) (by kernel_rfl) rfl (fun h100 => ?_) (fun h100 => ?_)
  ·have r101 := ite_t h100 hz94
   refine w_skip (k99 _ _ (w_seqk fun _ k102 => w_block (w_seqk fun _ k103 => g_' ?_)))
   obtain ⟨g104, r105⟩ := G_some r101
   have u106 := (u70.fr e85 d39)
   refine l_' (elp (.slice a48 n49 c50) 3 i1.toNat 0) (aIndexAddr Try.prog 69 (.slice a48 n49 c50) (i_ i1)) (u106.sq.idxb (by kernel_rfl) g104 h100) ?_
   refine l_' (.agg #[i_ ((gt ((gt o_ v_).2.1) i1).1), .int .u64 ((gt ((gt o_ v_).2.1) i1).2.1), i_ ((gt ((gt o_ v_).2.1) i1).2.2)]) (aL_ 71 (elp (.slice a48 n49 c50) 3 i1.toNat 0) H84) (u106.sq.ld g104 h100 (by kernel_rfl)) ?_
   refine s_rwk e85.wf [i_ 0, .int .u64 0, i_ 0] (by kernel_rfl) fun b107 H108 e109 hb110 r111 => ?_
   obtain ⟨H113, q114, e115, r116⟩ := Row.store (P := Try.prog) (t := 71) (p := 0) e109.wf r111 (.agg #[i_ ((gt ((gt o_ v_).2.1) i1).1), .int .u64 ((gt ((gt o_ v_).2.1) i1).2.1), i_ ((gt ((gt o_ v_).2.1) i1).2.2)]) [i_ ((gt ((gt o_ v_).2.1) i1).1), .int .u64 ((gt ((gt o_ v_).2.1) i1).2.1), i_ ((gt ((gt o_ v_).2.1) i1).2.2)] (by kernel_rfl) (by kernel_rfl) (one_cons (rfl) (one_cons (rfl) (one_cons (rfl) (one_nil)))) (Nat.le_of_ble_eq_true (by kernel_rfl)) [i_ ((gt ((gt o_ v_).2.1) i1).1), .int .u64 ((gt ((gt o_ v_).2.1) i1).2.1), i_ ((gt ((gt o_ v_).2.1) i1).2.2)] (by kernel_rfl)
   refine s_ek (undef) (by kernel_rfl) (map_ok q114) ?_
   refine s_nil (k103 _ _ ?_)
   refine w_draw [0, 1, 2, 3, 4, 5, 6, 7, 8, 9, 10, 11, 12, 13, 14, 15, 16, 17, 18, 19] (by kernel_rfl) ?_
   refine e_' (pt_ b_o 0) (e_' (pt_ b_o 0) (e_' (pt_ b_o 0) ?_))
   have u117 := (((((h_o.ext e58).frS e64 (hb59.djn h_o.ltF)).frS e85 (w45.dj dj_fp_o__b_o h_o.ltF)).ext e109).frS e115 (hb110.djn (h_o.ltF.le (t_ (t_ e58.n e64.n) e85.n))))
   refine d_fl (hd_o_) (x := aL_ 114 (pt_ b_o 0) H113) (by kernel_rfl) (u117.l_) ?_
   refine e_' (pt_ b107 0) ?_
   refine d_fl (i_ ((gt ((gt o_ v_).2.1) i1).1)) (x := aL_ 3 (pt_ b107 0) H113) (by kernel_rfl) (r116.l_) ?_
   refine e_' (pt_ b_o 0) (e_' (pt_ b_o 0) (e_' (pt_ b_o 0) ?_))
   refine m_' (hd_o_) (aL_ 114 (pt_ b_o 0) H113) (u117.l_) ?_
   refine e_' (pt_ b107 0) ?_
   refine m_' (i_ ((gt ((gt o_ v_).2.1) i1).1)) (aL_ 3 (pt_ b107 0) H113) (r116.l_) ?_
   obtain ⟨g118, r119⟩ := G_some r105
   have u120 := ((m87.ext e109).fr e115 (hb110.djn m87.lt))
   refine m_' (elp hd_o_ 3 ((gt ((gt o_ v_).2.1) i1).1).toNat 0) (aIndexAddr Try.prog 114 hd_o_ (i_ ((gt ((gt o_ v_).2.1) i1).1))) (u120.idxb (by kernel_rfl) g118.1 g118.2) ?_
   refine m_' (elp hd_o_ 3 ((gt ((gt o_ v_).2.1) i1).1).toNat 2) (aFieldAddr Try.prog 120 (elp hd_o_ 3 ((gt ((gt o_ v_).2.1) i1).1).toNat 0) 2) (Nd.fldq (d := 2) u120 g118.1 g118.2 (by kernel_rfl)) ?_
   obtain ⟨g125, r126⟩ := G_some r119
   obtain ⟨u121, u122, hl123, hk124⟩ := Nd.at u120 g118.1 g118.2
   have kd127 : KdS enc_i64_u64_i64 3 H113 u122 ((gt o0 ((gt ((gt o_ v_).2.1) i1).1)).2.2) f88 hd_o_ 3 ((gt ((gt o_ v_).2.1) i1).1).toNat 2 := hk124 true (by have := g125; have := g118.1; have := g28.1; simp; omega)
   obtain ⟨a128, n129, c130, rfl⟩ := kd127.sq.form
   refine m_' (.slice a128 n129 c130) (aL_ 69 (elp hd_o_ 3 ((gt ((gt o_ v_).2.1) i1).1).toNat 2) H113) (hl123 _ _ _ _ (by kernel_rfl)) ?_
   refine e_' (i_ v_) ?_
   obtain ⟨f132, f133, hh134, ho135, d136, hs137, hs138⟩ := Nd.borrow true u120 g118.1 g118.2 (by have := g125; have := g118.1; have := g28.1; simp; omega) kd127 rfl
   have w139 := Inn.sub' (H := H113) hs137
   have w140 := Inn.sub' (H := H113) hs138
   have hh134 : Nd enc_i64_u64_i64 3 H113 hd_o_ o0 f132 [(((gt ((gt o_ v_).2.1) i1).1).toNat, true), (v_.toNat, true), (v_.toNat, false)] := hh134
   obtain ⟨y141, hy142, r143⟩ := bind_some r126
   refine d_ck 52 #[.slice a128 n129 c130, i_ v_] (by kernel_rfl) (c_overlay_without e115.wf ho135 hy142) ?_
   rintro s144 H146 ⟨_, f145, rfl, e147, m148, i149⟩
   obtain ⟨a151, n152, c153, rfl⟩ := m148.form
   have u154 := (u117.frS e147 (w140.dj (i89.dj (w45.dj dj_fp_o__b_o h_o.ltF) (h_o.ltF.le (t_ e58.n e64.n))) (h_o.ltF.le (t_ (t_ (t_ (t_ e58.n e64.n) e85.n) e109.n) e115.n))))
   have u155 := (r116.frS e147 (w140.dj (Dj.symm (hb110.djn m87.lt)) (r111.ltF.le e115.n)))
   refine ⟨st_ql (y := aL_ 3 (pt_ b107 0) H146) (by kernel_rfl) (u155.l_) (st_ql (y := aL_ 114 (pt_ b_o 0) H146) (by kernel_rfl) (u154.l_) (st_nil)), ?_⟩
   have u156 := (hh134.fr e147 (Dj.symm d136))
   refine m_' (elp hd_o_ 3 ((gt ((gt o_ v_).2.1) i1).1).toNat 0) (aIndexAddr Try.prog 114 hd_o_ (i_ ((gt ((gt o_ v_).2.1) i1).1))) (u156.idxb (by kernel_rfl) g118.1 g118.2) ?_
   refine m_' (elp hd_o_ 3 ((gt ((gt o_ v_).2.1) i1).1).toNat 2) (aFieldAddr Try.prog 120 (elp hd_o_ 3 ((gt ((gt o_ v_).2.1) i1).1).toNat 0) 2) (Nd.fldq (d := 2) u156 g118.1 g118.2 (by kernel_rfl)) ?_
   obtain ⟨H157, f158, q159, e160, hm161, hf162⟩ := Nd.close (P := Try.prog) (t := 69) true e147.wf u156 m148 (Dj.symm (i149.dj (Dj.symm d136) hh134.lt)) g118.1 g118.2 (by kernel_rfl) (by kernel_rfl) (by kernel_rfl)
   have hm161 : Nd enc_i64_u64_i64 3 H157 hd_o_ (o0.set ((gt ((gt o_ v_).2.1) i1).1).toNat ((gt o0 ((gt ((gt o_ v_).2.1) i1).1)).1, (gt o0 ((gt ((gt o_ v_).2.1) i1).1)).2.1, y141)) f158 [(v_.toNat, true), (v_.toNat, false)] := hm161
   have w163 := hf162.grow3 (Inn.trans Inn.refl' (Nat.le_refl _) w139) (Inn.trans (Inn.trans Inn.refl' (Nat.le_refl _) w140) (Nat.le_refl _) i149) e147.n
   refine d_ek (undef) (by kernel_rfl) (map_ok q159) (st_anc (by kernel_rfl) (st_anc (by kernel_rfl) (st_nil))) ?_
   refine d_nil ?_
   refine k102 _ _ (g_' ?_)
   obtain ⟨g164, r165⟩ := G_some r143
   refine w_' (i1 + 1) (wrap64 (by have := g164; omega)) ?_
   refine q_ (i_ (i1 + 1)) (s_nil ?_)
   obtain rfl := oi_ r165
   exact k97 n92 _ _ (Nat.lt_succ_self _) ⟨(o0.set ((gt ((gt o_ v_).2.1) i1).1).toNat ((gt o0 ((gt ((gt o_ v_).2.1) i1).1)).1, (gt o0 ((gt ((gt o_ v_).2.1) i1).1)).2.1, y141)), (i1 + 1), f158, hn95, ha_, (FrS.step e64.wf (FrS.step e64.wf (FrS.step e64.wf ((FrS.step e64.wf (FrS.refl (W := f32) e64.wf) e85 Inn.refl').extR e109) e115 (hb110.fresh e85.n)) e147 (Inn.trans (Inn.trans Inn.refl' (Nat.le_refl _) i89) (t_ (t_ e85.n e109.n) e115.n) w140)) e160 (Inn.trans (Inn.trans Inn.refl' (Nat.le_refl _) i89) (t_ (t_ e85.n e109.n) e115.n) w139)), hm161, (Inn.trans (Inn.trans Inn.refl' (Nat.le_refl _) i89) (t_ (t_ e85.n e109.n) e115.n) w163)⟩
  have r166 := ite_f h100 hz94
  refine w_exit (th_exit (th_exit (bl_eq ?_)))
  obtain rfl := oi_ r166
  obtain rfl := it_inr hn95
  exact k80 _ _ ⟨f88, ha_, (FrS.step e64.wf (FrS.refl (W := f32) e64.wf) e85 Inn.refl'), m87, (Inn.trans Inn.refl' (Nat.le_refl _) i89)⟩
 obtain ⟨f78, hh81, e75, m77, i79⟩ := hM
 obtain ⟨β, rfl⟩ := has_ex hh81
 clear hh81
 refine k68 _ _ (w_seqk fun _ k167 => w_seqk fun _ k168 => g_' (q_ (pt_ b56 2) ?_))
 have u169 := (r65.frS e75 (Dj.symm (hb59.djn hm36.lt)))
 refine l_' (.slice a51 n52 c53) (aL_ 69 (pt_ b56 2) H74) (u169.l_) ?_
 have u170 := ((u66.fr e64 (hb59.djn ho38.lt)).fr e75 d40)
 refine l_' (i_ (((gt o_ v_).2.2).length : Int)) (aLen Try.prog 69 (.slice a51 n52 c53) H74) (u170.sq.lenb (by kernel_rfl)) ?_
 refine q_ (i_ 0) (s_nil (k168 _ _ ?_))
 obtain ⟨o171, hx172, r173⟩ := bind_some r73
 refine w_mid (fun α H174 => ∃ (f178 : Fp), Has α [(0, pt_ b_o 0), (1, i_ v_), (5, pt_ b56 0)] ∧ FrS f78 H74 H174 ∧ Nd enc_i64_u64_i64 3 H174 hd_o_ o171 f178 [(v_.toNat, true), (v_.toNat, false)] ∧ Inn f78 H74 f178) (fun _ k180 => ?_) (fun α H174 hM => ?_)
 ·refine w_block ?_
  obtain ⟨n182, hn183⟩ := loopO_iff.1 hx172
  refine w_loopn (fun n α H184 => ∃ (o2 : List (Bool × List (Int × Int × Int) × List (Int × Int × Int))), ∃ (i3 : Int), ∃ (f188 : Fp), iterO (fun zz_ => z_overlay_Overlay_Remove_l1 o_ v_ zz_.1 zz_.2) n (o2, i3) = some o171 ∧ Has α [(0, pt_ b_o 0), (1, i_ v_), (5, pt_ b56 0), (53, .slice a51 n52 c53), (54, i_ (((gt o_ v_).2.2).length : Int)), (55, i_ i3)] ∧ FrS f78 H74 H184 ∧ Nd enc_i64_u64_i64 3 H184 hd_o_ o2 f188 [(v_.toNat, true), (v_.toNat, false)] ∧ Inn f78 H74 f188) n182 ⟨o71, 0, f78, hn183, ha_, (FrS.refl (W := f78) e75.wf), m77, Inn.refl'⟩ ?_
  rintro n182 α H184 ⟨o2, i3, f188, hi191, hh190, e185, m187, i189⟩ K196 k196
  obtain ⟨n192, z193, rfl, hz194, hn195⟩ := iter_succ hi191
  obtain ⟨β, rfl⟩ := has_ex hh190
  clear hh190
  replace hz194 : z_overlay_Overlay_Remove_l1 o_ v_ o2 i3 = some z193 := hz194
  unfold z_overlay_Overlay_Remove_l1 at hz194
  refine w_seqk fun _ k197 => g_' (q_ (.bool (decide (i3 < (((gt o_ v_).2.2).length : Int)))) (s_nil (k197 _ _ (w_seqk fun _ k198 => ?_))))
  refine w_condp (i3 < (((gt o_ v_).2.2).length : Int)) (by kernel_rfl) rfl (fun h199 => ?_) (fun h199 => ?_)
  ·have r200 := ite_t h199 hz194
   refine w_skip (k198 _ _ (w_seqk fun _ k201 => w_block (w_seqk fun _ k202 => g_' ?_)))
   obtain ⟨g203, r204⟩ := G_some r200
   have u205 := (u170.fr e185 (i79.dj d40 (ho38.lt.le (t_ e58.n e64.n))))
   refine l_' (elp (.slice a51 n52 c53) 3 i3.toNat 0) (aIndexAddr Try.prog 69 (.slice a51 n52 c53) (i_ i3)) (u205.sq.idxb (by kernel_rfl) g203 h199) ?_
   refine l_' (.agg #[i_ ((gt ((gt o_ v_).2.2) i3).1), .int .u64 ((gt ((gt o_ v_).2.2) i3).2.1), i_ ((gt ((gt o_ v_).2.2) i3).2.2)]) (aL_ 71 (elp (.slice a51 n52 c53) 3 i3.toNat 0) H184) (u205.sq.ld g203 h199 (by kernel_rfl)) ?_
   refine s_rwk e185.wf [i_ 0, .int .u64 0, i_ 0] (by kernel_rfl) fun b206 H207 e208 hb209 r210 => ?_
   obtain ⟨H212, q213, e214, r215⟩ := Row.store (P := Try.prog) (t := 71) (p := 0) e208.wf r210 (.agg #[i_ ((gt ((gt o_ v_).2.2) i3).1), .int .u64 ((gt ((gt o_ v_).2.2) i3).2.1), i_ ((gt ((gt o_ v_).2.2) i3).2.2)]) [i_ ((gt ((gt o_ v_).2.2) i3).1), .int .u64 ((gt ((gt o_ v_).2.2) i3).2.1), i_ ((gt ((gt o_ v_).2.2) i3).2.2)] (by kernel_rfl) (by kernel_rfl) (one_cons (rfl) (one_cons (rfl) (one_cons (rfl) (one_nil)))) (Nat.le_of_ble_eq_true (by kernel_rfl)) [i_ ((gt ((gt o_ v_).2.2) i3).1), .int .u64 ((gt ((gt o_ v_).2.2) i3).2.1), i_ ((gt ((gt o_ v_).2.2) i3).2.2)] (by kernel_rfl)
   refine s_ek (undef) (by kernel_rfl) (map_ok q213) ?_
   refine s_nil (k202 _ _ ?_)
   refine w_draw [0, 1, 2, 3, 4, 5, 6, 7, 8, 9, 10, 11, 12, 13, 14, 15, 16, 17, 18, 19] (by kernel_rfl) ?_
   refine e_' (pt_ b_o 0) (e_' (pt_ b_o 0) (e_' (pt_ b_o 0) ?_))
   have u216 := ((((((h_o.ext e58).frS e64 (hb59.djn h_o.ltF)).frS e75 (w45.dj dj_fp_o__b_o h_o.ltF)).frS e185 (i79.dj (w45.dj dj_fp_o__b_o h_o.ltF) (h_o.ltF.le (t_ e58.n e64.n)))).ext e208).frS e214 (hb209.djn (h_o.ltF.le (t_ (t_ (t_ e58.n e64.n) e75.n) e185.n))))
   refine d_fl (hd_o_) (x := aL_ 114 (pt_ b_o 0) H212) (by kernel_rfl) (u216.l_) ?_
   refine e_' (pt_ b206 0) ?_
   refine d_fl (i_ ((gt ((gt o_ v_).2.2) i3).1)) (x := aL_ 3 (pt_ b206 0) H212) (by kernel_rfl) (r215.l_) ?_
   refine e_' (pt_ b_o 0) (e_' (pt_ b_o 0) (e_' (pt_ b_o 0) ?_))
   refine m_' (hd_o_) (aL_ 114 (pt_ b_o 0) H212) (u216.l_) ?_
   refine e_' (pt_ b206 0) ?_
   refine m_' (i_ ((gt ((gt o_ v_).2.2) i3).1)) (aL_ 3 (pt_ b206 0) H212) (r215.l_) ?_
   obtain ⟨g217, r218⟩ := G_some r204
   have u219 := ((m187.ext e208).fr e214 (hb209.djn m187.lt))
   refine m_' (elp hd_o_ 3 ((gt ((gt o_ v_).2.2) i3).1).toNat 0) (aIndexAddr Try.prog 114 hd_o_ (i_ ((gt ((gt o_ v_).2.2) i3).1))) (u219.idxb (by kernel_rfl) g217.1 g217.2) ?_
   refine m_' (elp hd_o_ 3 ((gt ((gt o_ v_).2.2) i3).1).toNat 1) (aFieldAddr Try.prog 120 (elp hd_o_ 3 ((gt ((gt o_ v_).2.2) i3).1).toNat 0) 1) (Nd.fldq (d := 1) u219 g217.1 g217.2 (by kernel_rfl)) ?_
   obtain ⟨g224, r225⟩ := G_some r218
   obtain ⟨u220, u221, hl222, hk223⟩ := Nd.at u219 g217.1 g217.2
   have kd226 : KdS enc_i64_u64_i64 3 H212 u220 ((gt o2 ((gt ((gt o_ v_).2.2) i3).1)).2.1) f188 hd_o_ 3 ((gt ((gt o_ v_).2.2) i3).1).toNat 1 := hk223 false (by have := g224; have := g217.1; have := g28.1; simp; omega)
   obtain ⟨a227, n228, c229, rfl⟩ := kd226.sq.form
   refine m_' (.slice a227 n228 c229) (aL_ 69 (elp hd_o_ 3 ((gt ((gt o_ v_).2.2) i3).1).toNat 1) H212) (hl222 _ _ _ _ (by kernel_rfl)) ?_
   refine e_' (i_ v_) ?_
   obtain ⟨f231, f232, hh233, ho234, d235, hs236, hs237⟩ := Nd.borrow false u219 g217.1 g217.2 (by have := g224; have := g217.1; have := g28.1; simp; omega) kd226 rfl
   have w238 := Inn.sub' (H := H212) hs236
   have w239 := Inn.sub' (H := H212) hs237
   have hh233 : Nd enc_i64_u64_i64 3 H212 hd_o_ o2 f231 [(((gt ((gt o_ v_).2.2) i3).1).toNat, false), (v_.toNat, true), (v_.toNat, false)] := hh233
   obtain ⟨y240, hy241, r242⟩ := bind_some r225
   refine d_ck 52 #[.slice a227 n228 c229, i_ v_] (by kernel_rfl) (c_overlay_without e214.wf ho234 hy241) ?_
   rintro s243 H245 ⟨_, f244, rfl, e246, m247, i248⟩
   obtain ⟨a250, n251, c252, rfl⟩ := m247.form
   have u253 := (u216.frS e246 (w239.dj (i189.dj (i79.dj (w45.dj dj_fp_o__b_o h_o.ltF) (h_o.ltF.le (t_ e58.n e64.n))) (h_o.ltF.le (t_ (t_ e58.n e64.n) e75.n))) (h_o.ltF.le (t_ (t_ (t_ (t_ (t_ e58.n e64.n) e75.n) e185.n) e208.n) e214.n))))
   have u254 := (r215.frS e246 (w239.dj (Dj.symm (hb209.djn m187.lt)) (r210.ltF.le e214.n)))
   refine ⟨st_ql (y := aL_ 3 (pt_ b206 0) H245) (by kernel_rfl) (u254.l_) (st_ql (y := aL_ 114 (pt_ b_o 0) H245) (by kernel_rfl) (u253.l_) (st_nil)), ?_⟩
   have u255 := (hh233.fr e246 (Dj.symm d235))
   refine m_' (elp hd_o_ 3 ((gt ((gt o_ v_).2.2) i3).1).toNat 0) (aIndexAddr Try.prog 114 hd_o_ (i_ ((gt ((gt o_ v_).2.2) i3).1))) (u255.idxb (by kernel_rfl) g217.1 g217.2) ?_
   refine m_' (elp hd_o_ 3 ((gt ((gt o_ v_).2.2) i3).1).toNat 1) (aFieldAddr Try.prog 120 (elp hd_o_ 3 ((gt ((gt o_ v_).2.2) i3).1).toNat 0) 1) (Nd.fldq (d := 1) u255 g217.1 g217.2 (by kernel_rfl)) ?_
   obtain ⟨H256, f257, q258, e259, hm260, hf261⟩ := Nd.close (P := Try.prog) (t := 69) false e246.wf u255 m247 (Dj.symm (i248.dj (Dj.symm d235) hh233.lt)) g217.1 g217.2 (by kernel_rfl) (by kernel_rfl) (by kernel_rfl)
   have hm260 : Nd enc_i64_u64_i64 3 H256 hd_o_ (o2.set ((gt ((gt o_ v_).2.2) i3).1).toNat ((gt o2 ((gt ((gt o_ v_).2.2) i3).1)).1, y240, (gt o2 ((gt ((gt o_ v_).2.2) i3).1)).2.2)) f257 [(v_.toNat, true), (v_.toNat, false)] := hm260
   have w262 := hf261.grow3 (Inn.trans Inn.refl' (Nat.le_refl _) w238) (Inn.trans (Inn.trans Inn.refl' (Nat.le_refl _) w239) (Nat.le_refl _) i248) e246.n
   refine d_ek (undef) (by kernel_rfl) (map_ok q258) (st_anc (by kernel_rfl) (st_anc (by kernel_rfl) (st_nil))) ?_
   refine d_nil ?_
   refine k201 _ _ (g_' ?_)
   obtain ⟨g263, r264⟩ := G_some r242
   refine w_' (i3 + 1) (wrap64 (by have := g263; omega)) ?_
   refine q_ (i_ (i3 + 1)) (s_nil ?_)
   obtain rfl := oi_ r264
   exact k196 n192 _ _ (Nat.lt_succ_self _) ⟨(o2.set ((gt ((gt o_ v_).2.2) i3).1).toNat ((gt o2 ((gt ((gt o_ v_).2.2) i3).1)).1, y240, (gt o2 ((gt ((gt o_ v_).2.2) i3).1)).2.2)), (i3 + 1), f257, hn195, ha_, (FrS.step e75.wf (FrS.step e75.wf (FrS.step e75.wf ((FrS.step e75.wf (FrS.refl (W := f78) e75.wf) e185 Inn.refl').extR e208) e214 (hb209.fresh e185.n)) e246 (Inn.trans (Inn.trans Inn.refl' (Nat.le_refl _) i189) (t_ (t_ e185.n e208.n) e214.n) w239)) e259 (Inn.trans (Inn.trans Inn.refl' (Nat.le_refl _) i189) (t_ (t_ e185.n e208.n) e214.n) w238)), hm260, (Inn.trans (Inn.trans Inn.refl' (Nat.le_refl _) i189) (t_ (t_ e185.n e208.n) e214.n) w262)⟩
  have r265 := ite_f h199 hz194
  refine w_exit (th_exit (th_exit (bl_eq ?_)))
  obtain rfl := oi_ r265
  obtain rfl := it_inr hn195
  exact k180 _ _ ⟨f188, ha_, (FrS.step e75.wf (FrS.refl (W := f78) e75.wf) e185 Inn.refl'), m187, (Inn.trans Inn.refl' (Nat.le_refl _) i189)⟩
 obtain ⟨f178, hh181, e175, m177, i179⟩ := hM
 obtain ⟨β, rfl⟩ := has_ex hh181
 clear hh181
 refine k167 _ _ (w_seqk fun _ k266 => ?_)
 refine w_draw [0, 1, 2, 3, 4, 5, 6, 7, 8, 9, 10, 11, 12, 13, 14] (by kernel_rfl) ?_
 refine e_' (pt_ b_o 0) (e_' (pt_ b_o 0) (e_' (pt_ b_o 2) ?_))
 have u267 := ((((h_o.ext e58).frS e64 (hb59.djn h_o.ltF)).frS e75 (w45.dj dj_fp_o__b_o h_o.ltF)).frS e175 (i79.dj (w45.dj dj_fp_o__b_o h_o.ltF) (h_o.ltF.le (t_ e58.n e64.n))))
 refine m_' (i_ o_3) (aL_ 3 (pt_ b_o 2) H174) (u267.l_) ?_
 refine e_' (pt_ b56 1) ?_
 have u268 := (u169.frS e175 (i79.dj (Dj.symm (hb59.djn hm36.lt)) (r60.ltF.le e64.n)))
 refine m_' (.slice a48 n49 c50) (aL_ 69 (pt_ b56 1) H174) (u268.l_) ?_
 have u269 := ((u70.fr e75 d39).fr e175 (i79.dj d39 (ho37.lt.le (t_ e58.n e64.n))))
 refine m_' (i_ (((gt o_ v_).2.1).length : Int)) (aLen Try.prog 69 (.slice a48 n49 c50) H174) (u269.sq.lenb (by kernel_rfl)) ?_
 refine e_' (pt_ b56 2) ?_
 refine m_' (.slice a51 n52 c53) (aL_ 69 (pt_ b56 2) H174) (u268.l_) ?_
 have u270 := (u170.fr e175 (i79.dj d40 (ho38.lt.le (t_ e58.n e64.n))))
 refine m_' (i_ (((gt o_ v_).2.2).length : Int)) (aLen Try.prog 69 (.slice a51 n52 c53) H174) (u270.sq.lenb (by kernel_rfl)) ?_
 obtain ⟨g271, r272⟩ := G_some r173
 refine d_w (((((gt o_ v_).2.1).length : Int) + (((gt o_ v_).2.2).length : Int))) (k := .i64) (x := ((((gt o_ v_).2.1).length : Int) + (((gt o_ v_).2.2).length : Int))) (by kernel_rfl) (wrap64 g271) ?_
 obtain ⟨g273, r274⟩ := G_some r272
 refine d_w ((o_3 - ((((gt o_ v_).2.1).length : Int) + (((gt o_ v_).2.2).length : Int)))) (k := .i64) (x := (o_3 - ((((gt o_ v_).2.1).length : Int) + (((gt o_ v_).2.2).length : Int)))) (by kernel_rfl) (wrap64 g273) ?_
 refine e_' (pt_ b_o 0) (e_' (pt_ b_o 2) ?_)
 obtain ⟨H275, q276, e277, r278⟩ := Row.store (P := Try.prog) (t := 3) (p := 2) e175.wf u267 (i_ (o_3 - ((((gt o_ v_).2.1).length : Int) + (((gt o_ v_).2.2).length : Int)))) [i_ (o_3 - ((((gt o_ v_).2.1).length : Int) + (((gt o_ v_).2.2).length : Int)))] (by kernel_rfl) (by kernel_rfl) (one_cons (rfl) (one_nil)) (Nat.le_of_ble_eq_true (by kernel_rfl)) [hd_o_, i_ o_2, i_ (o_3 - ((((gt o_ v_).2.1).length : Int) + (((gt o_ v_).2.2).length : Int)))] (by kernel_rfl)
 refine d_ek (undef) (by kernel_rfl) (map_ok q276) (st_nil) ?_
 refine d_nil ?_
 refine k266 _ _ (w_seqk fun _ k279 => g_' (q_ (pt_ b_o 0) (q_ (pt_ b_o 0) (q_ (pt_ b_o 1) ?_))))
 refine l_' (i_ o_2) (aL_ 3 (pt_ b_o 1) H275) (r278.l_) ?_
 obtain ⟨g280, r281⟩ := G_some r274
 refine w_' (o_2 - 1) (wrap64 g280) ?_
 refine q_ (pt_ b_o 0) (q_ (pt_ b_o 1) ?_)
 obtain ⟨H282, q283, e284, r285⟩ := Row.store (P := Try.prog) (t := 3) (p := 1) e277.wf r278 (i_ (o_2 - 1)) [i_ (o_2 - 1)] (by kernel_rfl) (by kernel_rfl) (one_cons (rfl) (one_nil)) (Nat.le_of_ble_eq_true (by kernel_rfl)) [hd_o_, i_ (o_2 - 1), i_ (o_3 - ((((gt o_ v_).2.1).length : Int) + (((gt o_ v_).2.2).length : Int)))] (by kernel_rfl)
 refine s_ek (undef) (by kernel_rfl) (map_ok q283) ?_
 refine s_nil (k279 _ _ (w_seqk fun _ k286 => g_' (q_ (pt_ b_o 0) (q_ (pt_ b_o 0) (q_ (pt_ b_o 0) ?_)))))
 refine l_' (hd_o_) (aL_ 114 (pt_ b_o 0) H282) (r285.l_) ?_
 refine q_ (i_ v_) (q_ (.agg #[.bool true, .slice none 0 0, .slice none 0 0]) ?_)
 obtain ⟨g287, r288⟩ := G_some r281
 have u289 := ((m177.fr e277 (Dj.symm (i179.dj (i79.dj (w45.dj dj_fp_o__b_o h_o.ltF) (h_o.ltF.le (t_ e58.n e64.n))) (h_o.ltF.le (t_ (t_ e58.n e64.n) e75.n))))).fr e284 (Dj.symm (i179.dj (i79.dj (w45.dj dj_fp_o__b_o h_o.ltF) (h_o.ltF.le (t_ e58.n e64.n))) (h_o.ltF.le (t_ (t_ e58.n e64.n) e75.n)))))
 refine l_' (elp hd_o_ 3 v_.toNat 0) (aIndexAddr Try.prog 114 hd_o_ (i_ v_)) (u289.idxb (by kernel_rfl) g28.1 g287) ?_
 obtain ⟨H290, q291, e292, hm293⟩ := Nd.clearAt (P := Try.prog) (t := 120) (v := .agg #[.bool true, .slice none 0 0, .slice none 0 0]) (b0 := true) (hol' := []) e284.wf u289 (by decide) g28.1 g287 (by kernel_rfl) (by kernel_rfl) (by simp)
 refine s_ek (undef) (by kernel_rfl) (map_ok q291) ?_
 refine s_nil (k286 _ _ (w_seqk fun _ k294 => g_' (q_ (.nilIface) (s_nil (k294 _ _ ?_)))))
 refine w_ret ?_
 refine b_ret (fn := Try.f34) (vs := [.nilIface]) (rt_ (rfl)) ?_
 have u295 := (r285.frS e292 (i179.dj (i79.dj (w45.dj dj_fp_o__b_o h_o.ltF) (h_o.ltF.le (t_ e58.n e64.n))) (h_o.ltF.le (t_ (t_ e58.n e64.n) e75.n))))
 obtain rfl := oi_ r288
 exact ⟨(.nilIface), [], f178, rfl, (FrS.step wf (FrS.step wf (FrS.step wf (FrS.step wf (FrS.step wf (FrS.step wf ((FrS.refl (W := ([b_o] ++ fp_o_)) wf).extR e58) e64 (hb59.fresh (Nat.le_refl _))) e75 (Inn.trans (Inn.right Inn.refl') (Nat.le_refl _) w45)) e175 (Inn.trans (Inn.trans (Inn.right Inn.refl') (Nat.le_refl _) w45) (t_ e58.n e64.n) i79)) e277 Inn.left) e284 Inn.left) e292 (Inn.trans (Inn.trans (Inn.trans (Inn.right Inn.refl') (Nat.le_refl _) w45) (t_ e58.n e64.n) i79) (t_ (t_ e58.n e64.n) e75.n) i179)), Ev.nil, hm293, u295, Inn.nil, (Inn.trans (Inn.trans (Inn.trans Inn.refl' (Nat.le_refl _) w45) (t_ e58.n e64.n) i79) (t_ (t_ e58.n e64.n) e75.n) i179), Dj.nil_l⟩
end Go.Vd

/-! (KWg5) -/

set_option maxRecDepth 100000
set_option maxHeartbeats 4000000
set_option linter.unusedVariables false
namespace Go.Vd
open Go.Proofs
attribute [local irreducible] wpSeq wpOrd aWp
theorem c_viaductlaw12_laid {H : AH} {hd_Arcs : Value} {fp_Arcs : Fp} {hd_script : Value} {fp_script : Fp} {N_ : Int} {Arcs : List (Int × Int × Int)} {script : List (Int × Int × Int × Int × Int)} {r : (List (Bool) × List (Int × Int × Int × Int) × Bool) ⊕ (List (Bool × List (Int × Int × Int) × List (Int × Int × Int)) × Int × Int × List (Bool) × List (Int × Int × Int × Int))}
    (wf : WF H) (h_Arcs : Sq enc_i64_i64_i64 3 H hd_Arcs Arcs fp_Arcs) (h_script : Sq enc_u8_i64_i64_u64_i64 5 H hd_script script fp_script) (hr : z_viaductlaw12_laid N_ Arcs script = some r) :
    ACalls Try.prog 7 #[.agg #[i_ N_, hd_Arcs], hd_script] H fun v H' => Sum.elim (fun (r : List (Bool) × List (Int × Int × Int × Int) × Bool) => ∃ (s3 : Value) (f4 : Fp) (s7 : Value) (f8 : Fp), v = .tuple #[.pointer none, .agg #[s3, s7], .bool r.2.2] ∧ FrS [] H H' ∧ Ow encB 1 H' s3 r.1 f4 ∧ Sq enc_i64_i64_u64_i64 4 H' s7 r.2.1 f8 ∧ Inn [] H f4 ∧ Inn [] H f8 ∧ Dj f4 f8) (fun (r : List (Bool × List (Int × Int × Int) × List (Int × Int × Int)) × Int × Int × List (Bool) × List (Int × Int × Int × Int)) => ∃ (s14 : Value) (f15 : Fp) (b18 : Nat) (s21 : Value) (f22 : Fp) (s25 : Value) (f26 : Fp), v = .tuple #[pt_ b18 0, .agg #[s21, s25], .bool true] ∧ FrS [] H H' ∧ Nd enc_i64_u64_i64 3 H' s14 r.1 f15 [] ∧ Row H' b18 [s14, i_ r.2.1, i_ r.2.2.1] ∧ Ow encB 1 H' s21 r.2.2.2.1 f22 ∧ Sq enc_i64_i64_u64_i64 4 H' s25 r.2.2.2.2 f26 ∧ Inn [] H f15 ∧ Inn [] H [b18] ∧ Inn [] H f22 ∧ Inn [] H f26 ∧ Dj f15 [b18] ∧ Dj f15 f22 ∧ Dj [b18] f22 ∧ Dj f15 f26 ∧ Dj [b18] f26 ∧ Dj f22 f26) r := by
 refine acalls_of_body mixed Try.func7 rfl (Nat.le_of_ble_eq_true rfl) ?_
 unfold z_viaductlaw12_laid at hr
 refine w_seqk fun _ k37 => g_' ?_
 refine s_rwl wf [i_ N_, hd_Arcs] (one_cons (rfl) (one_cons (h_Arcs.one1) (one_nil))) (by kernel_rfl) fun b38 H39 e40 hb41 r42 => ?_
 refine q_ (.pointer none) ?_
 refine s_rwk e40.wf [.slice none 0 0, .slice none 0 0] (by kernel_rfl) fun b44 H45 e46 hb47 r48 => ?_
 refine q_ (.bool false) (s_nil (k37 _ _ (w_seqk fun _ k50 => w_seqk fun _ k51 => ?_)))
 obtain ⟨o52, hx53, r54⟩ := bind_some hr
 refine w_mid (fun α H55 => Has α [(1, hd_script), (2, pt_ b38 0), (5, pt_ b44 0), (21, .bool o52)] ∧ FrS [] H45 H55) (fun _ k57 => ?_) (fun α H55 hM => ?_)
 ·refine g_' ?_
  have u59 := (r42.ext e46)
  refine l_' (.agg #[i_ N_, hd_Arcs]) (aL_ 24 (pt_ b38 0) H45) (u59.l_) ?_
  have u60 := ((h_Arcs.ext e40).ext e46)
  obtain ⟨y61, hy62, r63⟩ := bind_some hx53
  refine s_ck 21 #[.agg #[i_ N_, hd_Arcs], i_ 12] (by kernel_rfl) (c_viaductref04_Few e46.wf u60 hy62) ?_
  rintro _ H64 ⟨rfl, e65⟩
  by_cases h66 : y61 = true
  ·have r67 := ite_t h66 r63
   rw [h66]
   refine q_ (.bool false) (q_ (.bool false) (q_ (hd_script) ?_))
   have u69 := (((h_script.ext e40).ext e46).fr e65 Dj.nil_l)
   refine l_' (i_ (script.length : Int)) (aLen Try.prog 25 hd_script H64) (u69.lenb (by kernel_rfl)) ?_
   refine q_ (.bool (decide ((script.length : Int) > 60))) (q_ (.bool (decide ((script.length : Int) > 60))) (s_nil ?_))
   obtain rfl := oi_ r67
   exact k57 _ _ ⟨ha_, (FrS.step e46.wf (FrS.refl (W := []) e46.wf) e65 Inn.nil)⟩
  have r70 := ite_f h66 r63
  rw [nb h66]
  refine q_ (.bool true) (q_ (.bool true) (n_' (n_' (n_' (q_ (.bool true) (s_nil ?_))))))
  obtain rfl := oi_ r70
  exact k57 _ _ ⟨ha_, (FrS.step e46.wf (FrS.refl (W := []) e46.wf) e65 Inn.nil)⟩
 obtain ⟨hh58, e56⟩ := hM
 obtain ⟨β, rfl⟩ := has_ex hh58
 clear hh58
 refine k51 _ _ ?_
 refine w_cond (o52) (by kernel_rfl) rfl (fun h72 => ?_) (fun h72 => ?_)
 ·have r73 := ite_t h72 r54
  refine w_seqk fun _ k74 => g_' (q_ (.agg #[.slice none 0 0, .slice none 0 0]) (q_ (.pointer none) ?_))
  have u79 := (r48.frS e56 Dj.nil_l)
  obtain ⟨H75, q76, e77, r78⟩ := Row.store (P := Try.prog) (t := 33) (p := 0) e56.wf u79 (.agg #[.slice none 0 0, .slice none 0 0]) [.slice none 0 0, .slice none 0 0] (by kernel_rfl) (by kernel_rfl) (one_cons (rfl) (one_cons (rfl) (one_nil))) (Nat.le_of_ble_eq_true (by kernel_rfl)) [.slice none 0 0, .slice none 0 0] (by kernel_rfl)
  refine s_ek (undef) (by kernel_rfl) (map_ok q76) ?_
  refine q_ (.bool false) (s_nil (k74 _ _ ?_))
  refine w_ret (th_ret ?_)
  refine b_ret (fn := Try.f7) (vs := [.pointer none, .agg #[.slice none 0 0, .slice none 0 0], .bool false]) (aRes_tmp (by kernel_rfl) (aRes_cell (Eq.trans (b := aL_ 33 (pt_ b44 0) H75) (by kernel_rfl) (r78.l_)) (rt_ (rfl)))) ?_
  obtain rfl := oi_ r73
  exact (elimP_l ⟨(.slice none 0 0), [], (.slice none 0 0), [], rfl, (FrS.step wf (FrS.step wf (((f0_ wf).extR e40).extR e46) e56 Inn.nil) e77 (hb47.fresh e40.n)), (Ow.nil (by decide)), (Sq.nil (by decide)), Inn.nil, Inn.nil, Dj.nil_l⟩)
 have r80 := ite_bf h72 r54
 refine w_skip (k50 _ _ (w_seqk fun _ k81 => g_' ?_))
 have u82 := ((r42.ext e46).frS e56 Dj.nil_l)
 refine l_' (.agg #[i_ N_, hd_Arcs]) (aL_ 24 (pt_ b38 0) H55) (u82.l_) ?_
 have u83 := (((h_Arcs.ext e40).ext e46).fr e56 Dj.nil_l)
 obtain ⟨y84, hy85, r86⟩ := bind_some r80
 rcases y84 with y87 | y88
 ·have r89 := elim_l r86
  refine s_ck 22 #[.agg #[i_ N_, hd_Arcs]] (by kernel_rfl) (c_overlay_New e56.wf u83 hy85) ?_
  rintro _ H92 ⟨v90, f91, rfl, e93, m94, i95⟩
  refine q_ (.tuple #[.pointer none, v90]) (q_ (.pointer none) (q_ (v90) (q_ (.pointer none) (q_ (v90) (s_nil (k81 _ _ (w_seqk fun _ k97 => g_' ?_)))))))
  have u98 := (u82.frS e93 Dj.nil_l)
  refine l_' (.agg #[i_ N_, hd_Arcs]) (aL_ 24 (pt_ b38 0) H92) (u98.l_) ?_
  have u99 := (u83.fr e93 Dj.nil_l)
  obtain ⟨y100, hy101, r102⟩ := bind_some r89
  refine s_ck 29 #[.agg #[i_ N_, hd_Arcs]] (by kernel_rfl) (c_viaductref11_DocNew e93.wf u99 hy101) ?_
  rintro _ H109 ⟨s103, f104, s105, f106, s107, f108, rfl, e110, m111, m112, m113, i114, i115, i116, d117, d118, d119⟩
  obtain ⟨a123, n124, c125, rfl⟩ := m111.form
  obtain ⟨a126, n127, c128, rfl⟩ := m112.form
  obtain ⟨a129, n130, c131, rfl⟩ := m113.form
  refine q_ (.tuple #[.agg #[.slice a123 n124 c125, .slice a126 n127 c128], .agg #[i_ y100.2.2.1, .slice a129 n130 c131]]) (q_ (.agg #[.slice a123 n124 c125, .slice a126 n127 c128]) (q_ (.agg #[i_ y100.2.2.1, .slice a129 n130 c131]) ?_))
  refine s_rwk e110.wf [.slice none 0 0, .slice none 0 0] (by kernel_rfl) fun b132 H133 e134 hb135 r136 => ?_
  refine s_rwk e134.wf [i_ 0, .slice none 0 0] (by kernel_rfl) fun b138 H139 e140 hb141 r142 => ?_
  have u148 := (r136.ext e140)
  have u149 := ((m112.ext e134).ext e140)
  have u150 := ((m111.ext e134).ext e140)
  obtain ⟨H144, q145, e146, r147⟩ := Row.store (P := Try.prog) (t := 33) (p := 0) e140.wf u148 (.agg #[.slice a123 n124 c125, .slice a126 n127 c128]) [.slice a123 n124 c125, .slice a126 n127 c128] (by kernel_rfl) (by kernel_rfl) (one_cons (u150.one1) (one_cons (u149.one1) (one_nil))) (Nat.le_of_ble_eq_true (by kernel_rfl)) [.slice a123 n124 c125, .slice a126 n127 c128] (by kernel_rfl)
  refine s_ek (undef) (by kernel_rfl) (map_ok q145) ?_
  have u155 := (r142.frS e146 (Dj.symm (hb141.djn r136.ltF)))
  have u156 := (((m113.ext e134).ext e140).fr e146 (hb135.djn m113.lt))
  obtain ⟨H151, q152, e153, r154⟩ := Row.store (P := Try.prog) (t := 79) (p := 0) e146.wf u155 (.agg #[i_ y100.2.2.1, .slice a129 n130 c131]) [i_ y100.2.2.1, .slice a129 n130 c131] (by kernel_rfl) (by kernel_rfl) (one_cons (rfl) (one_cons (u156.one1) (one_nil))) (Nat.le_of_ble_eq_true (by kernel_rfl)) [i_ y100.2.2.1, .slice a129 n130 c131] (by kernel_rfl)
  refine s_ek (undef) (by kernel_rfl) (map_ok q152) ?_
  refine s_nil (k97 _ _ (w_seqk fun _ k157 => w_seqk fun _ k158 => g_' (q_ (hd_script) ?_)))
  have u159 := (((((((((h_script.ext e40).ext e46).fr e56 Dj.nil_l).fr e93 Dj.nil_l).fr e110 Dj.nil_l).ext e134).ext e140).fr e146 (hb135.djn (h_script.lt.le (t_ (t_ (t_ (t_ e40.n e46.n) e56.n) e93.n) e110.n)))).fr e153 (hb141.djn (h_script.lt.le (t_ (t_ (t_ (t_ (t_ e40.n e46.n) e56.n) e93.n) e110.n) e134.n))))
  refine l_' (i_ (script.length : Int)) (aLen Try.prog 25 hd_script H151) (u159.lenb (by kernel_rfl)) ?_
  refine q_ (i_ 0) (s_nil (k158 _ _ ?_))
  obtain ⟨o160, hx161, r162⟩ := bind_some r102
  refine w_mid (fun α H163 => ∃ (s167 : Value) (f168 : Fp) (s171 : Value) (f172 : Fp), Has α [(5, pt_ b44 0), (7, .pointer none), (9, pt_ b132 0)] ∧ FrS [b132] H151 H163 ∧ Ow encB 1 H163 s167 o160.1 f168 ∧ Sq enc_i64_i64_u64_i64 4 H163 s171 o160.2 f172 ∧ Row H163 b132 [s167, s171] ∧ Inn f104 H151 f168 ∧ Inn f106 H151 f172 ∧ Dj f168 f172) (fun _ k178 => ?_) (fun α H163 hM => ?_)
  ·refine w_block ?_
   obtain ⟨n180, hn181⟩ := loopO_iff.1 hx161
   have u203 := ((u150.fr e146 (hb135.djn m111.lt)).fr e153 (hb141.djn (m111.lt.le e134.n)))
   have u204 := ((u149.fr e146 (hb135.djn m112.lt)).fr e153 (hb141.djn (m112.lt.le e134.n)))
   have u205 := (r147.frS e153 (hb141.djn r136.ltF))
   refine w_loopn (fun n α H182 => ∃ (i0 : Int), ∃ (m1 : List (Bool)), ∃ (m2 : List (Int × Int × Int × Int)), ∃ (s186 : Value), ∃ (f187 : Fp), ∃ (s190 : Value), ∃ (f191 : Fp), iterO (fun zz_ => z_viaductlaw12_laid_l0 script zz_.1 zz_.2.1 zz_.2.2) n (i0, m1, m2) = some o160 ∧ Has α [(5, pt_ b44 0), (7, .pointer none), (9, pt_ b132 0), (33, hd_script), (34, i_ (script.length : Int)), (35, i_ i0)] ∧ FrS [b132] H151 H182 ∧ Ow encB 1 H182 s186 m1 f187 ∧ Sq enc_i64_i64_u64_i64 4 H182 s190 m2 f191 ∧ Row H182 b132 [s186, s190] ∧ Inn f104 H151 f187 ∧ Inn f106 H151 f191 ∧ Dj f187 f191) n180 ⟨0, y100.1, y100.2.1, (.slice a123 n124 c125), f104, (.slice a126 n127 c128), f106, hn181, ha_, (FrS.refl (W := [b132]) e153.wf), u203, u204.sq, u205, Inn.refl', Inn.refl', d117⟩ ?_
   rintro n180 α H182 ⟨i0, m1, m2, s186, f187, s190, f191, hi198, hh197, e183, m185, m189, m193, i194, i195, d196⟩ K206 k206
   obtain ⟨n199, z200, rfl, hz201, hn202⟩ := iter_succ hi198
   obtain ⟨β, rfl⟩ := has_ex hh197
   clear hh197
   replace hz201 : z_viaductlaw12_laid_l0 script i0 m1 m2 = some z200 := hz201
   unfold z_viaductlaw12_laid_l0 at hz201
   obtain ⟨a207, n208, c209, rfl⟩ := m185.form
   obtain ⟨a210, n211, c212, rfl⟩ := m189.form
   refine w_seqk fun _ k213 => g_' (q_ (.bool (decide (i0 < (script.length : Int)))) (s_nil (k213 _ _ (w_seqk fun _ k214 => ?_))))
   refine w_condp (i0 < (script.length : Int)) (by kernel_rfl) rfl (fun h215 => ?_) (fun h215 => ?_)
   ·have r216 := ite_t h215 hz201
    refine w_skip (k214 _ _ (w_seqk fun _ k217 => w_block (w_seqk fun _ k218 => g_' ?_)))
    obtain ⟨g219, r220⟩ := G_some r216
    have u221 := (u159.fr e183 (hb135.djn (h_script.lt.le (t_ (t_ (t_ (t_ e40.n e46.n) e56.n) e93.n) e110.n))))
    refine l_' (elp hd_script 5 i0.toNat 0) (aIndexAddr Try.prog 25 hd_script (i_ i0)) (u221.idxb (by kernel_rfl) g219 h215) ?_
    refine l_' (.agg #[.int .u8 ((gt script i0).1), i_ ((gt script i0).2.1), i_ ((gt script i0).2.2.1), .int .u64 ((gt script i0).2.2.2.1), i_ ((gt script i0).2.2.2.2)]) (aL_ 83 (elp hd_script 5 i0.toNat 0) H182) (u221.ld g219 h215 (by kernel_rfl)) ?_
    refine s_rwk e183.wf [.int .u8 0, i_ 0, i_ 0, .int .u64 0, i_ 0] (by kernel_rfl) fun b222 H223 e224 hb225 r226 => ?_
    obtain ⟨H228, q229, e230, r231⟩ := Row.store (P := Try.prog) (t := 83) (p := 0) e224.wf r226 (.agg #[.int .u8 ((gt script i0).1), i_ ((gt script i0).2.1), i_ ((gt script i0).2.2.1), .int .u64 ((gt script i0).2.2.2.1), i_ ((gt script i0).2.2.2.2)]) [.int .u8 ((gt script i0).1), i_ ((gt script i0).2.1), i_ ((gt script i0).2.2.1), .int .u64 ((gt script i0).2.2.2.1), i_ ((gt script i0).2.2.2.2)] (by kernel_rfl) (by kernel_rfl) (one_cons (rfl) (one_cons (rfl) (one_cons (rfl) (one_cons (rfl) (one_cons (rfl) (one_nil)))))) (Nat.le_of_ble_eq_true (by kernel_rfl)) [.int .u8 ((gt script i0).1), i_ ((gt script i0).2.1), i_ ((gt script i0).2.2.1), .int .u64 ((gt script i0).2.2.2.1), i_ ((gt script i0).2.2.2.2)] (by kernel_rfl)
    refine s_ek (undef) (by kernel_rfl) (map_ok q229) ?_
    refine s_nil (k218 _ _ (w_seqk fun _ k232 => w_seqk fun _ k233 => g_' (q_ (pt_ b222 0) ?_)))
    refine l_' (.int .u8 ((gt script i0).1)) (aL_ 5 (pt_ b222 0) H228) (r231.l_) ?_
    refine q_ (.bool (decide (((gt script i0).1) = 1))) (s_nil (k233 _ _ ?_))
    obtain ⟨o234, hx235, r236⟩ := bind_some r220
    refine w_mid (fun α H237 => ∃ (s241 : Value) (f242 : Fp), Has α [(5, pt_ b44 0), (7, .pointer none), (9, pt_ b132 0), (12, pt_ b222 0), (33, hd_script), (34, i_ (script.length : Int)), (35, i_ i0)] ∧ FrS [b132] H228 H237 ∧ Sq enc_i64_i64_u64_i64 4 H237 s241 o234 f242 ∧ Row H237 b132 [.slice a207 n208 c209, s241] ∧ Inn f191 H228 f242) (fun _ k246 => ?_) (fun α H237 hM => ?_)
    ·refine w_condp (((gt script i0).1) = 1) (by kernel_rfl) rfl (fun h248 => ?_) (fun h248 => ?_)
     ·have r249 := ite_t h248 hx235
      refine w_seqk fun _ k250 => g_' (q_ (.pointer none) (q_ (pt_ b222 1) ?_))
      refine l_' (i_ ((gt script i0).2.1)) (aL_ 3 (pt_ b222 1) H228) (r231.l_) ?_
      refine q_ (pt_ b222 2) ?_
      refine l_' (i_ ((gt script i0).2.2.1)) (aL_ 3 (pt_ b222 2) H228) (r231.l_) ?_
      refine q_ (pt_ b222 3) ?_
      refine l_' (.int .u64 ((gt script i0).2.2.2.1)) (aL_ 27 (pt_ b222 3) H228) (r231.l_) ?_
      refine q_ (pt_ b222 4) ?_
      refine l_' (i_ ((gt script i0).2.2.2.2)) (aL_ 3 (pt_ b222 4) H228) (r231.l_) ?_
      obtain ⟨y251, hy252, r253⟩ := bind_some r249
      refine s_ck 30 #[.pointer none, i_ ((gt script i0).2.1), i_ ((gt script i0).2.2.1), .int .u64 ((gt script i0).2.2.2.1), i_ ((gt script i0).2.2.2.2)] (by kernel_rfl) (c_overlay_Overlay_Put_nil e230.wf hy252) ?_
      rintro _ _ ⟨rfl, rfl⟩
      refine s_nil (k250 _ _ (w_seqk fun _ k256 => g_' ?_))
      have u257 := ((m193.ext e224).frS e230 (hb225.djn (r136.ltF.le (t_ (t_ (t_ e140.n e146.n) e153.n) e183.n))))
      refine l_' (.agg #[.slice a207 n208 c209, .slice a210 n211 c212]) (aL_ 33 (pt_ b132 0) H228) (u257.l_) ?_
      refine q_ (pt_ b222 1) ?_
      refine l_' (i_ ((gt script i0).2.1)) (aL_ 3 (pt_ b222 1) H228) (r231.l_) ?_
      refine q_ (pt_ b222 2) ?_
      refine l_' (i_ ((gt script i0).2.2.1)) (aL_ 3 (pt_ b222 2) H228) (r231.l_) ?_
      refine q_ (pt_ b222 3) ?_
      refine l_' (.int .u64 ((gt script i0).2.2.2.1)) (aL_ 27 (pt_ b222 3) H228) (r231.l_) ?_
      refine q_ (pt_ b222 4) ?_
      refine l_' (i_ ((gt script i0).2.2.2.2)) (aL_ 3 (pt_ b222 4) H228) (r231.l_) ?_
      have u258 := ((m185.ext e224).fr e230 (hb225.djn m185.lt))
      have u259 := ((m189.ext e224).fr e230 (hb225.djn m189.lt))
      obtain ⟨y260, hy261, r262⟩ := bind_some r253
      refine s_ck 31 #[.agg #[.slice a207 n208 c209, .slice a210 n211 c212], i_ ((gt script i0).2.1), i_ ((gt script i0).2.2.1), .int .u64 ((gt script i0).2.2.2.1), i_ ((gt script i0).2.2.2.2)] (by kernel_rfl) (c_viaductref11_DocPut e230.wf u258.sq u259 hy261) ?_
      rintro _ H263 ⟨rfl, e264⟩
      refine s_rwk e264.wf [i_ 0, .slice none 0 0] (by kernel_rfl) fun b265 H266 e267 hb268 r269 => ?_
      obtain ⟨H271, q272, e273, r274⟩ := Row.store (P := Try.prog) (t := 79) (p := 0) e267.wf r269 (.agg #[i_ y260, .slice none 0 0]) [i_ y260, .slice none 0 0] (by kernel_rfl) (by kernel_rfl) (one_cons (rfl) (one_cons (rfl) (one_nil))) (Nat.le_of_ble_eq_true (by kernel_rfl)) [i_ y260, .slice none 0 0] (by kernel_rfl)
      refine s_ek (undef) (by kernel_rfl) (map_ok q272) ?_
      refine s_nil (k256 _ _ (w_seqk fun _ k275 => g_' ?_))
      refine l_' (.agg #[i_ y260, .slice none 0 0]) (aL_ 79 (pt_ b265 0) H271) (r274.l_) ?_
      obtain ⟨y276, hy277, r278⟩ := bind_some r262
      refine s_ck 32 #[.agg #[i_ y260, .slice none 0 0]] (by kernel_rfl) (c_viaductref01_Err_Bad e273.wf (Sq.nil (enc := enc_i64_i64) (sz := 2) (by decide)) hy277) ?_
      rintro _ H279 ⟨rfl, e280⟩
      refine q_ (.bool (!y276)) (s_nil (k275 _ _ ?_))
      refine w_cond ((!y276)) (by kernel_rfl) rfl (fun h281 => ?_) (fun h281 => ?_)
      ·have r282 := ite_t h281 r278
       refine g_' ?_
       have u283 := ((((u257.frS e264 Dj.nil_l).ext e267).frS e273 (hb268.djn (r136.ltF.le (t_ (t_ (t_ (t_ (t_ (t_ e140.n e146.n) e153.n) e183.n) e224.n) e230.n) e264.n)))).frS e280 Dj.nil_l)
       refine l_' (.agg #[.slice a207 n208 c209, .slice a210 n211 c212]) (aL_ 33 (pt_ b132 0) H279) (u283.l_) ?_
       refine q_ (pt_ b222 1) ?_
       have u284 := ((((r231.frS e264 Dj.nil_l).ext e267).frS e273 (hb268.djn (r226.ltF.le (t_ e230.n e264.n)))).frS e280 Dj.nil_l)
       refine l_' (i_ ((gt script i0).2.1)) (aL_ 3 (pt_ b222 1) H279) (u284.l_) ?_
       refine q_ (pt_ b222 2) ?_
       refine l_' (i_ ((gt script i0).2.2.1)) (aL_ 3 (pt_ b222 2) H279) (u284.l_) ?_
       refine q_ (pt_ b222 3) ?_
       refine l_' (.int .u64 ((gt script i0).2.2.2.1)) (aL_ 27 (pt_ b222 3) H279) (u284.l_) ?_
       refine q_ (pt_ b222 4) ?_
       refine l_' (i_ ((gt script i0).2.2.2.2)) (aL_ 3 (pt_ b222 4) H279) (u284.l_) ?_
       refine q_ (.agg #[i_ ((gt script i0).2.1), i_ ((gt script i0).2.2.1), .int .u64 ((gt script i0).2.2.2.1), i_ ((gt script i0).2.2.2.2)]) ?_
       have u285 := ((((u258.fr e264 Dj.nil_l).ext e267).fr e273 (hb268.djn (m185.lt.le (t_ (t_ e224.n e230.n) e264.n)))).fr e280 Dj.nil_l)
       have u286 := ((((u259.fr e264 Dj.nil_l).ext e267).fr e273 (hb268.djn (m189.lt.le (t_ (t_ e224.n e230.n) e264.n)))).fr e280 Dj.nil_l)
       obtain ⟨y287, hy288, r289⟩ := bind_some r282
       refine s_ck 33 #[.agg #[.slice a207 n208 c209, .slice a210 n211 c212], .agg #[i_ ((gt script i0).2.1), i_ ((gt script i0).2.2.1), .int .u64 ((gt script i0).2.2.2.1), i_ ((gt script i0).2.2.2.2)]] (by kernel_rfl) (c_viaductref11_Put e280.wf u285.sq u286 hy288) ?_
       rintro _ H292 ⟨s290, f291, rfl, e293, m294, i295⟩
       obtain ⟨a297, n298, c299, rfl⟩ := m294.form
       refine q_ (.tuple #[.agg #[.slice a207 n208 c209, .slice a297 n298 c299], .bool y287.2]) (q_ (.agg #[.slice a207 n208 c209, .slice a297 n298 c299]) (q_ (.bool y287.2) ?_))
       have u304 := (u283.frS e293 Dj.nil_l)
       have u305 := (u285.fr e293 Dj.nil_l)
       obtain ⟨H300, q301, e302, r303⟩ := Row.store (P := Try.prog) (t := 33) (p := 0) e293.wf u304 (.agg #[.slice a207 n208 c209, .slice a297 n298 c299]) [.slice a207 n208 c209, .slice a297 n298 c299] (by kernel_rfl) (by kernel_rfl) (one_cons (u305.one1) (one_cons (m294.one1) (one_nil))) (Nat.le_of_ble_eq_true (by kernel_rfl)) [.slice a207 n208 c209, .slice a297 n298 c299] (by kernel_rfl)
       refine s_ek (undef) (by kernel_rfl) (map_ok q301) ?_
       refine s_nil ?_
       have u306 := (m294.fr e302 (Dj.symm (i295.dj (i195.dj (Dj.symm (hb135.djn m112.lt)) (r136.ltF.le (t_ (t_ e140.n e146.n) e153.n))) (r136.ltF.le (t_ (t_ (t_ (t_ (t_ (t_ (t_ (t_ (t_ e140.n e146.n) e153.n) e183.n) e224.n) e230.n) e264.n) e267.n) e273.n) e280.n)))))
       obtain rfl := oi_ r289
       exact k246 _ _ ⟨(.slice a297 n298 c299), f291, ha_, (FrS.step e230.wf (FrS.step e230.wf (FrS.step e230.wf (FrS.step e230.wf ((FrS.step e230.wf (FrS.refl (W := [b132]) e230.wf) e264 Inn.nil).extR e267) e273 (hb268.fresh e264.n)) e280 Inn.nil) e293 Inn.nil) e302 Inn.refl'), u306, r303, (Inn.trans Inn.refl' (t_ (t_ (t_ e264.n e267.n) e273.n) e280.n) i295)⟩
      have r307 := ite_bf h281 r278
      refine w_skip ?_
      have u308 := ((((u259.fr e264 Dj.nil_l).ext e267).fr e273 (hb268.djn (m189.lt.le (t_ (t_ e224.n e230.n) e264.n)))).fr e280 Dj.nil_l)
      have u309 := ((((u257.frS e264 Dj.nil_l).ext e267).frS e273 (hb268.djn (r136.ltF.le (t_ (t_ (t_ (t_ (t_ (t_ e140.n e146.n) e153.n) e183.n) e224.n) e230.n) e264.n)))).frS e280 Dj.nil_l)
      obtain rfl := oi_ r307
      exact k246 _ _ ⟨(.slice a210 n211 c212), f191, ha_, (FrS.step e230.wf (FrS.step e230.wf ((FrS.step e230.wf (FrS.refl (W := [b132]) e230.wf) e264 Inn.nil).extR e267) e273 (hb268.fresh e264.n)) e280 Inn.nil), u308, u309, Inn.refl'⟩
     have r310 := ite_f h248 hx235
     refine w_skip ?_
     have u311 := ((m189.ext e224).fr e230 (hb225.djn m189.lt))
     have u312 := ((m193.ext e224).frS e230 (hb225.djn (r136.ltF.le (t_ (t_ (t_ e140.n e146.n) e153.n) e183.n))))
     obtain rfl := oi_ r310
     exact k246 _ _ ⟨(.slice a210 n211 c212), f191, ha_, (FrS.refl (W := [b132]) e230.wf), u311, u312, Inn.refl'⟩
    obtain ⟨s241, f242, hh247, e238, m240, m244, i245⟩ := hM
    obtain ⟨β, rfl⟩ := has_ex hh247
    clear hh247
    obtain ⟨a313, n314, c315, rfl⟩ := m240.form
    refine k232 _ _ (w_seqk fun _ k316 => g_' (q_ (pt_ b222 0) ?_))
    have u317 := (r231.frS e238 (Dj.symm (hb225.djn (r136.ltF.le (t_ (t_ (t_ e140.n e146.n) e153.n) e183.n)))))
    refine l_' (.int .u8 ((gt script i0).1)) (aL_ 5 (pt_ b222 0) H237) (u317.l_) ?_
    refine q_ (.bool (decide (((gt script i0).1) = 2))) (s_nil (k316 _ _ ?_))
    refine w_condp (((gt script i0).1) = 2) (by kernel_rfl) rfl (fun h318 => ?_) (fun h318 => ?_)
    ·have r319 := ite_t h318 r236
     refine w_seqk fun _ k320 => g_' (q_ (.pointer none) (q_ (pt_ b222 1) ?_))
     refine l_' (i_ ((gt script i0).2.1)) (aL_ 3 (pt_ b222 1) H237) (u317.l_) ?_
     obtain ⟨y321, hy322, r323⟩ := bind_some r319
     refine s_ck 34 #[.pointer none, i_ ((gt script i0).2.1)] (by kernel_rfl) (c_overlay_Overlay_Remove_nil e238.wf hy322) ?_
     rintro _ _ ⟨rfl, rfl⟩
     refine s_nil (k320 _ _ (w_seqk fun _ k326 => g_' ?_))
     refine l_' (.agg #[.slice a207 n208 c209, .slice a313 n314 c315]) (aL_ 33 (pt_ b132 0) H237) (m244.l_) ?_
     refine q_ (pt_ b222 1) ?_
     refine l_' (i_ ((gt script i0).2.1)) (aL_ 3 (pt_ b222 1) H237) (u317.l_) ?_
     have u327 := (((m185.ext e224).fr e230 (hb225.djn m185.lt)).fr e238 (Dj.symm (i194.dj (Dj.symm (hb135.djn m111.lt)) (r136.ltF.le (t_ (t_ e140.n e146.n) e153.n)))))
     obtain ⟨y328, hy329, r330⟩ := bind_some r323
     refine s_ck 12 #[.agg #[.slice a207 n208 c209, .slice a313 n314 c315], i_ ((gt script i0).2.1)] (by kernel_rfl) (c_viaductref11_Lives e238.wf u327.sq m240 hy329) ?_
     rintro _ H331 ⟨rfl, e332⟩
     refine s_nil (k326 _ _ ?_)
     refine w_cond (y328) (by kernel_rfl) rfl (fun h333 => ?_) (fun h333 => ?_)
     ·have r334 := ite_t h333 r330
      refine g_' ?_
      have u335 := (m244.frS e332 Dj.nil_l)
      refine l_' (.agg #[.slice a207 n208 c209, .slice a313 n314 c315]) (aL_ 33 (pt_ b132 0) H331) (u335.l_) ?_
      refine q_ (pt_ b222 1) ?_
      have u336 := (u317.frS e332 Dj.nil_l)
      refine l_' (i_ ((gt script i0).2.1)) (aL_ 3 (pt_ b222 1) H331) (u336.l_) ?_
      have u337 := (u327.fr e332 Dj.nil_l)
      have u338 := (m240.fr e332 Dj.nil_l)
      obtain ⟨y339, hy340, r341⟩ := bind_some r334
      refine s_ck 15 #[.agg #[.slice a207 n208 c209, .slice a313 n314 c315], i_ ((gt script i0).2.1)] (by kernel_rfl) (c_viaductref11_Remove e332.wf u337.sq u338 hy340) ?_
      rintro _ H346 ⟨s342, f343, s344, f345, rfl, e347, m348, m349, i350, i351, d352⟩
      obtain ⟨a355, n356, c357, rfl⟩ := m348.form
      obtain ⟨a358, n359, c360, rfl⟩ := m349.form
      have u365 := (u335.frS e347 Dj.nil_l)
      obtain ⟨H361, q362, e363, r364⟩ := Row.store (P := Try.prog) (t := 33) (p := 0) e347.wf u365 (.agg #[.slice a355 n356 c357, .slice a358 n359 c360]) [.slice a355 n356 c357, .slice a358 n359 c360] (by kernel_rfl) (by kernel_rfl) (one_cons (m348.one1) (one_cons (m349.one1) (one_nil))) (Nat.le_of_ble_eq_true (by kernel_rfl)) [.slice a355 n356 c357, .slice a358 n359 c360] (by kernel_rfl)
      refine s_ek (undef) (by kernel_rfl) (map_ok q362) ?_
      refine s_nil (k217 _ _ (g_' ?_))
      obtain ⟨g366, r367⟩ := G_some r341
      refine w_' (i0 + 1) (wrap64 (by have := g366; omega)) ?_
      refine q_ (i_ (i0 + 1)) (s_nil ?_)
      have u368 := (m348.fr e363 (Dj.symm (i350.djn (r136.ltF.le (t_ (t_ (t_ (t_ (t_ (t_ (t_ e140.n e146.n) e153.n) e183.n) e224.n) e230.n) e238.n) e332.n)))))
      have u369 := (m349.fr e363 (Dj.symm (i351.djn (r136.ltF.le (t_ (t_ (t_ (t_ (t_ (t_ (t_ e140.n e146.n) e153.n) e183.n) e224.n) e230.n) e238.n) e332.n)))))
      obtain rfl := oi_ r367
      exact k206 n199 _ _ (Nat.lt_succ_self _) ⟨(i0 + 1), y339.1, y339.2, (.slice a355 n356 c357), f343, (.slice a358 n359 c360), f345, hn202, ha_, (FrS.step e153.wf (FrS.step e153.wf (FrS.step e153.wf (FrS.step e153.wf (FrS.step e153.wf ((FrS.step e153.wf (FrS.refl (W := [b132]) e153.wf) e183 Inn.refl').extR e224) e230 (hb225.fresh e183.n)) e238 Inn.refl') e332 Inn.nil) e347 Inn.nil) e363 Inn.refl'), u368, u369.sq, r364, (i350.fresh (t_ (t_ (t_ (t_ e183.n e224.n) e230.n) e238.n) e332.n)), (i351.fresh (t_ (t_ (t_ (t_ e183.n e224.n) e230.n) e238.n) e332.n)), d352⟩
     have r370 := ite_bf h333 r330
     refine w_skip (k217 _ _ (g_' ?_))
     obtain ⟨g371, r372⟩ := G_some r370
     refine w_' (i0 + 1) (wrap64 (by have := g371; omega)) ?_
     refine q_ (i_ (i0 + 1)) (s_nil ?_)
     have u373 := (u327.fr e332 Dj.nil_l)
     have u374 := (m240.fr e332 Dj.nil_l)
     have u375 := (m244.frS e332 Dj.nil_l)
     obtain rfl := oi_ r372
     exact k206 n199 _ _ (Nat.lt_succ_self _) ⟨(i0 + 1), m1, o234, (.slice a207 n208 c209), f187, (.slice a313 n314 c315), f242, hn202, ha_, (FrS.step e153.wf (FrS.step e153.wf (FrS.step e153.wf ((FrS.step e153.wf (FrS.refl (W := [b132]) e153.wf) e183 Inn.refl').extR e224) e230 (hb225.fresh e183.n)) e238 Inn.refl') e332 Inn.nil), u373, u374, u375, (Inn.trans Inn.refl' (Nat.le_refl _) i194), (Inn.trans (Inn.trans Inn.refl' (Nat.le_refl _) i195) (t_ (t_ e183.n e224.n) e230.n) i245), (Dj.symm (i245.dj (Dj.symm d196) (m185.lt.le (t_ e224.n e230.n))))⟩
    have r376 := ite_f h318 r236
    refine w_skip (k217 _ _ (g_' ?_))
    obtain ⟨g377, r378⟩ := G_some r376
    refine w_' (i0 + 1) (wrap64 (by have := g377; omega)) ?_
    refine q_ (i_ (i0 + 1)) (s_nil ?_)
    have u379 := (((m185.ext e224).fr e230 (hb225.djn m185.lt)).fr e238 (Dj.symm (i194.dj (Dj.symm (hb135.djn m111.lt)) (r136.ltF.le (t_ (t_ e140.n e146.n) e153.n)))))
    obtain rfl := oi_ r378
    exact k206 n199 _ _ (Nat.lt_succ_self _) ⟨(i0 + 1), m1, o234, (.slice a207 n208 c209), f187, (.slice a313 n314 c315), f242, hn202, ha_, (FrS.step e153.wf (FrS.step e153.wf ((FrS.step e153.wf (FrS.refl (W := [b132]) e153.wf) e183 Inn.refl').extR e224) e230 (hb225.fresh e183.n)) e238 Inn.refl'), u379, m240, m244, (Inn.trans Inn.refl' (Nat.le_refl _) i194), (Inn.trans (Inn.trans Inn.refl' (Nat.le_refl _) i195) (t_ (t_ e183.n e224.n) e230.n) i245), (Dj.symm (i245.dj (Dj.symm d196) (m185.lt.le (t_ e224.n e230.n))))⟩
   have r380 := ite_f h215 hz201
   refine w_exit (th_exit (th_exit (bl_eq ?_)))
   obtain rfl := oi_ r380
   obtain rfl := it_inr hn202
   exact k178 _ _ ⟨(.slice a207 n208 c209), f187, (.slice a210 n211 c212), f191, ha_, (FrS.step e153.wf (FrS.refl (W := [b132]) e153.wf) e183 Inn.refl'), m185, m189, m193, (Inn.trans Inn.refl' (Nat.le_refl _) i194), (Inn.trans Inn.refl' (Nat.le_refl _) i195), d196⟩
  obtain ⟨s167, f168, s171, f172, hh179, e164, m166, m170, m174, i175, i176, d177⟩ := hM
  obtain ⟨β, rfl⟩ := has_ex hh179
  clear hh179
  obtain ⟨a381, n382, c383, rfl⟩ := m166.form
  obtain ⟨a384, n385, c386, rfl⟩ := m170.form
  refine k157 _ _ (w_seqk fun _ k387 => ?_)
  refine w_draw [0, 1, 2, 3, 4] (by kernel_rfl) ?_
  refine e_' (.pointer none) ?_
  refine m_' (.agg #[.slice a381 n382 c383, .slice a384 n385 c386]) (aL_ 33 (pt_ b132 0) H163) (m174.l_) ?_
  refine e_' (.pointer none) ?_
  have u392 := ((((((((r48.frS e56 Dj.nil_l).frS e93 Dj.nil_l).frS e110 Dj.nil_l).ext e134).ext e140).frS e146 (hb135.djn (r48.ltF.le (t_ (t_ e56.n e93.n) e110.n)))).frS e153 (hb141.djn (r48.ltF.le (t_ (t_ (t_ e56.n e93.n) e110.n) e134.n)))).frS e164 (hb135.djn (r48.ltF.le (t_ (t_ e56.n e93.n) e110.n))))
  obtain ⟨H388, q389, e390, r391⟩ := Row.store (P := Try.prog) (t := 33) (p := 0) e164.wf u392 (.agg #[.slice a381 n382 c383, .slice a384 n385 c386]) [.slice a381 n382 c383, .slice a384 n385 c386] (by kernel_rfl) (by kernel_rfl) (one_cons (m166.one1) (one_cons (m170.one1) (one_nil))) (Nat.le_of_ble_eq_true (by kernel_rfl)) [.slice a381 n382 c383, .slice a384 n385 c386] (by kernel_rfl)
  refine d_ek (undef) (by kernel_rfl) (map_ok q389) (st_nil) ?_
  refine e_' (.bool true) ?_
  refine d_nil ?_
  refine k387 _ _ ?_
  refine w_ret ?_
  refine b_ret (fn := Try.f7) (vs := [.pointer none, .agg #[.slice a381 n382 c383, .slice a384 n385 c386], .bool true]) (aRes_tmp (by kernel_rfl) (aRes_cell (Eq.trans (b := aL_ 33 (pt_ b44 0) H388) (by kernel_rfl) (r391.l_)) (rt_ (rfl)))) ?_
  have u393 := (m166.fr e390 (Dj.symm (i175.dj (i114.djn (r48.ltF.le (t_ e56.n e93.n))) (r48.ltF.le (t_ (t_ (t_ (t_ (t_ (t_ e56.n e93.n) e110.n) e134.n) e140.n) e146.n) e153.n)))))
  have u394 := (m170.fr e390 (Dj.symm (i176.dj (i115.djn (r48.ltF.le (t_ e56.n e93.n))) (r48.ltF.le (t_ (t_ (t_ (t_ (t_ (t_ e56.n e93.n) e110.n) e134.n) e140.n) e146.n) e153.n)))))
  obtain rfl := oi_ r162
  exact (elimP_l ⟨(.slice a381 n382 c383), f168, (.slice a384 n385 c386), f172, rfl, (FrS.step wf (FrS.step wf (FrS.step wf (FrS.step wf (((FrS.step wf (FrS.step wf (FrS.step wf (((f0_ wf).extR e40).extR e46) e56 Inn.nil) e93 Inn.nil) e110 Inn.nil).extR e134).extR e140) e146 (hb135.fresh (t_ (t_ (t_ (t_ e40.n e46.n) e56.n) e93.n) e110.n))) e153 (hb141.fresh (t_ (t_ (t_ (t_ (t_ e40.n e46.n) e56.n) e93.n) e110.n) e134.n))) e164 (hb135.fresh (t_ (t_ (t_ (t_ e40.n e46.n) e56.n) e93.n) e110.n))) e390 (hb47.fresh e40.n)), u393, u394, (Inn.trans (i114.fresh (t_ (t_ (t_ e40.n e46.n) e56.n) e93.n)) (t_ (t_ (t_ (t_ (t_ (t_ (t_ (t_ e40.n e46.n) e56.n) e93.n) e110.n) e134.n) e140.n) e146.n) e153.n) i175), (Inn.trans (i115.fresh (t_ (t_ (t_ e40.n e46.n) e56.n) e93.n)) (t_ (t_ (t_ (t_ (t_ (t_ (t_ (t_ e40.n e46.n) e56.n) e93.n) e110.n) e134.n) e140.n) e146.n) e153.n) i176), d177⟩)
 have r395 := elim_r r86
 refine s_ck 22 #[.agg #[i_ N_, hd_Arcs]] (by kernel_rfl) (c_overlay_New e56.wf u83 hy85) ?_
 rintro _ H399 ⟨s396, f397, b398, rfl, e400, m401, m402, i403, i404, d405⟩
 obtain ⟨a408, n409, c410, rfl⟩ := m401.form
 refine q_ (.tuple #[pt_ b398 0, .nilIface]) (q_ (pt_ b398 0) (q_ (.nilIface) (q_ (pt_ b398 0) (q_ (.nilIface) (s_nil (k81 _ _ (w_seqk fun _ k411 => g_' ?_)))))))
 have u412 := (u82.frS e400 Dj.nil_l)
 refine l_' (.agg #[i_ N_, hd_Arcs]) (aL_ 24 (pt_ b38 0) H399) (u412.l_) ?_
 have u413 := (u83.fr e400 Dj.nil_l)
 obtain ⟨y414, hy415, r416⟩ := bind_some r395
 refine s_ck 29 #[.agg #[i_ N_, hd_Arcs]] (by kernel_rfl) (c_viaductref11_DocNew e400.wf u413 hy415) ?_
 rintro _ H423 ⟨s417, f418, s419, f420, s421, f422, rfl, e424, m425, m426, m427, i428, i429, i430, d431, d432, d433⟩
 obtain ⟨a437, n438, c439, rfl⟩ := m425.form
 obtain ⟨a440, n441, c442, rfl⟩ := m426.form
 obtain ⟨a443, n444, c445, rfl⟩ := m427.form
 refine q_ (.tuple #[.agg #[.slice a437 n438 c439, .slice a440 n441 c442], .agg #[i_ y414.2.2.1, .slice a443 n444 c445]]) (q_ (.agg #[.slice a437 n438 c439, .slice a440 n441 c442]) (q_ (.agg #[i_ y414.2.2.1, .slice a443 n444 c445]) ?_))
 refine s_rwk e424.wf [.slice none 0 0, .slice none 0 0] (by kernel_rfl) fun b446 H447 e448 hb449 r450 => ?_
 refine s_rwk e448.wf [i_ 0, .slice none 0 0] (by kernel_rfl) fun b452 H453 e454 hb455 r456 => ?_
 have u462 := (r450.ext e454)
 have u463 := ((m426.ext e448).ext e454)
 have u464 := ((m425.ext e448).ext e454)
 obtain ⟨H458, q459, e460, r461⟩ := Row.store (P := Try.prog) (t := 33) (p := 0) e454.wf u462 (.agg #[.slice a437 n438 c439, .slice a440 n441 c442]) [.slice a437 n438 c439, .slice a440 n441 c442] (by kernel_rfl) (by kernel_rfl) (one_cons (u464.one1) (one_cons (u463.one1) (one_nil))) (Nat.le_of_ble_eq_true (by kernel_rfl)) [.slice a437 n438 c439, .slice a440 n441 c442] (by kernel_rfl)
 refine s_ek (undef) (by kernel_rfl) (map_ok q459) ?_
 have u469 := (r456.frS e460 (Dj.symm (hb455.djn r450.ltF)))
 have u470 := (((m427.ext e448).ext e454).fr e460 (hb449.djn m427.lt))
 obtain ⟨H465, q466, e467, r468⟩ := Row.store (P := Try.prog) (t := 79) (p := 0) e460.wf u469 (.agg #[i_ y414.2.2.1, .slice a443 n444 c445]) [i_ y414.2.2.1, .slice a443 n444 c445] (by kernel_rfl) (by kernel_rfl) (one_cons (rfl) (one_cons (u470.one1) (one_nil))) (Nat.le_of_ble_eq_true (by kernel_rfl)) [i_ y414.2.2.1, .slice a443 n444 c445] (by kernel_rfl)
 refine s_ek (undef) (by kernel_rfl) (map_ok q466) ?_
 refine s_nil (k411 _ _ (w_seqk fun _ k471 => w_seqk fun _ k472 => g_' (q_ (hd_script) ?_)))
 have u473 := (((((((((h_script.ext e40).ext e46).fr e56 Dj.nil_l).fr e400 Dj.nil_l).fr e424 Dj.nil_l).ext e448).ext e454).fr e460 (hb449.djn (h_script.lt.le (t_ (t_ (t_ (t_ e40.n e46.n) e56.n) e400.n) e424.n)))).fr e467 (hb455.djn (h_script.lt.le (t_ (t_ (t_ (t_ (t_ e40.n e46.n) e56.n) e400.n) e424.n) e448.n))))
 refine l_' (i_ (script.length : Int)) (aLen Try.prog 25 hd_script H465) (u473.lenb (by kernel_rfl)) ?_
 refine q_ (i_ 0) (s_nil (k472 _ _ ?_))
 obtain ⟨o474, hx475, r476⟩ := bind_some r416
 refine w_mid (fun α H477 => ∃ (f481 : Fp) (s486 : Value) (f487 : Fp) (s490 : Value) (f491 : Fp), Has α [(5, pt_ b44 0), (7, pt_ b398 0), (9, pt_ b446 0)] ∧ FrS ([b398] ++ ([b446] ++ f397)) H465 H477 ∧ Nd enc_i64_u64_i64 3 H477 (.slice a408 n409 c410) o474.1 f481 [] ∧ Row H477 b398 [.slice a408 n409 c410, i_ o474.2.1, i_ o474.2.2.1] ∧ Ow encB 1 H477 s486 o474.2.2.2.1 f487 ∧ Sq enc_i64_i64_u64_i64 4 H477 s490 o474.2.2.2.2 f491 ∧ Row H477 b446 [s486, s490] ∧ Inn f397 H465 f481 ∧ Inn f418 H465 f487 ∧ Inn f420 H465 f491 ∧ Dj f481 f487 ∧ Dj f481 f491 ∧ Dj f487 f491) (fun _ k500 => ?_) (fun α H477 hM => ?_)
 ·refine w_block ?_
  obtain ⟨n502, hn503⟩ := loopO_iff.1 hx475
  have u533 := (((((m401.fr e424 Dj.nil_l).ext e448).ext e454).fr e460 (hb449.djn (m401.lt.le e424.n))).fr e467 (hb455.djn (m401.lt.le (t_ e424.n e448.n))))
  have u534 := (((((m402.frS e424 Dj.nil_l).ext e448).ext e454).frS e460 (hb449.djn (m402.ltF.le e424.n))).frS e467 (hb455.djn (m402.ltF.le (t_ e424.n e448.n))))
  have u535 := ((u464.fr e460 (hb449.djn m425.lt)).fr e467 (hb455.djn (m425.lt.le e448.n)))
  have u536 := ((u463.fr e460 (hb449.djn m426.lt)).fr e467 (hb455.djn (m426.lt.le e448.n)))
  have u537 := (r461.frS e467 (hb455.djn r450.ltF))
  refine w_loopn (fun n α H504 => ∃ (i0 : Int), ∃ (o1 : List (Bool × List (Int × Int × Int) × List (Int × Int × Int))), ∃ (o2 : Int), ∃ (o3 : Int), ∃ (m4 : List (Bool)), ∃ (m5 : List (Int × Int × Int × Int)), ∃ (f508 : Fp), ∃ (s513 : Value), ∃ (f514 : Fp), ∃ (s517 : Value), ∃ (f518 : Fp), iterO (fun zz_ => z_viaductlaw12_laid_l1 script zz_.1 zz_.2.1 zz_.2.2.1 zz_.2.2.2.1 zz_.2.2.2.2.1 zz_.2.2.2.2.2) n (i0, o1, o2, o3, m4, m5) = some o474 ∧ Has α [(5, pt_ b44 0), (7, pt_ b398 0), (9, pt_ b446 0), (33, hd_script), (34, i_ (script.length : Int)), (35, i_ i0)] ∧ FrS ([b398] ++ ([b446] ++ f397)) H465 H504 ∧ Nd enc_i64_u64_i64 3 H504 (.slice a408 n409 c410) o1 f508 [] ∧ Row H504 b398 [.slice a408 n409 c410, i_ o2, i_ o3] ∧ Ow encB 1 H504 s513 m4 f514 ∧ Sq enc_i64_i64_u64_i64 4 H504 s517 m5 f518 ∧ Row H504 b446 [s513, s517] ∧ Inn f397 H465 f508 ∧ Inn f418 H465 f514 ∧ Inn f420 H465 f518 ∧ Dj f508 f514 ∧ Dj f508 f518 ∧ Dj f514 f518) n502 ⟨0, y88.1, y88.2.1, y88.2.2, y414.1, y414.2.1, f397, (.slice a437 n438 c439), f418, (.slice a440 n441 c442), f420, hn503, ha_, (FrS.refl (W := ([b398] ++ ([b446] ++ f397))) e467.wf), u533, u534, u535, u536.sq, u537, Inn.refl', Inn.refl', Inn.refl', (Dj.symm (i428.djn m401.lt)), (Dj.symm (i429.djn m401.lt)), d431⟩ ?_
  rintro n502 α H504 ⟨i0, o1, o2, o3, m4, m5, f508, s513, f514, s517, f518, hi528, hh527, e505, m507, m510, m512, m516, m520, i521, i522, i523, d524, d525, d526⟩ K538 k538
  obtain ⟨n529, z530, rfl, hz531, hn532⟩ := iter_succ hi528
  obtain ⟨β, rfl⟩ := has_ex hh527
  clear hh527
  replace hz531 : z_viaductlaw12_laid_l1 script i0 o1 o2 o3 m4 m5 = some z530 := hz531
  unfold z_viaductlaw12_laid_l1 at hz531
  obtain ⟨a539, n540, c541, rfl⟩ := m512.form
  obtain ⟨a542, n543, c544, rfl⟩ := m516.form
  refine w_seqk fun _ k545 => g_' (q_ (.bool (decide (i0 < (script.length : Int)))) (s_nil (k545 _ _ (w_seqk fun _ k546 => ?_))))
  refine w_condp (i0 < (script.length : Int)) (by kernel_rfl) rfl (fun h547 => ?_) (fun h547 => ?_)
  ·have r548 := ite_t h547 hz531
   refine w_skip (k546 _ _ (w_seqk fun _ k549 => w_block (w_seqk fun _ k550 => g_' ?_)))
   obtain ⟨g551, r552⟩ := G_some r548
   have u553 := (u473.fr e505 (Dj.app (i404.djn (h_script.lt.le (t_ (t_ e40.n e46.n) e56.n))) (Dj.app (hb449.djn (h_script.lt.le (t_ (t_ (t_ (t_ e40.n e46.n) e56.n) e400.n) e424.n))) (i403.djn (h_script.lt.le (t_ (t_ e40.n e46.n) e56.n))))))
   refine l_' (elp hd_script 5 i0.toNat 0) (aIndexAddr Try.prog 25 hd_script (i_ i0)) (u553.idxb (by kernel_rfl) g551 h547) ?_
   refine l_' (.agg #[.int .u8 ((gt script i0).1), i_ ((gt script i0).2.1), i_ ((gt script i0).2.2.1), .int .u64 ((gt script i0).2.2.2.1), i_ ((gt script i0).2.2.2.2)]) (aL_ 83 (elp hd_script 5 i0.toNat 0) H504) (u553.ld g551 h547 (by kernel_rfl)) ?_
   refine s_rwk e505.wf [.int .u8 0, i_ 0, i_ 0, .int .u64 0, i_ 0] (by kernel_rfl) fun b554 H555 e556 hb557 r558 => ?_
   obtain ⟨H560, q561, e562, r563⟩ := Row.store (P := Try.prog) (t := 83) (p := 0) e556.wf r558 (.agg #[.int .u8 ((gt script i0).1), i_ ((gt script i0).2.1), i_ ((gt script i0).2.2.1), .int .u64 ((gt script i0).2.2.2.1), i_ ((gt script i0).2.2.2.2)]) [.int .u8 ((gt script i0).1), i_ ((gt script i0).2.1), i_ ((gt script i0).2.2.1), .int .u64 ((gt script i0).2.2.2.1), i_ ((gt script i0).2.2.2.2)] (by kernel_rfl) (by kernel_rfl) (one_cons (rfl) (one_cons (rfl) (one_cons (rfl) (one_cons (rfl) (one_cons (rfl) (one_nil)))))) (Nat.le_of_ble_eq_true (by kernel_rfl)) [.int .u8 ((gt script i0).1), i_ ((gt script i0).2.1), i_ ((gt script i0).2.2.1), .int .u64 ((gt script i0).2.2.2.1), i_ ((gt script i0).2.2.2.2)] (by kernel_rfl)
   refine s_ek (undef) (by kernel_rfl) (map_ok q561) ?_
   refine s_nil (k550 _ _ (w_seqk fun _ k564 => w_seqk fun _ k565 => g_' (q_ (pt_ b554 0) ?_)))
   refine l_' (.int .u8 ((gt script i0).1)) (aL_ 5 (pt_ b554 0) H560) (r563.l_) ?_
   refine q_ (.bool (decide (((gt script i0).1) = 1))) (s_nil (k565 _ _ ?_))
   obtain ⟨o566, hx567, r568⟩ := bind_some r552
   refine w_mid (fun α H569 => ∃ (f573 : Fp) (s578 : Value) (f579 : Fp), Has α [(5, pt_ b44 0), (7, pt_ b398 0), (9, pt_ b446 0), (12, pt_ b554 0), (33, hd_script), (34, i_ (script.length : Int)), (35, i_ i0)] ∧ FrS ([b398] ++ ([b446] ++ f508)) H560 H569 ∧ Nd enc_i64_u64_i64 3 H569 (.slice a408 n409 c410) o566.1 f573 [] ∧ Row H569 b398 [.slice a408 n409 c410, i_ o2, i_ o566.2.1] ∧ Sq enc_i64_i64_u64_i64 4 H569 s578 o566.2.2 f579 ∧ Row H569 b446 [.slice a539 n540 c541, s578] ∧ Inn f508 H560 f573 ∧ Inn f518 H560 f579 ∧ Dj f573 f579) (fun _ k585 => ?_) (fun α H569 hM => ?_)
   ·refine w_condp (((gt script i0).1) = 1) (by kernel_rfl) rfl (fun h587 => ?_) (fun h587 => ?_)
    ·have r588 := ite_t h587 hx567
     refine w_seqk fun _ k589 => g_' (q_ (pt_ b398 0) (q_ (pt_ b554 1) ?_))
     refine l_' (i_ ((gt script i0).2.1)) (aL_ 3 (pt_ b554 1) H560) (r563.l_) ?_
     refine q_ (pt_ b554 2) ?_
     refine l_' (i_ ((gt script i0).2.2.1)) (aL_ 3 (pt_ b554 2) H560) (r563.l_) ?_
     refine q_ (pt_ b554 3) ?_
     refine l_' (.int .u64 ((gt script i0).2.2.2.1)) (aL_ 27 (pt_ b554 3) H560) (r563.l_) ?_
     refine q_ (pt_ b554 4) ?_
     refine l_' (i_ ((gt script i0).2.2.2.2)) (aL_ 3 (pt_ b554 4) H560) (r563.l_) ?_
     have u590 := ((m507.ext e556).fr e562 (hb557.djn m507.lt))
     have u591 := ((m510.ext e556).frS e562 (hb557.djn (m402.ltF.le (t_ (t_ (t_ (t_ (t_ e424.n e448.n) e454.n) e460.n) e467.n) e505.n))))
     obtain ⟨y592, hy593, r594⟩ := bind_some r588
     refine s_ck 30 #[pt_ b398 0, i_ ((gt script i0).2.1), i_ ((gt script i0).2.2.1), .int .u64 ((gt script i0).2.2.2.1), i_ ((gt script i0).2.2.2.2)] (by kernel_rfl) (c_overlay_Overlay_Put e562.wf u590 u591 (Dj.symm (i521.dj d405 (m402.ltF.le (t_ (t_ (t_ (t_ e424.n e448.n) e454.n) e460.n) e467.n)))) hy593) ?_
     rintro _ H598 ⟨v595, f596, f597, rfl, e599, m600, m601, m602, i603, i604, d605⟩
     refine s_nil (k589 _ _ (w_seqk fun _ k607 => g_' ?_))
     have u608 := (((m520.ext e556).frS e562 (hb557.djn (r450.ltF.le (t_ (t_ (t_ e454.n e460.n) e467.n) e505.n)))).frS e599 (Dj.app (Dj.symm (hb449.djn (m402.ltF.le e424.n))) (i521.dj (Dj.symm (hb449.djn (m401.lt.le e424.n))) (r450.ltF.le (t_ (t_ e454.n e460.n) e467.n)))))
     refine l_' (.agg #[.slice a539 n540 c541, .slice a542 n543 c544]) (aL_ 33 (pt_ b446 0) H598) (u608.l_) ?_
     refine q_ (pt_ b554 1) ?_
     have u609 := (r563.frS e599 (Dj.app (Dj.symm (hb557.djn (m402.ltF.le (t_ (t_ (t_ (t_ (t_ e424.n e448.n) e454.n) e460.n) e467.n) e505.n)))) (Dj.symm (hb557.djn m507.lt))))
     refine l_' (i_ ((gt script i0).2.1)) (aL_ 3 (pt_ b554 1) H598) (u609.l_) ?_
     refine q_ (pt_ b554 2) ?_
     refine l_' (i_ ((gt script i0).2.2.1)) (aL_ 3 (pt_ b554 2) H598) (u609.l_) ?_
     refine q_ (pt_ b554 3) ?_
     refine l_' (.int .u64 ((gt script i0).2.2.2.1)) (aL_ 27 (pt_ b554 3) H598) (u609.l_) ?_
     refine q_ (pt_ b554 4) ?_
     refine l_' (i_ ((gt script i0).2.2.2.2)) (aL_ 3 (pt_ b554 4) H598) (u609.l_) ?_
     have u610 := (((m512.ext e556).fr e562 (hb557.djn m512.lt)).fr e599 (Dj.app (Dj.symm (i522.dj (i428.djn m402.ltF) (m402.ltF.le (t_ (t_ (t_ (t_ e424.n e448.n) e454.n) e460.n) e467.n)))) d524))
     have u611 := (((m516.ext e556).fr e562 (hb557.djn m516.lt)).fr e599 (Dj.app (Dj.symm (i523.dj (i429.djn m402.ltF) (m402.ltF.le (t_ (t_ (t_ (t_ e424.n e448.n) e454.n) e460.n) e467.n)))) d525))
     obtain ⟨y612, hy613, r614⟩ := bind_some r594
     refine s_ck 31 #[.agg #[.slice a539 n540 c541, .slice a542 n543 c544], i_ ((gt script i0).2.1), i_ ((gt script i0).2.2.1), .int .u64 ((gt script i0).2.2.2.1), i_ ((gt script i0).2.2.2.2)] (by kernel_rfl) (c_viaductref11_DocPut e599.wf u610.sq u611 hy613) ?_
     rintro _ H615 ⟨rfl, e616⟩
     refine s_rwk e616.wf [i_ 0, .slice none 0 0] (by kernel_rfl) fun b617 H618 e619 hb620 r621 => ?_
     obtain ⟨H623, q624, e625, r626⟩ := Row.store (P := Try.prog) (t := 79) (p := 0) e619.wf r621 (.agg #[i_ y612, .slice none 0 0]) [i_ y612, .slice none 0 0] (by kernel_rfl) (by kernel_rfl) (one_cons (rfl) (one_cons (rfl) (one_nil))) (Nat.le_of_ble_eq_true (by kernel_rfl)) [i_ y612, .slice none 0 0] (by kernel_rfl)
     refine s_ek (undef) (by kernel_rfl) (map_ok q624) ?_
     refine s_nil (k607 _ _ (w_seqk fun _ k627 => g_' ?_))
     refine l_' (.agg #[i_ y612, .slice none 0 0]) (aL_ 79 (pt_ b617 0) H623) (r626.l_) ?_
     obtain ⟨y628, hy629, r630⟩ := bind_some r614
     refine s_ck 32 #[.agg #[i_ y612, .slice none 0 0]] (by kernel_rfl) (c_viaductref01_Err_Bad e625.wf (Sq.nil (enc := enc_i64_i64) (sz := 2) (by decide)) hy629) ?_
     rintro _ H631 ⟨rfl, e632⟩
     refine q_ (.bool (!y628)) (s_nil (k627 _ _ ?_))
     refine w_cond ((!y628)) (by kernel_rfl) rfl (fun h633 => ?_) (fun h633 => ?_)
     ·have r634 := ite_t h633 r630
      refine g_' ?_
      have u635 := ((((u608.frS e616 Dj.nil_l).ext e619).frS e625 (hb620.djn (r450.ltF.le (t_ (t_ (t_ (t_ (t_ (t_ (t_ e454.n e460.n) e467.n) e505.n) e556.n) e562.n) e599.n) e616.n)))).frS e632 Dj.nil_l)
      refine l_' (.agg #[.slice a539 n540 c541, .slice a542 n543 c544]) (aL_ 33 (pt_ b446 0) H631) (u635.l_) ?_
      refine q_ (pt_ b554 1) ?_
      have u636 := ((((u609.frS e616 Dj.nil_l).ext e619).frS e625 (hb620.djn (r558.ltF.le (t_ (t_ e562.n e599.n) e616.n)))).frS e632 Dj.nil_l)
      refine l_' (i_ ((gt script i0).2.1)) (aL_ 3 (pt_ b554 1) H631) (u636.l_) ?_
      refine q_ (pt_ b554 2) ?_
      refine l_' (i_ ((gt script i0).2.2.1)) (aL_ 3 (pt_ b554 2) H631) (u636.l_) ?_
      refine q_ (pt_ b554 3) ?_
      refine l_' (.int .u64 ((gt script i0).2.2.2.1)) (aL_ 27 (pt_ b554 3) H631) (u636.l_) ?_
      refine q_ (pt_ b554 4) ?_
      refine l_' (i_ ((gt script i0).2.2.2.2)) (aL_ 3 (pt_ b554 4) H631) (u636.l_) ?_
      refine q_ (.agg #[i_ ((gt script i0).2.1), i_ ((gt script i0).2.2.1), .int .u64 ((gt script i0).2.2.2.1), i_ ((gt script i0).2.2.2.2)]) ?_
      have u637 := ((((u610.fr e616 Dj.nil_l).ext e619).fr e625 (hb620.djn (m512.lt.le (t_ (t_ (t_ e556.n e562.n) e599.n) e616.n)))).fr e632 Dj.nil_l)
      have u638 := ((((u611.fr e616 Dj.nil_l).ext e619).fr e625 (hb620.djn (m516.lt.le (t_ (t_ (t_ e556.n e562.n) e599.n) e616.n)))).fr e632 Dj.nil_l)
      obtain ⟨y639, hy640, r641⟩ := bind_some r634
      refine s_ck 33 #[.agg #[.slice a539 n540 c541, .slice a542 n543 c544], .agg #[i_ ((gt script i0).2.1), i_ ((gt script i0).2.2.1), .int .u64 ((gt script i0).2.2.2.1), i_ ((gt script i0).2.2.2.2)]] (by kernel_rfl) (c_viaductref11_Put e632.wf u637.sq u638 hy640) ?_
      rintro _ H644 ⟨s642, f643, rfl, e645, m646, i647⟩
      obtain ⟨a649, n650, c651, rfl⟩ := m646.form
      refine q_ (.tuple #[.agg #[.slice a539 n540 c541, .slice a649 n650 c651], .bool y639.2]) (q_ (.agg #[.slice a539 n540 c541, .slice a649 n650 c651]) (q_ (.bool y639.2) ?_))
      have u656 := (u635.frS e645 Dj.nil_l)
      have u657 := (u637.fr e645 Dj.nil_l)
      obtain ⟨H652, q653, e654, r655⟩ := Row.store (P := Try.prog) (t := 33) (p := 0) e645.wf u656 (.agg #[.slice a539 n540 c541, .slice a649 n650 c651]) [.slice a539 n540 c541, .slice a649 n650 c651] (by kernel_rfl) (by kernel_rfl) (one_cons (u657.one1) (one_cons (m646.one1) (one_nil))) (Nat.le_of_ble_eq_true (by kernel_rfl)) [.slice a539 n540 c541, .slice a649 n650 c651] (by kernel_rfl)
      refine s_ek (undef) (by kernel_rfl) (map_ok q653) ?_
      refine s_nil ?_
      have u658 := ((((((m601.fr e616 Dj.nil_l).ext e619).fr e625 (hb620.djn (m601.lt.le e616.n))).fr e632 Dj.nil_l).fr e645 Dj.nil_l).fr e654 (Dj.symm (i604.dj (i521.dj (Dj.symm (hb449.djn (m401.lt.le e424.n))) (r450.ltF.le (t_ (t_ e454.n e460.n) e467.n))) (r450.ltF.le (t_ (t_ (t_ (t_ (t_ e454.n e460.n) e467.n) e505.n) e556.n) e562.n)))))
      have u659 := ((((((m602.frS e616 Dj.nil_l).ext e619).frS e625 (hb620.djn (m402.ltF.le (t_ (t_ (t_ (t_ (t_ (t_ (t_ (t_ (t_ e424.n e448.n) e454.n) e460.n) e467.n) e505.n) e556.n) e562.n) e599.n) e616.n)))).frS e632 Dj.nil_l).frS e645 Dj.nil_l).frS e654 (hb449.djn (m402.ltF.le e424.n)))
      have u660 := (m646.fr e654 (Dj.symm (i647.dj (i523.dj (Dj.symm (hb449.djn m426.lt)) (r450.ltF.le (t_ (t_ e454.n e460.n) e467.n))) (r450.ltF.le (t_ (t_ (t_ (t_ (t_ (t_ (t_ (t_ (t_ (t_ e454.n e460.n) e467.n) e505.n) e556.n) e562.n) e599.n) e616.n) e619.n) e625.n) e632.n)))))
      obtain rfl := oi_ r641
      exact k585 _ _ ⟨f597, (.slice a649 n650 c651), f643, ha_, (FrS.step e562.wf (FrS.step e562.wf (FrS.step e562.wf (FrS.step e562.wf ((FrS.step e562.wf (FrS.step e562.wf (FrS.refl (W := ([b398] ++ ([b446] ++ f508))) e562.wf) e599 (Inn.app Inn.left (Inn.right (Inn.right Inn.refl')))) e616 Inn.nil).extR e619) e625 (hb620.fresh (t_ e599.n e616.n))) e632 Inn.nil) e645 Inn.nil) e654 (Inn.right Inn.left)), u658, u659, u660, r655, (Inn.trans Inn.refl' (Nat.le_refl _) i604), (Inn.trans Inn.refl' (t_ (t_ (t_ (t_ e599.n e616.n) e619.n) e625.n) e632.n) i647), (Dj.symm (i647.dj (Dj.symm (i604.dj d525 (m516.lt.le (t_ e556.n e562.n)))) (m601.lt.le (t_ (t_ (t_ e616.n e619.n) e625.n) e632.n))))⟩
     have r661 := ite_bf h633 r630
     refine w_skip ?_
     have u662 := ((((m601.fr e616 Dj.nil_l).ext e619).fr e625 (hb620.djn (m601.lt.le e616.n))).fr e632 Dj.nil_l)
     have u663 := ((((m602.frS e616 Dj.nil_l).ext e619).frS e625 (hb620.djn (m402.ltF.le (t_ (t_ (t_ (t_ (t_ (t_ (t_ (t_ (t_ e424.n e448.n) e454.n) e460.n) e467.n) e505.n) e556.n) e562.n) e599.n) e616.n)))).frS e632 Dj.nil_l)
     have u664 := ((((u611.fr e616 Dj.nil_l).ext e619).fr e625 (hb620.djn (m516.lt.le (t_ (t_ (t_ e556.n e562.n) e599.n) e616.n)))).fr e632 Dj.nil_l)
     have u665 := ((((u608.frS e616 Dj.nil_l).ext e619).frS e625 (hb620.djn (r450.ltF.le (t_ (t_ (t_ (t_ (t_ (t_ (t_ e454.n e460.n) e467.n) e505.n) e556.n) e562.n) e599.n) e616.n)))).frS e632 Dj.nil_l)
     obtain rfl := oi_ r661
     exact k585 _ _ ⟨f597, (.slice a542 n543 c544), f518, ha_, (FrS.step e562.wf (FrS.step e562.wf ((FrS.step e562.wf (FrS.step e562.wf (FrS.refl (W := ([b398] ++ ([b446] ++ f508))) e562.wf) e599 (Inn.app Inn.left (Inn.right (Inn.right Inn.refl')))) e616 Inn.nil).extR e619) e625 (hb620.fresh (t_ e599.n e616.n))) e632 Inn.nil), u662, u663, u664, u665, (Inn.trans Inn.refl' (Nat.le_refl _) i604), Inn.refl', (i604.dj d525 (m516.lt.le (t_ e556.n e562.n)))⟩
    have r666 := ite_f h587 hx567
    refine w_skip ?_
    have u667 := ((m507.ext e556).fr e562 (hb557.djn m507.lt))
    have u668 := ((m510.ext e556).frS e562 (hb557.djn (m402.ltF.le (t_ (t_ (t_ (t_ (t_ e424.n e448.n) e454.n) e460.n) e467.n) e505.n))))
    have u669 := ((m516.ext e556).fr e562 (hb557.djn m516.lt))
    have u670 := ((m520.ext e556).frS e562 (hb557.djn (r450.ltF.le (t_ (t_ (t_ e454.n e460.n) e467.n) e505.n))))
    obtain rfl := oi_ r666
    exact k585 _ _ ⟨f508, (.slice a542 n543 c544), f518, ha_, (FrS.refl (W := ([b398] ++ ([b446] ++ f508))) e562.wf), u667, u668, u669, u670, Inn.refl', Inn.refl', d525⟩
   obtain ⟨f573, s578, f579, hh586, e570, m572, m575, m577, m581, i582, i583, d584⟩ := hM
   obtain ⟨β, rfl⟩ := has_ex hh586
   clear hh586
   obtain ⟨a671, n672, c673, rfl⟩ := m577.form
   refine k564 _ _ (w_seqk fun _ k674 => g_' (q_ (pt_ b554 0) ?_))
   have u675 := (r563.frS e570 (Dj.app (Dj.symm (hb557.djn (m402.ltF.le (t_ (t_ (t_ (t_ (t_ e424.n e448.n) e454.n) e460.n) e467.n) e505.n)))) (Dj.app (Dj.symm (hb557.djn (r450.ltF.le (t_ (t_ (t_ e454.n e460.n) e467.n) e505.n)))) (Dj.symm (hb557.djn m507.lt)))))
   refine l_' (.int .u8 ((gt script i0).1)) (aL_ 5 (pt_ b554 0) H569) (u675.l_) ?_
   refine q_ (.bool (decide (((gt script i0).1) = 2))) (s_nil (k674 _ _ ?_))
   refine w_condp (((gt script i0).1) = 2) (by kernel_rfl) rfl (fun h676 => ?_) (fun h676 => ?_)
   ·have r677 := ite_t h676 r568
    refine w_seqk fun _ k678 => g_' (q_ (pt_ b398 0) (q_ (pt_ b554 1) ?_))
    refine l_' (i_ ((gt script i0).2.1)) (aL_ 3 (pt_ b554 1) H569) (u675.l_) ?_
    obtain ⟨y679, hy680, r681⟩ := bind_some r677
    refine s_ck 34 #[pt_ b398 0, i_ ((gt script i0).2.1)] (by kernel_rfl) (c_overlay_Overlay_Remove e570.wf m572 m575 (i582.dj (i521.dj d405 (m402.ltF.le (t_ (t_ (t_ (t_ e424.n e448.n) e454.n) e460.n) e467.n))) (m402.ltF.le (t_ (t_ (t_ (t_ (t_ (t_ (t_ e424.n e448.n) e454.n) e460.n) e467.n) e505.n) e556.n) e562.n))) hy680) ?_
    rintro v682 H685 ⟨_, f683, f684, rfl, e686, m687, m688, m689, i690, i691, d692⟩
    refine s_nil (k678 _ _ (w_seqk fun _ k694 => g_' ?_))
    have u695 := (m581.frS e686 (Dj.app (Dj.symm (hb449.djn (m402.ltF.le e424.n))) (i582.dj (i521.dj (Dj.symm (hb449.djn (m401.lt.le e424.n))) (r450.ltF.le (t_ (t_ e454.n e460.n) e467.n))) (r450.ltF.le (t_ (t_ (t_ (t_ (t_ e454.n e460.n) e467.n) e505.n) e556.n) e562.n)))))
    refine l_' (.agg #[.slice a539 n540 c541, .slice a671 n672 c673]) (aL_ 33 (pt_ b446 0) H685) (u695.l_) ?_
    refine q_ (pt_ b554 1) ?_
    have u696 := (u675.frS e686 (Dj.app (Dj.symm (hb557.djn (m402.ltF.le (t_ (t_ (t_ (t_ (t_ e424.n e448.n) e454.n) e460.n) e467.n) e505.n)))) (i582.dj (Dj.symm (hb557.djn m507.lt)) (r558.ltF.le e562.n))))
    refine l_' (i_ ((gt script i0).2.1)) (aL_ 3 (pt_ b554 1) H685) (u696.l_) ?_
    have u697 := ((((m512.ext e556).fr e562 (hb557.djn m512.lt)).fr e570 (Dj.app (Dj.symm (i522.dj (i428.djn m402.ltF) (m402.ltF.le (t_ (t_ (t_ (t_ e424.n e448.n) e454.n) e460.n) e467.n)))) (Dj.app (Dj.symm (i522.dj (Dj.symm (hb449.djn m425.lt)) (r450.ltF.le (t_ (t_ e454.n e460.n) e467.n)))) d524))).fr e686 (Dj.app (Dj.symm (i522.dj (i428.djn m402.ltF) (m402.ltF.le (t_ (t_ (t_ (t_ e424.n e448.n) e454.n) e460.n) e467.n)))) (i582.dj d524 (m512.lt.le (t_ e556.n e562.n)))))
    have u698 := (m577.fr e686 (Dj.app (Dj.symm (i583.dj (i523.dj (i429.djn m402.ltF) (m402.ltF.le (t_ (t_ (t_ (t_ e424.n e448.n) e454.n) e460.n) e467.n))) (m402.ltF.le (t_ (t_ (t_ (t_ (t_ (t_ (t_ e424.n e448.n) e454.n) e460.n) e467.n) e505.n) e556.n) e562.n)))) d584))
    obtain ⟨y699, hy700, r701⟩ := bind_some r681
    refine s_ck 12 #[.agg #[.slice a539 n540 c541, .slice a671 n672 c673], i_ ((gt script i0).2.1)] (by kernel_rfl) (c_viaductref11_Lives e686.wf u697.sq u698 hy700) ?_
    rintro _ H702 ⟨rfl, e703⟩
    refine s_nil (k694 _ _ ?_)
    refine w_cond (y699) (by kernel_rfl) rfl (fun h704 => ?_) (fun h704 => ?_)
    ·have r705 := ite_t h704 r701
     refine g_' ?_
     have u706 := (u695.frS e703 Dj.nil_l)
     refine l_' (.agg #[.slice a539 n540 c541, .slice a671 n672 c673]) (aL_ 33 (pt_ b446 0) H702) (u706.l_) ?_
     refine q_ (pt_ b554 1) ?_
     have u707 := (u696.frS e703 Dj.nil_l)
     refine l_' (i_ ((gt script i0).2.1)) (aL_ 3 (pt_ b554 1) H702) (u707.l_) ?_
     have u708 := (u697.fr e703 Dj.nil_l)
     have u709 := (u698.fr e703 Dj.nil_l)
     obtain ⟨y710, hy711, r712⟩ := bind_some r705
     refine s_ck 15 #[.agg #[.slice a539 n540 c541, .slice a671 n672 c673], i_ ((gt script i0).2.1)] (by kernel_rfl) (c_viaductref11_Remove e703.wf u708.sq u709 hy711) ?_
     rintro _ H717 ⟨s713, f714, s715, f716, rfl, e718, m719, m720, i721, i722, d723⟩
     obtain ⟨a726, n727, c728, rfl⟩ := m719.form
     obtain ⟨a729, n730, c731, rfl⟩ := m720.form
     have u736 := (u706.frS e718 Dj.nil_l)
     obtain ⟨H732, q733, e734, r735⟩ := Row.store (P := Try.prog) (t := 33) (p := 0) e718.wf u736 (.agg #[.slice a726 n727 c728, .slice a729 n730 c731]) [.slice a726 n727 c728, .slice a729 n730 c731] (by kernel_rfl) (by kernel_rfl) (one_cons (m719.one1) (one_cons (m720.one1) (one_nil))) (Nat.le_of_ble_eq_true (by kernel_rfl)) [.slice a726 n727 c728, .slice a729 n730 c731] (by kernel_rfl)
     refine s_ek (undef) (by kernel_rfl) (map_ok q733) ?_
     refine s_nil (k549 _ _ (g_' ?_))
     obtain ⟨g737, r738⟩ := G_some r712
     refine w_' (i0 + 1) (wrap64 (by have := g737; omega)) ?_
     refine q_ (i_ (i0 + 1)) (s_nil ?_)
     have u739 := (((m688.fr e703 Dj.nil_l).fr e718 Dj.nil_l).fr e734 (Dj.symm (i691.dj (i582.dj (i521.dj (Dj.symm (hb449.djn (m401.lt.le e424.n))) (r450.ltF.le (t_ (t_ e454.n e460.n) e467.n))) (r450.ltF.le (t_ (t_ (t_ (t_ (t_ e454.n e460.n) e467.n) e505.n) e556.n) e562.n))) (r450.ltF.le (t_ (t_ (t_ (t_ (t_ (t_ e454.n e460.n) e467.n) e505.n) e556.n) e562.n) e570.n)))))
     have u740 := (((m689.frS e703 Dj.nil_l).frS e718 Dj.nil_l).frS e734 (hb449.djn (m402.ltF.le e424.n)))
     have u741 := (m719.fr e734 (Dj.symm (i721.djn (r450.ltF.le (t_ (t_ (t_ (t_ (t_ (t_ (t_ (t_ e454.n e460.n) e467.n) e505.n) e556.n) e562.n) e570.n) e686.n) e703.n)))))
     have u742 := (m720.fr e734 (Dj.symm (i722.djn (r450.ltF.le (t_ (t_ (t_ (t_ (t_ (t_ (t_ (t_ e454.n e460.n) e467.n) e505.n) e556.n) e562.n) e570.n) e686.n) e703.n)))))
     obtain rfl := oi_ r738
     exact k538 n529 _ _ (Nat.lt_succ_self _) ⟨(i0 + 1), y679.2.1, y679.2.2.1, y679.2.2.2, y710.1, y710.2, f684, (.slice a726 n727 c728), f714, (.slice a729 n730 c731), f716, hn532, ha_, (FrS.step e467.wf (FrS.step e467.wf (FrS.step e467.wf (FrS.step e467.wf (FrS.step e467.wf (FrS.step e467.wf ((FrS.step e467.wf (FrS.refl (W := ([b398] ++ ([b446] ++ f397))) e467.wf) e505 (Inn.app Inn.left (Inn.app (Inn.right Inn.left) (Inn.right (Inn.right Inn.refl'))))).extR e556) e562 (hb557.fresh e505.n)) e570 (Inn.app Inn.left (Inn.app (Inn.right Inn.left) (Inn.trans (Inn.right (Inn.right Inn.refl')) (Nat.le_refl _) i521)))) e686 (Inn.app Inn.left (Inn.trans (Inn.trans (Inn.right (Inn.right Inn.refl')) (Nat.le_refl _) i521) (t_ (t_ e505.n e556.n) e562.n) i582))) e703 Inn.nil) e718 Inn.nil) e734 (Inn.right Inn.left)), u739, u740, u741, u742.sq, r735, (Inn.trans (Inn.trans (Inn.trans Inn.refl' (Nat.le_refl _) i521) (t_ (t_ e505.n e556.n) e562.n) i582) (t_ (t_ (t_ e505.n e556.n) e562.n) e570.n) i691), (i721.fresh (t_ (t_ (t_ (t_ (t_ e505.n e556.n) e562.n) e570.n) e686.n) e703.n)), (i722.fresh (t_ (t_ (t_ (t_ (t_ e505.n e556.n) e562.n) e570.n) e686.n) e703.n)), (Dj.symm (i721.djn (m688.lt.le e703.n))), (Dj.symm (i722.djn (m688.lt.le e703.n))), d723⟩
    have r743 := ite_bf h704 r701
    refine w_skip (k549 _ _ (g_' ?_))
    obtain ⟨g744, r745⟩ := G_some r743
    refine w_' (i0 + 1) (wrap64 (by have := g744; omega)) ?_
    refine q_ (i_ (i0 + 1)) (s_nil ?_)
    have u746 := (m688.fr e703 Dj.nil_l)
    have u747 := (m689.frS e703 Dj.nil_l)
    have u748 := (u697.fr e703 Dj.nil_l)
    have u749 := (u698.fr e703 Dj.nil_l)
    have u750 := (u695.frS e703 Dj.nil_l)
    obtain rfl := oi_ r745
    exact k538 n529 _ _ (Nat.lt_succ_self _) ⟨(i0 + 1), y679.2.1, y679.2.2.1, y679.2.2.2, m4, o566.2.2, f684, (.slice a539 n540 c541), f514, (.slice a671 n672 c673), f579, hn532, ha_, (FrS.step e467.wf (FrS.step e467.wf (FrS.step e467.wf (FrS.step e467.wf ((FrS.step e467.wf (FrS.refl (W := ([b398] ++ ([b446] ++ f397))) e467.wf) e505 (Inn.app Inn.left (Inn.app (Inn.right Inn.left) (Inn.right (Inn.right Inn.refl'))))).extR e556) e562 (hb557.fresh e505.n)) e570 (Inn.app Inn.left (Inn.app (Inn.right Inn.left) (Inn.trans (Inn.right (Inn.right Inn.refl')) (Nat.le_refl _) i521)))) e686 (Inn.app Inn.left (Inn.trans (Inn.trans (Inn.right (Inn.right Inn.refl')) (Nat.le_refl _) i521) (t_ (t_ e505.n e556.n) e562.n) i582))) e703 Inn.nil), u746, u747, u748, u749, u750, (Inn.trans (Inn.trans (Inn.trans Inn.refl' (Nat.le_refl _) i521) (t_ (t_ e505.n e556.n) e562.n) i582) (t_ (t_ (t_ e505.n e556.n) e562.n) e570.n) i691), (Inn.trans Inn.refl' (Nat.le_refl _) i522), (Inn.trans (Inn.trans Inn.refl' (Nat.le_refl _) i523) (t_ (t_ e505.n e556.n) e562.n) i583), (i691.dj (i582.dj d524 (m512.lt.le (t_ e556.n e562.n))) (m512.lt.le (t_ (t_ e556.n e562.n) e570.n))), (i691.dj d584 m577.lt), (Dj.symm (i583.dj (Dj.symm d526) (m512.lt.le (t_ e556.n e562.n))))⟩
   have r751 := ite_f h676 r568
   refine w_skip (k549 _ _ (g_' ?_))
   obtain ⟨g752, r753⟩ := G_some r751
   refine w_' (i0 + 1) (wrap64 (by have := g752; omega)) ?_
   refine q_ (i_ (i0 + 1)) (s_nil ?_)
   have u754 := (((m512.ext e556).fr e562 (hb557.djn m512.lt)).fr e570 (Dj.app (Dj.symm (i522.dj (i428.djn m402.ltF) (m402.ltF.le (t_ (t_ (t_ (t_ e424.n e448.n) e454.n) e460.n) e467.n)))) (Dj.app (Dj.symm (i522.dj (Dj.symm (hb449.djn m425.lt)) (r450.ltF.le (t_ (t_ e454.n e460.n) e467.n)))) d524)))
   obtain rfl := oi_ r753
   exact k538 n529 _ _ (Nat.lt_succ_self _) ⟨(i0 + 1), o566.1, o2, o566.2.1, m4, o566.2.2, f573, (.slice a539 n540 c541), f514, (.slice a671 n672 c673), f579, hn532, ha_, (FrS.step e467.wf (FrS.step e467.wf ((FrS.step e467.wf (FrS.refl (W := ([b398] ++ ([b446] ++ f397))) e467.wf) e505 (Inn.app Inn.left (Inn.app (Inn.right Inn.left) (Inn.right (Inn.right Inn.refl'))))).extR e556) e562 (hb557.fresh e505.n)) e570 (Inn.app Inn.left (Inn.app (Inn.right Inn.left) (Inn.trans (Inn.right (Inn.right Inn.refl')) (Nat.le_refl _) i521)))), m572, m575, u754, m577, m581, (Inn.trans (Inn.trans Inn.refl' (Nat.le_refl _) i521) (t_ (t_ e505.n e556.n) e562.n) i582), (Inn.trans Inn.refl' (Nat.le_refl _) i522), (Inn.trans (Inn.trans Inn.refl' (Nat.le_refl _) i523) (t_ (t_ e505.n e556.n) e562.n) i583), (i582.dj d524 (m512.lt.le (t_ e556.n e562.n))), d584, (Dj.symm (i583.dj (Dj.symm d526) (m512.lt.le (t_ e556.n e562.n))))⟩
  have r755 := ite_f h547 hz531
  refine w_exit (th_exit (th_exit (bl_eq ?_)))
  obtain rfl := oi_ r755
  obtain rfl := it_inr hn532
  exact k500 _ _ ⟨f508, (.slice a539 n540 c541), f514, (.slice a542 n543 c544), f518, ha_, (FrS.step e467.wf (FrS.refl (W := ([b398] ++ ([b446] ++ f397))) e467.wf) e505 (Inn.app Inn.left (Inn.app (Inn.right Inn.left) (Inn.right (Inn.right Inn.refl'))))), m507, m510, m512, m516, m520, (Inn.trans Inn.refl' (Nat.le_refl _) i521), (Inn.trans Inn.refl' (Nat.le_refl _) i522), (Inn.trans Inn.refl' (Nat.le_refl _) i523), d524, d525, d526⟩
 obtain ⟨f481, s486, f487, s490, f491, hh501, e478, m480, m483, m485, m489, m493, i494, i495, i496, d497, d498, d499⟩ := hM
 obtain ⟨β, rfl⟩ := has_ex hh501
 clear hh501
 obtain ⟨a756, n757, c758, rfl⟩ := m485.form
 obtain ⟨a759, n760, c761, rfl⟩ := m489.form
 refine k471 _ _ (w_seqk fun _ k762 => ?_)
 refine w_draw [0, 1, 2, 3, 4] (by kernel_rfl) ?_
 refine e_' (pt_ b398 0) ?_
 refine m_' (.agg #[.slice a756 n757 c758, .slice a759 n760 c761]) (aL_ 33 (pt_ b446 0) H477) (m493.l_) ?_
 refine e_' (pt_ b398 0) ?_
 have u767 := ((((((((r48.frS e56 Dj.nil_l).frS e400 Dj.nil_l).frS e424 Dj.nil_l).ext e448).ext e454).frS e460 (hb449.djn (r48.ltF.le (t_ (t_ e56.n e400.n) e424.n)))).frS e467 (hb455.djn (r48.ltF.le (t_ (t_ (t_ e56.n e400.n) e424.n) e448.n)))).frS e478 (Dj.app (i404.djn (r48.ltF.le e56.n)) (Dj.app (hb449.djn (r48.ltF.le (t_ (t_ e56.n e400.n) e424.n))) (i403.djn (r48.ltF.le e56.n)))))
 obtain ⟨H763, q764, e765, r766⟩ := Row.store (P := Try.prog) (t := 33) (p := 0) e478.wf u767 (.agg #[.slice a756 n757 c758, .slice a759 n760 c761]) [.slice a756 n757 c758, .slice a759 n760 c761] (by kernel_rfl) (by kernel_rfl) (one_cons (m485.one1) (one_cons (m489.one1) (one_nil))) (Nat.le_of_ble_eq_true (by kernel_rfl)) [.slice a756 n757 c758, .slice a759 n760 c761] (by kernel_rfl)
 refine d_ek (undef) (by kernel_rfl) (map_ok q764) (st_nil) ?_
 refine e_' (.bool true) ?_
 refine d_nil ?_
 refine k762 _ _ ?_
 refine w_ret ?_
 refine b_ret (fn := Try.f7) (vs := [pt_ b398 0, .agg #[.slice a756 n757 c758, .slice a759 n760 c761], .bool true]) (aRes_tmp (by kernel_rfl) (aRes_cell (Eq.trans (b := aL_ 33 (pt_ b44 0) H763) (by kernel_rfl) (r766.l_)) (rt_ (rfl)))) ?_
 have u768 := (m480.fr e765 (Dj.symm (i494.dj (i403.djn (r48.ltF.le e56.n)) (r48.ltF.le (t_ (t_ (t_ (t_ (t_ (t_ e56.n e400.n) e424.n) e448.n) e454.n) e460.n) e467.n)))))
 have u769 := (m483.frS e765 (Dj.symm (i404.djn (r48.ltF.le e56.n))))
 have u770 := (m485.fr e765 (Dj.symm (i495.dj (i428.djn (r48.ltF.le (t_ e56.n e400.n))) (r48.ltF.le (t_ (t_ (t_ (t_ (t_ (t_ e56.n e400.n) e424.n) e448.n) e454.n) e460.n) e467.n)))))
 have u771 := (m489.fr e765 (Dj.symm (i496.dj (i429.djn (r48.ltF.le (t_ e56.n e400.n))) (r48.ltF.le (t_ (t_ (t_ (t_ (t_ (t_ e56.n e400.n) e424.n) e448.n) e454.n) e460.n) e467.n)))))
 obtain rfl := oi_ r476
 exact (elimP_r ⟨(.slice a408 n409 c410), f481, b398, (.slice a756 n757 c758), f487, (.slice a759 n760 c761), f491, rfl, (FrS.step wf (FrS.step wf (FrS.step wf (FrS.step wf (((FrS.step wf (FrS.step wf (FrS.step wf (((f0_ wf).extR e40).extR e46) e56 Inn.nil) e400 Inn.nil) e424 Inn.nil).extR e448).extR e454) e460 (hb449.fresh (t_ (t_ (t_ (t_ e40.n e46.n) e56.n) e400.n) e424.n))) e467 (hb455.fresh (t_ (t_ (t_ (t_ (t_ e40.n e46.n) e56.n) e400.n) e424.n) e448.n))) e478 (Inn.app (i404.fresh (t_ (t_ e40.n e46.n) e56.n)) (Inn.app (hb449.fresh (t_ (t_ (t_ (t_ e40.n e46.n) e56.n) e400.n) e424.n)) (i403.fresh (t_ (t_ e40.n e46.n) e56.n))))) e765 (hb47.fresh e40.n)), u768, u769, u770, u771, (Inn.trans (i403.fresh (t_ (t_ e40.n e46.n) e56.n)) (t_ (t_ (t_ (t_ (t_ (t_ (t_ (t_ e40.n e46.n) e56.n) e400.n) e424.n) e448.n) e454.n) e460.n) e467.n) i494), (i404.fresh (t_ (t_ e40.n e46.n) e56.n)), (Inn.trans (i428.fresh (t_ (t_ (t_ e40.n e46.n) e56.n) e400.n)) (t_ (t_ (t_ (t_ (t_ (t_ (t_ (t_ e40.n e46.n) e56.n) e400.n) e424.n) e448.n) e454.n) e460.n) e467.n) i495), (Inn.trans (i429.fresh (t_ (t_ (t_ e40.n e46.n) e56.n) e400.n)) (t_ (t_ (t_ (t_ (t_ (t_ (t_ (t_ e40.n e46.n) e56.n) e400.n) e424.n) e448.n) e454.n) e460.n) e467.n) i496), (i494.dj d405 (m402.ltF.le (t_ (t_ (t_ (t_ e424.n e448.n) e454.n) e460.n) e467.n))), d497, (Dj.symm (i495.dj (i428.djn m402.ltF) (m402.ltF.le (t_ (t_ (t_ (t_ e424.n e448.n) e454.n) e460.n) e467.n)))), d498, (Dj.symm (i496.dj (i429.djn m402.ltF) (m402.ltF.le (t_ (t_ (t_ (t_ e424.n e448.n) e454.n) e460.n) e467.n)))), d499⟩)
theorem c_viaductref02_TwinInts {H : AH} {hd_l : Value} {fp_l : Fp} {l : List (Int)} {r : List (Int)}
    (wf : WF H) (h_l : Sq (encI .i64) 1 H hd_l l fp_l) (hr : z_viaductref02_TwinInts l = some r) :
    ACalls Try.prog 9 #[hd_l] H fun v H' => ∃ (s3 : Value) (f4 : Fp), v = s3 ∧ FrS [] H H' ∧ Ow (encI .i64) 1 H' s3 r f4 ∧ Inn [] H f4 := by
 refine acalls_of_body mixed Try.func9 rfl (Nat.le_of_ble_eq_true rfl) ?_
 unfold z_viaductref02_TwinInts at hr
 refine w_seqk fun _ k6 => g_' (q_ (.slice none 0 0) (s_nil (k6 _ _ (w_seqk fun _ k7 => g_' (q_ (.slice none 0 0) (s_nil (k7 _ _ (w_seqk fun _ k8 => w_seqk fun _ k9 => g_' (q_ (hd_l) ?_)))))))))
 refine l_' (i_ (l.length : Int)) (aLen Try.prog 26 hd_l H) (h_l.lenb (by kernel_rfl)) ?_
 refine q_ (i_ 0) (s_nil (k9 _ _ ?_))
 obtain ⟨o10, hx11, r12⟩ := bind_some hr
 refine w_mid (fun α H13 => ∃ (s17 : Value) (f18 : Fp), Has α [(3, s17)] ∧ FrS [] H H13 ∧ Ow (encI .i64) 1 H13 s17 o10 f18 ∧ Inn [] H f18) (fun _ k20 => ?_) (fun α H13 hM => ?_)
 ·refine w_block ?_
  obtain ⟨n22, hn23⟩ := loopO_iff.1 hx11
  refine w_loopn (fun n α H24 => ∃ (m0 : List (Int)), ∃ (i1 : Int), ∃ (s28 : Value), ∃ (f29 : Fp), iterO (fun zz_ => z_viaductref02_TwinInts_l0 l zz_.1 zz_.2) n (m0, i1) = some o10 ∧ Has α [(3, s28), (6, hd_l), (7, i_ (l.length : Int)), (8, i_ i1)] ∧ FrS [] H H24 ∧ Ow (encI .i64) 1 H24 s28 m0 f29 ∧ Inn [] H f29) n22 ⟨[], 0, (.slice none 0 0), [], hn23, ha_, (f0_ wf), (Ow.nil (by decide)), Inn.nil⟩ ?_
  rintro n22 α H24 ⟨m0, i1, s28, f29, hi32, hh31, e25, m27, i30⟩ K37 k37
  obtain ⟨n33, z34, rfl, hz35, hn36⟩ := iter_succ hi32
  obtain ⟨β, rfl⟩ := has_ex hh31
  clear hh31
  replace hz35 : z_viaductref02_TwinInts_l0 l m0 i1 = some z34 := hz35
  unfold z_viaductref02_TwinInts_l0 at hz35
  obtain ⟨a38, n39, c40, rfl⟩ := m27.form
  refine w_seqk fun _ k41 => g_' (q_ (.bool (decide (i1 < (l.length : Int)))) (s_nil (k41 _ _ (w_seqk fun _ k42 => ?_))))
  refine w_condp (i1 < (l.length : Int)) (by kernel_rfl) rfl (fun h43 => ?_) (fun h43 => ?_)
  ·have r44 := ite_t h43 hz35
   refine w_skip (k42 _ _ (w_seqk fun _ k45 => w_block (w_seqk fun _ k46 => g_' ?_)))
   obtain ⟨g47, r48⟩ := G_some r44
   have u49 := (h_l.fr e25 Dj.nil_l)
   refine l_' (elp hd_l 1 i1.toNat 0) (aIndexAddr Try.prog 26 hd_l (i_ i1)) (u49.idxb (by kernel_rfl) g47 h43) ?_
   refine l_' (i_ (gt l i1)) (aL_ 3 (elp hd_l 1 i1.toNat 0) H24) (u49.ld g47 h43 (by kernel_rfl)) ?_
   refine q_ (i_ (gt l i1)) (s_nil (k46 _ _ (g_' (q_ (.slice a38 n39 c40) (q_ (i_ (gt l i1)) ?_)))))
   refine s_owk (enc := (encI .i64)) (sz := 1) e25.wf [(gt l i1)] 1 (by decide) (fun _ _ => rfl) (fun _ _ => rfl) rfl (by kernel_rfl) fun s50 f51 H52 e53 hf54 hm55 => ?_
   obtain ⟨a56, n57, c58, rfl⟩ := hm55.form
   have u60 := (m27.ext e53)
   obtain ⟨g61, r62⟩ := G_some r48
   obtain ⟨s63, H64, f65, q69, e66, hm67, hf68⟩ := Ow.append (P := Try.prog) 8 e53.wf u60 hm55.sq (fun _ _ => rfl) (at_ := #[26, 26]) rfl rfl (by kernel_rfl) (by kernel_rfl) (by decide) (by have := g61; first | omega | (simp only [List.length_cons, List.length_nil] at this ⊢; omega) | (simp at this ⊢; omega))
   obtain ⟨a70, n71, c72, rfl⟩ := hm67.form
   refine s_ek (.slice a70 n71 c72) (by kernel_rfl) (q69) ?_
   refine q_ (.slice a70 n71 c72) (s_nil (k45 _ _ (g_' ?_)))
   obtain ⟨g74, r75⟩ := G_some r62
   refine w_' (i1 + 1) (wrap64 (by have := g74; omega)) ?_
   refine q_ (i_ (i1 + 1)) (s_nil ?_)
   obtain rfl := oi_ r75
   exact k37 n33 _ _ (Nat.lt_succ_self _) ⟨(m0 ++ [(gt l i1)]), (i1 + 1), (.slice a70 n71 c72), f65, hn36, ha_, (FrS.step wf ((FrS.step wf (f0_ wf) e25 Inn.nil).extR e53) e66 (i30.fresh (Nat.le_refl _))), hm67, (Inn.trans (i30.fresh (Nat.le_refl _)) (t_ e25.n e53.n) hf68)⟩
  have r76 := ite_f h43 hz35
  refine w_exit (th_exit (th_exit (bl_eq ?_)))
  obtain rfl := oi_ r76
  obtain rfl := it_inr hn36
  exact k20 _ _ ⟨(.slice a38 n39 c40), f29, ha_, (FrS.step wf (f0_ wf) e25 Inn.nil), m27, (i30.fresh (Nat.le_refl _))⟩
 obtain ⟨s17, f18, hh21, e14, m16, i19⟩ := hM
 obtain ⟨β, rfl⟩ := has_ex hh21
 clear hh21
 obtain ⟨a77, n78, c79, rfl⟩ := m16.form
 refine k8 _ _ (w_seqk fun _ k80 => g_' (q_ (.slice a77 n78 c79) (q_ (.slice a77 n78 c79) (s_nil (k80 _ _ ?_)))))
 refine w_ret ?_
 refine b_ret (fn := Try.f9) (vs := [.slice a77 n78 c79]) (rt_ (rfl)) ?_
 obtain rfl := oi_ r12
 exact ⟨(.slice a77 n78 c79), f18, rfl, (FrS.step wf (f0_ wf) e14 Inn.nil), m16, (i19.fresh (Nat.le_refl _))⟩
theorem c_witness_Find_nil {H : AH} {hd_goals : Value} {fp_goals : Fp} {u : Int} {skip : Int} {goals : List (Int)} {most : Int} {hops : Int} {settles : Int} {r : Unit}
    (wf : WF H) (h_goals : Sq (encI .i64) 1 H hd_goals goals fp_goals) (hr : z_witness_Find_nil u skip goals most hops settles = some r) :
    ACalls Try.prog 8 #[.pointer none, i_ u, i_ skip, hd_goals, .int .u64 most, i_ hops, i_ settles] H fun v H' => v = .tuple #[.slice none 0 0, .iface 90 (i_ 19)] ∧ H = H' := by
 refine acalls_of_body mixed Try.func8 rfl (Nat.le_of_ble_eq_true rfl) ?_
 unfold z_witness_Find_nil at hr
 refine w_seqk fun _ k1 => g_' (q_ (.slice none 0 0) (q_ (.nilIface) (s_nil (k1 _ _ (w_seqk fun _ k2 => w_seqk fun _ k3 => g_' (q_ (.pointer none) (q_ (.bool true) (s_nil (k3 _ _ ?_)))))))))
 refine w_cond true (by kernel_rfl) rfl (fun _ => ?_) (fun h => by cases h)
 refine w_seqk fun _ k4 => g_' (q_ (.iface 90 (i_ 19)) (q_ (.slice none 0 0) (q_ (.iface 90 (i_ 19)) (s_nil (k4 _ _ ?_)))))
 refine w_ret (th_ret ?_)
 refine b_ret (fn := Try.f8) (vs := [.slice none 0 0, .iface 90 (i_ 19)]) (rt_ (aRes_tmp (by kernel_rfl) (rfl))) ?_
 obtain rfl := oi_ hr
 exact ⟨rfl, rfl⟩
end Go.Vd

/-! (KWg6) -/

set_option maxRecDepth 100000
set_option maxHeartbeats 4000000
set_option linter.unusedVariables false
namespace Go.Vd
open Go.Proofs
attribute [local irreducible] wpSeq wpOrd aWp
theorem c_witness_queue_Push {H : AH} {b_q : Nat} {b_q_ : Nat} {hd_q_2 : Value} {fp_q_2 : Fp} {hd_q_7 : Value} {fp_q_7 : Fp} {b_q_8 : Nat} {q_2 : List (Bool × List (Int × Int × Int) × List (Int × Int × Int))} {q_3 : Int} {q_4 : Int} {q_5 : Int} {q_6 : Int} {q_7 : List (Int × Int)} {q_8 : Int → Option (Int × Int × Int)} {dist : Int} {node : Int} {r : List (Int × Int)}
    (wf : WF H) (h_q_2 : Nd enc_i64_u64_i64 3 H hd_q_2 q_2 fp_q_2 []) (h_q_ : Row H b_q_ [hd_q_2, i_ q_3, i_ q_4]) (h_q_7 : Ow enc_u64_i64 2 H hd_q_7 q_7 fp_q_7) (h_q_8 : Ms .i64 enc_u64_i64_i64 H b_q_8 q_8) (h_q : Row H b_q [pt_ b_q_ 0, i_ q_5, i_ q_6, hd_q_7, .map (some b_q_8)]) (dj_fp_q_7_b_q : Dj fp_q_7 [b_q]) (hr : z_witness_queue_Push q_2 q_3 q_4 q_5 q_6 q_7 q_8 dist node = some r) :
    ACalls Try.prog 126 #[pt_ b_q 3, .iface 152 (.agg #[.int .u64 dist, i_ node])] H fun v H' => ∃ (s3 : Value) (f4 : Fp), v = .tuple #[] ∧ FrS ([b_q] ++ fp_q_7) H H' ∧ Ow enc_u64_i64 2 H' s3 r f4 ∧ Row H' b_q [pt_ b_q_ 0, i_ q_5, i_ q_6, s3, .map (some b_q_8)] ∧ Inn fp_q_7 H f4 := by
 refine acalls_of_body mixed Try.func126 rfl (Nat.le_of_ble_eq_true rfl) ?_
 unfold z_witness_queue_Push at hr
 refine w_draw [0, 1, 2, 3, 4, 5, 6, 7, 8, 9] (by kernel_rfl) ?_
 refine e_' (pt_ b_q 3) (e_' (pt_ b_q 3) (e_' (pt_ b_q 3) ?_))
 refine m_' (hd_q_7) (aL_ 96 (pt_ b_q 3) H) (h_q.l_) ?_
 refine e_' (.iface 152 (.agg #[.int .u64 dist, i_ node])) (e_' (.agg #[.int .u64 dist, i_ node]) ?_)
 refine d_owk (enc := enc_u64_i64) (sz := 2) wf [(dist, node)] 1 (by decide) (fun _ _ => rfl) (fun _ _ => rfl) rfl (by kernel_rfl) fun s8 f9 H10 e11 hf12 hm13 => ?_
 obtain ⟨a14, n15, c16, rfl⟩ := hm13.form
 have u18 := (h_q_7.ext e11)
 obtain ⟨g19, r20⟩ := G_some hr
 obtain ⟨s21, H22, f23, q27, e24, hm25, hf26⟩ := Ow.append (P := Try.prog) 16 e11.wf u18 hm13.sq (fun _ _ => rfl) (at_ := #[96, 96]) rfl rfl (by kernel_rfl) (by kernel_rfl) (by decide) (by have := g19; first | omega | (simp only [List.length_cons, List.length_nil] at this ⊢; omega) | (simp at this ⊢; omega))
 obtain ⟨a28, n29, c30, rfl⟩ := hm25.form
 refine d_ek (.slice a28 n29 c30) (by kernel_rfl) (q27) (st_nil) ?_
 refine e_' (pt_ b_q 3) ?_
 have u36 := ((h_q.ext e11).frS e24 dj_fp_q_7_b_q)
 obtain ⟨H32, q33, e34, r35⟩ := Row.store (P := Try.prog) (t := 96) (p := 3) e24.wf u36 (.slice a28 n29 c30) [.slice a28 n29 c30] (by kernel_rfl) (by kernel_rfl) (one_cons (hm25.one1) (one_nil)) (Nat.le_of_ble_eq_true (by kernel_rfl)) [pt_ b_q_ 0, i_ q_5, i_ q_6, .slice a28 n29 c30, .map (some b_q_8)] (by kernel_rfl)
 refine d_ek (undef) (by kernel_rfl) (map_ok q33) (st_nil) ?_
 refine d_nil ?_
 refine b_nrm (fn := Try.f126) (vs := []) (rfl) ?_
 have u37 := (hm25.fr e34 (Dj.symm (hf26.dj dj_fp_q_7_b_q (h_q.ltF.le e11.n))))
 obtain rfl := oi_ r20
 exact ⟨(.slice a28 n29 c30), f23, rfl, (FrS.step wf (FrS.step wf ((FrS.refl (W := ([b_q] ++ fp_q_7)) wf).extR e11) e24 (Inn.right Inn.refl')) e34 Inn.left), u37, r35, (Inn.trans Inn.refl' e11.n hf26)⟩
theorem c_witness_queue_Len {H : AH} {hd_q : Value} {fp_q : Fp} {q : List (Int × Int)} {r : Int}
    (wf : WF H) (h_q : Sq enc_u64_i64 2 H hd_q q fp_q) (hr : z_witness_queue_Len q = some r) :
    ACalls Try.prog 121 #[hd_q] H fun v H' => v = i_ r ∧ H = H' := by
 refine acalls_of_body mixed Try.func121 rfl (Nat.le_of_ble_eq_true rfl) ?_
 unfold z_witness_queue_Len at hr
 refine w_seqk fun _ k1 => g_' (q_ (i_ 0) (s_nil (k1 _ _ (w_seqk fun _ k2 => g_' (q_ (hd_q) ?_)))))
 refine l_' (i_ (q.length : Int)) (aLen Try.prog 96 hd_q H) (h_q.lenb (by kernel_rfl)) ?_
 refine q_ (i_ (q.length : Int)) (s_nil (k2 _ _ ?_))
 refine w_ret ?_
 refine b_ret (fn := Try.f121) (vs := [i_ (q.length : Int)]) (rt_ (rfl)) ?_
 obtain rfl := oi_ hr
 exact ⟨rfl, rfl⟩
theorem c_witness_queue_Less {H : AH} {hd_q : Value} {fp_q : Fp} {q : List (Int × Int)} {i : Int} {j : Int} {r : Bool}
    (wf : WF H) (h_q : Sq enc_u64_i64 2 H hd_q q fp_q) (hr : z_witness_queue_Less q i j = some r) :
    ACalls Try.prog 122 #[hd_q, i_ i, i_ j] H fun v H' => v = .bool r ∧ H = H' := by
 refine acalls_of_body mixed Try.func122 rfl (Nat.le_of_ble_eq_true rfl) ?_
 unfold z_witness_queue_Less at hr
 refine w_seqk fun _ k1 => g_' (q_ (.bool false) (s_nil (k1 _ _ (w_seqk fun _ k2 => ?_))))
 refine w_draw [0, 1, 2, 3, 4, 5, 6, 7, 8, 9, 10, 11, 12, 13, 14, 15, 16, 17, 18, 19, 20, 21, 22, 23, 24, 25, 26, 27, 28, 29, 30, 31, 32, 33, 34, 35, 36, 37] (by kernel_rfl) ?_
 refine e_' (hd_q) (e_' (i_ i) ?_)
 obtain ⟨g3, r4⟩ := G_some hr
 refine m_' (elp hd_q 2 i.toNat 0) (aIndexAddr Try.prog 96 hd_q (i_ i)) (h_q.idxb (by kernel_rfl) g3.1 g3.2) ?_
 refine m_' (elp hd_q 2 i.toNat 0) (aFieldAddr Try.prog 152 (elp hd_q 2 i.toNat 0) 0) (Sq.fldq (d := 0) h_q g3.1 g3.2 (by kernel_rfl)) ?_
 refine m_' (.int .u64 ((gt q i).1)) (aL_ 27 (elp hd_q 2 i.toNat 0) H) (h_q.ld g3.1 g3.2 (by kernel_rfl)) ?_
 refine e_' (hd_q) (e_' (i_ j) ?_)
 obtain ⟨g5, r6⟩ := G_some r4
 refine m_' (elp hd_q 2 j.toNat 0) (aIndexAddr Try.prog 96 hd_q (i_ j)) (h_q.idxb (by kernel_rfl) g5.1 g5.2) ?_
 refine m_' (elp hd_q 2 j.toNat 0) (aFieldAddr Try.prog 152 (elp hd_q 2 j.toNat 0) 0) (Sq.fldq (d := 0) h_q g5.1 g5.2 (by kernel_rfl)) ?_
 refine m_' (.int .u64 ((gt q j).1)) (aL_ 27 (elp hd_q 2 j.toNat 0) H) (h_q.ld g5.1 g5.2 (by kernel_rfl)) ?_
 refine d_b (((gt q i).1) < ((gt q j).1)) (by kernel_rfl) (fun h7 => ?_) (fun h7 => ?_)
 ·have r8 := ite_t h7 r6
  refine e_' (.bool true) (j_' (j_' (j_' (j_' (j_' (j_' (j_' (j_' (j_' (j_' (j_' (j_' (j_' (j_' (j_' (j_' (j_' (j_' (j_' (j_' (j_' (j_' (j_' (j_' (e_' (.bool true) (e_' (.bool true) ?_))))))))))))))))))))))))))
  refine d_nil ?_
  refine k2 _ _ ?_
  refine w_ret ?_
  refine b_ret (fn := Try.f122) (vs := [.bool true]) (rt_ (rfl)) ?_
  obtain rfl := oi_ r8
  exact ⟨rfl, rfl⟩
 have r9 := ite_f h7 r6
 refine e_' (.bool false) (e_' (hd_q) (e_' (i_ i) ?_))
 refine m_' (elp hd_q 2 i.toNat 0) (aIndexAddr Try.prog 96 hd_q (i_ i)) (h_q.idxb (by kernel_rfl) g3.1 g3.2) ?_
 refine m_' (elp hd_q 2 i.toNat 0) (aFieldAddr Try.prog 152 (elp hd_q 2 i.toNat 0) 0) (Sq.fldq (d := 0) h_q g3.1 g3.2 (by kernel_rfl)) ?_
 refine m_' (.int .u64 ((gt q i).1)) (aL_ 27 (elp hd_q 2 i.toNat 0) H) (h_q.ld g3.1 g3.2 (by kernel_rfl)) ?_
 refine e_' (hd_q) (e_' (i_ j) ?_)
 refine m_' (elp hd_q 2 j.toNat 0) (aIndexAddr Try.prog 96 hd_q (i_ j)) (h_q.idxb (by kernel_rfl) g5.1 g5.2) ?_
 refine m_' (elp hd_q 2 j.toNat 0) (aFieldAddr Try.prog 152 (elp hd_q 2 j.toNat 0) 0) (Sq.fldq (d := 0) h_q g5.1 g5.2 (by kernel_rfl)) ?_
 refine m_' (.int .u64 ((gt q j).1)) (aL_ 27 (elp hd_q 2 j.toNat 0) H) (h_q.ld g5.1 g5.2 (by kernel_rfl)) ?_
 refine d_b (((gt q i).1) = ((gt q j).1)) (by kernel_rfl) (fun h10 => ?_) (fun h10 => ?_)
 ·have r11 := ite_t h10 r9
  refine e_' (.bool true) (e_' (hd_q) (e_' (i_ i) ?_))
  refine m_' (elp hd_q 2 i.toNat 0) (aIndexAddr Try.prog 96 hd_q (i_ i)) (h_q.idxb (by kernel_rfl) g3.1 g3.2) ?_
  refine m_' (elp hd_q 2 i.toNat 1) (aFieldAddr Try.prog 152 (elp hd_q 2 i.toNat 0) 1) (Sq.fldq (d := 1) h_q g3.1 g3.2 (by kernel_rfl)) ?_
  refine m_' (i_ ((gt q i).2)) (aL_ 3 (elp hd_q 2 i.toNat 1) H) (h_q.ld g3.1 g3.2 (by kernel_rfl)) ?_
  refine e_' (hd_q) (e_' (i_ j) ?_)
  refine m_' (elp hd_q 2 j.toNat 0) (aIndexAddr Try.prog 96 hd_q (i_ j)) (h_q.idxb (by kernel_rfl) g5.1 g5.2) ?_
  refine m_' (elp hd_q 2 j.toNat 1) (aFieldAddr Try.prog 152 (elp hd_q 2 j.toNat 0) 1) (Sq.fldq (d := 1) h_q g5.1 g5.2 (by kernel_rfl)) ?_
  refine m_' (i_ ((gt q j).2)) (aL_ 3 (elp hd_q 2 j.toNat 1) H) (h_q.ld g5.1 g5.2 (by kernel_rfl)) ?_
  refine e_' (.bool (decide (((gt q i).2) < ((gt q j).2)))) (e_' (.bool (decide (((gt q i).2) < ((gt q j).2)))) (e_' (.bool (decide (((gt q i).2) < ((gt q j).2)))) (e_' (.bool (decide (((gt q i).2) < ((gt q j).2)))) ?_)))
  refine d_nil ?_
  refine k2 _ _ ?_
  refine w_ret ?_
  refine b_ret (fn := Try.f122) (vs := [.bool (decide (((gt q i).2) < ((gt q j).2)))]) (rt_ (rfl)) ?_
  obtain rfl := oi_ r11
  exact ⟨rfl, rfl⟩
 have r12 := ite_f h10 r9
 refine e_' (.bool false) (j_' (j_' (j_' (j_' (j_' (j_' (j_' (j_' (j_' (j_' (j_' (e_' (.bool false) (e_' (.bool false) (e_' (.bool false) ?_))))))))))))))
 refine d_nil ?_
 refine k2 _ _ ?_
 refine w_ret ?_
 refine b_ret (fn := Try.f122) (vs := [.bool false]) (rt_ (rfl)) ?_
 obtain rfl := oi_ r12
 exact ⟨rfl, rfl⟩
theorem c_witness_queue_Swap {H : AH} {hd_q : Value} {fp_q : Fp} {q : List (Int × Int)} {i : Int} {j : Int} {r : List (Int × Int)}
    (wf : WF H) (h_q : Ow enc_u64_i64 2 H hd_q q fp_q) (hr : z_witness_queue_Swap q i j = some r) :
    ACalls Try.prog 123 #[hd_q, i_ i, i_ j] H fun v H' => v = .tuple #[] ∧ FrS fp_q H H' ∧ Ow enc_u64_i64 2 H' hd_q r fp_q := by
 refine acalls_of_body mixed Try.func123 rfl (Nat.le_of_ble_eq_true rfl) ?_
 unfold z_witness_queue_Swap at hr
 refine w_draw [0, 1, 2, 3, 4, 5, 6, 7, 8, 9, 10, 11, 12, 13, 14, 15] (by kernel_rfl) ?_
 refine e_' (hd_q) (e_' (i_ i) (e_' (hd_q) (e_' (i_ j) (e_' (hd_q) (e_' (i_ j) ?_)))))
 obtain ⟨g3, r4⟩ := G_some hr
 refine m_' (elp hd_q 2 j.toNat 0) (aIndexAddr Try.prog 96 hd_q (i_ j)) (h_q.sq.idxb (by kernel_rfl) g3.1 g3.2) ?_
 refine m_' (.agg #[.int .u64 ((gt q j).1), i_ ((gt q j).2)]) (aL_ 152 (elp hd_q 2 j.toNat 0) H) (h_q.sq.ld g3.1 g3.2 (by kernel_rfl)) ?_
 refine e_' (hd_q) (e_' (i_ i) ?_)
 obtain ⟨g5, r6⟩ := G_some r4
 refine m_' (elp hd_q 2 i.toNat 0) (aIndexAddr Try.prog 96 hd_q (i_ i)) (h_q.sq.idxb (by kernel_rfl) g5.1 g5.2) ?_
 refine m_' (.agg #[.int .u64 ((gt q i).1), i_ ((gt q i).2)]) (aL_ 152 (elp hd_q 2 i.toNat 0) H) (h_q.sq.ld g5.1 g5.2 (by kernel_rfl)) ?_
 refine m_' (elp hd_q 2 i.toNat 0) (aIndexAddr Try.prog 96 hd_q (i_ i)) (h_q.sq.idxb (by kernel_rfl) g5.1 g5.2) ?_
 obtain ⟨H7, q8, e9, hm10⟩ := Ow.store (P := Try.prog) (t := 152) (off := 0) wf h_q g5.1 g5.2 (.agg #[.int .u64 ((gt q j).1), i_ ((gt q j).2)]) [.int .u64 ((gt q j).1), i_ ((gt q j).2)] (by kernel_rfl) (by kernel_rfl) rfl ((gt q j).1, (gt q j).2) (Nat.le_of_ble_eq_true rfl) (by kernel_rfl)
 refine d_ek (undef) (by kernel_rfl) (map_ok q8) (st_nil) ?_
 obtain ⟨g11, r12⟩ := G_some r6
 refine m_' (elp hd_q 2 j.toNat 0) (aIndexAddr Try.prog 96 hd_q (i_ j)) (hm10.sq.idxb (by kernel_rfl) g3.1 g11) ?_
 obtain ⟨H13, q14, e15, hm16⟩ := Ow.store (P := Try.prog) (t := 152) (off := 0) e9.wf hm10 g3.1 g11 (.agg #[.int .u64 ((gt q i).1), i_ ((gt q i).2)]) [.int .u64 ((gt q i).1), i_ ((gt q i).2)] (by kernel_rfl) (by kernel_rfl) rfl ((gt q i).1, (gt q i).2) (Nat.le_of_ble_eq_true rfl) (by kernel_rfl)
 refine d_ek (undef) (by kernel_rfl) (map_ok q14) (st_nil) ?_
 refine d_nil ?_
 refine b_nrm (fn := Try.f123) (vs := []) (rfl) ?_
 obtain rfl := oi_ r12
 exact ⟨rfl, (FrS.step wf (FrS.step wf (FrS.refl (W := fp_q) wf) e9 Inn.refl') e15 Inn.refl'), hm16⟩
theorem c_container_heap_up {H : AH} {b_h : Nat} {b_h_ : Nat} {hd_h_2 : Value} {fp_h_2 : Fp} {hd_h_7 : Value} {fp_h_7 : Fp} {b_h_8 : Nat} {h_2 : List (Bool × List (Int × Int × Int) × List (Int × Int × Int))} {h_3 : Int} {h_4 : Int} {h_5 : Int} {h_6 : Int} {h_7 : List (Int × Int)} {h_8 : Int → Option (Int × Int × Int)} {j : Int} {r : List (Int × Int)}
    (wf : WF H) (h_h_2 : Nd enc_i64_u64_i64 3 H hd_h_2 h_2 fp_h_2 []) (h_h_ : Row H b_h_ [hd_h_2, i_ h_3, i_ h_4]) (h_h_7 : Ow enc_u64_i64 2 H hd_h_7 h_7 fp_h_7) (h_h_8 : Ms .i64 enc_u64_i64_i64 H b_h_8 h_8) (h_h : Row H b_h [pt_ b_h_ 0, i_ h_5, i_ h_6, hd_h_7, .map (some b_h_8)]) (dj_fp_h_7_b_h : Dj fp_h_7 [b_h]) (hr : z_container_heap_up h_2 h_3 h_4 h_5 h_6 h_7 h_8 j = some r) :
    ACalls Try.prog 79 #[.iface 150 (pt_ b_h 3), i_ j] H fun v H' => v = .tuple #[] ∧ FrS fp_h_7 H H' ∧ Ow enc_u64_i64 2 H' hd_h_7 r fp_h_7 := by
 refine acalls_of_body mixed Try.func79 rfl (Nat.le_of_ble_eq_true rfl) ?_
 unfold z_container_heap_up at hr
 obtain ⟨o3, hx4, r5⟩ := bind_some hr
 refine w_mid (fun α H6 => Has α [] ∧ FrS fp_h_7 H H6 ∧ Ow enc_u64_i64 2 H6 hd_h_7 o3 fp_h_7) (fun _ k10 => ?_) (fun α H6 hM => ?_)
 ·refine w_block ?_
  obtain ⟨n12, hn13⟩ := loopO_iff.1 hx4
  refine w_loopn (fun n α H14 => ∃ (h0 : List (Int × Int)), ∃ (j1 : Int), iterO (fun zz_ => z_container_heap_up_l0 zz_.1 zz_.2) n (h0, j1) = some o3 ∧ Has α [(0, .iface 150 (pt_ b_h 3)), (1, i_ j1)] ∧ FrS fp_h_7 H H14 ∧ Ow enc_u64_i64 2 H14 hd_h_7 h0 fp_h_7) n12 ⟨h_7, j, hn13, ha_, (FrS.refl (W := fp_h_7) wf), h_h_7⟩ ?_
  rintro n12 α H14 ⟨h0, j1, hi19, hh18, e15, m17⟩ K24 k24
  obtain ⟨n20, z21, rfl, hz22, hn23⟩ := iter_succ hi19
  obtain ⟨β, rfl⟩ := has_ex hh18
  clear hh18
  replace hz22 : z_container_heap_up_l0 h0 j1 = some z21 := hz22
  unfold z_container_heap_up_l0 at hz22
  refine w_block (w_seqk fun _ k25 => g_' (q_ (i_ j1) ?_))
  obtain ⟨g26, r27⟩ := G_some hz22
  refine w_' (j1 - 1) (wrap64 g26) ?_
  obtain ⟨g28, r29⟩ := G_some r27
  refine w_' (Int.tdiv (j1 - 1) 2) (wrap64 g28) ?_
  refine q_ (i_ (Int.tdiv (j1 - 1) 2)) (s_nil (k25 _ _ (w_seqk fun _ k30 => w_seqk fun _ k31 => ?_)))
  obtain ⟨o32, hx33, r34⟩ := bind_some r29
  refine w_mid (fun α H35 => Has α [(0, .iface 150 (pt_ b_h 3)), (1, i_ j1), (4, i_ (Int.tdiv (j1 - 1) 2)), (17, .bool o32)] ∧ H14 = H35) (fun _ k37 => ?_) (fun α H35 hM => ?_)
  ·refine g_' (q_ (i_ (Int.tdiv (j1 - 1) 2)) (q_ (i_ j1) ?_))
   refine s_b ((Int.tdiv (j1 - 1) 2) = j1) (by kernel_rfl) (fun h39 => ?_) (fun h39 => ?_)
   ·have r40 := ite_t h39 hx33
    refine q_ (.bool true) (n_' (n_' (n_' (n_' (n_' (q_ (.bool true) (s_nil ?_)))))))
    obtain rfl := oi_ r40
    exact k37 _ _ ⟨ha_, rfl⟩
   have r41 := ite_f h39 hx33
   refine q_ (.bool false) (q_ (.iface 150 (pt_ b_h 3)) (q_ (i_ j1) (q_ (i_ (Int.tdiv (j1 - 1) 2)) ?_)))
   obtain ⟨y42, hy43, r44⟩ := bind_some r41
   have u45 := (h_h.frS e15 dj_fp_h_7_b_h)
   refine s_cl 122 96 ⟨b_h, 3, none⟩ #[i_ j1, i_ (Int.tdiv (j1 - 1) 2)] (hd_h_7) #[hd_h_7, i_ j1, i_ (Int.tdiv (j1 - 1) 2)] (by kernel_rfl) (by kernel_rfl) (u45.l_) (c_witness_queue_Less e15.wf m17.sq hy43) ?_
   rintro _ _ ⟨rfl, rfl⟩
   refine q_ (.bool (!y42)) (q_ (.bool (!y42)) (s_nil ?_))
   obtain rfl := oi_ r44
   exact k37 _ _ ⟨ha_, rfl⟩
  obtain ⟨hh38, rfl⟩ := hM
  obtain ⟨β, rfl⟩ := has_ex hh38
  clear hh38
  refine k31 _ _ ?_
  refine w_cond (o32) (by kernel_rfl) rfl (fun h48 => ?_) (fun h48 => ?_)
  ·have r49 := ite_t h48 r34
   refine w_exit (th_exit (bl_ne (by decide) (th_exit (bl_eq ?_))))
   obtain rfl := oi_ r49
   obtain rfl := it_inr hn23
   exact k10 _ _ ⟨trivial, (FrS.step wf (FrS.refl (W := fp_h_7) wf) e15 Inn.refl'), m17⟩
  have r50 := ite_bf h48 r34
  refine w_skip (k30 _ _ (w_seqk fun _ k51 => g_' (q_ (.iface 150 (pt_ b_h 3)) (q_ (i_ (Int.tdiv (j1 - 1) 2)) (q_ (i_ j1) ?_)))))
  obtain ⟨y52, hy53, r54⟩ := bind_some r50
  have u55 := (h_h.frS e15 dj_fp_h_7_b_h)
  refine s_cl 123 96 ⟨b_h, 3, none⟩ #[i_ (Int.tdiv (j1 - 1) 2), i_ j1] (hd_h_7) #[hd_h_7, i_ (Int.tdiv (j1 - 1) 2), i_ j1] (by kernel_rfl) (by kernel_rfl) (u55.l_) (c_witness_queue_Swap e15.wf m17 hy53) ?_
  rintro _ H56 ⟨rfl, e57, m58⟩
  refine s_nil (k51 _ _ (g_' (q_ (i_ (Int.tdiv (j1 - 1) 2)) (q_ (i_ (Int.tdiv (j1 - 1) 2)) (s_nil ?_)))))
  obtain rfl := oi_ r54
  exact k24 n20 _ _ (Nat.lt_succ_self _) ⟨y52, (Int.tdiv (j1 - 1) 2), hn23, ha_, (FrS.step wf (FrS.step wf (FrS.refl (W := fp_h_7) wf) e15 Inn.refl') e57 Inn.refl'), m58⟩
 obtain ⟨hh11, e7, m9⟩ := hM
 obtain ⟨β, rfl⟩ := has_ex hh11
 clear hh11
 refine b_nrm (fn := Try.f79) (vs := []) (rfl) ?_
 obtain rfl := oi_ r5
 exact ⟨rfl, (FrS.step wf (FrS.refl (W := fp_h_7) wf) e7 Inn.refl'), m9⟩
theorem c_container_heap_Push {H : AH} {b_h : Nat} {b_h_ : Nat} {hd_h_2 : Value} {fp_h_2 : Fp} {hd_h_7 : Value} {fp_h_7 : Fp} {b_h_8 : Nat} {h_2 : List (Bool × List (Int × Int × Int) × List (Int × Int × Int))} {h_3 : Int} {h_4 : Int} {h_5 : Int} {h_6 : Int} {h_7 : List (Int × Int)} {h_8 : Int → Option (Int × Int × Int)} {dist : Int} {node : Int} {r : List (Int × Int)}
    (wf : WF H) (h_h_2 : Nd enc_i64_u64_i64 3 H hd_h_2 h_2 fp_h_2 []) (h_h_ : Row H b_h_ [hd_h_2, i_ h_3, i_ h_4]) (h_h_7 : Ow enc_u64_i64 2 H hd_h_7 h_7 fp_h_7) (h_h_8 : Ms .i64 enc_u64_i64_i64 H b_h_8 h_8) (h_h : Row H b_h [pt_ b_h_ 0, i_ h_5, i_ h_6, hd_h_7, .map (some b_h_8)]) (dj_fp_h_7_b_h : Dj fp_h_7 [b_h]) (dj_fp_h_7_fp_h_2 : Dj fp_h_7 fp_h_2) (dj_b_h_fp_h_2 : Dj [b_h] fp_h_2) (dj_fp_h_7_b_h_ : Dj fp_h_7 [b_h_]) (dj_b_h_b_h_ : Dj [b_h] [b_h_]) (dj_fp_h_7_b_h_8 : Dj fp_h_7 [b_h_8]) (dj_b_h_b_h_8 : Dj [b_h] [b_h_8]) (hr : z_container_heap_Push h_2 h_3 h_4 h_5 h_6 h_7 h_8 dist node = some r) :
    ACalls Try.prog 67 #[.iface 150 (pt_ b_h 3), .iface 152 (.agg #[.int .u64 dist, i_ node])] H fun v H' => ∃ (s3 : Value) (f4 : Fp), v = .tuple #[] ∧ FrS ([b_h] ++ fp_h_7) H H' ∧ Ow enc_u64_i64 2 H' s3 r f4 ∧ Row H' b_h [pt_ b_h_ 0, i_ h_5, i_ h_6, s3, .map (some b_h_8)] ∧ Inn fp_h_7 H f4 := by
 refine acalls_of_body mixed Try.func67 rfl (Nat.le_of_ble_eq_true rfl) ?_
 unfold z_container_heap_Push at hr
 refine w_seqk fun _ k8 => g_' (q_ (.iface 150 (pt_ b_h 3)) (q_ (.iface 152 (.agg #[.int .u64 dist, i_ node])) ?_))
 obtain ⟨y9, hy10, r11⟩ := bind_some hr
 refine s_ck 126 #[pt_ b_h 3, .iface 152 (.agg #[.int .u64 dist, i_ node])] (by kernel_rfl) (c_witness_queue_Push wf h_h_2 h_h_ h_h_7 h_h_8 h_h dj_fp_h_7_b_h hy10) ?_
 rintro _ H14 ⟨s12, f13, rfl, e15, m16, m17, i18⟩
 obtain ⟨a20, n21, c22, rfl⟩ := m16.form
 refine s_nil (k8 _ _ (g_' (q_ (.iface 150 (pt_ b_h 3)) (q_ (.iface 150 (pt_ b_h 3)) ?_))))
 obtain ⟨y23, hy24, r25⟩ := bind_some r11
 refine s_cl 121 96 ⟨b_h, 3, none⟩ #[] (.slice a20 n21 c22) #[.slice a20 n21 c22] (by kernel_rfl) (by kernel_rfl) (m17.l_) (c_witness_queue_Len e15.wf m16.sq hy24) ?_
 rintro _ _ ⟨rfl, rfl⟩
 obtain ⟨g28, r29⟩ := G_some r25
 refine w_' (y23 - 1) (wrap64 g28) ?_
 have u30 := (h_h_2.fr e15 (Dj.app dj_b_h_fp_h_2 dj_fp_h_7_fp_h_2))
 have u31 := (h_h_.frS e15 (Dj.app dj_b_h_b_h_ dj_fp_h_7_b_h_))
 have u32 := (h_h_8.frS e15 (Dj.app dj_b_h_b_h_8 dj_fp_h_7_b_h_8))
 obtain ⟨y33, hy34, r35⟩ := bind_some r29
 refine s_ck 79 #[.iface 150 (pt_ b_h 3), i_ (y23 - 1)] (by kernel_rfl) (c_container_heap_up e15.wf u30 u31 m16 u32 m17 (i18.dj dj_fp_h_7_b_h h_h.ltF) hy34) ?_
 rintro _ H36 ⟨rfl, e37, m38⟩
 refine s_nil ?_
 refine b_nrm (fn := Try.f67) (vs := []) (rfl) ?_
 have u39 := (m17.frS e37 (i18.dj dj_fp_h_7_b_h h_h.ltF))
 obtain rfl := oi_ r35
 exact ⟨(.slice a20 n21 c22), f13, rfl, (FrS.step wf (FrS.step wf (FrS.refl (W := ([b_h] ++ fp_h_7)) wf) e15 (Inn.app Inn.left (Inn.right Inn.refl'))) e37 (Inn.trans (Inn.right Inn.refl') (Nat.le_refl _) i18)), m38, u39, (Inn.trans Inn.refl' (Nat.le_refl _) i18)⟩
theorem c_witness_seek_set {H : AH} {b_s : Nat} {b_s_ : Nat} {hd_s_2 : Value} {fp_s_2 : Fp} {hd_s_7 : Value} {fp_s_7 : Fp} {b_s_8 : Nat} {s_2 : List (Bool × List (Int × Int × Int) × List (Int × Int × Int))} {s_3 : Int} {s_4 : Int} {s_5 : Int} {s_6 : Int} {s_7 : List (Int × Int)} {s_8 : Int → Option (Int × Int × Int)} {v_ : Int} {dist : Int} {hops : Int} {settled : Int} {r : (Int → Option (Int × Int × Int)) × List (Int × Int)}
    (wf : WF H) (h_s_2 : Nd enc_i64_u64_i64 3 H hd_s_2 s_2 fp_s_2 []) (h_s_ : Row H b_s_ [hd_s_2, i_ s_3, i_ s_4]) (h_s_7 : Ow enc_u64_i64 2 H hd_s_7 s_7 fp_s_7) (h_s_8 : Ms .i64 enc_u64_i64_i64 H b_s_8 s_8) (h_s : Row H b_s [pt_ b_s_ 0, i_ s_5, i_ s_6, hd_s_7, .map (some b_s_8)]) (dj_b_s_8_fp_s_2 : Dj [b_s_8] fp_s_2) (dj_b_s_8_b_s_ : Dj [b_s_8] [b_s_]) (dj_b_s_8_fp_s_7 : Dj [b_s_8] fp_s_7) (dj_b_s_8_b_s : Dj [b_s_8] [b_s]) (dj_fp_s_7_b_s : Dj fp_s_7 [b_s]) (dj_fp_s_7_fp_s_2 : Dj fp_s_7 fp_s_2) (dj_b_s_fp_s_2 : Dj [b_s] fp_s_2) (dj_fp_s_7_b_s_ : Dj fp_s_7 [b_s_]) (dj_b_s_b_s_ : Dj [b_s] [b_s_]) (hr : z_witness_seek_set s_2 s_3 s_4 s_5 s_6 s_7 s_8 v_ dist hops settled = some r) :
    ACalls Try.prog 53 #[pt_ b_s 0, i_ v_, .agg #[.int .u64 dist, i_ hops, i_ settled]] H fun v H' => ∃ (s5 : Value) (f6 : Fp), v = .tuple #[] ∧ FrS ([b_s] ++ ([b_s_8] ++ fp_s_7)) H H' ∧ Ms .i64 enc_u64_i64_i64 H' b_s_8 r.1 ∧ Ow enc_u64_i64 2 H' s5 r.2 f6 ∧ Row H' b_s [pt_ b_s_ 0, i_ s_5, i_ s_6, s5, .map (some b_s_8)] ∧ Inn fp_s_7 H f6 := by
 refine acalls_of_body mixed Try.func53 rfl (Nat.le_of_ble_eq_true rfl) ?_
 unfold z_witness_seek_set at hr
 refine w_seqk fun _ k10 => g_' ?_
 refine s_rwl wf [.int .u64 dist, i_ hops, i_ settled] (one_cons (rfl) (one_cons (rfl) (one_cons (rfl) (one_nil)))) (by kernel_rfl) fun b11 H12 e13 hb14 r15 => ?_
 refine s_nil (k10 _ _ (w_seqk fun _ k17 => ?_))
 refine w_draw [0, 1, 2, 3, 4, 5, 6] (by kernel_rfl) ?_
 refine e_' (pt_ b_s 0) (e_' (pt_ b_s 0) (e_' (pt_ b_s 4) ?_))
 have u18 := (h_s.ext e13)
 refine m_' (.map (some b_s_8)) (aL_ 94 (pt_ b_s 4) H12) (u18.l_) ?_
 refine e_' (i_ v_) ?_
 refine m_' (.agg #[.int .u64 dist, i_ hops, i_ settled]) (aL_ 101 (pt_ b11 0) H12) (r15.l_) ?_
 have u23 := (h_s_8.ext e13)
 obtain ⟨H19, q21, e20, mp22⟩ := u23.put (P := Try.prog) e13.wf (t := 94) (zv := .agg #[.int .u64 0, i_ 0, i_ 0]) (val := .agg #[.int .u64 dist, i_ hops, i_ settled]) (by kernel_rfl) v_ (dist, hops, settled) rfl
 have e24 := e20.frS (W := [b_s_8]) (List.mem_singleton.2 rfl)
 refine d_ek (undef) (by kernel_rfl) (map_ok q21) (st_nil) ?_
 refine d_nil ?_
 refine k17 _ _ ?_
 refine w_draw [0, 1, 2, 3, 4, 5, 6, 7, 8, 9] (by kernel_rfl) ?_
 refine e_' (pt_ b_s 0) (e_' (pt_ b_s 0) (e_' (pt_ b_s 3) (e_' (.iface 150 (pt_ b_s 3)) (e_' (pt_ b11 0) ?_))))
 have u25 := (r15.frS e24 (Dj.symm (hb14.djn h_s_8.ltF)))
 refine m_' (.int .u64 dist) (aL_ 27 (pt_ b11 0) H19) (u25.l_) ?_
 refine e_' (i_ v_) (e_' (.agg #[.int .u64 dist, i_ v_]) (e_' (.iface 152 (.agg #[.int .u64 dist, i_ v_])) ?_))
 have u26 := ((h_s_2.ext e13).fr e24 dj_b_s_8_fp_s_2)
 have u27 := ((h_s_.ext e13).frS e24 dj_b_s_8_b_s_)
 have u28 := ((h_s_7.ext e13).fr e24 dj_b_s_8_fp_s_7)
 have u29 := (u18.frS e24 dj_b_s_8_b_s)
 obtain ⟨y30, hy31, r32⟩ := bind_some hr
 refine d_ck 67 #[.iface 150 (pt_ b_s 3), .iface 152 (.agg #[.int .u64 dist, i_ v_])] (by kernel_rfl) (c_container_heap_Push e24.wf u26 u27 u28 mp22 u29 dj_fp_s_7_b_s dj_fp_s_7_fp_s_2 dj_b_s_fp_s_2 dj_fp_s_7_b_s_ dj_b_s_b_s_ (Dj.symm dj_b_s_8_fp_s_7) (Dj.symm dj_b_s_8_b_s) hy31) ?_
 rintro _ H35 ⟨s33, f34, rfl, e36, m37, m38, i39⟩
 obtain ⟨a41, n42, c43, rfl⟩ := m37.form
 refine ⟨st_nil, ?_⟩
 refine d_nil ?_
 refine b_nrm (fn := Try.f53) (vs := []) (rfl) ?_
 have u44 := (mp22.frS e36 (Dj.app (Dj.symm dj_b_s_8_b_s) (Dj.symm dj_b_s_8_fp_s_7)))
 obtain rfl := oi_ r32
 exact ⟨(.slice a41 n42 c43), f34, rfl, (FrS.step wf (FrS.step wf ((FrS.refl (W := ([b_s] ++ ([b_s_8] ++ fp_s_7))) wf).extR e13) e24 (Inn.right Inn.left)) e36 (Inn.app Inn.left (Inn.right (Inn.right Inn.refl')))), u44, m37, m38, (Inn.trans Inn.refl' (t_ e13.n e24.n) i39)⟩
theorem c_container_heap_down {H : AH} {b_h : Nat} {b_h_ : Nat} {hd_h_2 : Value} {fp_h_2 : Fp} {hd_h_7 : Value} {fp_h_7 : Fp} {b_h_8 : Nat} {h_2 : List (Bool × List (Int × Int × Int) × List (Int × Int × Int))} {h_3 : Int} {h_4 : Int} {h_5 : Int} {h_6 : Int} {h_7 : List (Int × Int)} {h_8 : Int → Option (Int × Int × Int)} {i0 : Int} {n_ : Int} {r : Bool × List (Int × Int)}
    (wf : WF H) (h_h_2 : Nd enc_i64_u64_i64 3 H hd_h_2 h_2 fp_h_2 []) (h_h_ : Row H b_h_ [hd_h_2, i_ h_3, i_ h_4]) (h_h_7 : Ow enc_u64_i64 2 H hd_h_7 h_7 fp_h_7) (h_h_8 : Ms .i64 enc_u64_i64_i64 H b_h_8 h_8) (h_h : Row H b_h [pt_ b_h_ 0, i_ h_5, i_ h_6, hd_h_7, .map (some b_h_8)]) (dj_fp_h_7_b_h : Dj fp_h_7 [b_h]) (hr : z_container_heap_down h_2 h_3 h_4 h_5 h_6 h_7 h_8 i0 n_ = some r) :
    ACalls Try.prog 80 #[.iface 150 (pt_ b_h 3), i_ i0, i_ n_] H fun v H' => v = .bool r.1 ∧ FrS fp_h_7 H H' ∧ Ow enc_u64_i64 2 H' hd_h_7 r.2 fp_h_7 := by
 refine acalls_of_body mixed Try.func80 rfl (Nat.le_of_ble_eq_true rfl) ?_
 unfold z_container_heap_down at hr
 refine w_seqk fun _ k3 => g_' (q_ (.bool false) (s_nil (k3 _ _ (w_seqk fun _ k4 => g_' (q_ (i_ i0) (q_ (i_ i0) (s_nil (k4 _ _ (w_seqk fun _ k5 => ?_)))))))))
 obtain ⟨o6, hx7, r8⟩ := bind_some hr
 refine w_mid (fun α H9 => Has α [(1, i_ i0), (7, i_ o6.1)] ∧ FrS fp_h_7 H H9 ∧ Ow enc_u64_i64 2 H9 hd_h_7 o6.2 fp_h_7) (fun _ k13 => ?_) (fun α H9 hM => ?_)
 ·refine w_block ?_
  obtain ⟨n15, hn16⟩ := loopO_iff.1 hx7
  refine w_loopn (fun n α H17 => ∃ (h0 : List (Int × Int)), ∃ (i1 : Int), iterO (fun zz_ => z_container_heap_down_l0 n_ zz_.1 zz_.2) n (h0, i1) = some o6 ∧ Has α [(0, .iface 150 (pt_ b_h 3)), (1, i_ i0), (2, i_ n_), (7, i_ i1)] ∧ FrS fp_h_7 H H17 ∧ Ow enc_u64_i64 2 H17 hd_h_7 h0 fp_h_7) n15 ⟨h_7, i0, hn16, ha_, (FrS.refl (W := fp_h_7) wf), h_h_7⟩ ?_
  rintro n15 α H17 ⟨h0, i1, hi22, hh21, e18, m20⟩ K27 k27
  obtain ⟨n23, z24, rfl, hz25, hn26⟩ := iter_succ hi22
  obtain ⟨β, rfl⟩ := has_ex hh21
  clear hh21
  replace hz25 : z_container_heap_down_l0 n_ h0 i1 = some z24 := hz25
  unfold z_container_heap_down_l0 at hz25
  refine w_block (w_seqk fun _ k28 => g_' (q_ (i_ i1) ?_))
  obtain ⟨g29, r30⟩ := G_some hz25
  refine w_' (2 * i1) (wrap64 g29) ?_
  obtain ⟨g31, r32⟩ := G_some r30
  refine w_' ((2 * i1) + 1) (wrap64 g31) ?_
  refine q_ (i_ ((2 * i1) + 1)) (s_nil (k28 _ _ (w_seqk fun _ k33 => w_seqk fun _ k34 => ?_)))
  obtain ⟨o35, hx36, r37⟩ := bind_some r32
  refine w_mid (fun α H38 => Has α [(0, .iface 150 (pt_ b_h 3)), (1, i_ i0), (2, i_ n_), (7, i_ i1), (8, i_ ((2 * i1) + 1)), (21, .bool o35)] ∧ H17 = H38) (fun _ k40 => ?_) (fun α H38 hM => ?_)
  ·refine g_' (q_ (i_ ((2 * i1) + 1)) (q_ (i_ n_) ?_))
   refine s_b (((2 * i1) + 1) ≥ n_) (by kernel_rfl) (fun h42 => ?_) (fun h42 => ?_)
   ·have r43 := ite_t h42 hx36
    refine q_ (.bool true) (n_' (n_' (q_ (.bool true) (s_nil ?_))))
    obtain rfl := oi_ r43
    exact k40 _ _ ⟨ha_, rfl⟩
   have r44 := ite_f h42 hx36
   refine q_ (.bool false) (q_ (i_ ((2 * i1) + 1)) (q_ (.bool (decide (((2 * i1) + 1) < 0))) (q_ (.bool (decide (((2 * i1) + 1) < 0))) (s_nil ?_))))
   obtain rfl := oi_ r44
   exact k40 _ _ ⟨ha_, rfl⟩
  obtain ⟨hh41, rfl⟩ := hM
  obtain ⟨β, rfl⟩ := has_ex hh41
  clear hh41
  refine k34 _ _ ?_
  refine w_cond (o35) (by kernel_rfl) rfl (fun h45 => ?_) (fun h45 => ?_)
  ·have r46 := ite_t h45 r37
   refine w_exit (th_exit (bl_ne (by decide) (th_exit (bl_eq ?_))))
   obtain rfl := oi_ r46
   obtain rfl := it_inr hn26
   exact k13 _ _ ⟨ha_, (FrS.step wf (FrS.refl (W := fp_h_7) wf) e18 Inn.refl'), m20⟩
  have r47 := ite_bf h45 r37
  refine w_skip (k33 _ _ (w_seqk fun _ k48 => g_' (q_ (i_ ((2 * i1) + 1)) (q_ (i_ ((2 * i1) + 1)) (s_nil (k48 _ _ (w_seqk fun _ k49 => w_seqk fun _ k50 => g_' (q_ (i_ ((2 * i1) + 1)) ?_))))))))
  obtain ⟨g51, r52⟩ := G_some r47
  refine w_' (((2 * i1) + 1) + 1) (wrap64 g51) ?_
  refine q_ (i_ (((2 * i1) + 1) + 1)) (s_nil (k50 _ _ (w_seqk fun _ k53 => ?_)))
  obtain ⟨o54, hx55, r56⟩ := bind_some r52
  refine w_mid (fun α H57 => Has α [(0, .iface 150 (pt_ b_h 3)), (1, i_ i0), (2, i_ n_), (7, i_ i1), (9, i_ ((2 * i1) + 1)), (10, i_ (((2 * i1) + 1) + 1)), (33, .bool o54)] ∧ H17 = H57) (fun _ k59 => ?_) (fun α H57 hM => ?_)
  ·refine g_' (q_ (i_ (((2 * i1) + 1) + 1)) (q_ (i_ n_) ?_))
   refine s_b ((((2 * i1) + 1) + 1) < n_) (by kernel_rfl) (fun h61 => ?_) (fun h61 => ?_)
   ·have r62 := ite_t h61 hx55
    refine q_ (.bool true) (q_ (.iface 150 (pt_ b_h 3)) (q_ (i_ (((2 * i1) + 1) + 1)) (q_ (i_ ((2 * i1) + 1)) ?_)))
    obtain ⟨y63, hy64, r65⟩ := bind_some r62
    have u66 := (h_h.frS e18 dj_fp_h_7_b_h)
    refine s_cl 122 96 ⟨b_h, 3, none⟩ #[i_ (((2 * i1) + 1) + 1), i_ ((2 * i1) + 1)] (hd_h_7) #[hd_h_7, i_ (((2 * i1) + 1) + 1), i_ ((2 * i1) + 1)] (by kernel_rfl) (by kernel_rfl) (u66.l_) (c_witness_queue_Less e18.wf m20.sq hy64) ?_
    rintro _ _ ⟨rfl, rfl⟩
    refine q_ (.bool y63) (s_nil ?_)
    obtain rfl := oi_ r65
    exact k59 _ _ ⟨ha_, rfl⟩
   have r69 := ite_f h61 hx55
   refine q_ (.bool false) (n_' (n_' (n_' (n_' (q_ (.bool false) (s_nil ?_))))))
   obtain rfl := oi_ r69
   exact k59 _ _ ⟨ha_, rfl⟩
  obtain ⟨hh60, rfl⟩ := hM
  obtain ⟨β, rfl⟩ := has_ex hh60
  clear hh60
  refine k53 _ _ ?_
  obtain ⟨o70, hx71, r72⟩ := bind_some r56
  refine w_mid (fun α H73 => Has α [(0, .iface 150 (pt_ b_h 3)), (1, i_ i0), (2, i_ n_), (7, i_ i1), (9, i_ o70)] ∧ H17 = H73) (fun _ k75 => ?_) (fun α H73 hM => ?_)
  ·refine w_cond (o54) (by kernel_rfl) rfl (fun h77 => ?_) (fun h77 => ?_)
   ·have r78 := ite_t h77 hx71
    refine g_' (q_ (i_ (((2 * i1) + 1) + 1)) (q_ (i_ (((2 * i1) + 1) + 1)) (s_nil ?_)))
    obtain rfl := oi_ r78
    exact k75 _ _ ⟨ha_, rfl⟩
   have r79 := ite_bf h77 hx71
   refine w_skip ?_
   obtain rfl := oi_ r79
   exact k75 _ _ ⟨ha_, rfl⟩
  obtain ⟨hh76, rfl⟩ := hM
  obtain ⟨β, rfl⟩ := has_ex hh76
  clear hh76
  refine k49 _ _ (w_seqk fun _ k80 => w_seqk fun _ k81 => g_' (q_ (.iface 150 (pt_ b_h 3)) (q_ (i_ o70) (q_ (i_ i1) ?_))))
  obtain ⟨y82, hy83, r84⟩ := bind_some r72
  have u85 := (h_h.frS e18 dj_fp_h_7_b_h)
  refine s_cl 122 96 ⟨b_h, 3, none⟩ #[i_ o70, i_ i1] (hd_h_7) #[hd_h_7, i_ o70, i_ i1] (by kernel_rfl) (by kernel_rfl) (u85.l_) (c_witness_queue_Less e18.wf m20.sq hy83) ?_
  rintro _ _ ⟨rfl, rfl⟩
  refine q_ (.bool (!y82)) (s_nil (k81 _ _ ?_))
  refine w_cond ((!y82)) (by kernel_rfl) rfl (fun h88 => ?_) (fun h88 => ?_)
  ·have r89 := ite_t h88 r84
   refine w_exit (th_exit (bl_ne (by decide) (th_exit (bl_eq ?_))))
   obtain rfl := oi_ r89
   obtain rfl := it_inr hn26
   exact k13 _ _ ⟨ha_, (FrS.step wf (FrS.refl (W := fp_h_7) wf) e18 Inn.refl'), m20⟩
  have r90 := ite_bf h88 r84
  refine w_skip (k80 _ _ (w_seqk fun _ k91 => g_' (q_ (.iface 150 (pt_ b_h 3)) (q_ (i_ i1) (q_ (i_ o70) ?_)))))
  obtain ⟨y92, hy93, r94⟩ := bind_some r90
  refine s_cl 123 96 ⟨b_h, 3, none⟩ #[i_ i1, i_ o70] (hd_h_7) #[hd_h_7, i_ i1, i_ o70] (by kernel_rfl) (by kernel_rfl) (u85.l_) (c_witness_queue_Swap e18.wf m20 hy93) ?_
  rintro _ H95 ⟨rfl, e96, m97⟩
  refine s_nil (k91 _ _ (g_' (q_ (i_ o70) (q_ (i_ o70) (s_nil ?_)))))
  obtain rfl := oi_ r94
  exact k27 n23 _ _ (Nat.lt_succ_self _) ⟨y92, o70, hn26, ha_, (FrS.step wf (FrS.step wf (FrS.refl (W := fp_h_7) wf) e18 Inn.refl') e96 Inn.refl'), m97⟩
 obtain ⟨hh14, e10, m12⟩ := hM
 obtain ⟨β, rfl⟩ := has_ex hh14
 clear hh14
 refine k5 _ _ (w_seqk fun _ k98 => g_' (q_ (i_ o6.1) (q_ (i_ i0) (q_ (.bool (decide (o6.1 > i0))) (q_ (.bool (decide (o6.1 > i0))) (s_nil (k98 _ _ ?_)))))))
 refine w_ret ?_
 refine b_ret (fn := Try.f80) (vs := [.bool (decide (o6.1 > i0))]) (rt_ (rfl)) ?_
 obtain rfl := oi_ r8
 exact ⟨rfl, (FrS.step wf (FrS.refl (W := fp_h_7) wf) e10 Inn.refl'), m12⟩
theorem c_witness_queue_Pop {H : AH} {b_q : Nat} {b_q_ : Nat} {hd_q_2 : Value} {fp_q_2 : Fp} {hd_q_7 : Value} {fp_q_7 : Fp} {b_q_8 : Nat} {q_2 : List (Bool × List (Int × Int × Int) × List (Int × Int × Int))} {q_3 : Int} {q_4 : Int} {q_5 : Int} {q_6 : Int} {q_7 : List (Int × Int)} {q_8 : Int → Option (Int × Int × Int)} {r : Int × Int × List (Int × Int)}
    (wf : WF H) (h_q_2 : Nd enc_i64_u64_i64 3 H hd_q_2 q_2 fp_q_2 []) (h_q_ : Row H b_q_ [hd_q_2, i_ q_3, i_ q_4]) (h_q_7 : Ow enc_u64_i64 2 H hd_q_7 q_7 fp_q_7) (h_q_8 : Ms .i64 enc_u64_i64_i64 H b_q_8 q_8) (h_q : Row H b_q [pt_ b_q_ 0, i_ q_5, i_ q_6, hd_q_7, .map (some b_q_8)]) (dj_b_q_fp_q_7 : Dj [b_q] fp_q_7) (hr : z_witness_queue_Pop q_2 q_3 q_4 q_5 q_6 q_7 q_8 = some r) :
    ACalls Try.prog 125 #[pt_ b_q 3] H fun v H' => ∃ (s3 : Value), v = .iface 152 (.agg #[.int .u64 r.1, i_ r.2.1]) ∧ FrS [b_q] H H' ∧ Ow enc_u64_i64 2 H' s3 r.2.2 fp_q_7 ∧ Row H' b_q [pt_ b_q_ 0, i_ q_5, i_ q_6, s3, .map (some b_q_8)] := by
 refine acalls_of_body mixed Try.func125 rfl (Nat.le_of_ble_eq_true rfl) ?_
 unfold z_witness_queue_Pop at hr
 refine w_seqk fun _ k6 => g_' (q_ (.nilIface) (s_nil (k6 _ _ (w_seqk fun _ k7 => g_' (q_ (pt_ b_q 3) (q_ (pt_ b_q 3) ?_))))))
 refine l_' (hd_q_7) (aL_ 96 (pt_ b_q 3) H) (h_q.l_) ?_
 refine l_' (i_ (q_7.length : Int)) (aLen Try.prog 96 hd_q_7 H) (h_q_7.sq.lenb (by kernel_rfl)) ?_
 obtain ⟨g8, r9⟩ := G_some hr
 refine w_' ((q_7.length : Int) - 1) (wrap64 g8) ?_
 refine q_ (i_ ((q_7.length : Int) - 1)) (s_nil (k7 _ _ (w_seqk fun _ k10 => g_' (q_ (pt_ b_q 3) (q_ (pt_ b_q 3) ?_)))))
 refine l_' (hd_q_7) (aL_ 96 (pt_ b_q 3) H) (h_q.l_) ?_
 refine q_ (i_ ((q_7.length : Int) - 1)) ?_
 obtain ⟨g11, r12⟩ := G_some r9
 refine l_' (elp hd_q_7 2 ((q_7.length : Int) - 1).toNat 0) (aIndexAddr Try.prog 96 hd_q_7 (i_ ((q_7.length : Int) - 1))) (h_q_7.sq.idxb (by kernel_rfl) g11.1 g11.2) ?_
 refine l_' (.agg #[.int .u64 ((gt q_7 ((q_7.length : Int) - 1)).1), i_ ((gt q_7 ((q_7.length : Int) - 1)).2)]) (aL_ 152 (elp hd_q_7 2 ((q_7.length : Int) - 1).toNat 0) H) (h_q_7.sq.ld g11.1 g11.2 (by kernel_rfl)) ?_
 refine s_rwk wf [.int .u64 0, i_ 0] (by kernel_rfl) fun b13 H14 e15 hb16 r17 => ?_
 obtain ⟨H19, q20, e21, r22⟩ := Row.store (P := Try.prog) (t := 152) (p := 0) e15.wf r17 (.agg #[.int .u64 ((gt q_7 ((q_7.length : Int) - 1)).1), i_ ((gt q_7 ((q_7.length : Int) - 1)).2)]) [.int .u64 ((gt q_7 ((q_7.length : Int) - 1)).1), i_ ((gt q_7 ((q_7.length : Int) - 1)).2)] (by kernel_rfl) (by kernel_rfl) (one_cons (rfl) (one_cons (rfl) (one_nil))) (Nat.le_of_ble_eq_true (by kernel_rfl)) [.int .u64 ((gt q_7 ((q_7.length : Int) - 1)).1), i_ ((gt q_7 ((q_7.length : Int) - 1)).2)] (by kernel_rfl)
 refine s_ek (undef) (by kernel_rfl) (map_ok q20) ?_
 refine s_nil (k10 _ _ (w_seqk fun _ k23 => g_' (q_ (pt_ b_q 3) (q_ (pt_ b_q 3) (q_ (pt_ b_q 3) ?_)))))
 have u24 := ((h_q.ext e15).frS e21 (hb16.djn h_q.ltF))
 refine l_' (hd_q_7) (aL_ 96 (pt_ b_q 3) H19) (u24.l_) ?_
 refine q_ (i_ ((q_7.length : Int) - 1)) ?_
 obtain ⟨g25, r26⟩ := G_some r12
 have u30 := ((h_q_7.ext e15).fr e21 (hb16.djn h_q_7.lt))
 obtain ⟨s27, q28, hs29⟩ := Ow.head (P := Try.prog) u30 (t := 96) (by kernel_rfl) (hi := (some (i_ ((q_7.length : Int) - 1)))) (r := ((q_7.length : Int) - 1).toNat) (aBound_int _ (by have := g25; omega)) (by have := g25; omega)
 obtain ⟨a31, n32, c33, rfl⟩ := hs29.form
 refine s_ql (.slice a31 n32 c33) (by kernel_rfl) q28 ?_
 refine q_ (pt_ b_q 3) ?_
 obtain ⟨H35, q36, e37, r38⟩ := Row.store (P := Try.prog) (t := 96) (p := 3) e21.wf u24 (.slice a31 n32 c33) [.slice a31 n32 c33] (by kernel_rfl) (by kernel_rfl) (one_cons (hs29.one1) (one_nil)) (Nat.le_of_ble_eq_true (by kernel_rfl)) [pt_ b_q_ 0, i_ q_5, i_ q_6, .slice a31 n32 c33, .map (some b_q_8)] (by kernel_rfl)
 refine s_ek (undef) (by kernel_rfl) (map_ok q36) ?_
 refine s_nil (k23 _ _ (w_seqk fun _ k39 => g_' ?_))
 have u40 := (r22.frS e37 (Dj.symm (hb16.djn h_q.ltF)))
 refine l_' (.agg #[.int .u64 ((gt q_7 ((q_7.length : Int) - 1)).1), i_ ((gt q_7 ((q_7.length : Int) - 1)).2)]) (aL_ 152 (pt_ b13 0) H35) (u40.l_) ?_
 refine q_ (.iface 152 (.agg #[.int .u64 ((gt q_7 ((q_7.length : Int) - 1)).1), i_ ((gt q_7 ((q_7.length : Int) - 1)).2)])) (q_ (.iface 152 (.agg #[.int .u64 ((gt q_7 ((q_7.length : Int) - 1)).1), i_ ((gt q_7 ((q_7.length : Int) - 1)).2)])) (s_nil (k39 _ _ ?_)))
 refine w_ret ?_
 refine b_ret (fn := Try.f125) (vs := [.iface 152 (.agg #[.int .u64 ((gt q_7 ((q_7.length : Int) - 1)).1), i_ ((gt q_7 ((q_7.length : Int) - 1)).2)])]) (rt_ (rfl)) ?_
 have u41 := (hs29.fr e37 dj_b_q_fp_q_7)
 obtain rfl := oi_ r26
 exact ⟨(.slice a31 n32 c33), rfl, (FrS.step wf (FrS.step wf ((FrS.refl (W := [b_q]) wf).extR e15) e21 (hb16.fresh (Nat.le_refl _))) e37 Inn.refl'), u41, r38⟩
theorem c_container_heap_Pop {H : AH} {b_h : Nat} {b_h_ : Nat} {hd_h_2 : Value} {fp_h_2 : Fp} {hd_h_7 : Value} {fp_h_7 : Fp} {b_h_8 : Nat} {h_2 : List (Bool × List (Int × Int × Int) × List (Int × Int × Int))} {h_3 : Int} {h_4 : Int} {h_5 : Int} {h_6 : Int} {h_7 : List (Int × Int)} {h_8 : Int → Option (Int × Int × Int)} {r : Int × Int × List (Int × Int) × List (Int × Int)}
    (wf : WF H) (h_h_2 : Nd enc_i64_u64_i64 3 H hd_h_2 h_2 fp_h_2 []) (h_h_ : Row H b_h_ [hd_h_2, i_ h_3, i_ h_4]) (h_h_7 : Ow enc_u64_i64 2 H hd_h_7 h_7 fp_h_7) (h_h_8 : Ms .i64 enc_u64_i64_i64 H b_h_8 h_8) (h_h : Row H b_h [pt_ b_h_ 0, i_ h_5, i_ h_6, hd_h_7, .map (some b_h_8)]) (dj_fp_h_7_fp_h_2 : Dj fp_h_7 fp_h_2) (dj_fp_h_7_b_h_ : Dj fp_h_7 [b_h_]) (dj_fp_h_7_b_h_8 : Dj fp_h_7 [b_h_8]) (dj_fp_h_7_b_h : Dj fp_h_7 [b_h]) (hr : z_container_heap_Pop h_2 h_3 h_4 h_5 h_6 h_7 h_8 = some r) :
    ACalls Try.prog 68 #[.iface 150 (pt_ b_h 3)] H fun v H' => ∃ (s5 : Value), v = .iface 152 (.agg #[.int .u64 r.1, i_ r.2.1]) ∧ FrS ([b_h] ++ fp_h_7) H H' ∧ Ow enc_u64_i64 2 H' hd_h_7 r.2.2.1 fp_h_7 ∧ Ow enc_u64_i64 2 H' s5 r.2.2.2 fp_h_7 ∧ Row H' b_h [pt_ b_h_ 0, i_ h_5, i_ h_6, s5, .map (some b_h_8)] := by
 refine acalls_of_body mixed Try.func68 rfl (Nat.le_of_ble_eq_true rfl) ?_
 unfold z_container_heap_Pop at hr
 refine w_seqk fun _ k8 => g_' (q_ (.nilIface) (s_nil (k8 _ _ (w_seqk fun _ k9 => g_' (q_ (.iface 150 (pt_ b_h 3)) ?_)))))
 obtain ⟨y10, hy11, r12⟩ := bind_some hr
 refine s_cl 121 96 ⟨b_h, 3, none⟩ #[] (hd_h_7) #[hd_h_7] (by kernel_rfl) (by kernel_rfl) (h_h.l_) (c_witness_queue_Len wf h_h_7.sq hy11) ?_
 rintro _ _ ⟨rfl, rfl⟩
 obtain ⟨g15, r16⟩ := G_some r12
 refine w_' (y10 - 1) (wrap64 g15) ?_
 refine q_ (i_ (y10 - 1)) (s_nil (k9 _ _ (w_seqk fun _ k17 => g_' (q_ (.iface 150 (pt_ b_h 3)) (q_ (i_ (y10 - 1)) ?_)))))
 obtain ⟨y18, hy19, r20⟩ := bind_some r16
 refine s_cl 123 96 ⟨b_h, 3, none⟩ #[i_ 0, i_ (y10 - 1)] (hd_h_7) #[hd_h_7, i_ 0, i_ (y10 - 1)] (by kernel_rfl) (by kernel_rfl) (h_h.l_) (c_witness_queue_Swap wf h_h_7 hy19) ?_
 rintro _ H21 ⟨rfl, e22, m23⟩
 refine s_nil (k17 _ _ (w_seqk fun _ k24 => g_' (q_ (.iface 150 (pt_ b_h 3)) (q_ (i_ (y10 - 1)) ?_))))
 have u25 := (h_h_2.fr e22 dj_fp_h_7_fp_h_2)
 have u26 := (h_h_.frS e22 dj_fp_h_7_b_h_)
 have u27 := (h_h_8.frS e22 dj_fp_h_7_b_h_8)
 have u28 := (h_h.frS e22 dj_fp_h_7_b_h)
 obtain ⟨y29, hy30, r31⟩ := bind_some r20
 refine s_ck 80 #[.iface 150 (pt_ b_h 3), i_ 0, i_ (y10 - 1)] (by kernel_rfl) (c_container_heap_down e22.wf u25 u26 m23 u27 u28 dj_fp_h_7_b_h hy30) ?_
 rintro _ H32 ⟨rfl, e33, m34⟩
 refine s_nil (k24 _ _ (w_seqk fun _ k35 => g_' (q_ (.iface 150 (pt_ b_h 3)) ?_)))
 have u36 := (u25.fr e33 dj_fp_h_7_fp_h_2)
 have u37 := (u26.frS e33 dj_fp_h_7_b_h_)
 have u38 := (u27.frS e33 dj_fp_h_7_b_h_8)
 have u39 := (u28.frS e33 dj_fp_h_7_b_h)
 obtain ⟨y40, hy41, r42⟩ := bind_some r31
 refine s_ck 125 #[pt_ b_h 3] (by kernel_rfl) (c_witness_queue_Pop e33.wf u36 u37 m34 u38 u39 (Dj.symm dj_fp_h_7_b_h) hy41) ?_
 rintro _ H44 ⟨s43, rfl, e45, m46, m47⟩
 obtain ⟨a49, n50, c51, rfl⟩ := m46.form
 refine q_ (.iface 152 (.agg #[.int .u64 y40.1, i_ y40.2.1])) (s_nil (k35 _ _ ?_))
 refine w_ret ?_
 refine b_ret (fn := Try.f68) (vs := [.iface 152 (.agg #[.int .u64 y40.1, i_ y40.2.1])]) (rt_ (rfl)) ?_
 have u52 := (m34.fr e45 (Dj.symm dj_fp_h_7_b_h))
 obtain rfl := oi_ r42
 exact ⟨(.slice a49 n50 c51), rfl, (FrS.step wf (FrS.step wf (FrS.step wf (FrS.refl (W := ([b_h] ++ fp_h_7)) wf) e22 (Inn.right Inn.refl')) e33 (Inn.right Inn.refl')) e45 Inn.left), u52, m46, m47⟩
theorem c_witness_seek_next {H : AH} {b_s : Nat} {b_s_ : Nat} {hd_s_2 : Value} {fp_s_2 : Fp} {hd_s_7 : Value} {fp_s_7 : Fp} {b_s_8 : Nat} {s_2 : List (Bool × List (Int × Int × Int) × List (Int × Int × Int))} {s_3 : Int} {s_4 : Int} {s_5 : Int} {s_6 : Int} {s_7 : List (Int × Int)} {s_8 : Int → Option (Int × Int × Int)} {r : Int × Int × Int × Int × Bool × List (Int × Int)}
    (wf : WF H) (h_s_2 : Nd enc_i64_u64_i64 3 H hd_s_2 s_2 fp_s_2 []) (h_s_ : Row H b_s_ [hd_s_2, i_ s_3, i_ s_4]) (h_s_7 : Ow enc_u64_i64 2 H hd_s_7 s_7 fp_s_7) (h_s_8 : Ms .i64 enc_u64_i64_i64 H b_s_8 s_8) (h_s : Row H b_s [pt_ b_s_ 0, i_ s_5, i_ s_6, hd_s_7, .map (some b_s_8)]) (dj_fp_s_7_fp_s_2 : Dj fp_s_7 fp_s_2) (dj_fp_s_7_b_s_ : Dj fp_s_7 [b_s_]) (dj_fp_s_7_b_s_8 : Dj fp_s_7 [b_s_8]) (dj_fp_s_7_b_s : Dj fp_s_7 [b_s]) (dj_b_s_b_s_8 : Dj [b_s] [b_s_8]) (dj_b_s_fp_s_2 : Dj [b_s] fp_s_2) (dj_b_s_b_s_ : Dj [b_s] [b_s_]) (hr : z_witness_seek_next s_2 s_3 s_4 s_5 s_6 s_7 s_8 = some r) :
    ACalls Try.prog 54 #[pt_ b_s 0] H fun v H' => ∃ (s3 : Value), v = .tuple #[i_ r.1, .agg #[.int .u64 r.2.1, i_ r.2.2.1, i_ r.2.2.2.1], .bool r.2.2.2.2.1] ∧ FrS ([b_s] ++ fp_s_7) H H' ∧ Ow enc_u64_i64 2 H' s3 r.2.2.2.2.2 fp_s_7 ∧ Row H' b_s [pt_ b_s_ 0, i_ s_5, i_ s_6, s3, .map (some b_s_8)] := by
 refine acalls_of_body mixed Try.func54 rfl (Nat.le_of_ble_eq_true rfl) ?_
 unfold z_witness_seek_next at hr
 refine w_seqk fun _ k6 => g_' (q_ (i_ 0) ?_)
 refine s_rwk wf [.int .u64 0, i_ 0, i_ 0] (by kernel_rfl) fun b7 H8 e9 hb10 r11 => ?_
 refine q_ (.bool false) (s_nil (k6 _ _ (w_seqk fun _ k13 => ?_)))
 obtain ⟨z17, hx15, r16⟩ := bind_some hr
 refine w_mid (fun α H18 => ∃ o14, z17 = Sum.inr o14 ∧ ∃ (s22 : Value), Has α [(3, pt_ b7 0)] ∧ FrS ([b_s] ++ fp_s_7) H8 H18 ∧ Ow enc_u64_i64 2 H18 s22 o14 fp_s_7 ∧ Row H18 b_s [pt_ b_s_ 0, i_ s_5, i_ s_6, s22, .map (some b_s_8)]) (fun _ k25 => ?_) (fun α H18 hM => ?_)
 ·refine w_block ?_
  obtain ⟨n27, hn28⟩ := loopO_iff.1 hx15
  have u42 := (h_s_7.ext e9)
  have u43 := (h_s.ext e9)
  refine w_loopn (fun n α H29 => ∃ (s0 : List (Int × Int)), ∃ (s33 : Value), iterO (fun zz_ => z_witness_seek_next_l0 s_2 s_3 s_4 s_5 s_6 s_8 zz_) n s0 = some z17 ∧ Has α [(0, pt_ b_s 0), (3, pt_ b7 0)] ∧ FrS ([b_s] ++ fp_s_7) H8 H29 ∧ Ow enc_u64_i64 2 H29 s33 s0 fp_s_7 ∧ Row H29 b_s [pt_ b_s_ 0, i_ s_5, i_ s_6, s33, .map (some b_s_8)]) n27 ⟨s_7, (hd_s_7), hn28, ha_, (FrS.refl (W := ([b_s] ++ fp_s_7)) e9.wf), u42, u43⟩ ?_
  rintro n27 α H29 ⟨s0, s33, hi37, hh36, e30, m32, m35⟩ K44 k44
  obtain ⟨n38, z39, rfl, hz40, hn41⟩ := iter_succ hi37
  obtain ⟨β, rfl⟩ := has_ex hh36
  clear hh36
  replace hz40 : z_witness_seek_next_l0 s_2 s_3 s_4 s_5 s_6 s_8 s0 = some z39 := hz40
  unfold z_witness_seek_next_l0 at hz40
  obtain ⟨a45, n46, c47, rfl⟩ := m32.form
  refine w_seqk fun _ k48 => w_seqk fun _ k49 => g_' (q_ (pt_ b_s 0) (q_ (pt_ b_s 0) (q_ (pt_ b_s 3) ?_)))
  refine l_' (.slice a45 n46 c47) (aL_ 96 (pt_ b_s 3) H29) (m35.l_) ?_
  refine l_' (i_ (s0.length : Int)) (aLen Try.prog 96 (.slice a45 n46 c47) H29) (m32.sq.lenb (by kernel_rfl)) ?_
  refine q_ (.bool (decide ((s0.length : Int) > 0))) (s_nil (k49 _ _ ?_))
  refine w_condp ((s0.length : Int) > 0) (by kernel_rfl) rfl (fun h50 => ?_) (fun h50 => ?_)
  ·have r51 := ite_t h50 hz40
   refine w_skip (k48 _ _ (w_block (w_seqk fun _ k52 => g_' (q_ (pt_ b_s 0) (q_ (pt_ b_s 0) (q_ (pt_ b_s 3) (q_ (.iface 150 (pt_ b_s 3)) ?_)))))))
   have u53 := ((h_s_2.ext e9).fr e30 (Dj.app dj_b_s_fp_s_2 dj_fp_s_7_fp_s_2))
   have u54 := ((h_s_.ext e9).frS e30 (Dj.app dj_b_s_b_s_ dj_fp_s_7_b_s_))
   have u55 := ((h_s_8.ext e9).frS e30 (Dj.app dj_b_s_b_s_8 dj_fp_s_7_b_s_8))
   obtain ⟨y56, hy57, r58⟩ := bind_some r51
   refine s_ck 68 #[.iface 150 (pt_ b_s 3)] (by kernel_rfl) (c_container_heap_Pop e30.wf u53 u54 m32 u55 m35 dj_fp_s_7_fp_s_2 dj_fp_s_7_b_s_ dj_fp_s_7_b_s_8 dj_fp_s_7_b_s hy57) ?_
   rintro _ H60 ⟨s59, rfl, e61, m62, m63, m64⟩
   obtain ⟨a66, n67, c68, rfl⟩ := m63.form
   refine q_ (.agg #[.int .u64 y56.1, i_ y56.2.1]) ?_
   refine s_rwk e61.wf [.int .u64 0, i_ 0] (by kernel_rfl) fun b69 H70 e71 hb72 r73 => ?_
   obtain ⟨H75, q76, e77, r78⟩ := Row.store (P := Try.prog) (t := 152) (p := 0) e71.wf r73 (.agg #[.int .u64 y56.1, i_ y56.2.1]) [.int .u64 y56.1, i_ y56.2.1] (by kernel_rfl) (by kernel_rfl) (one_cons (rfl) (one_cons (rfl) (one_nil))) (Nat.le_of_ble_eq_true (by kernel_rfl)) [.int .u64 y56.1, i_ y56.2.1] (by kernel_rfl)
   refine s_ek (undef) (by kernel_rfl) (map_ok q76) ?_
   refine s_nil (k52 _ _ (w_seqk fun _ k79 => ?_))
   refine w_draw [0, 1, 2, 3, 4, 5, 6, 7, 8] (by kernel_rfl) ?_
   refine e_' (pt_ b_s 0) (e_' (pt_ b_s 0) (e_' (pt_ b_s 4) ?_))
   have u80 := ((m64.ext e71).frS e77 (hb72.djn (h_s.ltF.le (t_ (t_ e9.n e30.n) e61.n))))
   refine m_' (.map (some b_s_8)) (aL_ 94 (pt_ b_s 4) H75) (u80.l_) ?_
   refine e_' (pt_ b69 1) ?_
   refine m_' (i_ y56.2.1) (aL_ 3 (pt_ b69 1) H75) (r78.l_) ?_
   have u81 := (((u55.frS e61 (Dj.app dj_b_s_b_s_8 dj_fp_s_7_b_s_8)).ext e71).frS e77 (hb72.djn (h_s_8.ltF.le (t_ (t_ e9.n e30.n) e61.n))))
   refine m_' (.agg #[.int .u64 (((s_8 y56.2.1).getD ((0, 0, 0) : Int × Int × Int)).1), i_ (((s_8 y56.2.1).getD ((0, 0, 0) : Int × Int × Int)).2.1), i_ (((s_8 y56.2.1).getD ((0, 0, 0) : Int × Int × Int)).2.2)]) (aLookup Try.prog 94 (.map (some b_s_8)) (i_ y56.2.1) false H75) (u81.look ((0, 0, 0) : Int × Int × Int) (zv := .agg #[.int .u64 0, i_ 0, i_ 0]) rfl (by kernel_rfl) (by kernel_rfl) _ rfl) ?_
   refine d_rwk e77.wf [.int .u64 0, i_ 0, i_ 0] (by kernel_rfl) fun b82 H83 e84 hb85 r86 => ?_
   obtain ⟨H88, q89, e90, r91⟩ := Row.store (P := Try.prog) (t := 101) (p := 0) e84.wf r86 (.agg #[.int .u64 (((s_8 y56.2.1).getD ((0, 0, 0) : Int × Int × Int)).1), i_ (((s_8 y56.2.1).getD ((0, 0, 0) : Int × Int × Int)).2.1), i_ (((s_8 y56.2.1).getD ((0, 0, 0) : Int × Int × Int)).2.2)]) [.int .u64 (((s_8 y56.2.1).getD ((0, 0, 0) : Int × Int × Int)).1), i_ (((s_8 y56.2.1).getD ((0, 0, 0) : Int × Int × Int)).2.1), i_ (((s_8 y56.2.1).getD ((0, 0, 0) : Int × Int × Int)).2.2)] (by kernel_rfl) (by kernel_rfl) (one_cons (rfl) (one_cons (rfl) (one_cons (rfl) (one_nil)))) (Nat.le_of_ble_eq_true (by kernel_rfl)) [.int .u64 (((s_8 y56.2.1).getD ((0, 0, 0) : Int × Int × Int)).1), i_ (((s_8 y56.2.1).getD ((0, 0, 0) : Int × Int × Int)).2.1), i_ (((s_8 y56.2.1).getD ((0, 0, 0) : Int × Int × Int)).2.2)] (by kernel_rfl)
   refine d_ek (undef) (by kernel_rfl) (map_ok q89) (st_nil) ?_
   refine d_nil ?_
   refine k79 _ _ (w_seqk fun _ k92 => g_' (q_ (pt_ b82 2) ?_))
   refine l_' (i_ (((s_8 y56.2.1).getD ((0, 0, 0) : Int × Int × Int)).2.2)) (aL_ 3 (pt_ b82 2) H88) (r91.l_) ?_
   refine s_b ((((s_8 y56.2.1).getD ((0, 0, 0) : Int × Int × Int)).2.2) = 0) (by kernel_rfl) (fun h93 => ?_) (fun h93 => ?_)
   ·have r94 := ite_t h93 r58
    refine q_ (.bool true) (q_ (pt_ b82 0) ?_)
    refine l_' (.int .u64 (((s_8 y56.2.1).getD ((0, 0, 0) : Int × Int × Int)).1)) (aL_ 27 (pt_ b82 0) H88) (r91.l_) ?_
    refine q_ (pt_ b69 0) ?_
    have u95 := ((r78.ext e84).frS e90 (hb85.djn (r73.ltF.le e77.n)))
    refine l_' (.int .u64 y56.1) (aL_ 27 (pt_ b69 0) H88) (u95.l_) ?_
    refine q_ (.bool (decide ((((s_8 y56.2.1).getD ((0, 0, 0) : Int × Int × Int)).1) = y56.1))) (q_ (.bool (decide ((((s_8 y56.2.1).getD ((0, 0, 0) : Int × Int × Int)).1) = y56.1))) (s_nil (k92 _ _ ?_)))
    refine w_condp ((((s_8 y56.2.1).getD ((0, 0, 0) : Int × Int × Int)).1) = y56.1) (by kernel_rfl) rfl (fun h96 => ?_) (fun h96 => ?_)
    ·have r97 := ite_t h96 r94
     refine w_seqk fun _ k98 => ?_
     refine w_draw [0, 1, 2, 3, 4, 5] (by kernel_rfl) ?_
     refine e_' (pt_ b69 1) ?_
     refine m_' (i_ y56.2.1) (aL_ 3 (pt_ b69 1) H88) (u95.l_) ?_
     refine m_' (.agg #[.int .u64 (((s_8 y56.2.1).getD ((0, 0, 0) : Int × Int × Int)).1), i_ (((s_8 y56.2.1).getD ((0, 0, 0) : Int × Int × Int)).2.1), i_ (((s_8 y56.2.1).getD ((0, 0, 0) : Int × Int × Int)).2.2)]) (aL_ 101 (pt_ b82 0) H88) (r91.l_) ?_
     refine e_' (i_ y56.2.1) ?_
     have u103 := ((((((r11.frS e30 (Dj.app (Dj.symm (hb10.djn h_s.ltF)) (Dj.symm (hb10.djn h_s_7.lt)))).frS e61 (Dj.app (Dj.symm (hb10.djn h_s.ltF)) (Dj.symm (hb10.djn h_s_7.lt)))).ext e71).frS e77 (hb72.djn (r11.ltF.le (t_ e30.n e61.n)))).ext e84).frS e90 (hb85.djn (r11.ltF.le (t_ (t_ (t_ e30.n e61.n) e71.n) e77.n))))
     obtain ⟨H99, q100, e101, r102⟩ := Row.store (P := Try.prog) (t := 101) (p := 0) e90.wf u103 (.agg #[.int .u64 (((s_8 y56.2.1).getD ((0, 0, 0) : Int × Int × Int)).1), i_ (((s_8 y56.2.1).getD ((0, 0, 0) : Int × Int × Int)).2.1), i_ (((s_8 y56.2.1).getD ((0, 0, 0) : Int × Int × Int)).2.2)]) [.int .u64 (((s_8 y56.2.1).getD ((0, 0, 0) : Int × Int × Int)).1), i_ (((s_8 y56.2.1).getD ((0, 0, 0) : Int × Int × Int)).2.1), i_ (((s_8 y56.2.1).getD ((0, 0, 0) : Int × Int × Int)).2.2)] (by kernel_rfl) (by kernel_rfl) (one_cons (rfl) (one_cons (rfl) (one_cons (rfl) (one_nil)))) (Nat.le_of_ble_eq_true (by kernel_rfl)) [.int .u64 (((s_8 y56.2.1).getD ((0, 0, 0) : Int × Int × Int)).1), i_ (((s_8 y56.2.1).getD ((0, 0, 0) : Int × Int × Int)).2.1), i_ (((s_8 y56.2.1).getD ((0, 0, 0) : Int × Int × Int)).2.2)] (by kernel_rfl)
     refine d_ek (undef) (by kernel_rfl) (map_ok q100) (st_nil) ?_
     refine e_' (.bool true) ?_
     refine d_nil ?_
     refine k98 _ _ ?_
     refine w_ret (bl_ret (th_ret (bl_ret (th_ret (th_ret ?_)))))
     obtain ⟨v104, hv105, hz106⟩ := map_some r97
     subst hz106
     obtain rfl := it_inr hn41
     have hq107 := elim_inl r16
     rw [hq107] at hv105
     refine b_ret (fn := Try.f54) (vs := [i_ y56.2.1, .agg #[.int .u64 (((s_8 y56.2.1).getD ((0, 0, 0) : Int × Int × Int)).1), i_ (((s_8 y56.2.1).getD ((0, 0, 0) : Int × Int × Int)).2.1), i_ (((s_8 y56.2.1).getD ((0, 0, 0) : Int × Int × Int)).2.2)], .bool true]) (aRes_tmp (by kernel_rfl) (aRes_cell (Eq.trans (b := aL_ 101 (pt_ b7 0) H99) (by kernel_rfl) (r102.l_)) (rt_ (rfl)))) ?_
     have u108 := (((((m63.ext e71).fr e77 (hb72.djn (h_s_7.lt.le (t_ (t_ e9.n e30.n) e61.n)))).ext e84).fr e90 (hb85.djn (h_s_7.lt.le (t_ (t_ (t_ (t_ e9.n e30.n) e61.n) e71.n) e77.n)))).fr e101 (hb10.djn h_s_7.lt))
     have u109 := (((u80.ext e84).frS e90 (hb85.djn (h_s.ltF.le (t_ (t_ (t_ (t_ e9.n e30.n) e61.n) e71.n) e77.n)))).frS e101 (hb10.djn h_s.ltF))
     obtain rfl := oi_ hv105
     exact ⟨(.slice a66 n67 c68), rfl, (FrS.step wf (FrS.step wf ((FrS.step wf ((FrS.step wf (FrS.step wf ((FrS.refl (W := ([b_s] ++ fp_s_7)) wf).extR e9) e30 (Inn.app Inn.left (Inn.right Inn.refl'))) e61 (Inn.app Inn.left (Inn.right Inn.refl'))).extR e71) e77 (hb72.fresh (t_ (t_ e9.n e30.n) e61.n))).extR e84) e90 (hb85.fresh (t_ (t_ (t_ (t_ e9.n e30.n) e61.n) e71.n) e77.n))) e101 (hb10.fresh (Nat.le_refl _))), u108, u109⟩
    have r110 := ite_f h96 r94
    refine w_skip ?_
    have u111 := ((((m63.ext e71).fr e77 (hb72.djn (h_s_7.lt.le (t_ (t_ e9.n e30.n) e61.n)))).ext e84).fr e90 (hb85.djn (h_s_7.lt.le (t_ (t_ (t_ (t_ e9.n e30.n) e61.n) e71.n) e77.n))))
    have u112 := ((u80.ext e84).frS e90 (hb85.djn (h_s.ltF.le (t_ (t_ (t_ (t_ e9.n e30.n) e61.n) e71.n) e77.n))))
    obtain rfl := oi_ r110
    exact k44 n38 _ _ (Nat.lt_succ_self _) ⟨y56.2.2.2, (.slice a66 n67 c68), hn41, ha_, (FrS.step e9.wf ((FrS.step e9.wf ((FrS.step e9.wf (FrS.step e9.wf (FrS.refl (W := ([b_s] ++ fp_s_7)) e9.wf) e30 (Inn.app Inn.left (Inn.right Inn.refl'))) e61 (Inn.app Inn.left (Inn.right Inn.refl'))).extR e71) e77 (hb72.fresh (t_ e30.n e61.n))).extR e84) e90 (hb85.fresh (t_ (t_ (t_ e30.n e61.n) e71.n) e77.n))), u111, u112⟩
   have r113 := ite_f h93 r58
   refine q_ (.bool false) (n_' (n_' (n_' (n_' (n_' (q_ (.bool false) (s_nil (k92 _ _ ?_))))))))
   refine w_cond false (by kernel_rfl) rfl (fun h => by cases h) (fun _ => ?_)
   refine w_skip ?_
   have u114 := ((((m63.ext e71).fr e77 (hb72.djn (h_s_7.lt.le (t_ (t_ e9.n e30.n) e61.n)))).ext e84).fr e90 (hb85.djn (h_s_7.lt.le (t_ (t_ (t_ (t_ e9.n e30.n) e61.n) e71.n) e77.n))))
   have u115 := ((u80.ext e84).frS e90 (hb85.djn (h_s.ltF.le (t_ (t_ (t_ (t_ e9.n e30.n) e61.n) e71.n) e77.n))))
   obtain rfl := oi_ r113
   exact k44 n38 _ _ (Nat.lt_succ_self _) ⟨y56.2.2.2, (.slice a66 n67 c68), hn41, ha_, (FrS.step e9.wf ((FrS.step e9.wf ((FrS.step e9.wf (FrS.step e9.wf (FrS.refl (W := ([b_s] ++ fp_s_7)) e9.wf) e30 (Inn.app Inn.left (Inn.right Inn.refl'))) e61 (Inn.app Inn.left (Inn.right Inn.refl'))).extR e71) e77 (hb72.fresh (t_ e30.n e61.n))).extR e84) e90 (hb85.fresh (t_ (t_ (t_ e30.n e61.n) e71.n) e77.n))), u114, u115⟩
  have r116 := ite_f h50 hz40
  refine w_exit (th_exit (th_exit (bl_eq ?_)))
  obtain rfl := oi_ r116
  obtain rfl := it_inr hn41
  exact k25 _ _ ⟨_, rfl, (.slice a45 n46 c47), ha_, (FrS.step e9.wf (FrS.refl (W := ([b_s] ++ fp_s_7)) e9.wf) e30 (Inn.app Inn.left (Inn.right Inn.refl'))), m32, m35⟩
 obtain ⟨o14, rfl, s22, hh26, e19, m21, m24⟩ := hM
 have r117 := elim_inr r16
 obtain ⟨β, rfl⟩ := has_ex hh26
 clear hh26
 obtain ⟨a118, n119, c120, rfl⟩ := m21.form
 refine k13 _ _ (w_seqk fun _ k121 => g_' (q_ (.agg #[.int .u64 0, i_ 0, i_ 0]) (q_ (i_ 0) ?_)))
 have u126 := (r11.frS e19 (Dj.app (Dj.symm (hb10.djn h_s.ltF)) (Dj.symm (hb10.djn h_s_7.lt))))
 obtain ⟨H122, q123, e124, r125⟩ := Row.store (P := Try.prog) (t := 101) (p := 0) e19.wf u126 (.agg #[.int .u64 0, i_ 0, i_ 0]) [.int .u64 0, i_ 0, i_ 0] (by kernel_rfl) (by kernel_rfl) (one_cons (rfl) (one_cons (rfl) (one_cons (rfl) (one_nil)))) (Nat.le_of_ble_eq_true (by kernel_rfl)) [.int .u64 0, i_ 0, i_ 0] (by kernel_rfl)
 refine s_ek (undef) (by kernel_rfl) (map_ok q123) ?_
 refine q_ (.bool false) (s_nil (k121 _ _ ?_))
 refine w_ret ?_
 refine b_ret (fn := Try.f54) (vs := [i_ 0, .agg #[.int .u64 0, i_ 0, i_ 0], .bool false]) (aRes_tmp (by kernel_rfl) (aRes_cell (Eq.trans (b := aL_ 101 (pt_ b7 0) H122) (by kernel_rfl) (r125.l_)) (rt_ (rfl)))) ?_
 have u127 := (m21.fr e124 (hb10.djn h_s_7.lt))
 have u128 := (m24.frS e124 (hb10.djn h_s.ltF))
 obtain rfl := oi_ r117
 exact ⟨(.slice a118 n119 c120), rfl, (FrS.step wf (FrS.step wf ((FrS.refl (W := ([b_s] ++ fp_s_7)) wf).extR e9) e19 (Inn.app Inn.left (Inn.right Inn.refl'))) e124 (hb10.fresh (Nat.le_refl _))), u127, u128⟩
theorem c_slices_Clone {H : AH} {hd_s : Value} {fp_s : Fp} {s : List (Int × Int × Int)} {r : List (Int × Int × Int)}
    (wf : WF H) (h_s : Sq enc_i64_u64_i64 3 H hd_s s fp_s) (hr : z_slices_Clone s = some r) :
    ACalls Try.prog 46 #[hd_s] H fun v H' => ∃ (s3 : Value) (f4 : Fp), v = s3 ∧ FrS [] H H' ∧ Ow enc_i64_u64_i64 3 H' s3 r f4 ∧ Inn [] H f4 := by
 refine acalls_of_body mixed Try.func46 rfl (Nat.le_of_ble_eq_true rfl) ?_
 unfold z_slices_Clone at hr
 refine w_seqk fun _ k6 => g_' (q_ (.slice none 0 0) (s_nil (k6 _ _ (w_seqk fun _ k7 => w_seqk fun _ k8 => g_' (q_ (hd_s) ?_)))))
 rcases Sq.nilOr h_s with ⟨rfl, rfl⟩ | ⟨a9, n10, c11, rfl⟩
 ·refine q_ (.bool true) (s_nil (k8 _ _ ?_))
  refine w_cond true (by kernel_rfl) rfl (fun _ => ?_) (fun h => by cases h)
  refine w_seqk fun _ k12 => g_' (q_ (.slice none 0 0) (s_nil (k12 _ _ ?_)))
  refine w_ret (th_ret ?_)
  refine b_ret (fn := Try.f46) (vs := [.slice none 0 0]) (rt_ (rfl)) ?_
  have hn_ : some ([] : List (Int × Int × Int)) = some r := by simpa [G] using hr
  obtain rfl := oi_ hn_
  exact ⟨(.slice none 0 0), [], rfl, (f0_ wf), (Ow.nil (by decide)), Inn.nil⟩
 refine q_ (.bool false) (s_nil (k8 _ _ ?_))
 refine w_cond false (by kernel_rfl) rfl (fun h => by cases h) (fun _ => ?_)
 refine w_skip (k7 _ _ (w_seqk fun _ k13 => g_' ?_))
 refine s_owk (enc := enc_i64_u64_i64) (sz := 3) wf ([] : List (Int × Int × Int)) 0 (by decide) (fun _ _ => rfl) (fun _ _ => rfl) rfl (by kernel_rfl) fun s14 f15 H16 e17 hf18 hm19 => ?_
 obtain ⟨a20, n21, c22, rfl⟩ := hm19.form
 refine q_ (.slice (some a9) n10 c11) ?_
 obtain ⟨g24, r25⟩ := G_some hr
 have u33 := (h_s.ext e17)
 obtain ⟨s26, H27, f28, q32, e29, hm30, hf31⟩ := Ow.append (P := Try.prog) 24 e17.wf hm19 u33 (fun _ _ => rfl) (at_ := #[69, 69]) rfl rfl (by kernel_rfl) (by kernel_rfl) (by decide) (by have := g24; first | omega | (simp only [List.length_cons, List.length_nil] at this ⊢; omega) | (simp at this ⊢; omega))
 obtain ⟨a34, n35, c36, rfl⟩ := hm30.form
 refine s_ek (.slice a34 n35 c36) (by kernel_rfl) (q32) ?_
 refine q_ (.slice a34 n35 c36) (s_nil (k13 _ _ ?_))
 refine w_ret ?_
 refine b_ret (fn := Try.f46) (vs := [.slice a34 n35 c36]) (rt_ (rfl)) ?_
 obtain rfl := oi_ r25
 exact ⟨(.slice a34 n35 c36), f28, rfl, (FrS.step wf ((f0_ wf).extR e17) e29 (hf18.fresh (Nat.le_refl _))), hm30, (Inn.trans (hf18.fresh (Nat.le_refl _)) e17.n hf31)⟩
theorem c_overlay_Overlay_Out {H : AH} {b_o : Nat} {hd_o_ : Value} {fp_o_ : Fp} {o_ : List (Bool × List (Int × Int × Int) × List (Int × Int × Int))} {o_2 : Int} {o_3 : Int} {v_ : Int} {r : List (Int × Int × Int)}
    (wf : WF H) (h_o_ : Nd enc_i64_u64_i64 3 H hd_o_ o_ fp_o_ []) (h_o : Row H b_o [hd_o_, i_ o_2, i_ o_3]) (hr : z_overlay_Overlay_Out o_ o_2 o_3 v_ = some r) :
    ACalls Try.prog 26 #[pt_ b_o 0, i_ v_] H fun v H' => ∃ (s3 : Value) (f4 : Fp), v = s3 ∧ FrS [] H H' ∧ Ow enc_i64_u64_i64 3 H' s3 r f4 ∧ Inn [] H f4 := by
 refine acalls_of_body mixed Try.func26 rfl (Nat.le_of_ble_eq_true rfl) ?_
 unfold z_overlay_Overlay_Out at hr
 refine w_seqk fun _ k6 => g_' (q_ (.slice none 0 0) (s_nil (k6 _ _ (w_seqk fun _ k7 => w_seqk fun _ k8 => g_' (q_ (pt_ b_o 0) (q_ (i_ v_) ?_))))))
 obtain ⟨y9, hy10, r11⟩ := bind_some hr
 refine s_ck 24 #[pt_ b_o 0, i_ v_] (by kernel_rfl) (c_overlay_Overlay_Alive wf h_o_ h_o hy10) ?_
 rintro _ _ ⟨rfl, rfl⟩
 refine q_ (.bool (!y9)) (s_nil (k8 _ _ ?_))
 refine w_cond ((!y9)) (by kernel_rfl) rfl (fun h14 => ?_) (fun h14 => ?_)
 ·have r15 := ite_t h14 r11
  refine w_seqk fun _ k16 => g_' (q_ (.slice none 0 0) (s_nil (k16 _ _ ?_)))
  refine w_ret (th_ret ?_)
  refine b_ret (fn := Try.f26) (vs := [.slice none 0 0]) (rt_ (rfl)) ?_
  obtain rfl := oi_ r15
  exact ⟨(.slice none 0 0), [], rfl, (f0_ wf), (Ow.nil (by decide)), Inn.nil⟩
 have r17 := ite_bf h14 r11
 refine w_skip (k7 _ _ (w_seqk fun _ k18 => g_' (q_ (pt_ b_o 0) (q_ (pt_ b_o 0) (q_ (pt_ b_o 0) ?_)))))
 refine l_' (hd_o_) (aL_ 114 (pt_ b_o 0) H) (h_o.l_) ?_
 refine q_ (i_ v_) ?_
 obtain ⟨g19, r20⟩ := G_some r17
 refine l_' (elp hd_o_ 3 v_.toNat 0) (aIndexAddr Try.prog 114 hd_o_ (i_ v_)) (h_o_.idxb (by kernel_rfl) g19.1 g19.2) ?_
 refine l_' (elp hd_o_ 3 v_.toNat 1) (aFieldAddr Try.prog 120 (elp hd_o_ 3 v_.toNat 0) 1) (Nd.fldq (d := 1) h_o_ g19.1 g19.2 (by kernel_rfl)) ?_
 obtain ⟨u21, u22, hl23, hk24⟩ := Nd.at h_o_ g19.1 g19.2
 have kd25 : KdS enc_i64_u64_i64 3 H u21 ((gt o_ v_).2.1) fp_o_ hd_o_ 3 v_.toNat 1 := hk24 false (by simp)
 obtain ⟨a26, n27, c28, rfl⟩ := kd25.sq.form
 refine l_' (.slice a26 n27 c28) (aL_ 69 (elp hd_o_ 3 v_.toNat 1) H) (hl23 _ _ _ _ (by kernel_rfl)) ?_
 obtain ⟨y30, hy31, r32⟩ := bind_some r20
 refine s_ck 46 #[.slice a26 n27 c28] (by kernel_rfl) (c_slices_Clone wf kd25.sq hy31) ?_
 rintro s33 H35 ⟨_, f34, rfl, e36, m37, i38⟩
 obtain ⟨a40, n41, c42, rfl⟩ := m37.form
 refine q_ (.slice a40 n41 c42) (s_nil (k18 _ _ ?_))
 refine w_ret ?_
 refine b_ret (fn := Try.f26) (vs := [.slice a40 n41 c42]) (rt_ (rfl)) ?_
 obtain rfl := oi_ r32
 exact ⟨(.slice a40 n41 c42), f34, rfl, (FrS.step wf (f0_ wf) e36 Inn.nil), m37, (i38.fresh (Nat.le_refl _))⟩
end Go.Vd

/-! (KWg7) -/

set_option maxRecDepth 100000
set_option maxHeartbeats 4000000
set_option linter.unusedVariables false
namespace Go.Vd
open Go.Proofs
attribute [local irreducible] wpSeq wpOrd aWp
theorem c_witness_seek_settle {H : AH} {b_s : Nat} {b_s_ : Nat} {hd_s_2 : Value} {fp_s_2 : Fp} {hd_s_7 : Value} {fp_s_7 : Fp} {b_s_8 : Nat} {s_2 : List (Bool × List (Int × Int × Int) × List (Int × Int × Int))} {s_3 : Int} {s_4 : Int} {s_5 : Int} {s_6 : Int} {s_7 : List (Int × Int)} {s_8 : Int → Option (Int × Int × Int)} {v_ : Int} {dist : Int} {hops : Int} {settled : Int} {r : (Int → Option (Int × Int × Int)) × List (Int × Int)}
    (wf : WF H) (h_s_2 : Nd enc_i64_u64_i64 3 H hd_s_2 s_2 fp_s_2 []) (h_s_ : Row H b_s_ [hd_s_2, i_ s_3, i_ s_4]) (h_s_7 : Ow enc_u64_i64 2 H hd_s_7 s_7 fp_s_7) (h_s_8 : Ms .i64 enc_u64_i64_i64 H b_s_8 s_8) (h_s : Row H b_s [pt_ b_s_ 0, i_ s_5, i_ s_6, hd_s_7, .map (some b_s_8)]) (dj_b_s_8_b_s : Dj [b_s_8] [b_s]) (dj_b_s_8_fp_s_7 : Dj [b_s_8] fp_s_7) (dj_b_s_8_fp_s_2 : Dj [b_s_8] fp_s_2) (dj_b_s_8_b_s_ : Dj [b_s_8] [b_s_]) (dj_fp_s_7_b_s : Dj fp_s_7 [b_s]) (dj_fp_s_7_fp_s_2 : Dj fp_s_7 fp_s_2) (dj_b_s_fp_s_2 : Dj [b_s] fp_s_2) (dj_fp_s_7_b_s_ : Dj fp_s_7 [b_s_]) (dj_b_s_b_s_ : Dj [b_s] [b_s_]) (dj_fp_s_7_b_s_8 : Dj fp_s_7 [b_s_8]) (hr : z_witness_seek_settle s_2 s_3 s_4 s_5 s_6 s_7 s_8 v_ dist hops settled = some r) :
    ACalls Try.prog 55 #[pt_ b_s 0, i_ v_, .agg #[.int .u64 dist, i_ hops, i_ settled]] H fun v H' => ∃ (s5 : Value) (f6 : Fp), v = .tuple #[] ∧ FrS ([b_s] ++ ([b_s_8] ++ fp_s_7)) H H' ∧ Ms .i64 enc_u64_i64_i64 H' b_s_8 r.1 ∧ Ow enc_u64_i64 2 H' s5 r.2 f6 ∧ Row H' b_s [pt_ b_s_ 0, i_ s_5, i_ s_6, s5, .map (some b_s_8)] ∧ Inn fp_s_7 H f6 := by
 refine acalls_of_body mixed Try.func55 rfl (Nat.le_of_ble_eq_true rfl) ?_
 unfold z_witness_seek_settle at hr
 refine w_seqk fun _ k10 => g_' ?_
 refine s_rwl wf [.int .u64 dist, i_ hops, i_ settled] (one_cons (rfl) (one_cons (rfl) (one_cons (rfl) (one_nil)))) (by kernel_rfl) fun b11 H12 e13 hb14 r15 => ?_
 refine s_nil (k10 _ _ (w_seqk fun _ k17 => g_' (q_ (pt_ b11 2) ?_)))
 obtain ⟨H18, q19, e20, r21⟩ := Row.store (P := Try.prog) (t := 3) (p := 2) e13.wf r15 (i_ 1) [i_ 1] (by kernel_rfl) (by kernel_rfl) (one_cons (rfl) (one_nil)) (Nat.le_of_ble_eq_true (by kernel_rfl)) [.int .u64 dist, i_ hops, i_ 1] (by kernel_rfl)
 refine s_ek (undef) (by kernel_rfl) (map_ok q19) ?_
 refine s_nil (k17 _ _ (w_seqk fun _ k22 => ?_))
 refine w_draw [0, 1, 2, 3, 4, 5, 6] (by kernel_rfl) ?_
 refine e_' (pt_ b_s 0) (e_' (pt_ b_s 0) (e_' (pt_ b_s 4) ?_))
 have u23 := ((h_s.ext e13).frS e20 (hb14.djn h_s.ltF))
 refine m_' (.map (some b_s_8)) (aL_ 94 (pt_ b_s 4) H18) (u23.l_) ?_
 refine e_' (i_ v_) ?_
 refine m_' (.agg #[.int .u64 dist, i_ hops, i_ 1]) (aL_ 101 (pt_ b11 0) H18) (r21.l_) ?_
 have u28 := ((h_s_8.ext e13).frS e20 (hb14.djn h_s_8.ltF))
 obtain ⟨H24, q26, e25, mp27⟩ := u28.put (P := Try.prog) e20.wf (t := 94) (zv := .agg #[.int .u64 0, i_ 0, i_ 0]) (val := .agg #[.int .u64 dist, i_ hops, i_ 1]) (by kernel_rfl) v_ (dist, hops, 1) rfl
 have e29 := e25.frS (W := [b_s_8]) (List.mem_singleton.2 rfl)
 refine d_ek (undef) (by kernel_rfl) (map_ok q26) (st_nil) ?_
 refine d_nil ?_
 refine k22 _ _ (w_seqk fun _ k30 => w_seqk fun _ k31 => ?_)
 refine w_draw [0, 1, 2, 3, 4, 5, 6] (by kernel_rfl) ?_
 refine e_' (pt_ b11 1) ?_
 have u32 := (r21.frS e29 (Dj.symm (hb14.djn h_s_8.ltF)))
 refine m_' (i_ hops) (aL_ 3 (pt_ b11 1) H24) (u32.l_) ?_
 refine e_' (pt_ b_s 0) (e_' (pt_ b_s 0) (e_' (pt_ b_s 2) ?_))
 have u33 := (u23.frS e29 dj_b_s_8_b_s)
 refine m_' (i_ s_6) (aL_ 3 (pt_ b_s 2) H24) (u33.l_) ?_
 refine e_' (.bool (decide (hops ≥ s_6))) ?_
 refine d_nil ?_
 refine k31 _ _ ?_
 refine w_condp (hops ≥ s_6) (by kernel_rfl) rfl (fun h34 => ?_) (fun h34 => ?_)
 ·have r35 := ite_t h34 hr
  refine w_ret (th_ret ?_)
  refine b_ret (fn := Try.f55) (vs := []) (rfl) ?_
  have u36 := (((h_s_7.ext e13).fr e20 (hb14.djn h_s_7.lt)).fr e29 dj_b_s_8_fp_s_7)
  obtain rfl := oi_ r35
  exact ⟨(hd_s_7), fp_s_7, rfl, (FrS.step wf (FrS.step wf ((FrS.refl (W := ([b_s] ++ ([b_s_8] ++ fp_s_7))) wf).extR e13) e20 (hb14.fresh (Nat.le_refl _))) e29 (Inn.right Inn.left)), mp27, u36, u33, Inn.refl'⟩
 have r37 := ite_f h34 hr
 refine w_skip (k30 _ _ (w_seqk fun _ k38 => g_' (q_ (pt_ b_s 0) (q_ (pt_ b_s 0) (q_ (pt_ b_s 0) ?_)))))
 refine l_' (pt_ b_s_ 0) (aL_ 29 (pt_ b_s 0) H24) (u33.l_) ?_
 refine q_ (i_ v_) ?_
 have u39 := (((h_s_2.ext e13).fr e20 (hb14.djn h_s_2.lt)).fr e29 dj_b_s_8_fp_s_2)
 have u40 := (((h_s_.ext e13).frS e20 (hb14.djn h_s_.ltF)).frS e29 dj_b_s_8_b_s_)
 obtain ⟨y41, hy42, r43⟩ := bind_some r37
 refine s_ck 26 #[pt_ b_s_ 0, i_ v_] (by kernel_rfl) (c_overlay_Overlay_Out e29.wf u39 u40 hy42) ?_
 rintro s44 H46 ⟨_, f45, rfl, e47, m48, i49⟩
 obtain ⟨a51, n52, c53, rfl⟩ := m48.form
 refine l_' (i_ (y41.length : Int)) (aLen Try.prog 69 (.slice a51 n52 c53) H46) (m48.sq.lenb (by kernel_rfl)) ?_
 refine q_ (i_ 0) (s_nil (k38 _ _ ?_))
 obtain ⟨o54, hx55, r56⟩ := bind_some r43
 refine w_mid (fun α H57 => ∃ (s63 : Value) (f64 : Fp), Has α [] ∧ FrS ([b_s] ++ ([b_s_8] ++ fp_s_7)) H46 H57 ∧ Ms .i64 enc_u64_i64_i64 H57 b_s_8 o54.1 ∧ Ow enc_u64_i64 2 H57 s63 o54.2 f64 ∧ Row H57 b_s [pt_ b_s_ 0, i_ s_5, i_ s_6, s63, .map (some b_s_8)] ∧ Inn fp_s_7 H46 f64) (fun _ k68 => ?_) (fun α H57 hM => ?_)
 ·refine w_block ?_
  obtain ⟨n70, hn71⟩ := loopO_iff.1 hx55
  have u89 := ((((h_s_7.ext e13).fr e20 (hb14.djn h_s_7.lt)).fr e29 dj_b_s_8_fp_s_7).fr e47 Dj.nil_l)
  have u90 := (mp27.frS e47 Dj.nil_l)
  have u91 := (u33.frS e47 Dj.nil_l)
  refine w_loopn (fun n α H72 => ∃ (s0 : List (Int × Int)), ∃ (s1 : Int → Option (Int × Int × Int)), ∃ (i2 : Int), ∃ (s76 : Value), ∃ (f77 : Fp), iterO (fun zz_ => z_witness_seek_settle_l0 s_2 s_3 s_4 s_5 s_6 dist hops y41 zz_.1 zz_.2.1 zz_.2.2) n (s0, s1, i2) = some o54 ∧ Has α [(0, pt_ b_s 0), (5, pt_ b11 0), (30, .slice a51 n52 c53), (31, i_ (y41.length : Int)), (32, i_ i2)] ∧ FrS ([b_s] ++ ([b_s_8] ++ fp_s_7)) H46 H72 ∧ Ow enc_u64_i64 2 H72 s76 s0 f77 ∧ Ms .i64 enc_u64_i64_i64 H72 b_s_8 s1 ∧ Row H72 b_s [pt_ b_s_ 0, i_ s_5, i_ s_6, s76, .map (some b_s_8)] ∧ Inn fp_s_7 H46 f77) n70 ⟨s_7, (fun x => if x = v_ then some (dist, hops, 1) else s_8 x), 0, (hd_s_7), fp_s_7, hn71, ha_, (FrS.refl (W := ([b_s] ++ ([b_s_8] ++ fp_s_7))) e47.wf), u89, u90, u91, Inn.refl'⟩ ?_
  rintro n70 α H72 ⟨s0, s1, i2, s76, f77, hi84, hh83, e73, m75, m79, m81, i82⟩ K92 k92
  obtain ⟨n85, z86, rfl, hz87, hn88⟩ := iter_succ hi84
  obtain ⟨β, rfl⟩ := has_ex hh83
  clear hh83
  replace hz87 : z_witness_seek_settle_l0 s_2 s_3 s_4 s_5 s_6 dist hops y41 s0 s1 i2 = some z86 := hz87
  unfold z_witness_seek_settle_l0 at hz87
  obtain ⟨a93, n94, c95, rfl⟩ := m75.form
  refine w_seqk fun _ k96 => g_' (q_ (.bool (decide (i2 < (y41.length : Int)))) (s_nil (k96 _ _ (w_seqk fun _ k97 => ?_))))
  refine w_condp (i2 < (y41.length : Int)) (by kernel_rfl) rfl (fun h98 => ?_) (fun h98 => ?_)
  ·have r99 := ite_t h98 hz87
   refine w_skip (k97 _ _ (w_seqk fun _ k100 => w_block (w_seqk fun _ k101 => g_' ?_)))
   obtain ⟨g102, r103⟩ := G_some r99
   have u104 := (m48.fr e73 (Dj.app (Dj.symm (i49.djn (h_s.ltF.le (t_ (t_ e13.n e20.n) e29.n)))) (Dj.app (Dj.symm (i49.djn (h_s_8.ltF.le (t_ (t_ e13.n e20.n) e29.n)))) (Dj.symm (i49.djn (h_s_7.lt.le (t_ (t_ e13.n e20.n) e29.n)))))))
   refine l_' (elp (.slice a51 n52 c53) 3 i2.toNat 0) (aIndexAddr Try.prog 69 (.slice a51 n52 c53) (i_ i2)) (u104.sq.idxb (by kernel_rfl) g102 h98) ?_
   refine l_' (.agg #[i_ ((gt y41 i2).1), .int .u64 ((gt y41 i2).2.1), i_ ((gt y41 i2).2.2)]) (aL_ 71 (elp (.slice a51 n52 c53) 3 i2.toNat 0) H72) (u104.sq.ld g102 h98 (by kernel_rfl)) ?_
   refine s_rwk e73.wf [i_ 0, .int .u64 0, i_ 0] (by kernel_rfl) fun b105 H106 e107 hb108 r109 => ?_
   obtain ⟨H111, q112, e113, r114⟩ := Row.store (P := Try.prog) (t := 71) (p := 0) e107.wf r109 (.agg #[i_ ((gt y41 i2).1), .int .u64 ((gt y41 i2).2.1), i_ ((gt y41 i2).2.2)]) [i_ ((gt y41 i2).1), .int .u64 ((gt y41 i2).2.1), i_ ((gt y41 i2).2.2)] (by kernel_rfl) (by kernel_rfl) (one_cons (rfl) (one_cons (rfl) (one_cons (rfl) (one_nil)))) (Nat.le_of_ble_eq_true (by kernel_rfl)) [i_ ((gt y41 i2).1), .int .u64 ((gt y41 i2).2.1), i_ ((gt y41 i2).2.2)] (by kernel_rfl)
   refine s_ek (undef) (by kernel_rfl) (map_ok q112) ?_
   refine s_nil (k101 _ _ (w_seqk fun _ k115 => ?_))
   refine w_draw [0, 1, 2, 3, 4, 5, 6, 7, 8, 9, 10, 11, 12] (by kernel_rfl) ?_
   refine e_' (pt_ b_s 0) (e_' (pt_ b_s 0) (e_' (pt_ b_s 4) ?_))
   have u116 := ((m81.ext e107).frS e113 (hb108.djn (h_s.ltF.le (t_ (t_ (t_ (t_ e13.n e20.n) e29.n) e47.n) e73.n))))
   refine m_' (.map (some b_s_8)) (aL_ 94 (pt_ b_s 4) H111) (u116.l_) ?_
   refine e_' (pt_ b105 0) ?_
   refine m_' (i_ ((gt y41 i2).1)) (aL_ 3 (pt_ b105 0) H111) (r114.l_) ?_
   have u117 := ((m79.ext e107).frS e113 (hb108.djn (h_s_8.ltF.le (t_ (t_ (t_ (t_ e13.n e20.n) e29.n) e47.n) e73.n))))
   refine m_' (.tuple #[.agg #[.int .u64 (((s1 ((gt y41 i2).1)).getD ((0, 0, 0) : Int × Int × Int)).1), i_ (((s1 ((gt y41 i2).1)).getD ((0, 0, 0) : Int × Int × Int)).2.1), i_ (((s1 ((gt y41 i2).1)).getD ((0, 0, 0) : Int × Int × Int)).2.2)], .bool ((s1 ((gt y41 i2).1)).isSome)]) (aLookup Try.prog 94 (.map (some b_s_8)) (i_ ((gt y41 i2).1)) true H111) (u117.look2 ((0, 0, 0) : Int × Int × Int) (zv := .agg #[.int .u64 0, i_ 0, i_ 0]) rfl (by kernel_rfl) (by kernel_rfl) _ rfl) ?_
   refine e_' (.tuple #[.agg #[.int .u64 (((s1 ((gt y41 i2).1)).getD ((0, 0, 0) : Int × Int × Int)).1), i_ (((s1 ((gt y41 i2).1)).getD ((0, 0, 0) : Int × Int × Int)).2.1), i_ (((s1 ((gt y41 i2).1)).getD ((0, 0, 0) : Int × Int × Int)).2.2)], .bool ((s1 ((gt y41 i2).1)).isSome)]) (e_' (.agg #[.int .u64 (((s1 ((gt y41 i2).1)).getD ((0, 0, 0) : Int × Int × Int)).1), i_ (((s1 ((gt y41 i2).1)).getD ((0, 0, 0) : Int × Int × Int)).2.1), i_ (((s1 ((gt y41 i2).1)).getD ((0, 0, 0) : Int × Int × Int)).2.2)]) (e_' (.bool ((s1 ((gt y41 i2).1)).isSome)) ?_))
   refine d_rwk e113.wf [.int .u64 0, i_ 0, i_ 0] (by kernel_rfl) fun b118 H119 e120 hb121 r122 => ?_
   obtain ⟨H124, q125, e126, r127⟩ := Row.store (P := Try.prog) (t := 101) (p := 0) e120.wf r122 (.agg #[.int .u64 (((s1 ((gt y41 i2).1)).getD ((0, 0, 0) : Int × Int × Int)).1), i_ (((s1 ((gt y41 i2).1)).getD ((0, 0, 0) : Int × Int × Int)).2.1), i_ (((s1 ((gt y41 i2).1)).getD ((0, 0, 0) : Int × Int × Int)).2.2)]) [.int .u64 (((s1 ((gt y41 i2).1)).getD ((0, 0, 0) : Int × Int × Int)).1), i_ (((s1 ((gt y41 i2).1)).getD ((0, 0, 0) : Int × Int × Int)).2.1), i_ (((s1 ((gt y41 i2).1)).getD ((0, 0, 0) : Int × Int × Int)).2.2)] (by kernel_rfl) (by kernel_rfl) (one_cons (rfl) (one_cons (rfl) (one_cons (rfl) (one_nil)))) (Nat.le_of_ble_eq_true (by kernel_rfl)) [.int .u64 (((s1 ((gt y41 i2).1)).getD ((0, 0, 0) : Int × Int × Int)).1), i_ (((s1 ((gt y41 i2).1)).getD ((0, 0, 0) : Int × Int × Int)).2.1), i_ (((s1 ((gt y41 i2).1)).getD ((0, 0, 0) : Int × Int × Int)).2.2)] (by kernel_rfl)
   refine d_ek (undef) (by kernel_rfl) (map_ok q125) (st_nil) ?_
   refine e_' (.bool ((s1 ((gt y41 i2).1)).isSome)) ?_
   refine d_nil ?_
   refine k115 _ _ (w_seqk fun _ k128 => g_' (q_ (pt_ b11 0) ?_))
   have u129 := ((((((u32.frS e47 Dj.nil_l).frS e73 (Dj.app (Dj.symm (hb14.djn h_s.ltF)) (Dj.app (Dj.symm (hb14.djn h_s_8.ltF)) (Dj.symm (hb14.djn h_s_7.lt))))).ext e107).frS e113 (hb108.djn (r15.ltF.le (t_ (t_ (t_ e20.n e29.n) e47.n) e73.n)))).ext e120).frS e126 (hb121.djn (r15.ltF.le (t_ (t_ (t_ (t_ (t_ e20.n e29.n) e47.n) e73.n) e107.n) e113.n))))
   refine l_' (.int .u64 dist) (aL_ 27 (pt_ b11 0) H124) (u129.l_) ?_
   refine q_ (pt_ b105 1) ?_
   have u130 := ((r114.ext e120).frS e126 (hb121.djn (r109.ltF.le e113.n)))
   refine l_' (.int .u64 ((gt y41 i2).2.1)) (aL_ 27 (pt_ b105 1) H124) (u130.l_) ?_
   obtain ⟨g131, r132⟩ := G_some r103
   refine s_w ((dist + ((gt y41 i2).2.1))) (k := .u64) (x := (dist + ((gt y41 i2).2.1))) (by kernel_rfl) (wrapu64 g131) ?_
   refine q_ (pt_ b11 1) ?_
   refine l_' (i_ hops) (aL_ 3 (pt_ b11 1) H124) (u129.l_) ?_
   obtain ⟨g133, r134⟩ := G_some r132
   refine w_' (hops + 1) (wrap64 g133) ?_
   refine q_ (.agg #[.int .u64 (dist + ((gt y41 i2).2.1)), i_ (hops + 1), i_ 0]) ?_
   refine s_rwk e126.wf [.int .u64 0, i_ 0, i_ 0] (by kernel_rfl) fun b135 H136 e137 hb138 r139 => ?_
   obtain ⟨H141, q142, e143, r144⟩ := Row.store (P := Try.prog) (t := 101) (p := 0) e137.wf r139 (.agg #[.int .u64 (dist + ((gt y41 i2).2.1)), i_ (hops + 1), i_ 0]) [.int .u64 (dist + ((gt y41 i2).2.1)), i_ (hops + 1), i_ 0] (by kernel_rfl) (by kernel_rfl) (one_cons (rfl) (one_cons (rfl) (one_cons (rfl) (one_nil)))) (Nat.le_of_ble_eq_true (by kernel_rfl)) [.int .u64 (dist + ((gt y41 i2).2.1)), i_ (hops + 1), i_ 0] (by kernel_rfl)
   refine s_ek (undef) (by kernel_rfl) (map_ok q142) ?_
   refine s_nil (k128 _ _ (w_seqk fun _ k145 => w_seqk fun _ k146 => ?_))
   obtain ⟨o147, hx148, r149⟩ := bind_some r134
   refine w_mid (fun α H150 => Has α [(0, pt_ b_s 0), (5, pt_ b11 0), (7, pt_ b105 0), (10, pt_ b135 0), (30, .slice a51 n52 c53), (31, i_ (y41.length : Int)), (32, i_ i2), (76, .bool o147)] ∧ H141 = H150) (fun _ k152 => ?_) (fun α H150 hM => ?_)
   ·refine w_draw [0, 1, 2, 3, 4, 5, 6, 7, 8, 9, 10, 11, 12, 13, 14, 15, 16, 17, 18, 19, 20, 21] (by kernel_rfl) ?_
    refine e_' (pt_ b105 0) ?_
    have u154 := ((u130.ext e137).frS e143 (hb138.djn (r109.ltF.le (t_ (t_ e113.n e120.n) e126.n))))
    refine m_' (i_ ((gt y41 i2).1)) (aL_ 3 (pt_ b105 0) H141) (u154.l_) ?_
    refine e_' (pt_ b_s 0) (e_' (pt_ b_s 0) (e_' (pt_ b_s 1) ?_))
    have u155 := ((((u116.ext e120).frS e126 (hb121.djn (h_s.ltF.le (t_ (t_ (t_ (t_ (t_ (t_ e13.n e20.n) e29.n) e47.n) e73.n) e107.n) e113.n)))).ext e137).frS e143 (hb138.djn (h_s.ltF.le (t_ (t_ (t_ (t_ (t_ (t_ (t_ (t_ e13.n e20.n) e29.n) e47.n) e73.n) e107.n) e113.n) e120.n) e126.n))))
    refine m_' (i_ s_5) (aL_ 3 (pt_ b_s 1) H141) (u155.l_) ?_
    refine d_b (((gt y41 i2).1) = s_5) (by kernel_rfl) (fun h156 => ?_) (fun h156 => ?_)
    ·have r157 := ite_t h156 hx148
     refine e_' (.bool true) (j_' (j_' (j_' (e_' (.bool true) (e_' (.bool true) (j_' (j_' (j_' (j_' (j_' (j_' (j_' (j_' (e_' (.bool true) ?_))))))))))))))
     refine d_nil ?_
     obtain rfl := oi_ r157
     exact k152 _ _ ⟨ha_, rfl⟩
    have r158 := ite_f h156 hx148
    refine e_' (.bool false) (e_' (pt_ b118 2) ?_)
    have u159 := ((r127.ext e137).frS e143 (hb138.djn (r122.ltF.le e126.n)))
    refine m_' (i_ (((s1 ((gt y41 i2).1)).getD ((0, 0, 0) : Int × Int × Int)).2.2)) (aL_ 3 (pt_ b118 2) H141) (u159.l_) ?_
    refine d_b ((((s1 ((gt y41 i2).1)).getD ((0, 0, 0) : Int × Int × Int)).2.2) > 0) (by kernel_rfl) (fun h160 => ?_) (fun h160 => ?_)
    ·have r161 := ite_t h160 r158
     refine e_' (.bool true) (e_' (.bool true) (j_' (j_' (j_' (j_' (j_' (j_' (j_' (j_' (e_' (.bool true) ?_))))))))))
     refine d_nil ?_
     obtain rfl := oi_ r161
     exact k152 _ _ ⟨ha_, rfl⟩
    have r162 := ite_f h160 r158
    refine e_' (.bool false) (e_' (.bool false) (e_' (.bool ((s1 ((gt y41 i2).1)).isSome)) (e_' (.bool ((s1 ((gt y41 i2).1)).isSome)) ?_)))
    by_cases h163 : (s1 ((gt y41 i2).1)).isSome = true
    ·have r164 := ite_t h163 r162
     rw [h163]
     refine e_' (pt_ b118 0) ?_
     refine m_' (.int .u64 (((s1 ((gt y41 i2).1)).getD ((0, 0, 0) : Int × Int × Int)).1)) (aL_ 27 (pt_ b118 0) H141) (u159.l_) ?_
     refine e_' (pt_ b135 0) ?_
     refine m_' (.int .u64 (dist + ((gt y41 i2).2.1))) (aL_ 27 (pt_ b135 0) H141) (r144.l_) ?_
     refine e_' (.bool (decide ((((s1 ((gt y41 i2).1)).getD ((0, 0, 0) : Int × Int × Int)).1) ≤ (dist + ((gt y41 i2).2.1))))) (e_' (.bool (decide ((((s1 ((gt y41 i2).1)).getD ((0, 0, 0) : Int × Int × Int)).1) ≤ (dist + ((gt y41 i2).2.1))))) (e_' (.bool (decide ((((s1 ((gt y41 i2).1)).getD ((0, 0, 0) : Int × Int × Int)).1) ≤ (dist + ((gt y41 i2).2.1))))) ?_))
     refine d_nil ?_
     obtain rfl := oi_ r164
     exact k152 _ _ ⟨ha_, rfl⟩
    have r165 := ite_f h163 r162
    rw [nb h163]
    refine j_' (j_' (j_' (j_' (j_' (e_' (.bool false) (e_' (.bool false) ?_))))))
    refine d_nil ?_
    obtain rfl := oi_ r165
    exact k152 _ _ ⟨ha_, rfl⟩
   obtain ⟨hh153, rfl⟩ := hM
   obtain ⟨β, rfl⟩ := has_ex hh153
   clear hh153
   refine k146 _ _ ?_
   refine w_cond (o147) (by kernel_rfl) rfl (fun h166 => ?_) (fun h166 => ?_)
   ·have r167 := ite_t h166 r149
    refine w_exit (th_exit (bl_eq ?_))
    refine k100 _ _ (g_' ?_)
    obtain ⟨g168, r169⟩ := G_some r167
    refine w_' (i2 + 1) (wrap64 (by have := g168; omega)) ?_
    refine q_ (i_ (i2 + 1)) (s_nil ?_)
    have u170 := ((((((m75.ext e107).fr e113 (hb108.djn m75.lt)).ext e120).fr e126 (hb121.djn (m75.lt.le (t_ e107.n e113.n)))).ext e137).fr e143 (hb138.djn (m75.lt.le (t_ (t_ (t_ e107.n e113.n) e120.n) e126.n))))
    have u171 := ((((u117.ext e120).frS e126 (hb121.djn (h_s_8.ltF.le (t_ (t_ (t_ (t_ (t_ (t_ e13.n e20.n) e29.n) e47.n) e73.n) e107.n) e113.n)))).ext e137).frS e143 (hb138.djn (h_s_8.ltF.le (t_ (t_ (t_ (t_ (t_ (t_ (t_ (t_ e13.n e20.n) e29.n) e47.n) e73.n) e107.n) e113.n) e120.n) e126.n))))
    have u172 := ((((u116.ext e120).frS e126 (hb121.djn (h_s.ltF.le (t_ (t_ (t_ (t_ (t_ (t_ e13.n e20.n) e29.n) e47.n) e73.n) e107.n) e113.n)))).ext e137).frS e143 (hb138.djn (h_s.ltF.le (t_ (t_ (t_ (t_ (t_ (t_ (t_ (t_ e13.n e20.n) e29.n) e47.n) e73.n) e107.n) e113.n) e120.n) e126.n))))
    obtain rfl := oi_ r169
    exact k92 n85 _ _ (Nat.lt_succ_self _) ⟨s0, s1, (i2 + 1), (.slice a93 n94 c95), f77, hn88, ha_, (FrS.step e47.wf ((FrS.step e47.wf ((FrS.step e47.wf ((FrS.step e47.wf (FrS.refl (W := ([b_s] ++ ([b_s_8] ++ fp_s_7))) e47.wf) e73 (Inn.app Inn.left (Inn.app (Inn.right Inn.left) (Inn.right (Inn.right Inn.refl'))))).extR e107) e113 (hb108.fresh e73.n)).extR e120) e126 (hb121.fresh (t_ (t_ e73.n e107.n) e113.n))).extR e137) e143 (hb138.fresh (t_ (t_ (t_ (t_ e73.n e107.n) e113.n) e120.n) e126.n))), u170, u171, u172, (Inn.trans Inn.refl' (Nat.le_refl _) i82)⟩
   have r173 := ite_bf h166 r149
   refine w_skip (k145 _ _ (g_' (q_ (pt_ b_s 0) (q_ (pt_ b105 0) ?_))))
   have u174 := ((u130.ext e137).frS e143 (hb138.djn (r109.ltF.le (t_ (t_ e113.n e120.n) e126.n))))
   refine l_' (i_ ((gt y41 i2).1)) (aL_ 3 (pt_ b105 0) H141) (u174.l_) ?_
   refine l_' (.agg #[.int .u64 (dist + ((gt y41 i2).2.1)), i_ (hops + 1), i_ 0]) (aL_ 101 (pt_ b135 0) H141) (r144.l_) ?_
   have u175 := ((((((((u39.fr e47 Dj.nil_l).fr e73 (Dj.app dj_b_s_fp_s_2 (Dj.app dj_b_s_8_fp_s_2 dj_fp_s_7_fp_s_2))).ext e107).fr e113 (hb108.djn (h_s_2.lt.le (t_ (t_ (t_ (t_ e13.n e20.n) e29.n) e47.n) e73.n)))).ext e120).fr e126 (hb121.djn (h_s_2.lt.le (t_ (t_ (t_ (t_ (t_ (t_ e13.n e20.n) e29.n) e47.n) e73.n) e107.n) e113.n)))).ext e137).fr e143 (hb138.djn (h_s_2.lt.le (t_ (t_ (t_ (t_ (t_ (t_ (t_ (t_ e13.n e20.n) e29.n) e47.n) e73.n) e107.n) e113.n) e120.n) e126.n))))
   have u176 := ((((((((u40.frS e47 Dj.nil_l).frS e73 (Dj.app dj_b_s_b_s_ (Dj.app dj_b_s_8_b_s_ dj_fp_s_7_b_s_))).ext e107).frS e113 (hb108.djn (h_s_.ltF.le (t_ (t_ (t_ (t_ e13.n e20.n) e29.n) e47.n) e73.n)))).ext e120).frS e126 (hb121.djn (h_s_.ltF.le (t_ (t_ (t_ (t_ (t_ (t_ e13.n e20.n) e29.n) e47.n) e73.n) e107.n) e113.n)))).ext e137).frS e143 (hb138.djn (h_s_.ltF.le (t_ (t_ (t_ (t_ (t_ (t_ (t_ (t_ e13.n e20.n) e29.n) e47.n) e73.n) e107.n) e113.n) e120.n) e126.n))))
   have u177 := ((((((m75.ext e107).fr e113 (hb108.djn m75.lt)).ext e120).fr e126 (hb121.djn (m75.lt.le (t_ e107.n e113.n)))).ext e137).fr e143 (hb138.djn (m75.lt.le (t_ (t_ (t_ e107.n e113.n) e120.n) e126.n))))
   have u178 := ((((u117.ext e120).frS e126 (hb121.djn (h_s_8.ltF.le (t_ (t_ (t_ (t_ (t_ (t_ e13.n e20.n) e29.n) e47.n) e73.n) e107.n) e113.n)))).ext e137).frS e143 (hb138.djn (h_s_8.ltF.le (t_ (t_ (t_ (t_ (t_ (t_ (t_ (t_ e13.n e20.n) e29.n) e47.n) e73.n) e107.n) e113.n) e120.n) e126.n))))
   have u179 := ((((u116.ext e120).frS e126 (hb121.djn (h_s.ltF.le (t_ (t_ (t_ (t_ (t_ (t_ e13.n e20.n) e29.n) e47.n) e73.n) e107.n) e113.n)))).ext e137).frS e143 (hb138.djn (h_s.ltF.le (t_ (t_ (t_ (t_ (t_ (t_ (t_ (t_ e13.n e20.n) e29.n) e47.n) e73.n) e107.n) e113.n) e120.n) e126.n))))
   obtain ⟨y180, hy181, r182⟩ := bind_some r173
   refine s_ck 53 #[pt_ b_s 0, i_ ((gt y41 i2).1), .agg #[.int .u64 (dist + ((gt y41 i2).2.1)), i_ (hops + 1), i_ 0]] (by kernel_rfl) (c_witness_seek_set e143.wf u175 u176 u177 u178 u179 dj_b_s_8_fp_s_2 dj_b_s_8_b_s_ (Dj.symm (i82.dj dj_fp_s_7_b_s_8 (h_s_8.ltF.le (t_ (t_ (t_ e13.n e20.n) e29.n) e47.n)))) dj_b_s_8_b_s (i82.dj dj_fp_s_7_b_s (h_s.ltF.le (t_ (t_ (t_ e13.n e20.n) e29.n) e47.n))) (i82.dj dj_fp_s_7_fp_s_2 (h_s_2.lt.le (t_ (t_ (t_ e13.n e20.n) e29.n) e47.n))) dj_b_s_fp_s_2 (i82.dj dj_fp_s_7_b_s_ (h_s_.ltF.le (t_ (t_ (t_ e13.n e20.n) e29.n) e47.n))) dj_b_s_b_s_ hy181) ?_
   rintro _ H185 ⟨s183, f184, rfl, e186, m187, m188, m189, i190⟩
   obtain ⟨a192, n193, c194, rfl⟩ := m188.form
   refine s_nil (k100 _ _ (g_' ?_))
   obtain ⟨g195, r196⟩ := G_some r182
   refine w_' (i2 + 1) (wrap64 (by have := g195; omega)) ?_
   refine q_ (i_ (i2 + 1)) (s_nil ?_)
   obtain rfl := oi_ r196
   exact k92 n85 _ _ (Nat.lt_succ_self _) ⟨y180.2, y180.1, (i2 + 1), (.slice a192 n193 c194), f184, hn88, ha_, (FrS.step e47.wf (FrS.step e47.wf ((FrS.step e47.wf ((FrS.step e47.wf ((FrS.step e47.wf (FrS.refl (W := ([b_s] ++ ([b_s_8] ++ fp_s_7))) e47.wf) e73 (Inn.app Inn.left (Inn.app (Inn.right Inn.left) (Inn.right (Inn.right Inn.refl'))))).extR e107) e113 (hb108.fresh e73.n)).extR e120) e126 (hb121.fresh (t_ (t_ e73.n e107.n) e113.n))).extR e137) e143 (hb138.fresh (t_ (t_ (t_ (t_ e73.n e107.n) e113.n) e120.n) e126.n))) e186 (Inn.app Inn.left (Inn.app (Inn.right Inn.left) (Inn.trans (Inn.right (Inn.right Inn.refl')) (Nat.le_refl _) i82)))), m188, m187, m189, (Inn.trans (Inn.trans Inn.refl' (Nat.le_refl _) i82) (t_ (t_ (t_ (t_ (t_ (t_ e73.n e107.n) e113.n) e120.n) e126.n) e137.n) e143.n) i190)⟩
  have r197 := ite_f h98 hz87
  refine w_exit (th_exit (th_exit (bl_eq ?_)))
  obtain rfl := oi_ r197
  obtain rfl := it_inr hn88
  exact k68 _ _ ⟨(.slice a93 n94 c95), f77, trivial, (FrS.step e47.wf (FrS.refl (W := ([b_s] ++ ([b_s_8] ++ fp_s_7))) e47.wf) e73 (Inn.app Inn.left (Inn.app (Inn.right Inn.left) (Inn.right (Inn.right Inn.refl'))))), m79, m75, m81, (Inn.trans Inn.refl' (Nat.le_refl _) i82)⟩
 obtain ⟨s63, f64, hh69, e58, m60, m62, m66, i67⟩ := hM
 obtain ⟨β, rfl⟩ := has_ex hh69
 clear hh69
 obtain ⟨a198, n199, c200, rfl⟩ := m62.form
 refine b_nrm (fn := Try.f55) (vs := []) (rfl) ?_
 obtain rfl := oi_ r56
 exact ⟨(.slice a198 n199 c200), f64, rfl, (FrS.step wf (FrS.step wf (FrS.step wf (FrS.step wf ((FrS.refl (W := ([b_s] ++ ([b_s_8] ++ fp_s_7))) wf).extR e13) e20 (hb14.fresh (Nat.le_refl _))) e29 (Inn.right Inn.left)) e47 Inn.nil) e58 (Inn.app Inn.left (Inn.app (Inn.right Inn.left) (Inn.right (Inn.right Inn.refl'))))), m60, m62, m66, (Inn.trans Inn.refl' (t_ (t_ (t_ e13.n e20.n) e29.n) e47.n) i67)⟩
theorem c_witness_seek_run {H : AH} {b_s : Nat} {b_s_ : Nat} {hd_s_2 : Value} {fp_s_2 : Fp} {hd_s_7 : Value} {fp_s_7 : Fp} {b_s_8 : Nat} {s_2 : List (Bool × List (Int × Int × Int) × List (Int × Int × Int))} {s_3 : Int} {s_4 : Int} {s_5 : Int} {s_6 : Int} {s_7 : List (Int × Int)} {s_8 : Int → Option (Int × Int × Int)} {u : Int} {most : Int} {settles : Int} {r : (Int → Option (Int × Int × Int)) × List (Int × Int)}
    (wf : WF H) (h_s_2 : Nd enc_i64_u64_i64 3 H hd_s_2 s_2 fp_s_2 []) (h_s_ : Row H b_s_ [hd_s_2, i_ s_3, i_ s_4]) (h_s_7 : Ow enc_u64_i64 2 H hd_s_7 s_7 fp_s_7) (h_s_8 : Ms .i64 enc_u64_i64_i64 H b_s_8 s_8) (h_s : Row H b_s [pt_ b_s_ 0, i_ s_5, i_ s_6, hd_s_7, .map (some b_s_8)]) (dj_b_s_8_fp_s_2 : Dj [b_s_8] fp_s_2) (dj_b_s_8_b_s_ : Dj [b_s_8] [b_s_]) (dj_b_s_8_fp_s_7 : Dj [b_s_8] fp_s_7) (dj_b_s_8_b_s : Dj [b_s_8] [b_s]) (dj_fp_s_7_b_s : Dj fp_s_7 [b_s]) (dj_fp_s_7_fp_s_2 : Dj fp_s_7 fp_s_2) (dj_b_s_fp_s_2 : Dj [b_s] fp_s_2) (dj_fp_s_7_b_s_ : Dj fp_s_7 [b_s_]) (dj_b_s_b_s_ : Dj [b_s] [b_s_]) (hr : z_witness_seek_run s_2 s_3 s_4 s_5 s_6 s_7 s_8 u most settles = some r) :
    ACalls Try.prog 36 #[pt_ b_s 0, i_ u, .int .u64 most, i_ settles] H fun v H' => ∃ (s5 : Value) (f6 : Fp), v = .tuple #[] ∧ FrS ([b_s] ++ ([b_s_8] ++ fp_s_7)) H H' ∧ Ms .i64 enc_u64_i64_i64 H' b_s_8 r.1 ∧ Ow enc_u64_i64 2 H' s5 r.2 f6 ∧ Row H' b_s [pt_ b_s_ 0, i_ s_5, i_ s_6, s5, .map (some b_s_8)] ∧ Inn fp_s_7 H f6 := by
 refine acalls_of_body mixed Try.func36 rfl (Nat.le_of_ble_eq_true rfl) ?_
 unfold z_witness_seek_run at hr
 refine w_seqk fun _ k10 => g_' (q_ (pt_ b_s 0) (q_ (i_ u) (q_ (.agg #[.int .u64 0, i_ 0, i_ 0]) ?_)))
 obtain ⟨y11, hy12, r13⟩ := bind_some hr
 refine s_ck 53 #[pt_ b_s 0, i_ u, .agg #[.int .u64 0, i_ 0, i_ 0]] (by kernel_rfl) (c_witness_seek_set wf h_s_2 h_s_ h_s_7 h_s_8 h_s dj_b_s_8_fp_s_2 dj_b_s_8_b_s_ dj_b_s_8_fp_s_7 dj_b_s_8_b_s dj_fp_s_7_b_s dj_fp_s_7_fp_s_2 dj_b_s_fp_s_2 dj_fp_s_7_b_s_ dj_b_s_b_s_ hy12) ?_
 rintro _ H16 ⟨s14, f15, rfl, e17, m18, m19, m20, i21⟩
 obtain ⟨a23, n24, c25, rfl⟩ := m19.form
 refine s_nil (k10 _ _ (w_seqk fun _ k26 => g_' (q_ (i_ settles) ?_)))
 refine l_' (i_ (max 0 settles)) (aMax Try.prog [i_ 0, i_ settles]) (aMax_two _ _) ?_
 refine q_ (i_ 0) (s_nil (k26 _ _ ?_))
 obtain ⟨z30, hx28, r29⟩ := bind_some r13
 refine w_mid (fun α H31 => ∃ o27, z30 = Sum.inr o27 ∧ ∃ (s37 : Value) (f38 : Fp), Has α [] ∧ FrS ([b_s] ++ ([b_s_8] ++ f15)) H16 H31 ∧ Ms .i64 enc_u64_i64_i64 H31 b_s_8 o27.1 ∧ Ow enc_u64_i64 2 H31 s37 o27.2 f38 ∧ Row H31 b_s [pt_ b_s_ 0, i_ s_5, i_ s_6, s37, .map (some b_s_8)] ∧ Inn f15 H16 f38) (fun _ k42 => ?_) (fun α H31 hM => ?_)
 ·refine w_block ?_
  obtain ⟨n44, hn45⟩ := loopO_iff.1 hx28
  refine w_loopn (fun n α H46 => ∃ (s0 : List (Int × Int)), ∃ (s1 : Int → Option (Int × Int × Int)), ∃ (i2 : Int), ∃ (s50 : Value), ∃ (f51 : Fp), iterO (fun zz_ => z_witness_seek_run_l0 s_2 s_3 s_4 s_5 s_6 most settles zz_.1 zz_.2.1 zz_.2.2) n (s0, s1, i2) = some z30 ∧ Has α [(0, pt_ b_s 0), (2, .int .u64 most), (16, i_ (max 0 settles)), (17, i_ i2)] ∧ FrS ([b_s] ++ ([b_s_8] ++ f15)) H16 H46 ∧ Ow enc_u64_i64 2 H46 s50 s0 f51 ∧ Ms .i64 enc_u64_i64_i64 H46 b_s_8 s1 ∧ Row H46 b_s [pt_ b_s_ 0, i_ s_5, i_ s_6, s50, .map (some b_s_8)] ∧ Inn f15 H16 f51) n44 ⟨y11.2, y11.1, 0, (.slice a23 n24 c25), f15, hn45, ha_, (FrS.refl (W := ([b_s] ++ ([b_s_8] ++ f15))) e17.wf), m19, m18, m20, Inn.refl'⟩ ?_
  rintro n44 α H46 ⟨s0, s1, i2, s50, f51, hi58, hh57, e47, m49, m53, m55, i56⟩ K63 k63
  obtain ⟨n59, z60, rfl, hz61, hn62⟩ := iter_succ hi58
  obtain ⟨β, rfl⟩ := has_ex hh57
  clear hh57
  replace hz61 : z_witness_seek_run_l0 s_2 s_3 s_4 s_5 s_6 most settles s0 s1 i2 = some z60 := hz61
  unfold z_witness_seek_run_l0 at hz61
  obtain ⟨a64, n65, c66, rfl⟩ := m49.form
  refine w_seqk fun _ k67 => g_' (q_ (.bool (decide (i2 < (max 0 settles)))) (s_nil (k67 _ _ (w_seqk fun _ k68 => ?_))))
  refine w_condp (i2 < (max 0 settles)) (by kernel_rfl) rfl (fun h69 => ?_) (fun h69 => ?_)
  ·have r70 := ite_t h69 hz61
   refine w_skip (k68 _ _ (w_seqk fun _ k71 => w_block (w_seqk fun _ k72 => g_' (q_ (pt_ b_s 0) ?_))))
   have u73 := ((h_s_2.fr e17 (Dj.app dj_b_s_fp_s_2 (Dj.app dj_b_s_8_fp_s_2 dj_fp_s_7_fp_s_2))).fr e47 (Dj.app dj_b_s_fp_s_2 (Dj.app dj_b_s_8_fp_s_2 (i21.dj dj_fp_s_7_fp_s_2 h_s_2.lt))))
   have u74 := ((h_s_.frS e17 (Dj.app dj_b_s_b_s_ (Dj.app dj_b_s_8_b_s_ dj_fp_s_7_b_s_))).frS e47 (Dj.app dj_b_s_b_s_ (Dj.app dj_b_s_8_b_s_ (i21.dj dj_fp_s_7_b_s_ h_s_.ltF))))
   obtain ⟨y75, hy76, r77⟩ := bind_some r70
   refine s_ck 54 #[pt_ b_s 0] (by kernel_rfl) (c_witness_seek_next e47.wf u73 u74 m49 m53 m55 (i56.dj (i21.dj dj_fp_s_7_fp_s_2 h_s_2.lt) (h_s_2.lt.le e17.n)) (i56.dj (i21.dj dj_fp_s_7_b_s_ h_s_.ltF) (h_s_.ltF.le e17.n)) (i56.dj (i21.dj (Dj.symm dj_b_s_8_fp_s_7) h_s_8.ltF) (h_s_8.ltF.le e17.n)) (i56.dj (i21.dj dj_fp_s_7_b_s h_s.ltF) (h_s.ltF.le e17.n)) (Dj.symm dj_b_s_8_b_s) dj_b_s_fp_s_2 dj_b_s_b_s_ hy76) ?_
   rintro _ H79 ⟨s78, rfl, e80, m81, m82⟩
   obtain ⟨a84, n85, c86, rfl⟩ := m81.form
   refine q_ (.tuple #[i_ y75.1, .agg #[.int .u64 y75.2.1, i_ y75.2.2.1, i_ y75.2.2.2.1], .bool y75.2.2.2.2.1]) (q_ (i_ y75.1) (q_ (.agg #[.int .u64 y75.2.1, i_ y75.2.2.1, i_ y75.2.2.2.1]) (q_ (.bool y75.2.2.2.2.1) ?_)))
   refine s_rwk e80.wf [.int .u64 0, i_ 0, i_ 0] (by kernel_rfl) fun b87 H88 e89 hb90 r91 => ?_
   refine q_ (i_ y75.1) ?_
   obtain ⟨H93, q94, e95, r96⟩ := Row.store (P := Try.prog) (t := 101) (p := 0) e89.wf r91 (.agg #[.int .u64 y75.2.1, i_ y75.2.2.1, i_ y75.2.2.2.1]) [.int .u64 y75.2.1, i_ y75.2.2.1, i_ y75.2.2.2.1] (by kernel_rfl) (by kernel_rfl) (one_cons (rfl) (one_cons (rfl) (one_cons (rfl) (one_nil)))) (Nat.le_of_ble_eq_true (by kernel_rfl)) [.int .u64 y75.2.1, i_ y75.2.2.1, i_ y75.2.2.2.1] (by kernel_rfl)
   refine s_ek (undef) (by kernel_rfl) (map_ok q94) ?_
   refine q_ (.bool y75.2.2.2.2.1) (s_nil (k72 _ _ (w_seqk fun _ k97 => w_seqk fun _ k98 => ?_)))
   obtain ⟨o99, hx100, r101⟩ := bind_some r77
   refine w_mid (fun α H102 => Has α [(0, pt_ b_s 0), (2, .int .u64 most), (8, i_ y75.1), (9, pt_ b87 0), (16, i_ (max 0 settles)), (17, i_ i2), (32, .bool o99)] ∧ H93 = H102) (fun _ k104 => ?_) (fun α H102 hM => ?_)
   ·refine g_' (q_ (.bool y75.2.2.2.2.1) (q_ (.bool (!y75.2.2.2.2.1)) (q_ (.bool (!y75.2.2.2.2.1)) ?_)))
    by_cases h106 : (!y75.2.2.2.2.1) = true
    ·have r107 := ite_t h106 hx100
     rw [h106]
     refine n_' (n_' (n_' (n_' (q_ (.bool true) (s_nil ?_)))))
     obtain rfl := oi_ r107
     exact k104 _ _ ⟨ha_, rfl⟩
    have r108 := ite_f h106 hx100
    rw [nb h106]
    refine q_ (pt_ b87 0) ?_
    refine l_' (.int .u64 y75.2.1) (aL_ 27 (pt_ b87 0) H93) (r96.l_) ?_
    refine q_ (.int .u64 most) (q_ (.bool (decide (y75.2.1 > most))) (q_ (.bool (decide (y75.2.1 > most))) (s_nil ?_)))
    obtain rfl := oi_ r108
    exact k104 _ _ ⟨ha_, rfl⟩
   obtain ⟨hh105, rfl⟩ := hM
   obtain ⟨β, rfl⟩ := has_ex hh105
   clear hh105
   refine k98 _ _ ?_
   refine w_cond (o99) (by kernel_rfl) rfl (fun h109 => ?_) (fun h109 => ?_)
   ·have r110 := ite_t h109 r101
    refine w_ret (th_ret (bl_ret (th_ret (th_ret (bl_ret (th_ret ?_))))))
    obtain ⟨v111, hv112, hz113⟩ := map_some r110
    subst hz113
    obtain rfl := it_inr hn62
    have hq114 := elim_inl r29
    rw [hq114] at hv112
    refine b_ret (fn := Try.f36) (vs := []) (rfl) ?_
    have u115 := (((m53.frS e80 (Dj.app (Dj.symm dj_b_s_8_b_s) (i56.dj (i21.dj (Dj.symm dj_b_s_8_fp_s_7) h_s_8.ltF) (h_s_8.ltF.le e17.n)))).ext e89).frS e95 (hb90.djn (h_s_8.ltF.le (t_ (t_ e17.n e47.n) e80.n))))
    have u116 := ((m81.ext e89).fr e95 (hb90.djn (m49.lt.le e80.n)))
    have u117 := ((m82.ext e89).frS e95 (hb90.djn (h_s.ltF.le (t_ (t_ e17.n e47.n) e80.n))))
    obtain rfl := oi_ hv112
    exact ⟨(.slice a84 n85 c86), f51, rfl, (FrS.step wf ((FrS.step wf (FrS.step wf (FrS.step wf (FrS.refl (W := ([b_s] ++ ([b_s_8] ++ fp_s_7))) wf) e17 (Inn.app Inn.left (Inn.app (Inn.right Inn.left) (Inn.right (Inn.right Inn.refl'))))) e47 (Inn.app Inn.left (Inn.app (Inn.right Inn.left) (Inn.trans (Inn.right (Inn.right Inn.refl')) (Nat.le_refl _) i21)))) e80 (Inn.app Inn.left (Inn.trans (Inn.trans (Inn.right (Inn.right Inn.refl')) (Nat.le_refl _) i21) e17.n i56))).extR e89) e95 (hb90.fresh (t_ (t_ e17.n e47.n) e80.n))), u115, u116, u117, (Inn.trans (Inn.trans Inn.refl' (Nat.le_refl _) i21) e17.n i56)⟩
   have r118 := ite_bf h109 r101
   refine w_skip (k97 _ _ (g_' (q_ (pt_ b_s 0) (q_ (i_ y75.1) ?_))))
   refine l_' (.agg #[.int .u64 y75.2.1, i_ y75.2.2.1, i_ y75.2.2.2.1]) (aL_ 101 (pt_ b87 0) H93) (r96.l_) ?_
   have u119 := (((u73.fr e80 (Dj.app dj_b_s_fp_s_2 (i56.dj (i21.dj dj_fp_s_7_fp_s_2 h_s_2.lt) (h_s_2.lt.le e17.n)))).ext e89).fr e95 (hb90.djn (h_s_2.lt.le (t_ (t_ e17.n e47.n) e80.n))))
   have u120 := (((u74.frS e80 (Dj.app dj_b_s_b_s_ (i56.dj (i21.dj dj_fp_s_7_b_s_ h_s_.ltF) (h_s_.ltF.le e17.n)))).ext e89).frS e95 (hb90.djn (h_s_.ltF.le (t_ (t_ e17.n e47.n) e80.n))))
   have u121 := ((m81.ext e89).fr e95 (hb90.djn (m49.lt.le e80.n)))
   have u122 := (((m53.frS e80 (Dj.app (Dj.symm dj_b_s_8_b_s) (i56.dj (i21.dj (Dj.symm dj_b_s_8_fp_s_7) h_s_8.ltF) (h_s_8.ltF.le e17.n)))).ext e89).frS e95 (hb90.djn (h_s_8.ltF.le (t_ (t_ e17.n e47.n) e80.n))))
   have u123 := ((m82.ext e89).frS e95 (hb90.djn (h_s.ltF.le (t_ (t_ e17.n e47.n) e80.n))))
   obtain ⟨y124, hy125, r126⟩ := bind_some r118
   refine s_ck 55 #[pt_ b_s 0, i_ y75.1, .agg #[.int .u64 y75.2.1, i_ y75.2.2.1, i_ y75.2.2.2.1]] (by kernel_rfl) (c_witness_seek_settle e95.wf u119 u120 u121 u122 u123 dj_b_s_8_b_s (Dj.symm (i56.dj (i21.dj (Dj.symm dj_b_s_8_fp_s_7) h_s_8.ltF) (h_s_8.ltF.le e17.n))) dj_b_s_8_fp_s_2 dj_b_s_8_b_s_ (i56.dj (i21.dj dj_fp_s_7_b_s h_s.ltF) (h_s.ltF.le e17.n)) (i56.dj (i21.dj dj_fp_s_7_fp_s_2 h_s_2.lt) (h_s_2.lt.le e17.n)) dj_b_s_fp_s_2 (i56.dj (i21.dj dj_fp_s_7_b_s_ h_s_.ltF) (h_s_.ltF.le e17.n)) dj_b_s_b_s_ (i56.dj (i21.dj (Dj.symm dj_b_s_8_fp_s_7) h_s_8.ltF) (h_s_8.ltF.le e17.n)) hy125) ?_
   rintro _ H129 ⟨s127, f128, rfl, e130, m131, m132, m133, i134⟩
   obtain ⟨a136, n137, c138, rfl⟩ := m132.form
   refine s_nil (k71 _ _ (g_' ?_))
   obtain ⟨g139, r140⟩ := G_some r126
   refine w_' (i2 + 1) (wrap64 g139) ?_
   refine q_ (i_ (i2 + 1)) (s_nil ?_)
   obtain rfl := oi_ r140
   exact k63 n59 _ _ (Nat.lt_succ_self _) ⟨y124.2, y124.1, (i2 + 1), (.slice a136 n137 c138), f128, hn62, ha_, (FrS.step e17.wf (FrS.step e17.wf ((FrS.step e17.wf (FrS.step e17.wf (FrS.refl (W := ([b_s] ++ ([b_s_8] ++ f15))) e17.wf) e47 (Inn.app Inn.left (Inn.app (Inn.right Inn.left) (Inn.right (Inn.right Inn.refl'))))) e80 (Inn.app Inn.left (Inn.trans (Inn.right (Inn.right Inn.refl')) (Nat.le_refl _) i56))).extR e89) e95 (hb90.fresh (t_ e47.n e80.n))) e130 (Inn.app Inn.left (Inn.app (Inn.right Inn.left) (Inn.trans (Inn.right (Inn.right Inn.refl')) (Nat.le_refl _) i56)))), m132, m131, m133, (Inn.trans (Inn.trans Inn.refl' (Nat.le_refl _) i56) (t_ (t_ (t_ e47.n e80.n) e89.n) e95.n) i134)⟩
  have r141 := ite_f h69 hz61
  refine w_exit (th_exit (th_exit (bl_eq ?_)))
  obtain rfl := oi_ r141
  obtain rfl := it_inr hn62
  exact k42 _ _ ⟨_, rfl, (.slice a64 n65 c66), f51, trivial, (FrS.step e17.wf (FrS.refl (W := ([b_s] ++ ([b_s_8] ++ f15))) e17.wf) e47 (Inn.app Inn.left (Inn.app (Inn.right Inn.left) (Inn.right (Inn.right Inn.refl'))))), m53, m49, m55, (Inn.trans Inn.refl' (Nat.le_refl _) i56)⟩
 obtain ⟨o27, rfl, s37, f38, hh43, e32, m34, m36, m40, i41⟩ := hM
 have r142 := elim_inr r29
 obtain ⟨β, rfl⟩ := has_ex hh43
 clear hh43
 obtain ⟨a143, n144, c145, rfl⟩ := m36.form
 refine b_nrm (fn := Try.f36) (vs := []) (rfl) ?_
 obtain rfl := oi_ r142
 exact ⟨(.slice a143 n144 c145), f38, rfl, (FrS.step wf (FrS.step wf (FrS.refl (W := ([b_s] ++ ([b_s_8] ++ fp_s_7))) wf) e17 (Inn.app Inn.left (Inn.app (Inn.right Inn.left) (Inn.right (Inn.right Inn.refl'))))) e32 (Inn.app Inn.left (Inn.app (Inn.right Inn.left) (Inn.trans (Inn.right (Inn.right Inn.refl')) (Nat.le_refl _) i21)))), m34, m36, m40, (Inn.trans (Inn.trans Inn.refl' (Nat.le_refl _) i21) e17.n i41)⟩
theorem c_witness_Find {H : AH} {b_o : Nat} {hd_o_ : Value} {fp_o_ : Fp} {hd_goals : Value} {fp_goals : Fp} {o_ : List (Bool × List (Int × Int × Int) × List (Int × Int × Int))} {o_2 : Int} {o_3 : Int} {u : Int} {skip : Int} {goals : List (Int)} {most : Int} {hops : Int} {settles : Int} {r : List (Int) × Er}
    (wf : WF H) (h_o_ : Nd enc_i64_u64_i64 3 H hd_o_ o_ fp_o_ []) (h_o : Row H b_o [hd_o_, i_ o_2, i_ o_3]) (h_goals : Sq (encI .i64) 1 H hd_goals goals fp_goals) (hr : z_witness_Find o_ o_2 o_3 u skip goals most hops settles = some r) :
    ACalls Try.prog 8 #[pt_ b_o 0, i_ u, i_ skip, hd_goals, .int .u64 most, i_ hops, i_ settles] H fun v H' => ∃ (s3 : Value) (f4 : Fp) (v7 : Value) (f8 : Fp), v = .tuple #[s3, v7] ∧ FrS [] H H' ∧ Ow (encI .u64) 1 H' s3 r.1 f4 ∧ Ev 90 129 H' v7 r.2 f8 ∧ Inn [] H f4 ∧ Inn [] H f8 ∧ Dj f4 f8 := by
 refine acalls_of_body mixed Try.func8 rfl (Nat.le_of_ble_eq_true rfl) ?_
 unfold z_witness_Find at hr
 refine w_seqk fun _ k12 => g_' (q_ (.slice none 0 0) (q_ (.nilIface) (s_nil (k12 _ _ (w_seqk fun _ k13 => w_seqk fun _ k14 => g_' (q_ (pt_ b_o 0) (q_ (.bool false) (s_nil (k14 _ _ ?_)))))))))
 refine w_cond false (by kernel_rfl) rfl (fun h => by cases h) (fun _ => ?_)
 refine w_skip (k13 _ _ (w_seqk fun _ k15 => w_seqk fun _ k16 => g_' (q_ (pt_ b_o 0) (q_ (i_ u) ?_))))
 obtain ⟨y17, hy18, r19⟩ := bind_some hr
 refine s_ck 24 #[pt_ b_o 0, i_ u] (by kernel_rfl) (c_overlay_Overlay_Alive wf h_o_ h_o hy18) ?_
 rintro _ _ ⟨rfl, rfl⟩
 refine q_ (.bool (!y17)) (s_nil (k16 _ _ ?_))
 refine w_cond ((!y17)) (by kernel_rfl) rfl (fun h22 => ?_) (fun h22 => ?_)
 ·have r23 := ite_t h22 r19
  refine w_seqk fun _ k24 => g_' (q_ (.iface 90 (i_ 7)) (q_ (.slice none 0 0) (q_ (.iface 90 (i_ 7)) (s_nil (k24 _ _ ?_)))))
  refine w_ret (th_ret ?_)
  refine b_ret (fn := Try.f8) (vs := [.slice none 0 0, .iface 90 (i_ 7)]) (rt_ (aRes_tmp (by kernel_rfl) (rfl))) ?_
  obtain rfl := oi_ r23
  exact ⟨(.slice none 0 0), [], (.iface 90 (i_ 7)), [], rfl, (f0_ wf), (Ow.nil (by decide)), Ev.no, Inn.nil, Inn.nil, Dj.nil_l⟩
 have r25 := ite_bf h22 r19
 refine w_skip (k15 _ _ (w_seqk fun _ k26 => w_seqk fun _ k27 => g_' (q_ (hd_goals) ?_)))
 refine l_' (i_ (goals.length : Int)) (aLen Try.prog 26 hd_goals H) (h_goals.lenb (by kernel_rfl)) ?_
 refine q_ (i_ 0) (s_nil (k27 _ _ ?_))
 obtain ⟨z31, hx29, r30⟩ := bind_some r25
 refine w_mid (fun α H32 => ∃ o28, z31 = Sum.inr o28 ∧ Has α [(0, pt_ b_o 0), (1, i_ u), (2, i_ skip), (3, hd_goals), (4, .int .u64 most), (5, i_ hops), (6, i_ settles)] ∧ H = H32) (fun _ k34 => ?_) (fun α H32 hM => ?_)
 ·refine w_block ?_
  obtain ⟨n36, hn37⟩ := loopO_iff.1 hx29
  refine w_loopn (fun n α H38 => ∃ (i0 : Int), iterO (fun zz_ => z_witness_Find_l0 o_ o_2 o_3 goals zz_) n i0 = some z31 ∧ Has α [(0, pt_ b_o 0), (1, i_ u), (2, i_ skip), (3, hd_goals), (4, .int .u64 most), (5, i_ hops), (6, i_ settles), (33, hd_goals), (34, i_ (goals.length : Int)), (35, i_ i0)] ∧ H = H38) n36 ⟨0, hn37, ha_, rfl⟩ ?_
  rintro n36 α H38 ⟨i0, hi41, hh40, rfl⟩ K46 k46
  obtain ⟨n42, z43, rfl, hz44, hn45⟩ := iter_succ hi41
  obtain ⟨β, rfl⟩ := has_ex hh40
  clear hh40
  replace hz44 : z_witness_Find_l0 o_ o_2 o_3 goals i0 = some z43 := hz44
  unfold z_witness_Find_l0 at hz44
  refine w_seqk fun _ k47 => g_' (q_ (.bool (decide (i0 < (goals.length : Int)))) (s_nil (k47 _ _ (w_seqk fun _ k48 => ?_))))
  refine w_condp (i0 < (goals.length : Int)) (by kernel_rfl) rfl (fun h49 => ?_) (fun h49 => ?_)
  ·have r50 := ite_t h49 hz44
   refine w_skip (k48 _ _ (w_seqk fun _ k51 => w_block (w_seqk fun _ k52 => g_' (q_ (i_ i0) ?_))))
   obtain ⟨g53, r54⟩ := G_some r50
   refine l_' (elp hd_goals 1 i0.toNat 0) (aIndexAddr Try.prog 26 hd_goals (i_ i0)) (h_goals.idxb (by kernel_rfl) g53 h49) ?_
   refine l_' (i_ (gt goals i0)) (aL_ 3 (elp hd_goals 1 i0.toNat 0) H) (h_goals.ld g53 h49 (by kernel_rfl)) ?_
   refine q_ (i_ i0) (q_ (i_ (gt goals i0)) (s_nil (k52 _ _ (w_seqk fun _ k55 => g_' (q_ (pt_ b_o 0) (q_ (i_ (gt goals i0)) ?_))))))
   obtain ⟨y56, hy57, r58⟩ := bind_some r54
   refine s_ck 24 #[pt_ b_o 0, i_ (gt goals i0)] (by kernel_rfl) (c_overlay_Overlay_Alive wf h_o_ h_o hy57) ?_
   rintro _ _ ⟨rfl, rfl⟩
   refine q_ (.bool (!y56)) (s_nil (k55 _ _ ?_))
   refine w_cond ((!y56)) (by kernel_rfl) rfl (fun h61 => ?_) (fun h61 => ?_)
   ·have r62 := ite_t h61 r58
    refine w_seqk fun _ k63 => g_' (q_ (i_ i0) (q_ (.iface 90 (i_ 7)) ?_))
    obtain ⟨y64, hy65, r66⟩ := bind_some r62
    refine s_ck 35 #[i_ 3, i_ i0, .iface 90 (i_ 7)] (by kernel_rfl) (c_fault_At wf (Ev.no (tf := 129)) hy65) ?_
    rintro v67 H69 ⟨_, f68, rfl, e70, m71, i72⟩
    refine q_ (.slice none 0 0) (q_ (v67) (s_nil (k63 _ _ ?_)))
    refine w_ret (bl_ret (th_ret (th_ret (bl_ret (th_ret (th_ret ?_))))))
    obtain ⟨v74, hv75, hz76⟩ := map_some r66
    subst hz76
    obtain rfl := it_inr hn45
    have hq77 := elim_inl r30
    rw [hq77] at hv75
    refine b_ret (fn := Try.f8) (vs := [.slice none 0 0, v67]) (rt_ (aRes_tmp (by kernel_rfl) (rfl))) ?_
    obtain rfl := oi_ hv75
    exact ⟨(.slice none 0 0), [], (v67), f68, rfl, (FrS.step wf (f0_ wf) e70 Inn.nil), (Ow.nil (by decide)), m71, Inn.nil, (i72.fresh (Nat.le_refl _)), Dj.nil_l⟩
   have r78 := ite_bf h61 r58
   refine w_skip (k51 _ _ (g_' ?_))
   obtain ⟨g79, r80⟩ := G_some r78
   refine w_' (i0 + 1) (wrap64 (by have := g79; omega)) ?_
   refine q_ (i_ (i0 + 1)) (s_nil ?_)
   obtain rfl := oi_ r80
   exact k46 n42 _ _ (Nat.lt_succ_self _) ⟨(i0 + 1), hn45, ha_, rfl⟩
  have r81 := ite_f h49 hz44
  refine w_exit (th_exit (th_exit (bl_eq ?_)))
  obtain rfl := oi_ r81
  obtain rfl := it_inr hn45
  exact k34 _ _ ⟨_, rfl, ha_, rfl⟩
 obtain ⟨o28, rfl, hh35, rfl⟩ := hM
 have r82 := elim_inr r30
 obtain ⟨β, rfl⟩ := has_ex hh35
 clear hh35
 refine k26 _ _ (w_seqk fun _ k83 => g_' (q_ (pt_ b_o 0) (q_ (i_ skip) (q_ (i_ hops) ?_))))
 refine s_ms .i64 enc_u64_i64_i64 wf (by kernel_rfl) fun b84 H85 e86 hb87 mp88 => ?_
 refine q_ (.agg #[pt_ b_o 0, i_ skip, i_ hops, .slice none 0 0, .map (some b84)]) ?_
 refine s_rwl e86.wf [pt_ b_o 0, i_ skip, i_ hops, .slice none 0 0, .map (some b84)] (one_cons (rfl) (one_cons (rfl) (one_cons (rfl) (one_cons (rfl) (one_cons (rfl) (one_nil)))))) (by kernel_rfl) fun b90 H91 e92 hb93 r94 => ?_
 refine q_ (pt_ b90 0) (s_nil (k83 _ _ (w_seqk fun _ k96 => g_' (q_ (pt_ b90 0) (q_ (i_ u) (q_ (.int .u64 most) (q_ (i_ settles) ?_)))))))
 have u97 := ((h_o_.ext e86).ext e92)
 have u98 := ((h_o.ext e86).ext e92)
 have u99 := (mp88.ext e92)
 obtain ⟨y100, hy101, r102⟩ := bind_some r82
 refine s_ck 36 #[pt_ b90 0, i_ u, .int .u64 most, i_ settles] (by kernel_rfl) (c_witness_seek_run e92.wf u97 u98 (Ow.nil (enc := enc_u64_i64) (sz := 2) (by decide)) u99 r94 (hb87.djn h_o_.lt) (hb87.djn h_o.ltF) Dj.nil_r (Dj.symm (hb93.djn mp88.ltF)) Dj.nil_l Dj.nil_l (hb93.djn (h_o_.lt.le e86.n)) Dj.nil_l (hb93.djn (h_o.ltF.le e86.n)) hy101) ?_
 rintro _ H105 ⟨s103, f104, rfl, e106, m107, m108, m109, i110⟩
 obtain ⟨a112, n113, c114, rfl⟩ := m108.form
 refine s_nil (k96 _ _ (w_seqk fun _ k115 => g_' (q_ (.slice none 0 0) (s_nil (k115 _ _ (w_seqk fun _ k116 => w_seqk fun _ k117 => g_' (q_ (hd_goals) ?_)))))))
 have u118 := (((h_goals.ext e86).ext e92).fr e106 (Dj.app (hb93.djn (h_goals.lt.le e86.n)) (Dj.app (hb87.djn h_goals.lt) Dj.nil_l)))
 refine l_' (i_ (goals.length : Int)) (aLen Try.prog 26 hd_goals H105) (u118.lenb (by kernel_rfl)) ?_
 refine q_ (i_ 0) (s_nil (k117 _ _ ?_))
 obtain ⟨o119, hx120, r121⟩ := bind_some r102
 refine w_mid (fun α H122 => ∃ (s126 : Value) (f127 : Fp), Has α [(19, s126)] ∧ FrS [] H105 H122 ∧ Ow (encI .u64) 1 H122 s126 o119 f127 ∧ Inn [] H105 f127) (fun _ k129 => ?_) (fun α H122 hM => ?_)
 ·refine w_block ?_
  obtain ⟨n131, hn132⟩ := loopO_iff.1 hx120
  refine w_loopn (fun n α H133 => ∃ (l1 : List (Int)), ∃ (i2 : Int), ∃ (s137 : Value), ∃ (f138 : Fp), iterO (fun zz_ => z_witness_Find_l1 goals y100 zz_.1 zz_.2) n (l1, i2) = some o119 ∧ Has α [(18, pt_ b90 0), (19, s137), (59, hd_goals), (60, i_ (goals.length : Int)), (61, i_ i2)] ∧ FrS [] H105 H133 ∧ Ow (encI .u64) 1 H133 s137 l1 f138 ∧ Inn [] H105 f138) n131 ⟨[], 0, (.slice none 0 0), [], hn132, ha_, (FrS.refl (W := []) e106.wf), (Ow.nil (by decide)), Inn.nil⟩ ?_
  rintro n131 α H133 ⟨l1, i2, s137, f138, hi141, hh140, e134, m136, i139⟩ K146 k146
  obtain ⟨n142, z143, rfl, hz144, hn145⟩ := iter_succ hi141
  obtain ⟨β, rfl⟩ := has_ex hh140
  clear hh140
  replace hz144 : z_witness_Find_l1 goals y100 l1 i2 = some z143 := hz144
  unfold z_witness_Find_l1 at hz144
  obtain ⟨a147, n148, c149, rfl⟩ := m136.form
  refine w_seqk fun _ k150 => g_' (q_ (.bool (decide (i2 < (goals.length : Int)))) (s_nil (k150 _ _ (w_seqk fun _ k151 => ?_))))
  refine w_condp (i2 < (goals.length : Int)) (by kernel_rfl) rfl (fun h152 => ?_) (fun h152 => ?_)
  ·have r153 := ite_t h152 hz144
   refine w_skip (k151 _ _ (w_seqk fun _ k154 => w_block (w_seqk fun _ k155 => g_' ?_)))
   obtain ⟨g156, r157⟩ := G_some r153
   have u158 := (u118.fr e134 Dj.nil_l)
   refine l_' (elp hd_goals 1 i2.toNat 0) (aIndexAddr Try.prog 26 hd_goals (i_ i2)) (u158.idxb (by kernel_rfl) g156 h152) ?_
   refine l_' (i_ (gt goals i2)) (aL_ 3 (elp hd_goals 1 i2.toNat 0) H133) (u158.ld g156 h152 (by kernel_rfl)) ?_
   refine q_ (i_ (gt goals i2)) (s_nil (k155 _ _ (w_seqk fun _ k159 => g_' (q_ (.int .u64 18446744073709551615) (s_nil (k159 _ _ (w_seqk fun _ k160 => w_seqk fun _ k161 => g_' (q_ (pt_ b90 0) (q_ (pt_ b90 0) (q_ (pt_ b90 4) ?_))))))))))
   have u162 := (m109.frS e134 Dj.nil_l)
   refine l_' (.map (some b84)) (aL_ 94 (pt_ b90 4) H133) (u162.l_) ?_
   refine q_ (i_ (gt goals i2)) ?_
   have u163 := (m107.frS e134 Dj.nil_l)
   refine l_' (.tuple #[.agg #[.int .u64 (((y100.1 (gt goals i2)).getD ((0, 0, 0) : Int × Int × Int)).1), i_ (((y100.1 (gt goals i2)).getD ((0, 0, 0) : Int × Int × Int)).2.1), i_ (((y100.1 (gt goals i2)).getD ((0, 0, 0) : Int × Int × Int)).2.2)], .bool ((y100.1 (gt goals i2)).isSome)]) (aLookup Try.prog 94 (.map (some b84)) (i_ (gt goals i2)) true H133) (u163.look2 ((0, 0, 0) : Int × Int × Int) (zv := .agg #[.int .u64 0, i_ 0, i_ 0]) rfl (by kernel_rfl) (by kernel_rfl) _ rfl) ?_
   refine q_ (.tuple #[.agg #[.int .u64 (((y100.1 (gt goals i2)).getD ((0, 0, 0) : Int × Int × Int)).1), i_ (((y100.1 (gt goals i2)).getD ((0, 0, 0) : Int × Int × Int)).2.1), i_ (((y100.1 (gt goals i2)).getD ((0, 0, 0) : Int × Int × Int)).2.2)], .bool ((y100.1 (gt goals i2)).isSome)]) (q_ (.agg #[.int .u64 (((y100.1 (gt goals i2)).getD ((0, 0, 0) : Int × Int × Int)).1), i_ (((y100.1 (gt goals i2)).getD ((0, 0, 0) : Int × Int × Int)).2.1), i_ (((y100.1 (gt goals i2)).getD ((0, 0, 0) : Int × Int × Int)).2.2)]) (q_ (.bool ((y100.1 (gt goals i2)).isSome)) ?_))
   refine s_rwk e134.wf [.int .u64 0, i_ 0, i_ 0] (by kernel_rfl) fun b164 H165 e166 hb167 r168 => ?_
   obtain ⟨H170, q171, e172, r173⟩ := Row.store (P := Try.prog) (t := 101) (p := 0) e166.wf r168 (.agg #[.int .u64 (((y100.1 (gt goals i2)).getD ((0, 0, 0) : Int × Int × Int)).1), i_ (((y100.1 (gt goals i2)).getD ((0, 0, 0) : Int × Int × Int)).2.1), i_ (((y100.1 (gt goals i2)).getD ((0, 0, 0) : Int × Int × Int)).2.2)]) [.int .u64 (((y100.1 (gt goals i2)).getD ((0, 0, 0) : Int × Int × Int)).1), i_ (((y100.1 (gt goals i2)).getD ((0, 0, 0) : Int × Int × Int)).2.1), i_ (((y100.1 (gt goals i2)).getD ((0, 0, 0) : Int × Int × Int)).2.2)] (by kernel_rfl) (by kernel_rfl) (one_cons (rfl) (one_cons (rfl) (one_cons (rfl) (one_nil)))) (Nat.le_of_ble_eq_true (by kernel_rfl)) [.int .u64 (((y100.1 (gt goals i2)).getD ((0, 0, 0) : Int × Int × Int)).1), i_ (((y100.1 (gt goals i2)).getD ((0, 0, 0) : Int × Int × Int)).2.1), i_ (((y100.1 (gt goals i2)).getD ((0, 0, 0) : Int × Int × Int)).2.2)] (by kernel_rfl)
   refine s_ek (undef) (by kernel_rfl) (map_ok q171) ?_
   refine q_ (.bool ((y100.1 (gt goals i2)).isSome)) (s_nil (k161 _ _ (w_seqk fun _ k174 => g_' (q_ (.bool ((y100.1 (gt goals i2)).isSome)) (s_nil (k174 _ _ ?_))))))
   refine w_cond ((y100.1 (gt goals i2)).isSome) (by kernel_rfl) rfl (fun h175 => ?_) (fun h175 => ?_)
   ·have r176 := ite_t h175 r157
    refine g_' (q_ (pt_ b164 0) ?_)
    refine l_' (.int .u64 (((y100.1 (gt goals i2)).getD ((0, 0, 0) : Int × Int × Int)).1)) (aL_ 27 (pt_ b164 0) H170) (r173.l_) ?_
    refine q_ (.int .u64 (((y100.1 (gt goals i2)).getD ((0, 0, 0) : Int × Int × Int)).1)) (s_nil (k160 _ _ (g_' (q_ (.slice a147 n148 c149) (q_ (.int .u64 (((y100.1 (gt goals i2)).getD ((0, 0, 0) : Int × Int × Int)).1)) ?_)))))
    refine s_owk (enc := (encI .u64)) (sz := 1) e172.wf [((y100.1 (gt goals i2)).getD ((0, 0, 0) : Int × Int × Int)).1] 1 (by decide) (fun _ _ => rfl) (fun _ _ => rfl) rfl (by kernel_rfl) fun s177 f178 H179 e180 hf181 hm182 => ?_
    obtain ⟨a183, n184, c185, rfl⟩ := hm182.form
    have u187 := (((m136.ext e166).fr e172 (hb167.djn m136.lt)).ext e180)
    obtain ⟨g188, r189⟩ := G_some r176
    obtain ⟨s190, H191, f192, q196, e193, hm194, hf195⟩ := Ow.append (P := Try.prog) 8 e180.wf u187 hm182.sq (fun _ _ => rfl) (at_ := #[36, 36]) rfl rfl (by kernel_rfl) (by kernel_rfl) (by decide) (by have := g188; first | omega | (simp only [List.length_cons, List.length_nil] at this ⊢; omega) | (simp at this ⊢; omega))
    obtain ⟨a197, n198, c199, rfl⟩ := hm194.form
    refine s_ek (.slice a197 n198 c199) (by kernel_rfl) (q196) ?_
    refine q_ (.slice a197 n198 c199) (s_nil (k154 _ _ (g_' ?_)))
    obtain ⟨g201, r202⟩ := G_some r189
    refine w_' (i2 + 1) (wrap64 (by have := g201; omega)) ?_
    refine q_ (i_ (i2 + 1)) (s_nil ?_)
    obtain rfl := oi_ r202
    exact k146 n142 _ _ (Nat.lt_succ_self _) ⟨(l1 ++ [((y100.1 (gt goals i2)).getD ((0, 0, 0) : Int × Int × Int)).1]), (i2 + 1), (.slice a197 n198 c199), f192, hn145, ha_, (FrS.step e106.wf ((FrS.step e106.wf ((FrS.step e106.wf (FrS.refl (W := []) e106.wf) e134 Inn.nil).extR e166) e172 (hb167.fresh e134.n)).extR e180) e193 (i139.fresh (Nat.le_refl _))), hm194, (Inn.trans (i139.fresh (Nat.le_refl _)) (t_ (t_ (t_ e134.n e166.n) e172.n) e180.n) hf195)⟩
   have r203 := ite_bf h175 r157
   refine w_skip (k160 _ _ (g_' (q_ (.slice a147 n148 c149) (q_ (.int .u64 18446744073709551615) ?_))))
   refine s_owk (enc := (encI .u64)) (sz := 1) e172.wf [18446744073709551615] 1 (by decide) (fun _ _ => rfl) (fun _ _ => rfl) rfl (by kernel_rfl) fun s204 f205 H206 e207 hf208 hm209 => ?_
   obtain ⟨a210, n211, c212, rfl⟩ := hm209.form
   have u214 := (((m136.ext e166).fr e172 (hb167.djn m136.lt)).ext e207)
   obtain ⟨g215, r216⟩ := G_some r203
   obtain ⟨s217, H218, f219, q223, e220, hm221, hf222⟩ := Ow.append (P := Try.prog) 8 e207.wf u214 hm209.sq (fun _ _ => rfl) (at_ := #[36, 36]) rfl rfl (by kernel_rfl) (by kernel_rfl) (by decide) (by have := g215; first | omega | (simp only [List.length_cons, List.length_nil] at this ⊢; omega) | (simp at this ⊢; omega))
   obtain ⟨a224, n225, c226, rfl⟩ := hm221.form
   refine s_ek (.slice a224 n225 c226) (by kernel_rfl) (q223) ?_
   refine q_ (.slice a224 n225 c226) (s_nil (k154 _ _ (g_' ?_)))
   obtain ⟨g228, r229⟩ := G_some r216
   refine w_' (i2 + 1) (wrap64 (by have := g228; omega)) ?_
   refine q_ (i_ (i2 + 1)) (s_nil ?_)
   obtain rfl := oi_ r229
   exact k146 n142 _ _ (Nat.lt_succ_self _) ⟨(l1 ++ [18446744073709551615]), (i2 + 1), (.slice a224 n225 c226), f219, hn145, ha_, (FrS.step e106.wf ((FrS.step e106.wf ((FrS.step e106.wf (FrS.refl (W := []) e106.wf) e134 Inn.nil).extR e166) e172 (hb167.fresh e134.n)).extR e207) e220 (i139.fresh (Nat.le_refl _))), hm221, (Inn.trans (i139.fresh (Nat.le_refl _)) (t_ (t_ (t_ e134.n e166.n) e172.n) e207.n) hf222)⟩
  have r230 := ite_f h152 hz144
  refine w_exit (th_exit (th_exit (bl_eq ?_)))
  obtain rfl := oi_ r230
  obtain rfl := it_inr hn145
  exact k129 _ _ ⟨(.slice a147 n148 c149), f138, ha_, (FrS.step e106.wf (FrS.refl (W := []) e106.wf) e134 Inn.nil), m136, (i139.fresh (Nat.le_refl _))⟩
 obtain ⟨s126, f127, hh130, e123, m125, i128⟩ := hM
 obtain ⟨β, rfl⟩ := has_ex hh130
 clear hh130
 obtain ⟨a231, n232, c233, rfl⟩ := m125.form
 refine k116 _ _ (w_seqk fun _ k234 => g_' (q_ (.slice a231 n232 c233) (q_ (.slice a231 n232 c233) (q_ (.nilIface) (s_nil (k234 _ _ ?_))))))
 refine w_ret ?_
 refine b_ret (fn := Try.f8) (vs := [.slice a231 n232 c233, .nilIface]) (rt_ (aRes_tmp (by kernel_rfl) (rfl))) ?_
 obtain rfl := oi_ r121
 exact ⟨(.slice a231 n232 c233), f127, (.nilIface), [], rfl, (FrS.step wf (FrS.step wf (((f0_ wf).extR e86).extR e92) e106 (Inn.app (hb93.fresh e86.n) (Inn.app (hb87.fresh (Nat.le_refl _)) Inn.nil))) e123 Inn.nil), m125, Ev.nil, (i128.fresh (t_ (t_ e86.n e92.n) e106.n)), Inn.nil, Dj.nil_r⟩
end Go.Vd

/-! (KWg8) -/

set_option maxRecDepth 100000
set_option maxHeartbeats 4000000
set_option linter.unusedVariables false
namespace Go.Vd
open Go.Proofs
attribute [local irreducible] wpSeq wpOrd aWp
theorem c_viaductlaw12_WitnessGoals {H : AH} {hd_Arcs : Value} {fp_Arcs : Fp} {hd_script : Value} {fp_script : Fp} {hd_goals : Value} {fp_goals : Fp} {N_ : Int} {Arcs : List (Int × Int × Int)} {script : List (Int × Int × Int × Int × Int)} {u : Int} {skip : Int} {goals : List (Int)} {most : Int} {hops : Int} {settles : Int} {r : Bool}
    (wf : WF H) (h_Arcs : Sq enc_i64_i64_i64 3 H hd_Arcs Arcs fp_Arcs) (h_script : Sq enc_u8_i64_i64_u64_i64 5 H hd_script script fp_script) (h_goals : Sq (encI .i64) 1 H hd_goals goals fp_goals) (hr : z_viaductlaw12_WitnessGoals N_ Arcs script u skip goals most hops settles = some r) :
    ACalls Try.prog 3 #[.agg #[i_ N_, hd_Arcs], hd_script, i_ u, i_ skip, hd_goals, .int .u64 most, i_ hops, i_ settles] H fun v H' => v = .bool r ∧ FrS [] H H' := by
 refine acalls_of_body mixed Try.func3 rfl (Nat.le_of_ble_eq_true rfl) ?_
 unfold z_viaductlaw12_WitnessGoals at hr
 refine w_seqk fun _ k1 => g_' ?_
 refine s_rwl wf [i_ N_, hd_Arcs] (one_cons (rfl) (one_cons (h_Arcs.one1) (one_nil))) (by kernel_rfl) fun b2 H3 e4 hb5 r6 => ?_
 refine q_ (.bool false) (s_nil (k1 _ _ (w_seqk fun _ k8 => w_seqk fun _ k9 => g_' ?_)))
 refine s_ck 6 #[] (by kernel_rfl) c_viaductlaw12_awake ?_
 rintro _ _ ⟨rfl, rfl⟩
 refine q_ (.bool false) (s_nil (k9 _ _ ?_))
 refine w_cond false (by kernel_rfl) rfl (fun h => by cases h) (fun _ => ?_)
 refine w_skip (k8 _ _ (w_seqk fun _ k10 => g_' ?_))
 refine l_' (.agg #[i_ N_, hd_Arcs]) (aL_ 24 (pt_ b2 0) H3) (r6.l_) ?_
 refine q_ (hd_script) ?_
 have u11 := (h_Arcs.ext e4)
 have u12 := (h_script.ext e4)
 obtain ⟨y13, hy14, r15⟩ := bind_some hr
 rcases y13 with y16 | y17
 ·have r18 := elim_l r15
  refine s_ck 7 #[.agg #[i_ N_, hd_Arcs], hd_script] (by kernel_rfl) (c_viaductlaw12_laid e4.wf u11 u12 hy14) ?_
  rintro _ H23 ⟨s19, f20, s21, f22, rfl, e24, m25, m26, i27, i28, d29⟩
  obtain ⟨a32, n33, c34, rfl⟩ := m25.form
  obtain ⟨a35, n36, c37, rfl⟩ := m26.form
  refine q_ (.tuple #[.pointer none, .agg #[.slice a32 n33 c34, .slice a35 n36 c37], .bool y16.2.2]) (q_ (.pointer none) (q_ (.agg #[.slice a32 n33 c34, .slice a35 n36 c37]) (q_ (.bool y16.2.2) ?_)))
  refine s_rwk e24.wf [.slice none 0 0, .slice none 0 0] (by kernel_rfl) fun b38 H39 e40 hb41 r42 => ?_
  refine q_ (.pointer none) ?_
  have u48 := (m26.ext e40)
  have u49 := (m25.ext e40)
  obtain ⟨H44, q45, e46, r47⟩ := Row.store (P := Try.prog) (t := 33) (p := 0) e40.wf r42 (.agg #[.slice a32 n33 c34, .slice a35 n36 c37]) [.slice a32 n33 c34, .slice a35 n36 c37] (by kernel_rfl) (by kernel_rfl) (one_cons (u49.one1) (one_cons (u48.one1) (one_nil))) (Nat.le_of_ble_eq_true (by kernel_rfl)) [.slice a32 n33 c34, .slice a35 n36 c37] (by kernel_rfl)
  refine s_ek (undef) (by kernel_rfl) (map_ok q45) ?_
  refine q_ (.bool y16.2.2) (s_nil (k10 _ _ (w_seqk fun _ k50 => w_seqk fun _ k51 => ?_)))
  obtain ⟨o52, hx53, r54⟩ := bind_some r18
  refine w_mid (fun α H55 => Has α [(2, i_ u), (3, i_ skip), (4, hd_goals), (5, .int .u64 most), (6, i_ hops), (7, i_ settles), (17, .pointer none), (41, .bool o52)] ∧ H44 = H55) (fun _ k57 => ?_) (fun α H55 hM => ?_)
  ·refine g_' (q_ (.bool y16.2.2) (q_ (.bool (!y16.2.2)) (q_ (.bool (!y16.2.2)) ?_)))
   by_cases h59 : (!y16.2.2) = true
   ·have r60 := ite_t h59 hx53
    rw [h59]
    refine n_' (n_' (n_' (q_ (.bool true) (s_nil ?_))))
    obtain rfl := oi_ r60
    exact k57 _ _ ⟨ha_, rfl⟩
   have r61 := ite_f h59 hx53
   rw [nb h59]
   refine q_ (hd_goals) ?_
   have u62 := ((((h_goals.ext e4).fr e24 Dj.nil_l).ext e40).fr e46 (hb41.djn (h_goals.lt.le (t_ e4.n e24.n))))
   refine l_' (i_ (goals.length : Int)) (aLen Try.prog 26 hd_goals H44) (u62.lenb (by kernel_rfl)) ?_
   refine q_ (.bool (decide ((goals.length : Int) > 20))) (q_ (.bool (decide ((goals.length : Int) > 20))) (s_nil ?_))
   obtain rfl := oi_ r61
   exact k57 _ _ ⟨ha_, rfl⟩
  obtain ⟨hh58, rfl⟩ := hM
  obtain ⟨β, rfl⟩ := has_ex hh58
  clear hh58
  refine k51 _ _ ?_
  refine w_cond (o52) (by kernel_rfl) rfl (fun h63 => ?_) (fun h63 => ?_)
  ·have r64 := ite_t h63 r54
   refine w_seqk fun _ k65 => g_' (q_ (.bool true) (s_nil (k65 _ _ ?_)))
   refine w_ret (th_ret ?_)
   refine b_ret (fn := Try.f3) (vs := [.bool true]) (rt_ (rfl)) ?_
   obtain rfl := oi_ r64
   exact ⟨rfl, (FrS.step wf ((FrS.step wf ((f0_ wf).extR e4) e24 Inn.nil).extR e40) e46 (hb41.fresh (t_ e4.n e24.n)))⟩
  have r66 := ite_bf h63 r54
  refine w_skip (k50 _ _ (w_seqk fun _ k67 => g_' (q_ (.pointer none) (q_ (i_ u) (q_ (i_ skip) (q_ (hd_goals) ?_))))))
  have u68 := ((((h_goals.ext e4).fr e24 Dj.nil_l).ext e40).fr e46 (hb41.djn (h_goals.lt.le (t_ e4.n e24.n))))
  obtain ⟨y69, hy70, r71⟩ := bind_some r66
  refine s_ck 9 #[hd_goals] (by kernel_rfl) (c_viaductref02_TwinInts e46.wf u68 hy70) ?_
  rintro s72 H74 ⟨_, f73, rfl, e75, m76, i77⟩
  obtain ⟨a79, n80, c81, rfl⟩ := m76.form
  refine q_ (.int .u64 most) (q_ (i_ hops) (q_ (i_ settles) ?_))
  obtain ⟨y82, hy83, r84⟩ := bind_some r71
  refine s_ck 8 #[.pointer none, i_ u, i_ skip, .slice a79 n80 c81, .int .u64 most, i_ hops, i_ settles] (by kernel_rfl) (c_witness_Find_nil e75.wf m76.sq hy83) ?_
  rintro _ _ ⟨rfl, rfl⟩
  refine q_ (.tuple #[.slice none 0 0, .iface 90 (i_ 19)]) (q_ (.slice none 0 0) (q_ (.iface 90 (i_ 19)) (q_ (.slice none 0 0) (q_ (.iface 90 (i_ 19)) (s_nil (k67 _ _ (w_seqk fun _ k87 => w_seqk fun _ k88 => g_' (q_ (.iface 90 (i_ 19)) ?_))))))))
  refine l_' (.bool true) (aBin Try.prog .neq 38 (.tmp 54) (.const .nilIface) (.iface 90 (i_ 19)) .nilIface) (aBin_nnil (by kernel_rfl)) ?_
  refine s_nil (k88 _ _ ?_)
  refine w_cond true (by kernel_rfl) rfl (fun _ => ?_) (fun h => by cases h)
  refine w_seqk fun _ k89 => g_' (q_ (.slice none 0 0) (q_ (i_ 0) (q_ (.bool true) (q_ (.bool true) (s_nil (k89 _ _ ?_))))))
  refine w_ret (th_ret ?_)
  refine b_ret (fn := Try.f3) (vs := [.bool true]) (rt_ (rfl)) ?_
  obtain rfl := oi_ r84
  exact ⟨rfl, (FrS.step wf (FrS.step wf ((FrS.step wf ((f0_ wf).extR e4) e24 Inn.nil).extR e40) e46 (hb41.fresh (t_ e4.n e24.n))) e75 Inn.nil)⟩
 have r90 := elim_r r15
 refine s_ck 7 #[.agg #[i_ N_, hd_Arcs], hd_script] (by kernel_rfl) (c_viaductlaw12_laid e4.wf u11 u12 hy14) ?_
 rintro _ H98 ⟨s91, f92, b93, s94, f95, s96, f97, rfl, e99, m100, m101, m102, m103, i104, i105, i106, i107, d108, d109, d110, d111, d112, d113⟩
 obtain ⟨a118, n119, c120, rfl⟩ := m100.form
 obtain ⟨a121, n122, c123, rfl⟩ := m102.form
 obtain ⟨a124, n125, c126, rfl⟩ := m103.form
 refine q_ (.tuple #[pt_ b93 0, .agg #[.slice a121 n122 c123, .slice a124 n125 c126], .bool true]) (q_ (pt_ b93 0) (q_ (.agg #[.slice a121 n122 c123, .slice a124 n125 c126]) (q_ (.bool true) ?_)))
 refine s_rwk e99.wf [.slice none 0 0, .slice none 0 0] (by kernel_rfl) fun b127 H128 e129 hb130 r131 => ?_
 refine q_ (pt_ b93 0) ?_
 have u137 := (m103.ext e129)
 have u138 := (m102.ext e129)
 obtain ⟨H133, q134, e135, r136⟩ := Row.store (P := Try.prog) (t := 33) (p := 0) e129.wf r131 (.agg #[.slice a121 n122 c123, .slice a124 n125 c126]) [.slice a121 n122 c123, .slice a124 n125 c126] (by kernel_rfl) (by kernel_rfl) (one_cons (u138.one1) (one_cons (u137.one1) (one_nil))) (Nat.le_of_ble_eq_true (by kernel_rfl)) [.slice a121 n122 c123, .slice a124 n125 c126] (by kernel_rfl)
 refine s_ek (undef) (by kernel_rfl) (map_ok q134) ?_
 refine q_ (.bool true) (s_nil (k10 _ _ (w_seqk fun _ k139 => w_seqk fun _ k140 => g_' (q_ (.bool true) (q_ (.bool false) (q_ (.bool false) (q_ (hd_goals) ?_)))))))
 have u141 := ((((h_goals.ext e4).fr e99 Dj.nil_l).ext e129).fr e135 (hb130.djn (h_goals.lt.le (t_ e4.n e99.n))))
 refine l_' (i_ (goals.length : Int)) (aLen Try.prog 26 hd_goals H133) (u141.lenb (by kernel_rfl)) ?_
 refine q_ (.bool (decide ((goals.length : Int) > 20))) (q_ (.bool (decide ((goals.length : Int) > 20))) (s_nil (k140 _ _ ?_)))
 refine w_condp ((goals.length : Int) > 20) (by kernel_rfl) rfl (fun h142 => ?_) (fun h142 => ?_)
 ·have r143 := ite_t h142 r90
  refine w_seqk fun _ k144 => g_' (q_ (.bool true) (s_nil (k144 _ _ ?_)))
  refine w_ret (th_ret ?_)
  refine b_ret (fn := Try.f3) (vs := [.bool true]) (rt_ (rfl)) ?_
  obtain rfl := oi_ r143
  exact ⟨rfl, (FrS.step wf ((FrS.step wf ((f0_ wf).extR e4) e99 Inn.nil).extR e129) e135 (hb130.fresh (t_ e4.n e99.n)))⟩
 have r145 := ite_f h142 r90
 refine w_skip (k139 _ _ (w_seqk fun _ k146 => g_' (q_ (pt_ b93 0) (q_ (i_ u) (q_ (i_ skip) (q_ (hd_goals) ?_))))))
 obtain ⟨y147, hy148, r149⟩ := bind_some r145
 refine s_ck 9 #[hd_goals] (by kernel_rfl) (c_viaductref02_TwinInts e135.wf u141 hy148) ?_
 rintro s150 H152 ⟨_, f151, rfl, e153, m154, i155⟩
 obtain ⟨a157, n158, c159, rfl⟩ := m154.form
 refine q_ (.int .u64 most) (q_ (i_ hops) (q_ (i_ settles) ?_))
 have u160 := (((m100.ext e129).fr e135 (hb130.djn m100.lt)).fr e153 Dj.nil_l)
 have u161 := (((m101.ext e129).frS e135 (hb130.djn m101.ltF)).frS e153 Dj.nil_l)
 obtain ⟨y162, hy163, r164⟩ := bind_some r149
 refine s_ck 8 #[pt_ b93 0, i_ u, i_ skip, .slice a157 n158 c159, .int .u64 most, i_ hops, i_ settles] (by kernel_rfl) (c_witness_Find e153.wf u160 u161 m154.sq hy163) ?_
 rintro _ H169 ⟨s165, f166, v167, f168, rfl, e170, m171, m172, i173, i174, d175⟩
 obtain ⟨a178, n179, c180, rfl⟩ := m171.form
 refine q_ (.tuple #[.slice a178 n179 c180, v167]) (q_ (.slice a178 n179 c180) (q_ (v167) (q_ (.slice a178 n179 c180) (q_ (v167) (s_nil (k146 _ _ (w_seqk fun _ k181 => w_seqk fun _ k182 => g_' (q_ (v167) ?_))))))))
 rcases (m172).cases with ⟨h183, rfl⟩ | ⟨h183, t184, x185, rfl⟩
 ·have r186 := ite_t h183 r164
  refine q_ (.bool false) (s_nil (k182 _ _ ?_))
  refine w_cond false (by kernel_rfl) rfl (fun h => by cases h) (fun _ => ?_)
  refine w_skip (k181 _ _ (w_seqk fun _ k187 => w_seqk fun _ k188 => g_' (q_ (.slice a178 n179 c180) ?_)))
  refine l_' (i_ (y162.1.length : Int)) (aLen Try.prog 36 (.slice a178 n179 c180) H169) (m171.sq.lenb (by kernel_rfl)) ?_
  refine q_ (hd_goals) ?_
  have u189 := ((u141.fr e153 Dj.nil_l).fr e170 Dj.nil_l)
  refine l_' (i_ (goals.length : Int)) (aLen Try.prog 26 hd_goals H169) (u189.lenb (by kernel_rfl)) ?_
  refine q_ (.bool (!decide ((y162.1.length : Int) = (goals.length : Int)))) (s_nil (k188 _ _ ?_))
  refine w_condn ((y162.1.length : Int) = (goals.length : Int)) (by kernel_rfl) rfl (fun h190 => ?_) (fun h190 => ?_)
  ·have r191 := ite_f h190 r186
   refine w_seqk fun _ k192 => g_' (q_ (.bool false) (s_nil (k192 _ _ ?_)))
   refine w_ret (th_ret ?_)
   refine b_ret (fn := Try.f3) (vs := [.bool false]) (rt_ (rfl)) ?_
   obtain rfl := oi_ r191
   exact ⟨rfl, (FrS.step wf (FrS.step wf (FrS.step wf ((FrS.step wf ((f0_ wf).extR e4) e99 Inn.nil).extR e129) e135 (hb130.fresh (t_ e4.n e99.n))) e153 Inn.nil) e170 Inn.nil)⟩
  have r193 := ite_t h190 r186
  refine w_skip (k187 _ _ (w_seqk fun _ k194 => w_seqk fun _ k195 => g_' (q_ (hd_goals) ?_)))
  refine l_' (i_ (goals.length : Int)) (aLen Try.prog 26 hd_goals H169) (u189.lenb (by kernel_rfl)) ?_
  refine q_ (i_ 0) (s_nil (k195 _ _ ?_))
  obtain ⟨z199, hx197, r198⟩ := bind_some r193
  refine w_mid (fun α H200 => ∃ o196, z199 = Sum.inr o196 ∧ Has α [] ∧ FrS [] H169 H200) (fun _ k202 => ?_) (fun α H200 hM => ?_)
  ·refine w_block ?_
   obtain ⟨n204, hn205⟩ := loopO_iff.1 hx197
   refine w_loopn (fun n α H206 => ∃ (i0 : Int), iterO (fun zz_ => z_viaductlaw12_WitnessGoals_l0 u skip goals most hops settles y17 y162 zz_) n i0 = some z199 ∧ Has α [(2, i_ u), (3, i_ skip), (5, .int .u64 most), (6, i_ hops), (7, i_ settles), (17, pt_ b93 0), (20, .slice a178 n179 c180), (64, hd_goals), (65, i_ (goals.length : Int)), (66, i_ i0)] ∧ FrS [] H169 H206) n204 ⟨0, hn205, ha_, (FrS.refl (W := []) e170.wf)⟩ ?_
   rintro n204 α H206 ⟨i0, hi209, hh208, e207⟩ K214 k214
   obtain ⟨n210, z211, rfl, hz212, hn213⟩ := iter_succ hi209
   obtain ⟨β, rfl⟩ := has_ex hh208
   clear hh208
   replace hz212 : z_viaductlaw12_WitnessGoals_l0 u skip goals most hops settles y17 y162 i0 = some z211 := hz212
   unfold z_viaductlaw12_WitnessGoals_l0 at hz212
   refine w_seqk fun _ k215 => g_' (q_ (.bool (decide (i0 < (goals.length : Int)))) (s_nil (k215 _ _ (w_seqk fun _ k216 => ?_))))
   refine w_condp (i0 < (goals.length : Int)) (by kernel_rfl) rfl (fun h217 => ?_) (fun h217 => ?_)
   ·have r218 := ite_t h217 hz212
    refine w_skip (k216 _ _ (w_seqk fun _ k219 => w_block (w_seqk fun _ k220 => g_' (q_ (i_ i0) ?_))))
    obtain ⟨g221, r222⟩ := G_some r218
    have u223 := (u189.fr e207 Dj.nil_l)
    refine l_' (elp hd_goals 1 i0.toNat 0) (aIndexAddr Try.prog 26 hd_goals (i_ i0)) (u223.idxb (by kernel_rfl) g221 h217) ?_
    refine l_' (i_ (gt goals i0)) (aL_ 3 (elp hd_goals 1 i0.toNat 0) H206) (u223.ld g221 h217 (by kernel_rfl)) ?_
    refine q_ (i_ i0) (q_ (i_ (gt goals i0)) (s_nil (k220 _ _ (w_seqk fun _ k224 => g_' (q_ (pt_ b93 0) (q_ (i_ u) (q_ (i_ skip) (q_ (i_ (gt goals i0)) (q_ (i_ u) (q_ (i_ (gt goals i0)) ?_))))))))))
    refine s_owk (enc := (encI .i64)) (sz := 1) e207.wf [(gt goals i0), u, (gt goals i0)] 3 (by decide) (fun _ _ => rfl) (fun _ _ => rfl) rfl (by kernel_rfl) fun s225 f226 H227 e228 hf229 hm230 => ?_
    obtain ⟨a231, n232, c233, rfl⟩ := hm230.form
    refine q_ (.int .u64 most) (q_ (i_ hops) (q_ (i_ settles) ?_))
    have u235 := (((u160.fr e170 Dj.nil_l).fr e207 Dj.nil_l).ext e228)
    have u236 := (((u161.frS e170 Dj.nil_l).frS e207 Dj.nil_l).ext e228)
    obtain ⟨y237, hy238, r239⟩ := bind_some r222
    refine s_ck 8 #[pt_ b93 0, i_ u, i_ skip, .slice a231 n232 c233, .int .u64 most, i_ hops, i_ settles] (by kernel_rfl) (c_witness_Find e228.wf u235 u236 hm230.sq hy238) ?_
    rintro _ H244 ⟨s240, f241, v242, f243, rfl, e245, m246, m247, i248, i249, d250⟩
    obtain ⟨a253, n254, c255, rfl⟩ := m246.form
    refine q_ (.tuple #[.slice a253 n254 c255, v242]) (q_ (.slice a253 n254 c255) (q_ (v242) (q_ (.slice a253 n254 c255) (q_ (v242) (s_nil (k224 _ _ (w_seqk fun _ k256 => ?_)))))))
    refine w_draw [0, 1, 2, 3, 4, 5, 6, 7, 8, 9, 10, 11, 12, 13, 14, 15, 16, 17, 18, 19, 20, 21, 22, 23, 24, 25, 26, 27, 28, 29, 30, 31, 32] (by kernel_rfl) ?_
    refine e_' (v242) ?_
    rcases (m247).cases with ⟨h257, rfl⟩ | ⟨h257, t258, x259, rfl⟩
    ·have r260 := ite_t h257 r239
     refine e_' (.bool false) (e_' (.bool false) (e_' (.slice a253 n254 c255) ?_))
     refine m_' (i_ (y237.1.length : Int)) (aLen Try.prog 36 (.slice a253 n254 c255) H244) (m246.sq.lenb (by kernel_rfl)) ?_
     refine d_bn ((y237.1.length : Int) = 3) (by kernel_rfl) (fun h261 => ?_) (fun h261 => ?_)
     ·have r262 := ite_t h261 r260
      refine e_' (.bool false) (e_' (.bool false) (e_' (.slice a253 n254 c255) ?_))
      obtain ⟨g263, r264⟩ := G_some r262
      refine m_' (elp (.slice a253 n254 c255) 1 (0 : Int).toNat 0) (aIndexAddr Try.prog 36 (.slice a253 n254 c255) (i_ 0)) (m246.sq.idxb (by kernel_rfl) (by decide) g263) ?_
      refine m_' (.int .u64 (gt y237.1 0)) (aL_ 27 (elp (.slice a253 n254 c255) 1 (0 : Int).toNat 0) H244) (m246.sq.ld (by decide) g263 (by kernel_rfl)) ?_
      refine e_' (.slice a178 n179 c180) (e_' (i_ i0) ?_)
      obtain ⟨g265, r266⟩ := G_some r264
      have u267 := (((m171.fr e207 Dj.nil_l).ext e228).fr e245 Dj.nil_l)
      refine m_' (elp (.slice a178 n179 c180) 1 i0.toNat 0) (aIndexAddr Try.prog 36 (.slice a178 n179 c180) (i_ i0)) (u267.sq.idxb (by kernel_rfl) g221 g265) ?_
      refine m_' (.int .u64 (gt y162.1 i0)) (aL_ 27 (elp (.slice a178 n179 c180) 1 i0.toNat 0) H244) (u267.sq.ld g221 g265 (by kernel_rfl)) ?_
      refine d_bn ((gt y237.1 0) = (gt y162.1 i0)) (by kernel_rfl) (fun h268 => ?_) (fun h268 => ?_)
      ·have r269 := ite_t h268 r266
       refine e_' (.bool false) (e_' (.bool false) (e_' (.slice a253 n254 c255) ?_))
       obtain ⟨g270, r271⟩ := G_some r269
       refine m_' (elp (.slice a253 n254 c255) 1 (1 : Int).toNat 0) (aIndexAddr Try.prog 36 (.slice a253 n254 c255) (i_ 1)) (m246.sq.idxb (by kernel_rfl) (by decide) g270) ?_
       refine m_' (.int .u64 (gt y237.1 1)) (aL_ 27 (elp (.slice a253 n254 c255) 1 (1 : Int).toNat 0) H244) (m246.sq.ld (by decide) g270 (by kernel_rfl)) ?_
       refine d_bn ((gt y237.1 1) = 0) (by kernel_rfl) (fun h272 => ?_) (fun h272 => ?_)
       ·have r273 := ite_t h272 r271
        refine e_' (.bool false) (e_' (.bool false) (e_' (.slice a253 n254 c255) ?_))
        obtain ⟨g274, r275⟩ := G_some r273
        refine m_' (elp (.slice a253 n254 c255) 1 (2 : Int).toNat 0) (aIndexAddr Try.prog 36 (.slice a253 n254 c255) (i_ 2)) (m246.sq.idxb (by kernel_rfl) (by decide) g274) ?_
        refine m_' (.int .u64 (gt y237.1 2)) (aL_ 27 (elp (.slice a253 n254 c255) 1 (2 : Int).toNat 0) H244) (m246.sq.ld (by decide) g274 (by kernel_rfl)) ?_
        refine e_' (.slice a178 n179 c180) (e_' (i_ i0) ?_)
        refine m_' (elp (.slice a178 n179 c180) 1 i0.toNat 0) (aIndexAddr Try.prog 36 (.slice a178 n179 c180) (i_ i0)) (u267.sq.idxb (by kernel_rfl) g221 g265) ?_
        refine m_' (.int .u64 (gt y162.1 i0)) (aL_ 27 (elp (.slice a178 n179 c180) 1 i0.toNat 0) H244) (u267.sq.ld g221 g265 (by kernel_rfl)) ?_
        refine e_' (.bool (!decide ((gt y237.1 2) = (gt y162.1 i0)))) (e_' (.bool (!decide ((gt y237.1 2) = (gt y162.1 i0)))) ?_)
        refine d_nil ?_
        refine k256 _ _ ?_
        refine w_condn ((gt y237.1 2) = (gt y162.1 i0)) (by kernel_rfl) rfl (fun h276 => ?_) (fun h276 => ?_)
        ·have r277 := ite_f h276 r275
         refine w_seqk fun _ k278 => g_' (q_ (.bool false) (s_nil (k278 _ _ ?_)))
         refine w_ret (bl_ret (th_ret (th_ret (bl_ret (th_ret (th_ret ?_))))))
         obtain ⟨v279, hv280, hz281⟩ := map_some r277
         subst hz281
         obtain rfl := it_inr hn213
         have hq282 := elim_inl r198
         rw [hq282] at hv280
         refine b_ret (fn := Try.f3) (vs := [.bool false]) (rt_ (rfl)) ?_
         obtain rfl := oi_ hv280
         exact ⟨rfl, (FrS.step wf ((FrS.step wf (FrS.step wf (FrS.step wf (FrS.step wf ((FrS.step wf ((f0_ wf).extR e4) e99 Inn.nil).extR e129) e135 (hb130.fresh (t_ e4.n e99.n))) e153 Inn.nil) e170 Inn.nil) e207 Inn.nil).extR e228) e245 Inn.nil)⟩
        have r283 := ite_t h276 r275
        refine w_skip (k219 _ _ (g_' ?_))
        obtain ⟨g284, r285⟩ := G_some r283
        refine w_' (i0 + 1) (wrap64 (by have := g284; omega)) ?_
        refine q_ (i_ (i0 + 1)) (s_nil ?_)
        obtain rfl := oi_ r285
        exact k214 n210 _ _ (Nat.lt_succ_self _) ⟨(i0 + 1), hn213, ha_, (FrS.step e170.wf ((FrS.step e170.wf (FrS.refl (W := []) e170.wf) e207 Inn.nil).extR e228) e245 Inn.nil)⟩
       have r286 := ite_f h272 r271
       refine e_' (.bool true) (e_' (.bool true) (j_' (j_' (j_' (j_' (j_' (j_' (j_' (j_' (e_' (.bool true) ?_))))))))))
       refine d_nil ?_
       refine k256 _ _ ?_
       refine w_cond true (by kernel_rfl) rfl (fun _ => ?_) (fun h => by cases h)
       refine w_seqk fun _ k287 => g_' (q_ (.bool false) (s_nil (k287 _ _ ?_)))
       refine w_ret (bl_ret (th_ret (th_ret (bl_ret (th_ret (th_ret ?_))))))
       obtain ⟨v288, hv289, hz290⟩ := map_some r286
       subst hz290
       obtain rfl := it_inr hn213
       have hq291 := elim_inl r198
       rw [hq291] at hv289
       refine b_ret (fn := Try.f3) (vs := [.bool false]) (rt_ (rfl)) ?_
       obtain rfl := oi_ hv289
       exact ⟨rfl, (FrS.step wf ((FrS.step wf (FrS.step wf (FrS.step wf (FrS.step wf ((FrS.step wf ((f0_ wf).extR e4) e99 Inn.nil).extR e129) e135 (hb130.fresh (t_ e4.n e99.n))) e153 Inn.nil) e170 Inn.nil) e207 Inn.nil).extR e228) e245 Inn.nil)⟩
      have r292 := ite_f h268 r266
      refine e_' (.bool true) (e_' (.bool true) (j_' (j_' (j_' (j_' (e_' (.bool true) (e_' (.bool true) (j_' (j_' (j_' (j_' (j_' (j_' (j_' (j_' (e_' (.bool true) ?_))))))))))))))))
      refine d_nil ?_
      refine k256 _ _ ?_
      refine w_cond true (by kernel_rfl) rfl (fun _ => ?_) (fun h => by cases h)
      refine w_seqk fun _ k293 => g_' (q_ (.bool false) (s_nil (k293 _ _ ?_)))
      refine w_ret (bl_ret (th_ret (th_ret (bl_ret (th_ret (th_ret ?_))))))
      obtain ⟨v294, hv295, hz296⟩ := map_some r292
      subst hz296
      obtain rfl := it_inr hn213
      have hq297 := elim_inl r198
      rw [hq297] at hv295
      refine b_ret (fn := Try.f3) (vs := [.bool false]) (rt_ (rfl)) ?_
      obtain rfl := oi_ hv295
      exact ⟨rfl, (FrS.step wf ((FrS.step wf (FrS.step wf (FrS.step wf (FrS.step wf ((FrS.step wf ((f0_ wf).extR e4) e99 Inn.nil).extR e129) e135 (hb130.fresh (t_ e4.n e99.n))) e153 Inn.nil) e170 Inn.nil) e207 Inn.nil).extR e228) e245 Inn.nil)⟩
     have r298 := ite_f h261 r260
     refine e_' (.bool true) (e_' (.bool true) (j_' (j_' (j_' (j_' (j_' (j_' (j_' (j_' (e_' (.bool true) (e_' (.bool true) (j_' (j_' (j_' (j_' (e_' (.bool true) (e_' (.bool true) (j_' (j_' (j_' (j_' (j_' (j_' (j_' (j_' (e_' (.bool true) ?_))))))))))))))))))))))))))
     refine d_nil ?_
     refine k256 _ _ ?_
     refine w_cond true (by kernel_rfl) rfl (fun _ => ?_) (fun h => by cases h)
     refine w_seqk fun _ k299 => g_' (q_ (.bool false) (s_nil (k299 _ _ ?_)))
     refine w_ret (bl_ret (th_ret (th_ret (bl_ret (th_ret (th_ret ?_))))))
     obtain ⟨v300, hv301, hz302⟩ := map_some r298
     subst hz302
     obtain rfl := it_inr hn213
     have hq303 := elim_inl r198
     rw [hq303] at hv301
     refine b_ret (fn := Try.f3) (vs := [.bool false]) (rt_ (rfl)) ?_
     obtain rfl := oi_ hv301
     exact ⟨rfl, (FrS.step wf ((FrS.step wf (FrS.step wf (FrS.step wf (FrS.step wf ((FrS.step wf ((f0_ wf).extR e4) e99 Inn.nil).extR e129) e135 (hb130.fresh (t_ e4.n e99.n))) e153 Inn.nil) e170 Inn.nil) e207 Inn.nil).extR e228) e245 Inn.nil)⟩
    have r304 := ite_f h257 r239
    refine m_' (.bool true) (aBin Try.prog .neq 38 (.tmp 85) (.const .nilIface) (.iface t258 x259) .nilIface) (aBin_nnil (by kernel_rfl)) ?_
    refine e_' (.bool true) (j_' (j_' (j_' (e_' (.bool true) (e_' (.bool true) (j_' (j_' (j_' (j_' (j_' (j_' (j_' (j_' (e_' (.bool true) (e_' (.bool true) (j_' (j_' (j_' (j_' (e_' (.bool true) (e_' (.bool true) (j_' (j_' (j_' (j_' (j_' (j_' (j_' (j_' (e_' (.bool true) ?_))))))))))))))))))))))))))))))
    refine d_nil ?_
    refine k256 _ _ ?_
    refine w_cond true (by kernel_rfl) rfl (fun _ => ?_) (fun h => by cases h)
    refine w_seqk fun _ k305 => g_' (q_ (.bool false) (s_nil (k305 _ _ ?_)))
    refine w_ret (bl_ret (th_ret (th_ret (bl_ret (th_ret (th_ret ?_))))))
    obtain ⟨v306, hv307, hz308⟩ := map_some r304
    subst hz308
    obtain rfl := it_inr hn213
    have hq309 := elim_inl r198
    rw [hq309] at hv307
    refine b_ret (fn := Try.f3) (vs := [.bool false]) (rt_ (rfl)) ?_
    obtain rfl := oi_ hv307
    exact ⟨rfl, (FrS.step wf ((FrS.step wf (FrS.step wf (FrS.step wf (FrS.step wf ((FrS.step wf ((f0_ wf).extR e4) e99 Inn.nil).extR e129) e135 (hb130.fresh (t_ e4.n e99.n))) e153 Inn.nil) e170 Inn.nil) e207 Inn.nil).extR e228) e245 Inn.nil)⟩
   have r310 := ite_f h217 hz212
   refine w_exit (th_exit (th_exit (bl_eq ?_)))
   obtain rfl := oi_ r310
   obtain rfl := it_inr hn213
   exact k202 _ _ ⟨_, rfl, trivial, (FrS.step e170.wf (FrS.refl (W := []) e170.wf) e207 Inn.nil)⟩
  obtain ⟨o196, rfl, hh203, e201⟩ := hM
  have r311 := elim_inr r198
  obtain ⟨β, rfl⟩ := has_ex hh203
  clear hh203
  refine k194 _ _ (w_seqk fun _ k312 => g_' (q_ (.bool true) (s_nil (k312 _ _ ?_))))
  refine w_ret ?_
  refine b_ret (fn := Try.f3) (vs := [.bool true]) (rt_ (rfl)) ?_
  obtain rfl := oi_ r311
  exact ⟨rfl, (FrS.step wf (FrS.step wf (FrS.step wf (FrS.step wf ((FrS.step wf ((f0_ wf).extR e4) e99 Inn.nil).extR e129) e135 (hb130.fresh (t_ e4.n e99.n))) e153 Inn.nil) e170 Inn.nil) e201 Inn.nil)⟩
 have r313 := ite_f h183 r164
 refine l_' (.bool true) (aBin Try.prog .neq 38 (.tmp 54) (.const .nilIface) (.iface t184 x185) .nilIface) (aBin_nnil (by kernel_rfl)) ?_
 refine s_nil (k182 _ _ ?_)
 refine w_cond true (by kernel_rfl) rfl (fun _ => ?_) (fun h => by cases h)
 refine w_seqk fun _ k314 => g_' (q_ (.slice a178 n179 c180) ?_)
 refine l_' (i_ (y162.1.length : Int)) (aLen Try.prog 36 (.slice a178 n179 c180) H169) (m171.sq.lenb (by kernel_rfl)) ?_
 refine q_ (.bool (decide ((y162.1.length : Int) = 0))) (q_ (.bool (decide ((y162.1.length : Int) = 0))) (s_nil (k314 _ _ ?_)))
 refine w_ret (th_ret ?_)
 refine b_ret (fn := Try.f3) (vs := [.bool (decide ((y162.1.length : Int) = 0))]) (rt_ (rfl)) ?_
 obtain rfl := oi_ r313
 exact ⟨rfl, (FrS.step wf (FrS.step wf (FrS.step wf ((FrS.step wf ((f0_ wf).extR e4) e99 Inn.nil).extR e129) e135 (hb130.fresh (t_ e4.n e99.n))) e153 Inn.nil) e170 Inn.nil)⟩
end Go.Vd
