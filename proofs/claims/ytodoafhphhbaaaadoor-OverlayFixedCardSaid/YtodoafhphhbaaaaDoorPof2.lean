/- The walks of the functions (printed by a program of ours). -/
import Derived.Test.YtodoafhphhbaaaaDoorPof1
import Derived.Test.YtodoafhphhbaaaaDoorPofDrG
import Derived.Test.YtodoafhphhbaaaaDoorPofIOf
import Derived.Test.YtodoafhphhbaaaaDoorPofVeN
import Derived.Test.YtodoafhphhbaaaaDoorPofVeM
import Derived.Test.YtodoafhphhbaaaaDoorPofVeG
import Derived.Test.YtodoafhphhbaaaaDoorPofSoA
import Derived.Test.YtodoafhphhbaaaaDoorPofVeV
set_option linter.unusedVariables false
set_option linter.unusedSimpArgs false
set_option linter.unusedSectionVars false
/-! (KOf4) -/

set_option maxRecDepth 100000
set_option maxHeartbeats 4000000
set_option linter.unusedVariables false
namespace Go.Vd
open Go.Proofs
attribute [local irreducible] wpSeq wpOrd aWp
theorem c_viaductlaw11_OverlayFixed {H : AH} {r : Bool}
    (wf : WF H) (hr : z_viaductlaw11_OverlayFixed = some r) :
    ACalls Tryd.prog 3 #[] H fun v H' => v = .bool r ∧ FrS [] H H' := by
 refine acalls_of_body mixed Tryd.func3 rfl (Nat.le_of_ble_eq_true rfl) ?_
 unfold z_viaductlaw11_OverlayFixed at hr
 refine w_seqk fun _ k1 => ?_
 refine g_' ?_
 refine q_ (.bool false) ?_
 refine s_nil (k1 _ _ ?_)
 refine w_seqk fun _ k2 => ?_
 refine w_seqk fun _ k3 => ?_
 refine g_' ?_
 obtain ⟨y4, hy5, r6⟩ := bind_some hr
 refine s_ck 4 #[] (by kernel_rfl) (c_viaductlaw11_awake wf hy5) ?_
 rintro _ H7 ⟨rfl, e8⟩
 refine q_ (.bool (!y4)) ?_
 refine s_nil (k3 _ _ ?_)
 refine w_cond ((!y4)) (by kernel_rfl) rfl (fun h9 => ?_) (fun h9 => ?_)
 ·have r10 := ite_t h9 r6
  refine w_seqk fun _ k11 => ?_
  refine g_' ?_
  refine q_ (.bool false) ?_
  refine s_nil (k11 _ _ ?_)
  refine w_ret (th_ret ?_)
  refine b_ret (fn := Tryd.f3) (vs := [.bool false]) (aRes_tmp (by kernel_rfl) (rfl)) ?_
  obtain rfl := Option.some.inj r10
  exact ⟨rfl, (FrS.step wf (FrS.refl (W := []) wf) e8 Inn.nil)⟩
 have r12 := ite_bf h9 r6
 refine w_skip ?_
 refine k2 _ _ ?_
 refine w_seqk fun _ k13 => ?_
 refine g_' ?_
 refine q_ (.agg #[i_ 0, i_ 1, i_ 4]) ?_
 refine q_ (.agg #[i_ 0, i_ 1, i_ 3]) ?_
 refine q_ (.agg #[i_ 2, i_ 2, i_ 1]) ?_
 refine q_ (.agg #[i_ 1, i_ 2, i_ 1]) ?_
 refine s_owk (enc := enc_i64_i64_i64) (sz := 3) e8.wf [(0, 1, 4), (0, 1, 3), (2, 2, 1), (1, 2, 1)] 4 (by decide) (fun _ _ => rfl) (fun _ _ => rfl) rfl (by kernel_rfl) fun s14 f15 H16 e17 hf18 hm19 => ?_
 obtain ⟨a20, n21, c22, rfl⟩ := hm19.form
 refine q_ (.agg #[i_ 3, .slice a20 n21 c22]) ?_
 obtain ⟨y24, hy25, r26⟩ := bind_some r12
 rcases y24 with y27 | y28
 ·have r29 := elim_l r26
  refine s_ck 5 #[.agg #[i_ 3, .slice a20 n21 c22]] (by kernel_rfl) (c_overlay_New e17.wf hm19.sq hy25) ?_
  rintro _ H32 ⟨v30, f31, rfl, e33, m34, i35⟩
  refine q_ (.tuple #[.pointer none, v30]) ?_
  refine q_ (.pointer none) ?_
  refine q_ (v30) ?_
  refine q_ (.pointer none) ?_
  refine q_ (v30) ?_
  refine s_nil (k13 _ _ ?_)
  refine w_seqk fun _ k37 => ?_
  refine w_seqk fun _ k38 => ?_
  obtain ⟨o39, hx40, r41⟩ := bind_some r29
  refine w_mid (fun α H42 => Has α [(1, .pointer none), (72, .bool true)] ∧ FrS [] H32 H42) (fun _ k44 => ?_) (fun α H42 hM => ?_)
  ·refine g_' ?_
   refine q_ (v30) ?_
   rcases (m34).cases with ⟨h46, rfl⟩ | ⟨h46, t47, x48, rfl⟩
   ·have r49 := ite_t h46 hx40
    refine q_ (.bool false) ?_
    refine q_ (.bool false) ?_
    refine q_ (.pointer none) ?_
    obtain ⟨y50, hy51, r52⟩ := bind_some r49
    refine s_ck 7 #[.pointer none, i_ 0] (by kernel_rfl) (c_overlay_Overlay_Out_1 e33.wf hy51) ?_
    rintro _ _ ⟨rfl, rfl⟩
    refine q_ (.agg #[i_ 1, .int .u64 3, i_ (-1)]) ?_
    refine s_owk (enc := enc_i64_u64_i64) (sz := 3) e33.wf [(1, 3, (-1))] 1 (by decide) (fun _ _ => rfl) (fun _ _ => rfl) rfl (by kernel_rfl) fun s55 f56 H57 e58 hf59 hm60 => ?_
    obtain ⟨a61, n62, c63, rfl⟩ := hm60.form
    obtain ⟨y65, hy66, r67⟩ := bind_some r52
    refine s_ck 6 #[.slice none 0 0, .slice a61 n62 c63] (by kernel_rfl) (c_viaductlaw11_same e58.wf (Sq.nil (enc := enc_i64_u64_i64) (sz := 3) (by decide)) hm60.sq hy66) ?_
    rintro _ _ ⟨rfl, rfl⟩
    by_cases h70 : y65 = true
    ·have r71 := ite_t h70 r67
     rw [h70]
     refine q_ (.bool false) ?_
     refine q_ (.bool false) ?_
     refine q_ (.bool false) ?_
     refine q_ (.pointer none) ?_
     obtain ⟨y73, hy74, r75⟩ := bind_some r71
     refine s_ck 8 #[.pointer none, i_ 2] (by kernel_rfl) (c_overlay_Overlay_In_1 e58.wf hy74) ?_
     rintro _ _ ⟨rfl, rfl⟩
     refine q_ (.agg #[i_ 1, .int .u64 1, i_ (-1)]) ?_
     refine s_owk (enc := enc_i64_u64_i64) (sz := 3) e58.wf [(1, 1, (-1))] 1 (by decide) (fun _ _ => rfl) (fun _ _ => rfl) rfl (by kernel_rfl) fun s78 f79 H80 e81 hf82 hm83 => ?_
     obtain ⟨a84, n85, c86, rfl⟩ := hm83.form
     obtain ⟨y88, hy89, r90⟩ := bind_some r75
     refine s_ck 6 #[.slice none 0 0, .slice a84 n85 c86] (by kernel_rfl) (c_viaductlaw11_same e81.wf (Sq.nil (enc := enc_i64_u64_i64) (sz := 3) (by decide)) hm83.sq hy89) ?_
     rintro _ _ ⟨rfl, rfl⟩
     by_cases h93 : y88 = true
     ·have r94 := ite_t h93 r90
      rw [h93]
      refine q_ (.bool false) ?_
      refine q_ (.bool false) ?_
      refine q_ (.bool false) ?_
      refine q_ (.pointer none) ?_
      obtain ⟨y96, hy97, r98⟩ := bind_some r94
      refine s_ck 9 #[.pointer none] (by kernel_rfl) (c_overlay_Overlay_Arcs_1 e81.wf hy97) ?_
      rintro _ _ ⟨rfl, rfl⟩
      refine q_ (.bool true) ?_
      refine q_ (.bool true) ?_
      refine q_ (.bool true) ?_
      refine n_' ?_
      refine n_' ?_
      refine n_' ?_
      refine q_ (.bool true) ?_
      refine q_ (.bool true) ?_
      refine n_' ?_
      refine n_' ?_
      refine n_' ?_
      refine n_' ?_
      refine q_ (.bool true) ?_
      refine q_ (.bool true) ?_
      refine n_' ?_
      refine n_' ?_
      refine n_' ?_
      refine q_ (.bool true) ?_
      refine s_nil ?_
      obtain rfl := Option.some.inj r98
      exact k44 _ _ ⟨ha_, (((FrS.refl (W := []) e33.wf).extR e58).extR e81)⟩
     have r101 := ite_f h93 r90
     rw [nb h93]
     refine q_ (.bool true) ?_
     refine q_ (.bool true) ?_
     refine q_ (.bool true) ?_
     refine n_' ?_
     refine n_' ?_
     refine n_' ?_
     refine q_ (.bool true) ?_
     refine q_ (.bool true) ?_
     refine n_' ?_
     refine n_' ?_
     refine n_' ?_
     refine q_ (.bool true) ?_
     refine q_ (.bool true) ?_
     refine n_' ?_
     refine n_' ?_
     refine n_' ?_
     refine n_' ?_
     refine q_ (.bool true) ?_
     refine q_ (.bool true) ?_
     refine n_' ?_
     refine n_' ?_
     refine n_' ?_
     refine q_ (.bool true) ?_
     refine s_nil ?_
     obtain rfl := Option.some.inj r101
     exact k44 _ _ ⟨ha_, (((FrS.refl (W := []) e33.wf).extR e58).extR e81)⟩
    have r103 := ite_f h70 r67
    rw [nb h70]
    refine q_ (.bool true) ?_
    refine q_ (.bool true) ?_
    refine q_ (.bool true) ?_
    refine n_' ?_
    refine n_' ?_
    refine n_' ?_
    refine n_' ?_
    refine n_' ?_
    refine n_' ?_
    refine q_ (.bool true) ?_
    refine q_ (.bool true) ?_
    refine n_' ?_
    refine n_' ?_
    refine n_' ?_
    refine q_ (.bool true) ?_
    refine q_ (.bool true) ?_
    refine n_' ?_
    refine n_' ?_
    refine n_' ?_
    refine q_ (.bool true) ?_
    refine q_ (.bool true) ?_
    refine n_' ?_
    refine n_' ?_
    refine n_' ?_
    refine n_' ?_
    refine q_ (.bool true) ?_
    refine q_ (.bool true) ?_
    refine n_' ?_
    refine n_' ?_
    refine n_' ?_
    refine q_ (.bool true) ?_
    refine s_nil ?_
    obtain rfl := Option.some.inj r103
    exact k44 _ _ ⟨ha_, ((FrS.refl (W := []) e33.wf).extR e58)⟩
   have r105 := ite_f h46 hx40
   refine l_' (.bool true) (aBin Tryd.prog .neq 25 (.tmp 34) (.const .nilIface) (.iface t47 x48) .nilIface) (aBin_nnil (by kernel_rfl)) ?_
   refine q_ (.bool true) ?_
   refine n_' ?_
   refine n_' ?_
   refine n_' ?_
   refine n_' ?_
   refine n_' ?_
   refine n_' ?_
   refine q_ (.bool true) ?_
   refine q_ (.bool true) ?_
   refine n_' ?_
   refine n_' ?_
   refine n_' ?_
   refine n_' ?_
   refine n_' ?_
   refine n_' ?_
   refine q_ (.bool true) ?_
   refine q_ (.bool true) ?_
   refine n_' ?_
   refine n_' ?_
   refine n_' ?_
   refine q_ (.bool true) ?_
   refine q_ (.bool true) ?_
   refine n_' ?_
   refine n_' ?_
   refine n_' ?_
   refine q_ (.bool true) ?_
   refine q_ (.bool true) ?_
   refine n_' ?_
   refine n_' ?_
   refine n_' ?_
   refine n_' ?_
   refine q_ (.bool true) ?_
   refine q_ (.bool true) ?_
   refine n_' ?_
   refine n_' ?_
   refine n_' ?_
   refine q_ (.bool true) ?_
   refine s_nil ?_
   obtain rfl := Option.some.inj r105
   exact k44 _ _ ⟨ha_, (FrS.refl (W := []) e33.wf)⟩
  obtain ⟨hh45, e43⟩ := hM
  obtain ⟨β, rfl⟩ := has_ex hh45
  clear hh45
  refine k38 _ _ ?_
  refine w_cond true (by kernel_rfl) rfl (fun _ => ?_) (fun h => by cases h)
  refine w_seqk fun _ k106 => ?_
  refine g_' ?_
  refine q_ (.bool false) ?_
  refine s_nil (k106 _ _ ?_)
  refine w_ret (th_ret ?_)
  refine b_ret (fn := Tryd.f3) (vs := [.bool false]) (aRes_tmp (by kernel_rfl) (rfl)) ?_
  obtain rfl := Option.some.inj r41
  exact ⟨rfl, (FrS.step wf (FrS.step wf ((FrS.step wf (FrS.refl (W := []) wf) e8 Inn.nil).extR e17) e33 Inn.nil) e43 Inn.nil)⟩
 have r107 := elim_r r26
 refine s_ck 5 #[.agg #[i_ 3, .slice a20 n21 c22]] (by kernel_rfl) (c_overlay_New e17.wf hm19.sq hy25) ?_
 rintro _ H111 ⟨s108, f109, b110, rfl, e112, m113, m114, i115, i116, d117⟩
 obtain ⟨a120, n121, c122, rfl⟩ := m113.form
 refine q_ (.tuple #[pt_ b110 0, .nilIface]) ?_
 refine q_ (pt_ b110 0) ?_
 refine q_ (.nilIface) ?_
 refine q_ (pt_ b110 0) ?_
 refine q_ (.nilIface) ?_
 refine s_nil (k13 _ _ ?_)
 refine w_seqk fun _ k123 => ?_
 refine w_seqk fun _ k124 => ?_
 obtain ⟨o125, hx126, r127⟩ := bind_some r107
 refine w_mid (fun α H128 => ∃ (f132 : Fp), Has α [(1, pt_ b110 0), (72, .bool o125.2.2.2)] ∧ FrS ([b110] ++ f109) H111 H128 ∧ Nd enc_i64_u64_i64 3 H128 (.slice a120 n121 c122) o125.1 f132 [] ∧ Row H128 b110 [.slice a120 n121 c122, i_ o125.2.1, i_ o125.2.2.1] ∧ Inn f109 H111 f132) (fun _ k136 => ?_) (fun α H128 hM => ?_)
 ·refine g_' ?_
  refine q_ (.nilIface) ?_
  refine q_ (.bool false) ?_
  refine q_ (.bool false) ?_
  refine q_ (pt_ b110 0) ?_
  obtain ⟨y138, hy139, r140⟩ := bind_some hx126
  refine s_ck 7 #[pt_ b110 0, i_ 0] (by kernel_rfl) (c_overlay_Overlay_Out e112.wf m113 m114 hy139) ?_
  rintro s141 H143 ⟨_, f142, rfl, e144, m145, i146⟩
  obtain ⟨a148, n149, c150, rfl⟩ := m145.form
  refine q_ (.agg #[i_ 1, .int .u64 3, i_ (-1)]) ?_
  refine s_owk (enc := enc_i64_u64_i64) (sz := 3) e144.wf [(1, 3, (-1))] 1 (by decide) (fun _ _ => rfl) (fun _ _ => rfl) rfl (by kernel_rfl) fun s151 f152 H153 e154 hf155 hm156 => ?_
  obtain ⟨a157, n158, c159, rfl⟩ := hm156.form
  have u161 := (m145.ext e154)
  obtain ⟨y162, hy163, r164⟩ := bind_some r140
  refine s_ck 6 #[.slice a148 n149 c150, .slice a157 n158 c159] (by kernel_rfl) (c_viaductlaw11_same e154.wf u161.sq hm156.sq hy163) ?_
  rintro _ _ ⟨rfl, rfl⟩
  by_cases h167 : y162 = true
  ·have r168 := ite_t h167 r164
   rw [h167]
   refine q_ (.bool false) ?_
   refine q_ (.bool false) ?_
   refine q_ (.bool false) ?_
   refine q_ (pt_ b110 0) ?_
   have u170 := ((m113.fr e144 Dj.nil_l).ext e154)
   have u171 := ((m114.frS e144 Dj.nil_l).ext e154)
   obtain ⟨y172, hy173, r174⟩ := bind_some r168
   refine s_ck 8 #[pt_ b110 0, i_ 2] (by kernel_rfl) (c_overlay_Overlay_In e154.wf u170 u171 hy173) ?_
   rintro s175 H177 ⟨_, f176, rfl, e178, m179, i180⟩
   obtain ⟨a182, n183, c184, rfl⟩ := m179.form
   refine q_ (.agg #[i_ 1, .int .u64 1, i_ (-1)]) ?_
   refine s_owk (enc := enc_i64_u64_i64) (sz := 3) e178.wf [(1, 1, (-1))] 1 (by decide) (fun _ _ => rfl) (fun _ _ => rfl) rfl (by kernel_rfl) fun s185 f186 H187 e188 hf189 hm190 => ?_
   obtain ⟨a191, n192, c193, rfl⟩ := hm190.form
   have u195 := (m179.ext e188)
   obtain ⟨y196, hy197, r198⟩ := bind_some r174
   refine s_ck 6 #[.slice a182 n183 c184, .slice a191 n192 c193] (by kernel_rfl) (c_viaductlaw11_same e188.wf u195.sq hm190.sq hy197) ?_
   rintro _ _ ⟨rfl, rfl⟩
   by_cases h201 : y196 = true
   ·have r202 := ite_t h201 r198
    rw [h201]
    refine q_ (.bool false) ?_
    refine q_ (.bool false) ?_
    refine q_ (.bool false) ?_
    refine q_ (pt_ b110 0) ?_
    have u204 := ((u170.fr e178 Dj.nil_l).ext e188)
    have u205 := ((u171.frS e178 Dj.nil_l).ext e188)
    obtain ⟨y206, hy207, r208⟩ := bind_some r202
    refine s_ck 9 #[pt_ b110 0] (by kernel_rfl) (c_overlay_Overlay_Arcs e188.wf u204 u205 hy207) ?_
    rintro _ _ ⟨rfl, rfl⟩
    refine s_bn (y206 = 2) (by kernel_rfl) (fun h211 => ?_) (fun h211 => ?_)
    ·have r212 := ite_t h211 r208
     refine q_ (.bool false) ?_
     refine q_ (.bool false) ?_
     refine q_ (pt_ b110 0) ?_
     obtain ⟨y213, hy214, r215⟩ := bind_some r212
     refine s_ck 10 #[pt_ b110 0, i_ 1] (by kernel_rfl) (c_overlay_Overlay_Remove e188.wf u204 u205 d117 hy214) ?_
     rintro v216 H219 ⟨_, f217, f218, rfl, e220, m221, m222, m223, i224, i225, d226⟩
     rcases (m221).cases with ⟨h228, rfl⟩ | ⟨h228, t229, x230, rfl⟩
     ·have r231 := ite_t h228 r215
      refine q_ (.bool false) ?_
      refine q_ (.bool false) ?_
      refine q_ (.bool false) ?_
      refine q_ (pt_ b110 0) ?_
      obtain ⟨y232, hy233, r234⟩ := bind_some r231
      refine s_ck 7 #[pt_ b110 0, i_ 0] (by kernel_rfl) (c_overlay_Overlay_Out e220.wf m222 m223 hy233) ?_
      rintro s235 H237 ⟨_, f236, rfl, e238, m239, i240⟩
      obtain ⟨a242, n243, c244, rfl⟩ := m239.form
      refine l_' (i_ (y232.length : Int)) (aLen Tryd.prog 34 (.slice a242 n243 c244) H237) (m239.sq.lenb (by kernel_rfl)) ?_
      refine s_bn ((y232.length : Int) = 0) (by kernel_rfl) (fun h245 => ?_) (fun h245 => ?_)
      ·have r246 := ite_t h245 r234
       refine q_ (.bool false) ?_
       refine q_ (.bool false) ?_
       refine q_ (pt_ b110 0) ?_
       have u247 := (m222.fr e238 Dj.nil_l)
       have u248 := (m223.frS e238 Dj.nil_l)
       obtain ⟨y249, hy250, r251⟩ := bind_some r246
       refine s_ck 9 #[pt_ b110 0] (by kernel_rfl) (c_overlay_Overlay_Arcs e238.wf u247 u248 hy250) ?_
       rintro _ _ ⟨rfl, rfl⟩
       refine q_ (.bool (!decide (y249 = 0))) ?_
       refine q_ (.bool (!decide (y249 = 0))) ?_
       refine s_nil ?_
       obtain rfl := Option.some.inj r251
       exact k136 _ _ ⟨f218, ha_, (FrS.step e112.wf (FrS.step e112.wf ((FrS.step e112.wf ((FrS.step e112.wf (FrS.refl (W := ([b110] ++ f109)) e112.wf) e144 Inn.nil).extR e154) e178 Inn.nil).extR e188) e220 (Inn.app Inn.left (Inn.right Inn.refl'))) e238 Inn.nil), u247, u248, (Inn.trans Inn.refl' (ntr (ntr (ntr e144.next e154.next) e178.next) e188.next) i225)⟩
      have r254 := ite_f h245 r234
      refine q_ (.bool true) ?_
      refine q_ (.bool true) ?_
      refine n_' ?_
      refine n_' ?_
      refine n_' ?_
      refine q_ (.bool true) ?_
      refine s_nil ?_
      have u255 := (m222.fr e238 Dj.nil_l)
      have u256 := (m223.frS e238 Dj.nil_l)
      obtain rfl := Option.some.inj r254
      exact k136 _ _ ⟨f218, ha_, (FrS.step e112.wf (FrS.step e112.wf ((FrS.step e112.wf ((FrS.step e112.wf (FrS.refl (W := ([b110] ++ f109)) e112.wf) e144 Inn.nil).extR e154) e178 Inn.nil).extR e188) e220 (Inn.app Inn.left (Inn.right Inn.refl'))) e238 Inn.nil), u255, u256, (Inn.trans Inn.refl' (ntr (ntr (ntr e144.next e154.next) e178.next) e188.next) i225)⟩
     have r257 := ite_f h228 r215
     refine l_' (.bool true) (aBin Tryd.prog .neq 25 (.tmp 59) (.const .nilIface) (.iface t229 x230) .nilIface) (aBin_nnil (by kernel_rfl)) ?_
     refine q_ (.bool true) ?_
     refine q_ (.bool true) ?_
     refine n_' ?_
     refine n_' ?_
     refine n_' ?_
     refine n_' ?_
     refine q_ (.bool true) ?_
     refine q_ (.bool true) ?_
     refine n_' ?_
     refine n_' ?_
     refine n_' ?_
     refine q_ (.bool true) ?_
     refine s_nil ?_
     obtain rfl := Option.some.inj r257
     exact k136 _ _ ⟨f218, ha_, (FrS.step e112.wf ((FrS.step e112.wf ((FrS.step e112.wf (FrS.refl (W := ([b110] ++ f109)) e112.wf) e144 Inn.nil).extR e154) e178 Inn.nil).extR e188) e220 (Inn.app Inn.left (Inn.right Inn.refl'))), m222, m223, (Inn.trans Inn.refl' (ntr (ntr (ntr e144.next e154.next) e178.next) e188.next) i225)⟩
    have r258 := ite_f h211 r208
    refine q_ (.bool true) ?_
    refine q_ (.bool true) ?_
    refine n_' ?_
    refine n_' ?_
    refine n_' ?_
    refine q_ (.bool true) ?_
    refine q_ (.bool true) ?_
    refine n_' ?_
    refine n_' ?_
    refine n_' ?_
    refine n_' ?_
    refine q_ (.bool true) ?_
    refine q_ (.bool true) ?_
    refine n_' ?_
    refine n_' ?_
    refine n_' ?_
    refine q_ (.bool true) ?_
    refine s_nil ?_
    obtain rfl := Option.some.inj r258
    exact k136 _ _ ⟨f109, ha_, ((FrS.step e112.wf ((FrS.step e112.wf (FrS.refl (W := ([b110] ++ f109)) e112.wf) e144 Inn.nil).extR e154) e178 Inn.nil).extR e188), u204, u205, Inn.refl'⟩
   have r259 := ite_f h201 r198
   rw [nb h201]
   refine q_ (.bool true) ?_
   refine q_ (.bool true) ?_
   refine q_ (.bool true) ?_
   refine n_' ?_
   refine n_' ?_
   refine n_' ?_
   refine q_ (.bool true) ?_
   refine q_ (.bool true) ?_
   refine n_' ?_
   refine n_' ?_
   refine n_' ?_
   refine q_ (.bool true) ?_
   refine q_ (.bool true) ?_
   refine n_' ?_
   refine n_' ?_
   refine n_' ?_
   refine n_' ?_
   refine q_ (.bool true) ?_
   refine q_ (.bool true) ?_
   refine n_' ?_
   refine n_' ?_
   refine n_' ?_
   refine q_ (.bool true) ?_
   refine s_nil ?_
   have u261 := ((u170.fr e178 Dj.nil_l).ext e188)
   have u262 := ((u171.frS e178 Dj.nil_l).ext e188)
   obtain rfl := Option.some.inj r259
   exact k136 _ _ ⟨f109, ha_, ((FrS.step e112.wf ((FrS.step e112.wf (FrS.refl (W := ([b110] ++ f109)) e112.wf) e144 Inn.nil).extR e154) e178 Inn.nil).extR e188), u261, u262, Inn.refl'⟩
  have r263 := ite_f h167 r164
  rw [nb h167]
  refine q_ (.bool true) ?_
  refine q_ (.bool true) ?_
  refine q_ (.bool true) ?_
  refine n_' ?_
  refine n_' ?_
  refine n_' ?_
  refine n_' ?_
  refine n_' ?_
  refine n_' ?_
  refine q_ (.bool true) ?_
  refine q_ (.bool true) ?_
  refine n_' ?_
  refine n_' ?_
  refine n_' ?_
  refine q_ (.bool true) ?_
  refine q_ (.bool true) ?_
  refine n_' ?_
  refine n_' ?_
  refine n_' ?_
  refine q_ (.bool true) ?_
  refine q_ (.bool true) ?_
  refine n_' ?_
  refine n_' ?_
  refine n_' ?_
  refine n_' ?_
  refine q_ (.bool true) ?_
  refine q_ (.bool true) ?_
  refine n_' ?_
  refine n_' ?_
  refine n_' ?_
  refine q_ (.bool true) ?_
  refine s_nil ?_
  have u265 := ((m113.fr e144 Dj.nil_l).ext e154)
  have u266 := ((m114.frS e144 Dj.nil_l).ext e154)
  obtain rfl := Option.some.inj r263
  exact k136 _ _ ⟨f109, ha_, ((FrS.step e112.wf (FrS.refl (W := ([b110] ++ f109)) e112.wf) e144 Inn.nil).extR e154), u265, u266, Inn.refl'⟩
 obtain ⟨f132, hh137, e129, m131, m134, i135⟩ := hM
 obtain ⟨β, rfl⟩ := has_ex hh137
 clear hh137
 refine k124 _ _ ?_
 refine w_cond (o125.2.2.2) (by kernel_rfl) rfl (fun h267 => ?_) (fun h267 => ?_)
 ·have r268 := ite_t h267 r127
  refine w_seqk fun _ k269 => ?_
  refine g_' ?_
  refine q_ (.bool false) ?_
  refine s_nil (k269 _ _ ?_)
  refine w_ret (th_ret ?_)
  refine b_ret (fn := Tryd.f3) (vs := [.bool false]) (aRes_tmp (by kernel_rfl) (rfl)) ?_
  obtain rfl := Option.some.inj r268
  exact ⟨rfl, (FrS.step wf (FrS.step wf ((FrS.step wf (FrS.refl (W := []) wf) e8 Inn.nil).extR e17) e112 Inn.nil) e129 (Inn.app (i116.fresh (ntr e8.next e17.next)) (i115.fresh (ntr e8.next e17.next))))⟩
 have r270 := ite_bf h267 r127
 refine w_skip ?_
 refine k123 _ _ ?_
 refine w_seqk fun _ k271 => ?_
 refine g_' ?_
 refine q_ (pt_ b110 0) ?_
 obtain ⟨y272, hy273, r274⟩ := bind_some r270
 refine s_ck 11 #[pt_ b110 0, i_ 0, i_ 2, .int .u64 4, i_ 1] (by kernel_rfl) (c_overlay_Overlay_Put e129.wf m131 m134 (Dj.symm (i135.dj d117 m114.ltF)) hy273) ?_
 rintro _ H278 ⟨v275, f276, f277, rfl, e279, m280, m281, m282, i283, i284, d285⟩
 refine q_ (.tuple #[.bool y272.1, v275]) ?_
 refine q_ (.bool y272.1) ?_
 refine q_ (v275) ?_
 refine q_ (.bool y272.1) ?_
 refine q_ (v275) ?_
 refine s_nil (k271 _ _ ?_)
 refine w_seqk fun _ k287 => ?_
 refine g_' ?_
 refine q_ (pt_ b110 0) ?_
 obtain ⟨y288, hy289, r290⟩ := bind_some r274
 refine s_ck 11 #[pt_ b110 0, i_ 0, i_ 2, .int .u64 4, i_ 1] (by kernel_rfl) (c_overlay_Overlay_Put e279.wf m281 m282 (Dj.symm (i284.dj (i135.dj d117 m114.ltF) (m114.ltF.le e129.next))) hy289) ?_
 rintro _ H294 ⟨v291, f292, f293, rfl, e295, m296, m297, m298, i299, i300, d301⟩
 refine q_ (.tuple #[.bool y288.1, v291]) ?_
 refine q_ (.bool y288.1) ?_
 refine q_ (v291) ?_
 refine q_ (.bool y288.1) ?_
 refine q_ (v291) ?_
 refine s_nil (k287 _ _ ?_)
 refine w_seqk fun _ k303 => ?_
 refine g_' ?_
 refine q_ (pt_ b110 0) ?_
 obtain ⟨y304, hy305, r306⟩ := bind_some r290
 refine s_ck 11 #[pt_ b110 0, i_ 0, i_ 2, .int .u64 5, i_ (-1)] (by kernel_rfl) (c_overlay_Overlay_Put e295.wf m297 m298 (Dj.symm (i300.dj (i284.dj (i135.dj d117 m114.ltF) (m114.ltF.le e129.next)) (m114.ltF.le (ntr e129.next e279.next)))) hy305) ?_
 rintro _ H310 ⟨v307, f308, f309, rfl, e311, m312, m313, m314, i315, i316, d317⟩
 refine q_ (.tuple #[.bool y304.1, v307]) ?_
 refine q_ (.bool y304.1) ?_
 refine q_ (v307) ?_
 refine q_ (.bool y304.1) ?_
 refine q_ (v307) ?_
 refine s_nil (k303 _ _ ?_)
 refine w_seqk fun _ k319 => ?_
 refine g_' ?_
 refine q_ (pt_ b110 0) ?_
 obtain ⟨y320, hy321, r322⟩ := bind_some r306
 refine s_ck 11 #[pt_ b110 0, i_ 0, i_ 2, .int .u64 3, i_ (-1)] (by kernel_rfl) (c_overlay_Overlay_Put e311.wf m313 m314 (Dj.symm (i316.dj (i300.dj (i284.dj (i135.dj d117 m114.ltF) (m114.ltF.le e129.next)) (m114.ltF.le (ntr e129.next e279.next))) (m114.ltF.le (ntr (ntr e129.next e279.next) e295.next)))) hy321) ?_
 rintro _ H326 ⟨v323, f324, f325, rfl, e327, m328, m329, m330, i331, i332, d333⟩
 refine q_ (.tuple #[.bool y320.1, v323]) ?_
 refine q_ (.bool y320.1) ?_
 refine q_ (v323) ?_
 refine q_ (.bool y320.1) ?_
 refine q_ (v323) ?_
 refine s_nil (k319 _ _ ?_)
 refine w_seqk fun _ k335 => ?_
 refine w_seqk fun _ k336 => ?_
 obtain ⟨o337, hx338, r339⟩ := bind_some r322
 refine w_mid (fun α H340 => Has α [(1, pt_ b110 0), (128, .bool o337)] ∧ FrS [] H326 H340) (fun _ k342 => ?_) (fun α H340 hM => ?_)
 ·refine g_' ?_
  refine q_ (v275) ?_
  have u347 := (((m280.fr e295 (Dj.app (Dj.symm (i283.djn (m114.ltF.le e129.next))) (Dj.symm d285))).fr e311 (Dj.app (Dj.symm (i283.djn (m114.ltF.le e129.next))) (i300.dj (Dj.symm d285) m280.lt))).fr e327 (Dj.app (Dj.symm (i283.djn (m114.ltF.le e129.next))) (i316.dj (i300.dj (Dj.symm d285) m280.lt) (m280.lt.le e295.next))))
  rcases (u347).cases with ⟨h344, rfl⟩ | ⟨h344, t345, x346, rfl⟩
  ·have r348 := ite_t h344 hx338
   refine q_ (.bool false) ?_
   refine q_ (.bool false) ?_
   refine q_ (v291) ?_
   have u352 := ((m296.fr e311 (Dj.app (Dj.symm (i299.djn (m114.ltF.le (ntr e129.next e279.next)))) (Dj.symm d301))).fr e327 (Dj.app (Dj.symm (i299.djn (m114.ltF.le (ntr e129.next e279.next)))) (i316.dj (Dj.symm d301) m296.lt)))
   rcases (u352).cases with ⟨h349, rfl⟩ | ⟨h349, t350, x351, rfl⟩
   ·have r353 := ite_t h349 r348
    refine q_ (.bool false) ?_
    refine q_ (.bool false) ?_
    refine q_ (.bool false) ?_
    refine q_ (v307) ?_
    have u357 := (m312.fr e327 (Dj.app (Dj.symm (i315.djn (m114.ltF.le (ntr (ntr e129.next e279.next) e295.next)))) (Dj.symm d317)))
    rcases (u357).cases with ⟨h354, rfl⟩ | ⟨h354, t355, x356, rfl⟩
    ·have r358 := ite_t h354 r353
     refine q_ (.bool false) ?_
     refine q_ (.bool false) ?_
     refine q_ (.bool false) ?_
     refine q_ (v323) ?_
     rcases (m328).cases with ⟨h359, rfl⟩ | ⟨h359, t360, x361, rfl⟩
     ·have r362 := ite_t h359 r358
      refine q_ (.bool false) ?_
      refine q_ (.bool false) ?_
      refine q_ (.bool false) ?_
      refine q_ (.bool y272.1) ?_
      refine q_ (.bool (!y272.1)) ?_
      refine q_ (.bool (!y272.1)) ?_
      refine q_ (.bool (!y272.1)) ?_
      by_cases h363 : (!y272.1) = true
      ·have r364 := ite_t h363 r362
       rw [h363]
       refine n_' ?_
       refine q_ (.bool true) ?_
       refine q_ (.bool true) ?_
       refine n_' ?_
       refine q_ (.bool true) ?_
       refine q_ (.bool true) ?_
       refine n_' ?_
       refine n_' ?_
       refine q_ (.bool true) ?_
       refine q_ (.bool true) ?_
       refine n_' ?_
       refine n_' ?_
       refine n_' ?_
       refine n_' ?_
       refine n_' ?_
       refine n_' ?_
       refine q_ (.bool true) ?_
       refine s_nil ?_
       obtain rfl := Option.some.inj r364
       exact k342 _ _ ⟨ha_, (FrS.refl (W := []) e327.wf)⟩
      have r365 := ite_f h363 r362
      rw [nb h363]
      refine q_ (.bool y288.1) ?_
      refine q_ (.bool y288.1) ?_
      refine q_ (.bool y288.1) ?_
      by_cases h366 : y288.1 = true
      ·have r367 := ite_t h366 r365
       rw [h366]
       refine n_' ?_
       refine q_ (.bool true) ?_
       refine q_ (.bool true) ?_
       refine n_' ?_
       refine n_' ?_
       refine q_ (.bool true) ?_
       refine q_ (.bool true) ?_
       refine n_' ?_
       refine n_' ?_
       refine n_' ?_
       refine n_' ?_
       refine n_' ?_
       refine n_' ?_
       refine q_ (.bool true) ?_
       refine s_nil ?_
       obtain rfl := Option.some.inj r367
       exact k342 _ _ ⟨ha_, (FrS.refl (W := []) e327.wf)⟩
      have r368 := ite_f h366 r365
      rw [nb h366]
      refine q_ (.bool y304.1) ?_
      refine q_ (.bool y304.1) ?_
      refine q_ (.bool y304.1) ?_
      by_cases h369 : y304.1 = true
      ·have r370 := ite_t h369 r368
       rw [h369]
       refine n_' ?_
       refine n_' ?_
       refine q_ (.bool true) ?_
       refine q_ (.bool true) ?_
       refine n_' ?_
       refine n_' ?_
       refine n_' ?_
       refine n_' ?_
       refine n_' ?_
       refine n_' ?_
       refine q_ (.bool true) ?_
       refine s_nil ?_
       obtain rfl := Option.some.inj r370
       exact k342 _ _ ⟨ha_, (FrS.refl (W := []) e327.wf)⟩
      have r371 := ite_f h369 r368
      rw [nb h369]
      refine q_ (.bool y320.1) ?_
      refine q_ (.bool (!y320.1)) ?_
      refine q_ (.bool (!y320.1)) ?_
      refine q_ (.bool (!y320.1)) ?_
      by_cases h372 : (!y320.1) = true
      ·have r373 := ite_t h372 r371
       rw [h372]
       refine n_' ?_
       refine n_' ?_
       refine n_' ?_
       refine n_' ?_
       refine n_' ?_
       refine n_' ?_
       refine q_ (.bool true) ?_
       refine s_nil ?_
       obtain rfl := Option.some.inj r373
       exact k342 _ _ ⟨ha_, (FrS.refl (W := []) e327.wf)⟩
      have r374 := ite_f h372 r371
      rw [nb h372]
      refine q_ (pt_ b110 0) ?_
      obtain ⟨y375, hy376, r377⟩ := bind_some r374
      refine s_ck 7 #[pt_ b110 0, i_ 0] (by kernel_rfl) (c_overlay_Overlay_Out e327.wf m329 m330 hy376) ?_
      rintro s378 H380 ⟨_, f379, rfl, e381, m382, i383⟩
      obtain ⟨a385, n386, c387, rfl⟩ := m382.form
      refine q_ (.agg #[i_ 2, .int .u64 3, i_ (-1)]) ?_
      refine s_owk (enc := enc_i64_u64_i64) (sz := 3) e381.wf [(2, 3, (-1))] 1 (by decide) (fun _ _ => rfl) (fun _ _ => rfl) rfl (by kernel_rfl) fun s388 f389 H390 e391 hf392 hm393 => ?_
      obtain ⟨a394, n395, c396, rfl⟩ := hm393.form
      have u398 := (m382.ext e391)
      obtain ⟨y399, hy400, r401⟩ := bind_some r377
      refine s_ck 6 #[.slice a385 n386 c387, .slice a394 n395 c396] (by kernel_rfl) (c_viaductlaw11_same e391.wf u398.sq hm393.sq hy400) ?_
      rintro _ _ ⟨rfl, rfl⟩
      refine q_ (.bool (!y399)) ?_
      refine q_ (.bool (!y399)) ?_
      refine s_nil ?_
      obtain rfl := Option.some.inj r401
      exact k342 _ _ ⟨ha_, ((FrS.step e327.wf (FrS.refl (W := []) e327.wf) e381 Inn.nil).extR e391)⟩
     have r404 := ite_f h359 r358
     refine l_' (.bool true) (aBin Tryd.prog .neq 25 (.tmp 104) (.const .nilIface) (.iface t360 x361) .nilIface) (aBin_nnil (by kernel_rfl)) ?_
     refine q_ (.bool true) ?_
     refine q_ (.bool true) ?_
     refine n_' ?_
     refine n_' ?_
     refine q_ (.bool true) ?_
     refine q_ (.bool true) ?_
     refine n_' ?_
     refine q_ (.bool true) ?_
     refine q_ (.bool true) ?_
     refine n_' ?_
     refine q_ (.bool true) ?_
     refine q_ (.bool true) ?_
     refine n_' ?_
     refine n_' ?_
     refine q_ (.bool true) ?_
     refine q_ (.bool true) ?_
     refine n_' ?_
     refine n_' ?_
     refine n_' ?_
     refine n_' ?_
     refine n_' ?_
     refine n_' ?_
     refine q_ (.bool true) ?_
     refine s_nil ?_
     obtain rfl := Option.some.inj r404
     exact k342 _ _ ⟨ha_, (FrS.refl (W := []) e327.wf)⟩
    have r405 := ite_f h354 r353
    refine l_' (.bool true) (aBin Tryd.prog .neq 25 (.tmp 100) (.const .nilIface) (.iface t355 x356) .nilIface) (aBin_nnil (by kernel_rfl)) ?_
    refine q_ (.bool true) ?_
    refine q_ (.bool true) ?_
    refine n_' ?_
    refine n_' ?_
    refine q_ (.bool true) ?_
    refine q_ (.bool true) ?_
    refine n_' ?_
    refine n_' ?_
    refine q_ (.bool true) ?_
    refine q_ (.bool true) ?_
    refine n_' ?_
    refine q_ (.bool true) ?_
    refine q_ (.bool true) ?_
    refine n_' ?_
    refine q_ (.bool true) ?_
    refine q_ (.bool true) ?_
    refine n_' ?_
    refine n_' ?_
    refine q_ (.bool true) ?_
    refine q_ (.bool true) ?_
    refine n_' ?_
    refine n_' ?_
    refine n_' ?_
    refine n_' ?_
    refine n_' ?_
    refine n_' ?_
    refine q_ (.bool true) ?_
    refine s_nil ?_
    obtain rfl := Option.some.inj r405
    exact k342 _ _ ⟨ha_, (FrS.refl (W := []) e327.wf)⟩
   have r406 := ite_f h349 r348
   refine l_' (.bool true) (aBin Tryd.prog .neq 25 (.tmp 96) (.const .nilIface) (.iface t350 x351) .nilIface) (aBin_nnil (by kernel_rfl)) ?_
   refine q_ (.bool true) ?_
   refine q_ (.bool true) ?_
   refine n_' ?_
   refine n_' ?_
   refine q_ (.bool true) ?_
   refine q_ (.bool true) ?_
   refine n_' ?_
   refine n_' ?_
   refine q_ (.bool true) ?_
   refine q_ (.bool true) ?_
   refine n_' ?_
   refine n_' ?_
   refine q_ (.bool true) ?_
   refine q_ (.bool true) ?_
   refine n_' ?_
   refine q_ (.bool true) ?_
   refine q_ (.bool true) ?_
   refine n_' ?_
   refine q_ (.bool true) ?_
   refine q_ (.bool true) ?_
   refine n_' ?_
   refine n_' ?_
   refine q_ (.bool true) ?_
   refine q_ (.bool true) ?_
   refine n_' ?_
   refine n_' ?_
   refine n_' ?_
   refine n_' ?_
   refine n_' ?_
   refine n_' ?_
   refine q_ (.bool true) ?_
   refine s_nil ?_
   obtain rfl := Option.some.inj r406
   exact k342 _ _ ⟨ha_, (FrS.refl (W := []) e327.wf)⟩
  have r407 := ite_f h344 hx338
  refine l_' (.bool true) (aBin Tryd.prog .neq 25 (.tmp 93) (.const .nilIface) (.iface t345 x346) .nilIface) (aBin_nnil (by kernel_rfl)) ?_
  refine q_ (.bool true) ?_
  refine n_' ?_
  refine n_' ?_
  refine q_ (.bool true) ?_
  refine q_ (.bool true) ?_
  refine n_' ?_
  refine n_' ?_
  refine q_ (.bool true) ?_
  refine q_ (.bool true) ?_
  refine n_' ?_
  refine n_' ?_
  refine q_ (.bool true) ?_
  refine q_ (.bool true) ?_
  refine n_' ?_
  refine n_' ?_
  refine q_ (.bool true) ?_
  refine q_ (.bool true) ?_
  refine n_' ?_
  refine q_ (.bool true) ?_
  refine q_ (.bool true) ?_
  refine n_' ?_
  refine q_ (.bool true) ?_
  refine q_ (.bool true) ?_
  refine n_' ?_
  refine n_' ?_
  refine q_ (.bool true) ?_
  refine q_ (.bool true) ?_
  refine n_' ?_
  refine n_' ?_
  refine n_' ?_
  refine n_' ?_
  refine n_' ?_
  refine n_' ?_
  refine q_ (.bool true) ?_
  refine s_nil ?_
  obtain rfl := Option.some.inj r407
  exact k342 _ _ ⟨ha_, (FrS.refl (W := []) e327.wf)⟩
 obtain ⟨hh343, e341⟩ := hM
 obtain ⟨β, rfl⟩ := has_ex hh343
 clear hh343
 refine k336 _ _ ?_
 refine w_cond (o337) (by kernel_rfl) rfl (fun h408 => ?_) (fun h408 => ?_)
 ·have r409 := ite_t h408 r339
  refine w_seqk fun _ k410 => ?_
  refine g_' ?_
  refine q_ (.bool false) ?_
  refine s_nil (k410 _ _ ?_)
  refine w_ret (th_ret ?_)
  refine b_ret (fn := Tryd.f3) (vs := [.bool false]) (aRes_tmp (by kernel_rfl) (rfl)) ?_
  obtain rfl := Option.some.inj r409
  exact ⟨rfl, (FrS.step wf (FrS.step wf (FrS.step wf (FrS.step wf (FrS.step wf (FrS.step wf (FrS.step wf ((FrS.step wf (FrS.refl (W := []) wf) e8 Inn.nil).extR e17) e112 Inn.nil) e129 (Inn.app (i116.fresh (ntr e8.next e17.next)) (i115.fresh (ntr e8.next e17.next)))) e279 (Inn.app (i116.fresh (ntr e8.next e17.next)) (Inn.trans (i115.fresh (ntr e8.next e17.next)) (ntr (ntr e8.next e17.next) e112.next) i135))) e295 (Inn.app (i116.fresh (ntr e8.next e17.next)) (Inn.trans (Inn.trans (i115.fresh (ntr e8.next e17.next)) (ntr (ntr e8.next e17.next) e112.next) i135) (ntr (ntr (ntr e8.next e17.next) e112.next) e129.next) i284))) e311 (Inn.app (i116.fresh (ntr e8.next e17.next)) (Inn.trans (Inn.trans (Inn.trans (i115.fresh (ntr e8.next e17.next)) (ntr (ntr e8.next e17.next) e112.next) i135) (ntr (ntr (ntr e8.next e17.next) e112.next) e129.next) i284) (ntr (ntr (ntr (ntr e8.next e17.next) e112.next) e129.next) e279.next) i300))) e327 (Inn.app (i116.fresh (ntr e8.next e17.next)) (Inn.trans (Inn.trans (Inn.trans (Inn.trans (i115.fresh (ntr e8.next e17.next)) (ntr (ntr e8.next e17.next) e112.next) i135) (ntr (ntr (ntr e8.next e17.next) e112.next) e129.next) i284) (ntr (ntr (ntr (ntr e8.next e17.next) e112.next) e129.next) e279.next) i300) (ntr (ntr (ntr (ntr (ntr e8.next e17.next) e112.next) e129.next) e279.next) e295.next) i316))) e341 Inn.nil)⟩
 have r411 := ite_bf h408 r339
 refine w_skip ?_
 refine k335 _ _ ?_
 refine w_seqk fun _ k412 => ?_
 refine g_' ?_
 refine q_ (pt_ b110 0) ?_
 have u413 := (m329.fr e341 Dj.nil_l)
 have u414 := (m330.frS e341 Dj.nil_l)
 obtain ⟨y415, hy416, r417⟩ := bind_some r411
 refine s_ck 11 #[pt_ b110 0, i_ 0, i_ 1, .int .u64 1125899906842624, i_ 7] (by kernel_rfl) (c_overlay_Overlay_Put e341.wf u413 u414 (Dj.symm (i332.dj (i316.dj (i300.dj (i284.dj (i135.dj d117 m114.ltF) (m114.ltF.le e129.next)) (m114.ltF.le (ntr e129.next e279.next))) (m114.ltF.le (ntr (ntr e129.next e279.next) e295.next))) (m114.ltF.le (ntr (ntr (ntr e129.next e279.next) e295.next) e311.next)))) hy416) ?_
 rintro _ H421 ⟨v418, f419, f420, rfl, e422, m423, m424, m425, i426, i427, d428⟩
 refine q_ (.tuple #[.bool y415.1, v418]) ?_
 refine q_ (.bool y415.1) ?_
 refine q_ (v418) ?_
 refine q_ (v418) ?_
 refine s_nil (k412 _ _ ?_)
 refine w_seqk fun _ k430 => ?_
 refine g_' ?_
 refine q_ (pt_ b110 0) ?_
 obtain ⟨y431, hy432, r433⟩ := bind_some r417
 refine s_ck 11 #[pt_ b110 0, i_ 0, i_ 0, .int .u64 1125899906842624, i_ 7] (by kernel_rfl) (c_overlay_Overlay_Put e422.wf m424 m425 (Dj.symm (i427.dj (i332.dj (i316.dj (i300.dj (i284.dj (i135.dj d117 m114.ltF) (m114.ltF.le e129.next)) (m114.ltF.le (ntr e129.next e279.next))) (m114.ltF.le (ntr (ntr e129.next e279.next) e295.next))) (m114.ltF.le (ntr (ntr (ntr e129.next e279.next) e295.next) e311.next))) (m114.ltF.le (ntr (ntr (ntr (ntr (ntr e129.next e279.next) e295.next) e311.next) e327.next) e341.next)))) hy432) ?_
 rintro _ H437 ⟨v434, f435, f436, rfl, e438, m439, m440, m441, i442, i443, d444⟩
 refine q_ (.tuple #[.bool y431.1, v434]) ?_
 refine q_ (.bool y431.1) ?_
 refine q_ (v434) ?_
 refine q_ (v434) ?_
 refine s_nil (k430 _ _ ?_)
 refine w_seqk fun _ k446 => ?_
 refine g_' ?_
 refine q_ (pt_ b110 0) ?_
 obtain ⟨y447, hy448, r449⟩ := bind_some r433
 refine s_ck 11 #[pt_ b110 0, i_ 0, i_ 2, .int .u64 1, i_ 2] (by kernel_rfl) (c_overlay_Overlay_Put e438.wf m440 m441 (Dj.symm (i443.dj (i427.dj (i332.dj (i316.dj (i300.dj (i284.dj (i135.dj d117 m114.ltF) (m114.ltF.le e129.next)) (m114.ltF.le (ntr e129.next e279.next))) (m114.ltF.le (ntr (ntr e129.next e279.next) e295.next))) (m114.ltF.le (ntr (ntr (ntr e129.next e279.next) e295.next) e311.next))) (m114.ltF.le (ntr (ntr (ntr (ntr (ntr e129.next e279.next) e295.next) e311.next) e327.next) e341.next))) (m114.ltF.le (ntr (ntr (ntr (ntr (ntr (ntr e129.next e279.next) e295.next) e311.next) e327.next) e341.next) e422.next)))) hy448) ?_
 rintro _ H453 ⟨v450, f451, f452, rfl, e454, m455, m456, m457, i458, i459, d460⟩
 refine q_ (.tuple #[.bool y447.1, v450]) ?_
 refine q_ (.bool y447.1) ?_
 refine q_ (v450) ?_
 refine q_ (v450) ?_
 refine s_nil (k446 _ _ ?_)
 refine w_seqk fun _ k462 => ?_
 refine g_' ?_
 refine q_ (pt_ b110 0) ?_
 obtain ⟨y463, hy464, r465⟩ := bind_some r449
 refine s_ck 11 #[pt_ b110 0, i_ 0, i_ 2, .int .u64 140737488355329, i_ 9] (by kernel_rfl) (c_overlay_Overlay_Put e454.wf m456 m457 (Dj.symm (i459.dj (i443.dj (i427.dj (i332.dj (i316.dj (i300.dj (i284.dj (i135.dj d117 m114.ltF) (m114.ltF.le e129.next)) (m114.ltF.le (ntr e129.next e279.next))) (m114.ltF.le (ntr (ntr e129.next e279.next) e295.next))) (m114.ltF.le (ntr (ntr (ntr e129.next e279.next) e295.next) e311.next))) (m114.ltF.le (ntr (ntr (ntr (ntr (ntr e129.next e279.next) e295.next) e311.next) e327.next) e341.next))) (m114.ltF.le (ntr (ntr (ntr (ntr (ntr (ntr e129.next e279.next) e295.next) e311.next) e327.next) e341.next) e422.next))) (m114.ltF.le (ntr (ntr (ntr (ntr (ntr (ntr (ntr e129.next e279.next) e295.next) e311.next) e327.next) e341.next) e422.next) e438.next)))) hy464) ?_
 rintro _ H469 ⟨v466, f467, f468, rfl, e470, m471, m472, m473, i474, i475, d476⟩
 refine q_ (.tuple #[.bool y463.1, v466]) ?_
 refine q_ (.bool y463.1) ?_
 refine q_ (v466) ?_
 refine q_ (v466) ?_
 refine s_nil (k462 _ _ ?_)
 refine w_seqk fun _ k478 => ?_
 refine g_' ?_
 refine q_ (pt_ b110 0) ?_
 obtain ⟨y479, hy480, r481⟩ := bind_some r465
 refine s_ck 11 #[pt_ b110 0, i_ 0, i_ 2, .int .u64 140737488355328, i_ 3] (by kernel_rfl) (c_overlay_Overlay_Put e470.wf m472 m473 (Dj.symm (i475.dj (i459.dj (i443.dj (i427.dj (i332.dj (i316.dj (i300.dj (i284.dj (i135.dj d117 m114.ltF) (m114.ltF.le e129.next)) (m114.ltF.le (ntr e129.next e279.next))) (m114.ltF.le (ntr (ntr e129.next e279.next) e295.next))) (m114.ltF.le (ntr (ntr (ntr e129.next e279.next) e295.next) e311.next))) (m114.ltF.le (ntr (ntr (ntr (ntr (ntr e129.next e279.next) e295.next) e311.next) e327.next) e341.next))) (m114.ltF.le (ntr (ntr (ntr (ntr (ntr (ntr e129.next e279.next) e295.next) e311.next) e327.next) e341.next) e422.next))) (m114.ltF.le (ntr (ntr (ntr (ntr (ntr (ntr (ntr e129.next e279.next) e295.next) e311.next) e327.next) e341.next) e422.next) e438.next))) (m114.ltF.le (ntr (ntr (ntr (ntr (ntr (ntr (ntr (ntr e129.next e279.next) e295.next) e311.next) e327.next) e341.next) e422.next) e438.next) e454.next)))) hy480) ?_
 rintro _ H485 ⟨v482, f483, f484, rfl, e486, m487, m488, m489, i490, i491, d492⟩
 refine q_ (.tuple #[.bool y479.1, v482]) ?_
 refine q_ (.bool y479.1) ?_
 refine q_ (v482) ?_
 refine q_ (.bool y479.1) ?_
 refine q_ (v482) ?_
 refine s_nil (k478 _ _ ?_)
 refine w_seqk fun _ k494 => ?_
 refine g_' ?_
 refine q_ (pt_ b110 0) ?_
 obtain ⟨y495, hy496, r497⟩ := bind_some r481
 refine s_ck 11 #[pt_ b110 0, i_ 0, i_ 2, .int .u64 1, i_ (-2)] (by kernel_rfl) (c_overlay_Overlay_Put e486.wf m488 m489 (Dj.symm (i491.dj (i475.dj (i459.dj (i443.dj (i427.dj (i332.dj (i316.dj (i300.dj (i284.dj (i135.dj d117 m114.ltF) (m114.ltF.le e129.next)) (m114.ltF.le (ntr e129.next e279.next))) (m114.ltF.le (ntr (ntr e129.next e279.next) e295.next))) (m114.ltF.le (ntr (ntr (ntr e129.next e279.next) e295.next) e311.next))) (m114.ltF.le (ntr (ntr (ntr (ntr (ntr e129.next e279.next) e295.next) e311.next) e327.next) e341.next))) (m114.ltF.le (ntr (ntr (ntr (ntr (ntr (ntr e129.next e279.next) e295.next) e311.next) e327.next) e341.next) e422.next))) (m114.ltF.le (ntr (ntr (ntr (ntr (ntr (ntr (ntr e129.next e279.next) e295.next) e311.next) e327.next) e341.next) e422.next) e438.next))) (m114.ltF.le (ntr (ntr (ntr (ntr (ntr (ntr (ntr (ntr e129.next e279.next) e295.next) e311.next) e327.next) e341.next) e422.next) e438.next) e454.next))) (m114.ltF.le (ntr (ntr (ntr (ntr (ntr (ntr (ntr (ntr (ntr e129.next e279.next) e295.next) e311.next) e327.next) e341.next) e422.next) e438.next) e454.next) e470.next)))) hy496) ?_
 rintro _ H501 ⟨v498, f499, f500, rfl, e502, m503, m504, m505, i506, i507, d508⟩
 refine q_ (.tuple #[.bool y495.1, v498]) ?_
 refine q_ (.bool y495.1) ?_
 refine q_ (v498) ?_
 refine q_ (.bool y495.1) ?_
 refine q_ (v498) ?_
 refine s_nil (k494 _ _ ?_)
 refine w_seqk fun _ k510 => ?_
 refine g_' ?_
 refine q_ (pt_ b110 0) ?_
 obtain ⟨y511, hy512, r513⟩ := bind_some r497
 refine s_ck 11 #[pt_ b110 0, i_ 2, i_ 0, .int .u64 140737488355328, i_ 1] (by kernel_rfl) (c_overlay_Overlay_Put e502.wf m504 m505 (Dj.symm (i507.dj (i491.dj (i475.dj (i459.dj (i443.dj (i427.dj (i332.dj (i316.dj (i300.dj (i284.dj (i135.dj d117 m114.ltF) (m114.ltF.le e129.next)) (m114.ltF.le (ntr e129.next e279.next))) (m114.ltF.le (ntr (ntr e129.next e279.next) e295.next))) (m114.ltF.le (ntr (ntr (ntr e129.next e279.next) e295.next) e311.next))) (m114.ltF.le (ntr (ntr (ntr (ntr (ntr e129.next e279.next) e295.next) e311.next) e327.next) e341.next))) (m114.ltF.le (ntr (ntr (ntr (ntr (ntr (ntr e129.next e279.next) e295.next) e311.next) e327.next) e341.next) e422.next))) (m114.ltF.le (ntr (ntr (ntr (ntr (ntr (ntr (ntr e129.next e279.next) e295.next) e311.next) e327.next) e341.next) e422.next) e438.next))) (m114.ltF.le (ntr (ntr (ntr (ntr (ntr (ntr (ntr (ntr e129.next e279.next) e295.next) e311.next) e327.next) e341.next) e422.next) e438.next) e454.next))) (m114.ltF.le (ntr (ntr (ntr (ntr (ntr (ntr (ntr (ntr (ntr e129.next e279.next) e295.next) e311.next) e327.next) e341.next) e422.next) e438.next) e454.next) e470.next))) (m114.ltF.le (ntr (ntr (ntr (ntr (ntr (ntr (ntr (ntr (ntr (ntr e129.next e279.next) e295.next) e311.next) e327.next) e341.next) e422.next) e438.next) e454.next) e470.next) e486.next)))) hy512) ?_
 rintro _ H517 ⟨v514, f515, f516, rfl, e518, m519, m520, m521, i522, i523, d524⟩
 refine q_ (.tuple #[.bool y511.1, v514]) ?_
 refine q_ (.bool y511.1) ?_
 refine q_ (v514) ?_
 refine q_ (.bool y511.1) ?_
 refine q_ (v514) ?_
 refine s_nil (k510 _ _ ?_)
 refine w_seqk fun _ k526 => ?_
 refine w_seqk fun _ k527 => ?_
 obtain ⟨o528, hx529, r530⟩ := bind_some r513
 refine w_mid (fun α H531 => Has α [(219, .bool o528)] ∧ FrS ([b110] ++ f516) H517 H531) (fun _ k533 => ?_) (fun α H531 hM => ?_)
 ·refine g_' ?_
  refine q_ (v418) ?_
  obtain ⟨y535, hy536, r537⟩ := bind_some hx529
  refine s_ck 13 #[i_ 7] (by kernel_rfl) (c_viaductref01_E e518.wf hy536) ?_
  rintro _ H538 ⟨rfl, e539⟩
  have u540 := (((((((m423.fr e438 (Dj.app (Dj.symm (i426.djn (m114.ltF.le (ntr (ntr (ntr (ntr (ntr e129.next e279.next) e295.next) e311.next) e327.next) e341.next)))) (Dj.symm d428))).fr e454 (Dj.app (Dj.symm (i426.djn (m114.ltF.le (ntr (ntr (ntr (ntr (ntr e129.next e279.next) e295.next) e311.next) e327.next) e341.next)))) (i443.dj (Dj.symm d428) m423.lt))).fr e470 (Dj.app (Dj.symm (i426.djn (m114.ltF.le (ntr (ntr (ntr (ntr (ntr e129.next e279.next) e295.next) e311.next) e327.next) e341.next)))) (i459.dj (i443.dj (Dj.symm d428) m423.lt) (m423.lt.le e438.next)))).fr e486 (Dj.app (Dj.symm (i426.djn (m114.ltF.le (ntr (ntr (ntr (ntr (ntr e129.next e279.next) e295.next) e311.next) e327.next) e341.next)))) (i475.dj (i459.dj (i443.dj (Dj.symm d428) m423.lt) (m423.lt.le e438.next)) (m423.lt.le (ntr e438.next e454.next))))).fr e502 (Dj.app (Dj.symm (i426.djn (m114.ltF.le (ntr (ntr (ntr (ntr (ntr e129.next e279.next) e295.next) e311.next) e327.next) e341.next)))) (i491.dj (i475.dj (i459.dj (i443.dj (Dj.symm d428) m423.lt) (m423.lt.le e438.next)) (m423.lt.le (ntr e438.next e454.next))) (m423.lt.le (ntr (ntr e438.next e454.next) e470.next))))).fr e518 (Dj.app (Dj.symm (i426.djn (m114.ltF.le (ntr (ntr (ntr (ntr (ntr e129.next e279.next) e295.next) e311.next) e327.next) e341.next)))) (i507.dj (i491.dj (i475.dj (i459.dj (i443.dj (Dj.symm d428) m423.lt) (m423.lt.le e438.next)) (m423.lt.le (ntr e438.next e454.next))) (m423.lt.le (ntr (ntr e438.next e454.next) e470.next))) (m423.lt.le (ntr (ntr (ntr e438.next e454.next) e470.next) e486.next))))).fr e539 Dj.nil_l)
  obtain ⟨y541, hy542, r543⟩ := bind_some r537
  refine s_ck 12 #[v418, .agg #[i_ y535, .slice none 0 0]] (by kernel_rfl) (c_viaductseen_Same e539.wf u540 (Sq.nil (enc := enc_i64_i64) (sz := 2) (by decide)) hy542) ?_
  rintro _ H544 ⟨rfl, e545⟩
  by_cases h546 : y541 = true
  ·have r547 := ite_t h546 r543
   rw [h546]
   refine q_ (.bool false) ?_
   refine q_ (.bool false) ?_
   refine q_ (v434) ?_
   obtain ⟨y549, hy550, r551⟩ := bind_some r547
   refine s_ck 13 #[i_ 1] (by kernel_rfl) (c_viaductref01_E e545.wf hy550) ?_
   rintro _ H552 ⟨rfl, e553⟩
   have u554 := ((((((((m439.fr e454 (Dj.app (Dj.symm (i442.djn (m114.ltF.le (ntr (ntr (ntr (ntr (ntr (ntr e129.next e279.next) e295.next) e311.next) e327.next) e341.next) e422.next)))) (Dj.symm d444))).fr e470 (Dj.app (Dj.symm (i442.djn (m114.ltF.le (ntr (ntr (ntr (ntr (ntr (ntr e129.next e279.next) e295.next) e311.next) e327.next) e341.next) e422.next)))) (i459.dj (Dj.symm d444) m439.lt))).fr e486 (Dj.app (Dj.symm (i442.djn (m114.ltF.le (ntr (ntr (ntr (ntr (ntr (ntr e129.next e279.next) e295.next) e311.next) e327.next) e341.next) e422.next)))) (i475.dj (i459.dj (Dj.symm d444) m439.lt) (m439.lt.le e454.next)))).fr e502 (Dj.app (Dj.symm (i442.djn (m114.ltF.le (ntr (ntr (ntr (ntr (ntr (ntr e129.next e279.next) e295.next) e311.next) e327.next) e341.next) e422.next)))) (i491.dj (i475.dj (i459.dj (Dj.symm d444) m439.lt) (m439.lt.le e454.next)) (m439.lt.le (ntr e454.next e470.next))))).fr e518 (Dj.app (Dj.symm (i442.djn (m114.ltF.le (ntr (ntr (ntr (ntr (ntr (ntr e129.next e279.next) e295.next) e311.next) e327.next) e341.next) e422.next)))) (i507.dj (i491.dj (i475.dj (i459.dj (Dj.symm d444) m439.lt) (m439.lt.le e454.next)) (m439.lt.le (ntr e454.next e470.next))) (m439.lt.le (ntr (ntr e454.next e470.next) e486.next))))).fr e539 Dj.nil_l).fr e545 Dj.nil_l).fr e553 Dj.nil_l)
   obtain ⟨y555, hy556, r557⟩ := bind_some r551
   refine s_ck 12 #[v434, .agg #[i_ y549, .slice none 0 0]] (by kernel_rfl) (c_viaductseen_Same e553.wf u554 (Sq.nil (enc := enc_i64_i64) (sz := 2) (by decide)) hy556) ?_
   rintro _ H558 ⟨rfl, e559⟩
   by_cases h560 : y555 = true
   ·have r561 := ite_t h560 r557
    rw [h560]
    refine q_ (.bool false) ?_
    refine q_ (.bool false) ?_
    refine q_ (.bool false) ?_
    refine q_ (v450) ?_
    obtain ⟨y563, hy564, r565⟩ := bind_some r561
    refine s_ck 13 #[i_ 1] (by kernel_rfl) (c_viaductref01_E e559.wf hy564) ?_
    rintro _ H566 ⟨rfl, e567⟩
    have u568 := (((((((((m455.fr e470 (Dj.app (Dj.symm (i458.djn (m114.ltF.le (ntr (ntr (ntr (ntr (ntr (ntr (ntr e129.next e279.next) e295.next) e311.next) e327.next) e341.next) e422.next) e438.next)))) (Dj.symm d460))).fr e486 (Dj.app (Dj.symm (i458.djn (m114.ltF.le (ntr (ntr (ntr (ntr (ntr (ntr (ntr e129.next e279.next) e295.next) e311.next) e327.next) e341.next) e422.next) e438.next)))) (i475.dj (Dj.symm d460) m455.lt))).fr e502 (Dj.app (Dj.symm (i458.djn (m114.ltF.le (ntr (ntr (ntr (ntr (ntr (ntr (ntr e129.next e279.next) e295.next) e311.next) e327.next) e341.next) e422.next) e438.next)))) (i491.dj (i475.dj (Dj.symm d460) m455.lt) (m455.lt.le e470.next)))).fr e518 (Dj.app (Dj.symm (i458.djn (m114.ltF.le (ntr (ntr (ntr (ntr (ntr (ntr (ntr e129.next e279.next) e295.next) e311.next) e327.next) e341.next) e422.next) e438.next)))) (i507.dj (i491.dj (i475.dj (Dj.symm d460) m455.lt) (m455.lt.le e470.next)) (m455.lt.le (ntr e470.next e486.next))))).fr e539 Dj.nil_l).fr e545 Dj.nil_l).fr e553 Dj.nil_l).fr e559 Dj.nil_l).fr e567 Dj.nil_l)
    obtain ⟨y569, hy570, r571⟩ := bind_some r565
    refine s_ck 12 #[v450, .agg #[i_ y563, .slice none 0 0]] (by kernel_rfl) (c_viaductseen_Same e567.wf u568 (Sq.nil (enc := enc_i64_i64) (sz := 2) (by decide)) hy570) ?_
    rintro _ H572 ⟨rfl, e573⟩
    by_cases h574 : y569 = true
    ·have r575 := ite_t h574 r571
     rw [h574]
     refine q_ (.bool false) ?_
     refine q_ (.bool false) ?_
     refine q_ (.bool false) ?_
     refine q_ (v466) ?_
     obtain ⟨y577, hy578, r579⟩ := bind_some r575
     refine s_ck 13 #[i_ 8] (by kernel_rfl) (c_viaductref01_E e573.wf hy578) ?_
     rintro _ H580 ⟨rfl, e581⟩
     have u582 := ((((((((((m471.fr e486 (Dj.app (Dj.symm (i474.djn (m114.ltF.le (ntr (ntr (ntr (ntr (ntr (ntr (ntr (ntr e129.next e279.next) e295.next) e311.next) e327.next) e341.next) e422.next) e438.next) e454.next)))) (Dj.symm d476))).fr e502 (Dj.app (Dj.symm (i474.djn (m114.ltF.le (ntr (ntr (ntr (ntr (ntr (ntr (ntr (ntr e129.next e279.next) e295.next) e311.next) e327.next) e341.next) e422.next) e438.next) e454.next)))) (i491.dj (Dj.symm d476) m471.lt))).fr e518 (Dj.app (Dj.symm (i474.djn (m114.ltF.le (ntr (ntr (ntr (ntr (ntr (ntr (ntr (ntr e129.next e279.next) e295.next) e311.next) e327.next) e341.next) e422.next) e438.next) e454.next)))) (i507.dj (i491.dj (Dj.symm d476) m471.lt) (m471.lt.le e486.next)))).fr e539 Dj.nil_l).fr e545 Dj.nil_l).fr e553 Dj.nil_l).fr e559 Dj.nil_l).fr e567 Dj.nil_l).fr e573 Dj.nil_l).fr e581 Dj.nil_l)
     obtain ⟨y583, hy584, r585⟩ := bind_some r579
     refine s_ck 12 #[v466, .agg #[i_ y577, .slice none 0 0]] (by kernel_rfl) (c_viaductseen_Same e581.wf u582 (Sq.nil (enc := enc_i64_i64) (sz := 2) (by decide)) hy584) ?_
     rintro _ H586 ⟨rfl, e587⟩
     by_cases h588 : y583 = true
     ·have r589 := ite_t h588 r585
      rw [h588]
      refine q_ (.bool false) ?_
      refine q_ (.bool false) ?_
      refine q_ (.bool false) ?_
      refine q_ (v482) ?_
      obtain ⟨y591, hy592, r593⟩ := bind_some r589
      refine s_ck 13 #[i_ 1] (by kernel_rfl) (c_viaductref01_E e587.wf hy592) ?_
      rintro _ H594 ⟨rfl, e595⟩
      have u596 := (((((((((((m487.fr e502 (Dj.app (Dj.symm (i490.djn (m114.ltF.le (ntr (ntr (ntr (ntr (ntr (ntr (ntr (ntr (ntr e129.next e279.next) e295.next) e311.next) e327.next) e341.next) e422.next) e438.next) e454.next) e470.next)))) (Dj.symm d492))).fr e518 (Dj.app (Dj.symm (i490.djn (m114.ltF.le (ntr (ntr (ntr (ntr (ntr (ntr (ntr (ntr (ntr e129.next e279.next) e295.next) e311.next) e327.next) e341.next) e422.next) e438.next) e454.next) e470.next)))) (i507.dj (Dj.symm d492) m487.lt))).fr e539 Dj.nil_l).fr e545 Dj.nil_l).fr e553 Dj.nil_l).fr e559 Dj.nil_l).fr e567 Dj.nil_l).fr e573 Dj.nil_l).fr e581 Dj.nil_l).fr e587 Dj.nil_l).fr e595 Dj.nil_l)
      obtain ⟨y597, hy598, r599⟩ := bind_some r593
      refine s_ck 12 #[v482, .agg #[i_ y591, .slice none 0 0]] (by kernel_rfl) (c_viaductseen_Same e595.wf u596 (Sq.nil (enc := enc_i64_i64) (sz := 2) (by decide)) hy598) ?_
      rintro _ H600 ⟨rfl, e601⟩
      by_cases h602 : y597 = true
      ·have r603 := ite_t h602 r599
       rw [h602]
       refine q_ (.bool false) ?_
       refine q_ (.bool false) ?_
       refine q_ (.bool false) ?_
       refine q_ (v498) ?_
       obtain ⟨y605, hy606, r607⟩ := bind_some r603
       refine s_ck 13 #[i_ 1] (by kernel_rfl) (c_viaductref01_E e601.wf hy606) ?_
       rintro _ H608 ⟨rfl, e609⟩
       have u610 := ((((((((((((m503.fr e518 (Dj.app (Dj.symm (i506.djn (m114.ltF.le (ntr (ntr (ntr (ntr (ntr (ntr (ntr (ntr (ntr (ntr e129.next e279.next) e295.next) e311.next) e327.next) e341.next) e422.next) e438.next) e454.next) e470.next) e486.next)))) (Dj.symm d508))).fr e539 Dj.nil_l).fr e545 Dj.nil_l).fr e553 Dj.nil_l).fr e559 Dj.nil_l).fr e567 Dj.nil_l).fr e573 Dj.nil_l).fr e581 Dj.nil_l).fr e587 Dj.nil_l).fr e595 Dj.nil_l).fr e601 Dj.nil_l).fr e609 Dj.nil_l)
       obtain ⟨y611, hy612, r613⟩ := bind_some r607
       refine s_ck 12 #[v498, .agg #[i_ y605, .slice none 0 0]] (by kernel_rfl) (c_viaductseen_Same e609.wf u610 (Sq.nil (enc := enc_i64_i64) (sz := 2) (by decide)) hy612) ?_
       rintro _ H614 ⟨rfl, e615⟩
       by_cases h616 : y611 = true
       ·have r617 := ite_t h616 r613
        rw [h616]
        refine q_ (.bool false) ?_
        refine q_ (.bool false) ?_
        refine q_ (.bool false) ?_
        refine q_ (v514) ?_
        have u622 := ((((((((((((m519.fr e539 Dj.nil_l).fr e545 Dj.nil_l).fr e553 Dj.nil_l).fr e559 Dj.nil_l).fr e567 Dj.nil_l).fr e573 Dj.nil_l).fr e581 Dj.nil_l).fr e587 Dj.nil_l).fr e595 Dj.nil_l).fr e601 Dj.nil_l).fr e609 Dj.nil_l).fr e615 Dj.nil_l)
        rcases (u622).cases with ⟨h619, rfl⟩ | ⟨h619, t620, x621, rfl⟩
        ·have r623 := ite_t h619 r617
         refine q_ (.bool false) ?_
         refine q_ (.bool false) ?_
         refine q_ (.bool false) ?_
         refine q_ (.bool y511.1) ?_
         refine q_ (.bool (!y511.1)) ?_
         refine q_ (.bool (!y511.1)) ?_
         refine q_ (.bool (!y511.1)) ?_
         by_cases h624 : (!y511.1) = true
         ·have r625 := ite_t h624 r623
          rw [h624]
          refine n_' ?_
          refine n_' ?_
          refine n_' ?_
          refine n_' ?_
          refine n_' ?_
          refine q_ (.bool true) ?_
          refine q_ (.bool true) ?_
          refine n_' ?_
          refine n_' ?_
          refine n_' ?_
          refine n_' ?_
          refine n_' ?_
          refine q_ (.bool true) ?_
          refine s_nil ?_
          obtain rfl := Option.some.inj r625
          exact k533 _ _ ⟨ha_, (FrS.step e518.wf (FrS.step e518.wf (FrS.step e518.wf (FrS.step e518.wf (FrS.step e518.wf (FrS.step e518.wf (FrS.step e518.wf (FrS.step e518.wf (FrS.step e518.wf (FrS.step e518.wf (FrS.step e518.wf (FrS.step e518.wf (FrS.refl (W := ([b110] ++ f516)) e518.wf) e539 Inn.nil) e545 Inn.nil) e553 Inn.nil) e559 Inn.nil) e567 Inn.nil) e573 Inn.nil) e581 Inn.nil) e587 Inn.nil) e595 Inn.nil) e601 Inn.nil) e609 Inn.nil) e615 Inn.nil)⟩
         have r626 := ite_f h624 r623
         rw [nb h624]
         refine q_ (pt_ b110 0) ?_
         have u627 := ((((((((((((m520.fr e539 Dj.nil_l).fr e545 Dj.nil_l).fr e553 Dj.nil_l).fr e559 Dj.nil_l).fr e567 Dj.nil_l).fr e573 Dj.nil_l).fr e581 Dj.nil_l).fr e587 Dj.nil_l).fr e595 Dj.nil_l).fr e601 Dj.nil_l).fr e609 Dj.nil_l).fr e615 Dj.nil_l)
         have u628 := ((((((((((((m521.frS e539 Dj.nil_l).frS e545 Dj.nil_l).frS e553 Dj.nil_l).frS e559 Dj.nil_l).frS e567 Dj.nil_l).frS e573 Dj.nil_l).frS e581 Dj.nil_l).frS e587 Dj.nil_l).frS e595 Dj.nil_l).frS e601 Dj.nil_l).frS e609 Dj.nil_l).frS e615 Dj.nil_l)
         obtain ⟨y629, hy630, r631⟩ := bind_some r626
         refine s_ck 10 #[pt_ b110 0, i_ 1] (by kernel_rfl) (c_overlay_Overlay_Remove e615.wf u627 u628 (i523.dj (i507.dj (i491.dj (i475.dj (i459.dj (i443.dj (i427.dj (i332.dj (i316.dj (i300.dj (i284.dj (i135.dj d117 m114.ltF) (m114.ltF.le e129.next)) (m114.ltF.le (ntr e129.next e279.next))) (m114.ltF.le (ntr (ntr e129.next e279.next) e295.next))) (m114.ltF.le (ntr (ntr (ntr e129.next e279.next) e295.next) e311.next))) (m114.ltF.le (ntr (ntr (ntr (ntr (ntr e129.next e279.next) e295.next) e311.next) e327.next) e341.next))) (m114.ltF.le (ntr (ntr (ntr (ntr (ntr (ntr e129.next e279.next) e295.next) e311.next) e327.next) e341.next) e422.next))) (m114.ltF.le (ntr (ntr (ntr (ntr (ntr (ntr (ntr e129.next e279.next) e295.next) e311.next) e327.next) e341.next) e422.next) e438.next))) (m114.ltF.le (ntr (ntr (ntr (ntr (ntr (ntr (ntr (ntr e129.next e279.next) e295.next) e311.next) e327.next) e341.next) e422.next) e438.next) e454.next))) (m114.ltF.le (ntr (ntr (ntr (ntr (ntr (ntr (ntr (ntr (ntr e129.next e279.next) e295.next) e311.next) e327.next) e341.next) e422.next) e438.next) e454.next) e470.next))) (m114.ltF.le (ntr (ntr (ntr (ntr (ntr (ntr (ntr (ntr (ntr (ntr e129.next e279.next) e295.next) e311.next) e327.next) e341.next) e422.next) e438.next) e454.next) e470.next) e486.next))) (m114.ltF.le (ntr (ntr (ntr (ntr (ntr (ntr (ntr (ntr (ntr (ntr (ntr e129.next e279.next) e295.next) e311.next) e327.next) e341.next) e422.next) e438.next) e454.next) e470.next) e486.next) e502.next))) hy630) ?_
         rintro v632 H635 ⟨_, f633, f634, rfl, e636, m637, m638, m639, i640, i641, d642⟩
         obtain ⟨y644, hy645, r646⟩ := bind_some r631
         refine s_ck 13 #[i_ 7] (by kernel_rfl) (c_viaductref01_E e636.wf hy645) ?_
         rintro _ H647 ⟨rfl, e648⟩
         have u649 := (m637.fr e648 Dj.nil_l)
         obtain ⟨y650, hy651, r652⟩ := bind_some r646
         refine s_ck 12 #[v632, .agg #[i_ y644, .slice none 0 0]] (by kernel_rfl) (c_viaductseen_Same e648.wf u649 (Sq.nil (enc := enc_i64_i64) (sz := 2) (by decide)) hy651) ?_
         rintro _ H653 ⟨rfl, e654⟩
         by_cases h655 : y650 = true
         ·have r656 := ite_t h655 r652
          rw [h655]
          refine q_ (.bool false) ?_
          refine q_ (.bool false) ?_
          refine q_ (.bool false) ?_
          refine q_ (pt_ b110 0) ?_
          have u658 := ((m638.fr e648 Dj.nil_l).fr e654 Dj.nil_l)
          have u659 := ((m639.frS e648 Dj.nil_l).frS e654 Dj.nil_l)
          have n660 := (ntr (ntr (ntr (ntr (ntr (ntr (ntr e341.next e422.next) e438.next) e454.next) e470.next) e486.next) e502.next) e518.next)
          have n661 := (ntr (ntr (ntr (ntr (ntr (ntr (ntr e539.next e545.next) e553.next) e559.next) e567.next) e573.next) e581.next) e587.next)
          obtain ⟨y662, hy663, r664⟩ := bind_some r656
          refine s_ck 10 #[pt_ b110 0, i_ 7] (by kernel_rfl) (c_overlay_Overlay_Remove e654.wf u658 u659 (i641.dj (i523.dj (i507.dj (i491.dj (i475.dj (i459.dj (i443.dj (i427.dj (i332.dj (i316.dj (i300.dj (i284.dj (i135.dj d117 m114.ltF) (m114.ltF.le e129.next)) (m114.ltF.le (ntr e129.next e279.next))) (m114.ltF.le (ntr (ntr e129.next e279.next) e295.next))) (m114.ltF.le (ntr (ntr (ntr e129.next e279.next) e295.next) e311.next))) (m114.ltF.le (ntr (ntr (ntr (ntr (ntr e129.next e279.next) e295.next) e311.next) e327.next) e341.next))) (m114.ltF.le (ntr (ntr (ntr (ntr (ntr (ntr e129.next e279.next) e295.next) e311.next) e327.next) e341.next) e422.next))) (m114.ltF.le (ntr (ntr (ntr (ntr (ntr (ntr (ntr e129.next e279.next) e295.next) e311.next) e327.next) e341.next) e422.next) e438.next))) (m114.ltF.le (ntr (ntr (ntr (ntr (ntr (ntr (ntr (ntr e129.next e279.next) e295.next) e311.next) e327.next) e341.next) e422.next) e438.next) e454.next))) (m114.ltF.le (ntr (ntr (ntr (ntr (ntr (ntr (ntr (ntr (ntr e129.next e279.next) e295.next) e311.next) e327.next) e341.next) e422.next) e438.next) e454.next) e470.next))) (m114.ltF.le (ntr (ntr (ntr (ntr (ntr (ntr (ntr (ntr (ntr (ntr e129.next e279.next) e295.next) e311.next) e327.next) e341.next) e422.next) e438.next) e454.next) e470.next) e486.next))) (m114.ltF.le (ntr (ntr (ntr (ntr (ntr (ntr (ntr (ntr (ntr (ntr (ntr e129.next e279.next) e295.next) e311.next) e327.next) e341.next) e422.next) e438.next) e454.next) e470.next) e486.next) e502.next))) (m114.ltF.le (ntr (ntr (ntr (ntr (ntr (ntr (ntr (ntr (ntr (ntr e129.next e279.next) e295.next) e311.next) e327.next) n660) n661) e595.next) e601.next) e609.next) e615.next))) hy663) ?_
          rintro v665 H668 ⟨_, f666, f667, rfl, e669, m670, m671, m672, i673, i674, d675⟩
          obtain ⟨y677, hy678, r679⟩ := bind_some r664
          refine s_ck 13 #[i_ 7] (by kernel_rfl) (c_viaductref01_E e669.wf hy678) ?_
          rintro _ H680 ⟨rfl, e681⟩
          have u682 := (m670.fr e681 Dj.nil_l)
          obtain ⟨y683, hy684, r685⟩ := bind_some r679
          refine s_ck 12 #[v665, .agg #[i_ y677, .slice none 0 0]] (by kernel_rfl) (c_viaductseen_Same e681.wf u682 (Sq.nil (enc := enc_i64_i64) (sz := 2) (by decide)) hy684) ?_
          rintro _ H686 ⟨rfl, e687⟩
          refine q_ (.bool (!y683)) ?_
          refine q_ (.bool (!y683)) ?_
          refine s_nil ?_
          obtain rfl := Option.some.inj r685
          exact k533 _ _ ⟨ha_, (FrS.step e518.wf (FrS.step e518.wf (FrS.step e518.wf (FrS.step e518.wf (FrS.step e518.wf (FrS.step e518.wf (FrS.step e518.wf (FrS.step e518.wf (FrS.step e518.wf (FrS.step e518.wf (FrS.step e518.wf (FrS.step e518.wf (FrS.step e518.wf (FrS.step e518.wf (FrS.step e518.wf (FrS.step e518.wf (FrS.step e518.wf (FrS.step e518.wf (FrS.refl (W := ([b110] ++ f516)) e518.wf) e539 Inn.nil) e545 Inn.nil) e553 Inn.nil) e559 Inn.nil) e567 Inn.nil) e573 Inn.nil) e581 Inn.nil) e587 Inn.nil) e595 Inn.nil) e601 Inn.nil) e609 Inn.nil) e615 Inn.nil) e636 (Inn.app Inn.left (Inn.right Inn.refl'))) e648 Inn.nil) e654 Inn.nil) e669 (Inn.app Inn.left (Inn.trans (Inn.right Inn.refl') (ntr (ntr (ntr (ntr (ntr (ntr (ntr (ntr (ntr (ntr (ntr e539.next e545.next) e553.next) e559.next) e567.next) e573.next) e581.next) e587.next) e595.next) e601.next) e609.next) e615.next) i641))) e681 Inn.nil) e687 Inn.nil)⟩
         have r688 := ite_f h655 r652
         rw [nb h655]
         refine q_ (.bool true) ?_
         refine q_ (.bool true) ?_
         refine q_ (.bool true) ?_
         refine n_' ?_
         refine n_' ?_
         refine n_' ?_
         refine n_' ?_
         refine n_' ?_
         refine q_ (.bool true) ?_
         refine s_nil ?_
         obtain rfl := Option.some.inj r688
         exact k533 _ _ ⟨ha_, (FrS.step e518.wf (FrS.step e518.wf (FrS.step e518.wf (FrS.step e518.wf (FrS.step e518.wf (FrS.step e518.wf (FrS.step e518.wf (FrS.step e518.wf (FrS.step e518.wf (FrS.step e518.wf (FrS.step e518.wf (FrS.step e518.wf (FrS.step e518.wf (FrS.step e518.wf (FrS.step e518.wf (FrS.refl (W := ([b110] ++ f516)) e518.wf) e539 Inn.nil) e545 Inn.nil) e553 Inn.nil) e559 Inn.nil) e567 Inn.nil) e573 Inn.nil) e581 Inn.nil) e587 Inn.nil) e595 Inn.nil) e601 Inn.nil) e609 Inn.nil) e615 Inn.nil) e636 (Inn.app Inn.left (Inn.right Inn.refl'))) e648 Inn.nil) e654 Inn.nil)⟩
        have r690 := ite_f h619 r617
        refine l_' (.bool true) (aBin Tryd.prog .neq 25 (.tmp 199) (.const .nilIface) (.iface t620 x621) .nilIface) (aBin_nnil (by kernel_rfl)) ?_
        refine q_ (.bool true) ?_
        refine q_ (.bool true) ?_
        refine n_' ?_
        refine n_' ?_
        refine q_ (.bool true) ?_
        refine q_ (.bool true) ?_
        refine n_' ?_
        refine n_' ?_
        refine n_' ?_
        refine n_' ?_
        refine n_' ?_
        refine q_ (.bool true) ?_
        refine q_ (.bool true) ?_
        refine n_' ?_
        refine n_' ?_
        refine n_' ?_
        refine n_' ?_
        refine n_' ?_
        refine q_ (.bool true) ?_
        refine s_nil ?_
        obtain rfl := Option.some.inj r690
        exact k533 _ _ ⟨ha_, (FrS.step e518.wf (FrS.step e518.wf (FrS.step e518.wf (FrS.step e518.wf (FrS.step e518.wf (FrS.step e518.wf (FrS.step e518.wf (FrS.step e518.wf (FrS.step e518.wf (FrS.step e518.wf (FrS.step e518.wf (FrS.step e518.wf (FrS.refl (W := ([b110] ++ f516)) e518.wf) e539 Inn.nil) e545 Inn.nil) e553 Inn.nil) e559 Inn.nil) e567 Inn.nil) e573 Inn.nil) e581 Inn.nil) e587 Inn.nil) e595 Inn.nil) e601 Inn.nil) e609 Inn.nil) e615 Inn.nil)⟩
       have r691 := ite_f h616 r613
       rw [nb h616]
       refine q_ (.bool true) ?_
       refine q_ (.bool true) ?_
       refine q_ (.bool true) ?_
       refine n_' ?_
       refine n_' ?_
       refine q_ (.bool true) ?_
       refine q_ (.bool true) ?_
       refine n_' ?_
       refine n_' ?_
       refine q_ (.bool true) ?_
       refine q_ (.bool true) ?_
       refine n_' ?_
       refine n_' ?_
       refine n_' ?_
       refine n_' ?_
       refine n_' ?_
       refine q_ (.bool true) ?_
       refine q_ (.bool true) ?_
       refine n_' ?_
       refine n_' ?_
       refine n_' ?_
       refine n_' ?_
       refine n_' ?_
       refine q_ (.bool true) ?_
       refine s_nil ?_
       obtain rfl := Option.some.inj r691
       exact k533 _ _ ⟨ha_, (FrS.step e518.wf (FrS.step e518.wf (FrS.step e518.wf (FrS.step e518.wf (FrS.step e518.wf (FrS.step e518.wf (FrS.step e518.wf (FrS.step e518.wf (FrS.step e518.wf (FrS.step e518.wf (FrS.step e518.wf (FrS.step e518.wf (FrS.refl (W := ([b110] ++ f516)) e518.wf) e539 Inn.nil) e545 Inn.nil) e553 Inn.nil) e559 Inn.nil) e567 Inn.nil) e573 Inn.nil) e581 Inn.nil) e587 Inn.nil) e595 Inn.nil) e601 Inn.nil) e609 Inn.nil) e615 Inn.nil)⟩
      have r693 := ite_f h602 r599
      rw [nb h602]
      refine q_ (.bool true) ?_
      refine q_ (.bool true) ?_
      refine q_ (.bool true) ?_
      refine n_' ?_
      refine n_' ?_
      refine n_' ?_
      refine n_' ?_
      refine q_ (.bool true) ?_
      refine q_ (.bool true) ?_
      refine n_' ?_
      refine n_' ?_
      refine q_ (.bool true) ?_
      refine q_ (.bool true) ?_
      refine n_' ?_
      refine n_' ?_
      refine q_ (.bool true) ?_
      refine q_ (.bool true) ?_
      refine n_' ?_
      refine n_' ?_
      refine n_' ?_
      refine n_' ?_
      refine n_' ?_
      refine q_ (.bool true) ?_
      refine q_ (.bool true) ?_
      refine n_' ?_
      refine n_' ?_
      refine n_' ?_
      refine n_' ?_
      refine n_' ?_
      refine q_ (.bool true) ?_
      refine s_nil ?_
      obtain rfl := Option.some.inj r693
      exact k533 _ _ ⟨ha_, (FrS.step e518.wf (FrS.step e518.wf (FrS.step e518.wf (FrS.step e518.wf (FrS.step e518.wf (FrS.step e518.wf (FrS.step e518.wf (FrS.step e518.wf (FrS.step e518.wf (FrS.step e518.wf (FrS.refl (W := ([b110] ++ f516)) e518.wf) e539 Inn.nil) e545 Inn.nil) e553 Inn.nil) e559 Inn.nil) e567 Inn.nil) e573 Inn.nil) e581 Inn.nil) e587 Inn.nil) e595 Inn.nil) e601 Inn.nil)⟩
     have r695 := ite_f h588 r585
     rw [nb h588]
     refine q_ (.bool true) ?_
     refine q_ (.bool true) ?_
     refine q_ (.bool true) ?_
     refine n_' ?_
     refine n_' ?_
     refine n_' ?_
     refine n_' ?_
     refine q_ (.bool true) ?_
     refine q_ (.bool true) ?_
     refine n_' ?_
     refine n_' ?_
     refine n_' ?_
     refine n_' ?_
     refine q_ (.bool true) ?_
     refine q_ (.bool true) ?_
     refine n_' ?_
     refine n_' ?_
     refine q_ (.bool true) ?_
     refine q_ (.bool true) ?_
     refine n_' ?_
     refine n_' ?_
     refine q_ (.bool true) ?_
     refine q_ (.bool true) ?_
     refine n_' ?_
     refine n_' ?_
     refine n_' ?_
     refine n_' ?_
     refine n_' ?_
     refine q_ (.bool true) ?_
     refine q_ (.bool true) ?_
     refine n_' ?_
     refine n_' ?_
     refine n_' ?_
     refine n_' ?_
     refine n_' ?_
     refine q_ (.bool true) ?_
     refine s_nil ?_
     obtain rfl := Option.some.inj r695
     exact k533 _ _ ⟨ha_, (FrS.step e518.wf (FrS.step e518.wf (FrS.step e518.wf (FrS.step e518.wf (FrS.step e518.wf (FrS.step e518.wf (FrS.step e518.wf (FrS.step e518.wf (FrS.refl (W := ([b110] ++ f516)) e518.wf) e539 Inn.nil) e545 Inn.nil) e553 Inn.nil) e559 Inn.nil) e567 Inn.nil) e573 Inn.nil) e581 Inn.nil) e587 Inn.nil)⟩
    have r697 := ite_f h574 r571
    rw [nb h574]
    refine q_ (.bool true) ?_
    refine q_ (.bool true) ?_
    refine q_ (.bool true) ?_
    refine n_' ?_
    refine n_' ?_
    refine n_' ?_
    refine n_' ?_
    refine q_ (.bool true) ?_
    refine q_ (.bool true) ?_
    refine n_' ?_
    refine n_' ?_
    refine n_' ?_
    refine n_' ?_
    refine q_ (.bool true) ?_
    refine q_ (.bool true) ?_
    refine n_' ?_
    refine n_' ?_
    refine n_' ?_
    refine n_' ?_
    refine q_ (.bool true) ?_
    refine q_ (.bool true) ?_
    refine n_' ?_
    refine n_' ?_
    refine q_ (.bool true) ?_
    refine q_ (.bool true) ?_
    refine n_' ?_
    refine n_' ?_
    refine q_ (.bool true) ?_
    refine q_ (.bool true) ?_
    refine n_' ?_
    refine n_' ?_
    refine n_' ?_
    refine n_' ?_
    refine n_' ?_
    refine q_ (.bool true) ?_
    refine q_ (.bool true) ?_
    refine n_' ?_
    refine n_' ?_
    refine n_' ?_
    refine n_' ?_
    refine n_' ?_
    refine q_ (.bool true) ?_
    refine s_nil ?_
    obtain rfl := Option.some.inj r697
    exact k533 _ _ ⟨ha_, (FrS.step e518.wf (FrS.step e518.wf (FrS.step e518.wf (FrS.step e518.wf (FrS.step e518.wf (FrS.step e518.wf (FrS.refl (W := ([b110] ++ f516)) e518.wf) e539 Inn.nil) e545 Inn.nil) e553 Inn.nil) e559 Inn.nil) e567 Inn.nil) e573 Inn.nil)⟩
   have r699 := ite_f h560 r557
   rw [nb h560]
   refine q_ (.bool true) ?_
   refine q_ (.bool true) ?_
   refine q_ (.bool true) ?_
   refine n_' ?_
   refine n_' ?_
   refine n_' ?_
   refine n_' ?_
   refine q_ (.bool true) ?_
   refine q_ (.bool true) ?_
   refine n_' ?_
   refine n_' ?_
   refine n_' ?_
   refine n_' ?_
   refine q_ (.bool true) ?_
   refine q_ (.bool true) ?_
   refine n_' ?_
   refine n_' ?_
   refine n_' ?_
   refine n_' ?_
   refine q_ (.bool true) ?_
   refine q_ (.bool true) ?_
   refine n_' ?_
   refine n_' ?_
   refine n_' ?_
   refine n_' ?_
   refine q_ (.bool true) ?_
   refine q_ (.bool true) ?_
   refine n_' ?_
   refine n_' ?_
   refine q_ (.bool true) ?_
   refine q_ (.bool true) ?_
   refine n_' ?_
   refine n_' ?_
   refine q_ (.bool true) ?_
   refine q_ (.bool true) ?_
   refine n_' ?_
   refine n_' ?_
   refine n_' ?_
   refine n_' ?_
   refine n_' ?_
   refine q_ (.bool true) ?_
   refine q_ (.bool true) ?_
   refine n_' ?_
   refine n_' ?_
   refine n_' ?_
   refine n_' ?_
   refine n_' ?_
   refine q_ (.bool true) ?_
   refine s_nil ?_
   obtain rfl := Option.some.inj r699
   exact k533 _ _ ⟨ha_, (FrS.step e518.wf (FrS.step e518.wf (FrS.step e518.wf (FrS.step e518.wf (FrS.refl (W := ([b110] ++ f516)) e518.wf) e539 Inn.nil) e545 Inn.nil) e553 Inn.nil) e559 Inn.nil)⟩
  have r701 := ite_f h546 r543
  rw [nb h546]
  refine q_ (.bool true) ?_
  refine q_ (.bool true) ?_
  refine n_' ?_
  refine n_' ?_
  refine n_' ?_
  refine n_' ?_
  refine q_ (.bool true) ?_
  refine q_ (.bool true) ?_
  refine n_' ?_
  refine n_' ?_
  refine n_' ?_
  refine n_' ?_
  refine q_ (.bool true) ?_
  refine q_ (.bool true) ?_
  refine n_' ?_
  refine n_' ?_
  refine n_' ?_
  refine n_' ?_
  refine q_ (.bool true) ?_
  refine q_ (.bool true) ?_
  refine n_' ?_
  refine n_' ?_
  refine n_' ?_
  refine n_' ?_
  refine q_ (.bool true) ?_
  refine q_ (.bool true) ?_
  refine n_' ?_
  refine n_' ?_
  refine n_' ?_
  refine n_' ?_
  refine q_ (.bool true) ?_
  refine q_ (.bool true) ?_
  refine n_' ?_
  refine n_' ?_
  refine q_ (.bool true) ?_
  refine q_ (.bool true) ?_
  refine n_' ?_
  refine n_' ?_
  refine q_ (.bool true) ?_
  refine q_ (.bool true) ?_
  refine n_' ?_
  refine n_' ?_
  refine n_' ?_
  refine n_' ?_
  refine n_' ?_
  refine q_ (.bool true) ?_
  refine q_ (.bool true) ?_
  refine n_' ?_
  refine n_' ?_
  refine n_' ?_
  refine n_' ?_
  refine n_' ?_
  refine q_ (.bool true) ?_
  refine s_nil ?_
  obtain rfl := Option.some.inj r701
  exact k533 _ _ ⟨ha_, (FrS.step e518.wf (FrS.step e518.wf (FrS.refl (W := ([b110] ++ f516)) e518.wf) e539 Inn.nil) e545 Inn.nil)⟩
 obtain ⟨hh534, e532⟩ := hM
 obtain ⟨β, rfl⟩ := has_ex hh534
 clear hh534
 refine k527 _ _ ?_
 refine w_cond (o528) (by kernel_rfl) rfl (fun h703 => ?_) (fun h703 => ?_)
 ·have r704 := ite_t h703 r530
  refine w_seqk fun _ k705 => ?_
  refine g_' ?_
  refine q_ (.bool false) ?_
  refine s_nil (k705 _ _ ?_)
  refine w_ret (th_ret ?_)
  refine b_ret (fn := Tryd.f3) (vs := [.bool false]) (aRes_tmp (by kernel_rfl) (rfl)) ?_
  obtain rfl := Option.some.inj r704
  exact ⟨rfl, (FrS.step wf (FrS.step wf (FrS.step wf (FrS.step wf (FrS.step wf (FrS.step wf (FrS.step wf (FrS.step wf (FrS.step wf (FrS.step wf (FrS.step wf (FrS.step wf (FrS.step wf (FrS.step wf (FrS.step wf ((FrS.step wf (FrS.refl (W := []) wf) e8 Inn.nil).extR e17) e112 Inn.nil) e129 (Inn.app (i116.fresh (ntr e8.next e17.next)) (i115.fresh (ntr e8.next e17.next)))) e279 (Inn.app (i116.fresh (ntr e8.next e17.next)) (Inn.trans (i115.fresh (ntr e8.next e17.next)) (ntr (ntr e8.next e17.next) e112.next) i135))) e295 (Inn.app (i116.fresh (ntr e8.next e17.next)) (Inn.trans (Inn.trans (i115.fresh (ntr e8.next e17.next)) (ntr (ntr e8.next e17.next) e112.next) i135) (ntr (ntr (ntr e8.next e17.next) e112.next) e129.next) i284))) e311 (Inn.app (i116.fresh (ntr e8.next e17.next)) (Inn.trans (Inn.trans (Inn.trans (i115.fresh (ntr e8.next e17.next)) (ntr (ntr e8.next e17.next) e112.next) i135) (ntr (ntr (ntr e8.next e17.next) e112.next) e129.next) i284) (ntr (ntr (ntr (ntr e8.next e17.next) e112.next) e129.next) e279.next) i300))) e327 (Inn.app (i116.fresh (ntr e8.next e17.next)) (Inn.trans (Inn.trans (Inn.trans (Inn.trans (i115.fresh (ntr e8.next e17.next)) (ntr (ntr e8.next e17.next) e112.next) i135) (ntr (ntr (ntr e8.next e17.next) e112.next) e129.next) i284) (ntr (ntr (ntr (ntr e8.next e17.next) e112.next) e129.next) e279.next) i300) (ntr (ntr (ntr (ntr (ntr e8.next e17.next) e112.next) e129.next) e279.next) e295.next) i316))) e341 Inn.nil) e422 (Inn.app (i116.fresh (ntr e8.next e17.next)) (Inn.trans (Inn.trans (Inn.trans (Inn.trans (Inn.trans (i115.fresh (ntr e8.next e17.next)) (ntr (ntr e8.next e17.next) e112.next) i135) (ntr (ntr (ntr e8.next e17.next) e112.next) e129.next) i284) (ntr (ntr (ntr (ntr e8.next e17.next) e112.next) e129.next) e279.next) i300) (ntr (ntr (ntr (ntr (ntr e8.next e17.next) e112.next) e129.next) e279.next) e295.next) i316) (ntr (ntr (ntr (ntr (ntr (ntr e8.next e17.next) e112.next) e129.next) e279.next) e295.next) e311.next) i332))) e438 (Inn.app (i116.fresh (ntr e8.next e17.next)) (Inn.trans (Inn.trans (Inn.trans (Inn.trans (Inn.trans (Inn.trans (i115.fresh (ntr e8.next e17.next)) (ntr (ntr e8.next e17.next) e112.next) i135) (ntr (ntr (ntr e8.next e17.next) e112.next) e129.next) i284) (ntr (ntr (ntr (ntr e8.next e17.next) e112.next) e129.next) e279.next) i300) (ntr (ntr (ntr (ntr (ntr e8.next e17.next) e112.next) e129.next) e279.next) e295.next) i316) (ntr (ntr (ntr (ntr (ntr (ntr e8.next e17.next) e112.next) e129.next) e279.next) e295.next) e311.next) i332) (ntr (ntr (ntr (ntr (ntr (ntr (ntr (ntr e8.next e17.next) e112.next) e129.next) e279.next) e295.next) e311.next) e327.next) e341.next) i427))) e454 (Inn.app (i116.fresh (ntr e8.next e17.next)) (Inn.trans (Inn.trans (Inn.trans (Inn.trans (Inn.trans (Inn.trans (Inn.trans (i115.fresh (ntr e8.next e17.next)) (ntr (ntr e8.next e17.next) e112.next) i135) (ntr (ntr (ntr e8.next e17.next) e112.next) e129.next) i284) (ntr (ntr (ntr (ntr e8.next e17.next) e112.next) e129.next) e279.next) i300) (ntr (ntr (ntr (ntr (ntr e8.next e17.next) e112.next) e129.next) e279.next) e295.next) i316) (ntr (ntr (ntr (ntr (ntr (ntr e8.next e17.next) e112.next) e129.next) e279.next) e295.next) e311.next) i332) (ntr (ntr (ntr (ntr (ntr (ntr (ntr (ntr e8.next e17.next) e112.next) e129.next) e279.next) e295.next) e311.next) e327.next) e341.next) i427) (ntr (ntr (ntr (ntr (ntr (ntr (ntr (ntr (ntr e8.next e17.next) e112.next) e129.next) e279.next) e295.next) e311.next) e327.next) e341.next) e422.next) i443))) e470 (Inn.app (i116.fresh (ntr e8.next e17.next)) (Inn.trans (Inn.trans (Inn.trans (Inn.trans (Inn.trans (Inn.trans (Inn.trans (Inn.trans (i115.fresh (ntr e8.next e17.next)) (ntr (ntr e8.next e17.next) e112.next) i135) (ntr (ntr (ntr e8.next e17.next) e112.next) e129.next) i284) (ntr (ntr (ntr (ntr e8.next e17.next) e112.next) e129.next) e279.next) i300) (ntr (ntr (ntr (ntr (ntr e8.next e17.next) e112.next) e129.next) e279.next) e295.next) i316) (ntr (ntr (ntr (ntr (ntr (ntr e8.next e17.next) e112.next) e129.next) e279.next) e295.next) e311.next) i332) (ntr (ntr (ntr (ntr (ntr (ntr (ntr (ntr e8.next e17.next) e112.next) e129.next) e279.next) e295.next) e311.next) e327.next) e341.next) i427) (ntr (ntr (ntr (ntr (ntr (ntr (ntr (ntr (ntr e8.next e17.next) e112.next) e129.next) e279.next) e295.next) e311.next) e327.next) e341.next) e422.next) i443) (ntr (ntr (ntr (ntr (ntr (ntr (ntr (ntr (ntr (ntr e8.next e17.next) e112.next) e129.next) e279.next) e295.next) e311.next) e327.next) e341.next) e422.next) e438.next) i459))) e486 (Inn.app (i116.fresh (ntr e8.next e17.next)) (Inn.trans (Inn.trans (Inn.trans (Inn.trans (Inn.trans (Inn.trans (Inn.trans (Inn.trans (Inn.trans (i115.fresh (ntr e8.next e17.next)) (ntr (ntr e8.next e17.next) e112.next) i135) (ntr (ntr (ntr e8.next e17.next) e112.next) e129.next) i284) (ntr (ntr (ntr (ntr e8.next e17.next) e112.next) e129.next) e279.next) i300) (ntr (ntr (ntr (ntr (ntr e8.next e17.next) e112.next) e129.next) e279.next) e295.next) i316) (ntr (ntr (ntr (ntr (ntr (ntr e8.next e17.next) e112.next) e129.next) e279.next) e295.next) e311.next) i332) (ntr (ntr (ntr (ntr (ntr (ntr (ntr (ntr e8.next e17.next) e112.next) e129.next) e279.next) e295.next) e311.next) e327.next) e341.next) i427) (ntr (ntr (ntr (ntr (ntr (ntr (ntr (ntr (ntr e8.next e17.next) e112.next) e129.next) e279.next) e295.next) e311.next) e327.next) e341.next) e422.next) i443) (ntr (ntr (ntr (ntr (ntr (ntr (ntr (ntr (ntr (ntr e8.next e17.next) e112.next) e129.next) e279.next) e295.next) e311.next) e327.next) e341.next) e422.next) e438.next) i459) (ntr (ntr (ntr (ntr (ntr (ntr (ntr (ntr (ntr (ntr (ntr e8.next e17.next) e112.next) e129.next) e279.next) e295.next) e311.next) e327.next) e341.next) e422.next) e438.next) e454.next) i475))) e502 (Inn.app (i116.fresh (ntr e8.next e17.next)) (Inn.trans (Inn.trans (Inn.trans (Inn.trans (Inn.trans (Inn.trans (Inn.trans (Inn.trans (Inn.trans (Inn.trans (i115.fresh (ntr e8.next e17.next)) (ntr (ntr e8.next e17.next) e112.next) i135) (ntr (ntr (ntr e8.next e17.next) e112.next) e129.next) i284) (ntr (ntr (ntr (ntr e8.next e17.next) e112.next) e129.next) e279.next) i300) (ntr (ntr (ntr (ntr (ntr e8.next e17.next) e112.next) e129.next) e279.next) e295.next) i316) (ntr (ntr (ntr (ntr (ntr (ntr e8.next e17.next) e112.next) e129.next) e279.next) e295.next) e311.next) i332) (ntr (ntr (ntr (ntr (ntr (ntr (ntr (ntr e8.next e17.next) e112.next) e129.next) e279.next) e295.next) e311.next) e327.next) e341.next) i427) (ntr (ntr (ntr (ntr (ntr (ntr (ntr (ntr (ntr e8.next e17.next) e112.next) e129.next) e279.next) e295.next) e311.next) e327.next) e341.next) e422.next) i443) (ntr (ntr (ntr (ntr (ntr (ntr (ntr (ntr (ntr (ntr e8.next e17.next) e112.next) e129.next) e279.next) e295.next) e311.next) e327.next) e341.next) e422.next) e438.next) i459) (ntr (ntr (ntr (ntr (ntr (ntr (ntr (ntr (ntr (ntr (ntr e8.next e17.next) e112.next) e129.next) e279.next) e295.next) e311.next) e327.next) e341.next) e422.next) e438.next) e454.next) i475) (ntr (ntr (ntr (ntr (ntr (ntr (ntr (ntr (ntr (ntr (ntr (ntr e8.next e17.next) e112.next) e129.next) e279.next) e295.next) e311.next) e327.next) e341.next) e422.next) e438.next) e454.next) e470.next) i491))) e518 (Inn.app (i116.fresh (ntr e8.next e17.next)) (Inn.trans (Inn.trans (Inn.trans (Inn.trans (Inn.trans (Inn.trans (Inn.trans (Inn.trans (Inn.trans (Inn.trans (Inn.trans (i115.fresh (ntr e8.next e17.next)) (ntr (ntr e8.next e17.next) e112.next) i135) (ntr (ntr (ntr e8.next e17.next) e112.next) e129.next) i284) (ntr (ntr (ntr (ntr e8.next e17.next) e112.next) e129.next) e279.next) i300) (ntr (ntr (ntr (ntr (ntr e8.next e17.next) e112.next) e129.next) e279.next) e295.next) i316) (ntr (ntr (ntr (ntr (ntr (ntr e8.next e17.next) e112.next) e129.next) e279.next) e295.next) e311.next) i332) (ntr (ntr (ntr (ntr (ntr (ntr (ntr (ntr e8.next e17.next) e112.next) e129.next) e279.next) e295.next) e311.next) e327.next) e341.next) i427) (ntr (ntr (ntr (ntr (ntr (ntr (ntr (ntr (ntr e8.next e17.next) e112.next) e129.next) e279.next) e295.next) e311.next) e327.next) e341.next) e422.next) i443) (ntr (ntr (ntr (ntr (ntr (ntr (ntr (ntr (ntr (ntr e8.next e17.next) e112.next) e129.next) e279.next) e295.next) e311.next) e327.next) e341.next) e422.next) e438.next) i459) (ntr (ntr (ntr (ntr (ntr (ntr (ntr (ntr (ntr (ntr (ntr e8.next e17.next) e112.next) e129.next) e279.next) e295.next) e311.next) e327.next) e341.next) e422.next) e438.next) e454.next) i475) (ntr (ntr (ntr (ntr (ntr (ntr (ntr (ntr (ntr (ntr (ntr (ntr e8.next e17.next) e112.next) e129.next) e279.next) e295.next) e311.next) e327.next) e341.next) e422.next) e438.next) e454.next) e470.next) i491) (ntr (ntr (ntr (ntr (ntr (ntr (ntr (ntr (ntr (ntr (ntr (ntr (ntr e8.next e17.next) e112.next) e129.next) e279.next) e295.next) e311.next) e327.next) e341.next) e422.next) e438.next) e454.next) e470.next) e486.next) i507))) e532 (Inn.app (i116.fresh (ntr e8.next e17.next)) (Inn.trans (Inn.trans (Inn.trans (Inn.trans (Inn.trans (Inn.trans (Inn.trans (Inn.trans (Inn.trans (Inn.trans (Inn.trans (Inn.trans (i115.fresh (ntr e8.next e17.next)) (ntr (ntr e8.next e17.next) e112.next) i135) (ntr (ntr (ntr e8.next e17.next) e112.next) e129.next) i284) (ntr (ntr (ntr (ntr e8.next e17.next) e112.next) e129.next) e279.next) i300) (ntr (ntr (ntr (ntr (ntr e8.next e17.next) e112.next) e129.next) e279.next) e295.next) i316) (ntr (ntr (ntr (ntr (ntr (ntr e8.next e17.next) e112.next) e129.next) e279.next) e295.next) e311.next) i332) (ntr (ntr (ntr (ntr (ntr (ntr (ntr (ntr e8.next e17.next) e112.next) e129.next) e279.next) e295.next) e311.next) e327.next) e341.next) i427) (ntr (ntr (ntr (ntr (ntr (ntr (ntr (ntr (ntr e8.next e17.next) e112.next) e129.next) e279.next) e295.next) e311.next) e327.next) e341.next) e422.next) i443) (ntr (ntr (ntr (ntr (ntr (ntr (ntr (ntr (ntr (ntr e8.next e17.next) e112.next) e129.next) e279.next) e295.next) e311.next) e327.next) e341.next) e422.next) e438.next) i459) (ntr (ntr (ntr (ntr (ntr (ntr (ntr (ntr (ntr (ntr (ntr e8.next e17.next) e112.next) e129.next) e279.next) e295.next) e311.next) e327.next) e341.next) e422.next) e438.next) e454.next) i475) (ntr (ntr (ntr (ntr (ntr (ntr (ntr (ntr (ntr (ntr (ntr (ntr e8.next e17.next) e112.next) e129.next) e279.next) e295.next) e311.next) e327.next) e341.next) e422.next) e438.next) e454.next) e470.next) i491) (ntr (ntr (ntr (ntr (ntr (ntr (ntr (ntr (ntr (ntr (ntr (ntr (ntr e8.next e17.next) e112.next) e129.next) e279.next) e295.next) e311.next) e327.next) e341.next) e422.next) e438.next) e454.next) e470.next) e486.next) i507) (ntr (ntr (ntr (ntr (ntr (ntr (ntr (ntr (ntr (ntr (ntr (ntr (ntr (ntr e8.next e17.next) e112.next) e129.next) e279.next) e295.next) e311.next) e327.next) e341.next) e422.next) e438.next) e454.next) e470.next) e486.next) e502.next) i523)))⟩
 have r706 := ite_bf h703 r530
 refine w_skip ?_
 refine k526 _ _ ?_
 refine w_seqk fun _ k707 => ?_
 refine g_' ?_
 refine q_ (.pointer none) ?_
 refine s_nil (k707 _ _ ?_)
 refine w_seqk fun _ k708 => ?_
 refine g_' ?_
 refine q_ (.pointer none) ?_
 obtain ⟨y709, hy710, r711⟩ := bind_some r706
 refine s_ck 11 #[.pointer none, i_ 0, i_ 0, .int .u64 0, i_ 9] (by kernel_rfl) (c_overlay_Overlay_Put_1 e532.wf hy710) ?_
 rintro _ _ ⟨rfl, rfl⟩
 refine q_ (.tuple #[.bool false, .iface 49 (i_ 19)]) ?_
 refine q_ (.bool false) ?_
 refine q_ (.iface 49 (i_ 19)) ?_
 refine q_ (.iface 49 (i_ 19)) ?_
 refine s_nil (k708 _ _ ?_)
 refine w_seqk fun _ k714 => ?_
 refine g_' ?_
 refine q_ (.pointer none) ?_
 obtain ⟨y715, hy716, r717⟩ := bind_some r711
 refine s_ck 14 #[.pointer none, i_ 0, i_ 1] (by kernel_rfl) (c_overlay_Overlay_Weight_1 e532.wf hy716) ?_
 rintro _ _ ⟨rfl, rfl⟩
 refine q_ (.tuple #[.int .u64 0, .bool false]) ?_
 refine q_ (.int .u64 0) ?_
 refine q_ (.bool false) ?_
 refine q_ (.int .u64 0) ?_
 refine q_ (.bool false) ?_
 refine s_nil (k714 _ _ ?_)
 refine w_seqk fun _ k720 => ?_
 refine g_' ?_
 refine q_ (.agg #[i_ 0, i_ 1, i_ 0]) ?_
 refine s_owk (enc := enc_i64_i64_i64) (sz := 3) e532.wf [(0, 1, 0)] 1 (by decide) (fun _ _ => rfl) (fun _ _ => rfl) rfl (by kernel_rfl) fun s721 f722 H723 e724 hf725 hm726 => ?_
 obtain ⟨a727, n728, c729, rfl⟩ := hm726.form
 refine q_ (.agg #[i_ 1, .slice a727 n728 c729]) ?_
 obtain ⟨y731, hy732, r733⟩ := bind_some r717
 rcases y731 with y734 | y735
 ·have r736 := elim_l r733
  refine s_ck 5 #[.agg #[i_ 1, .slice a727 n728 c729]] (by kernel_rfl) (c_overlay_New e724.wf hm726.sq hy732) ?_
  rintro _ H739 ⟨v737, f738, rfl, e740, m741, i742⟩
  refine q_ (.tuple #[.pointer none, v737]) ?_
  refine q_ (.pointer none) ?_
  refine q_ (v737) ?_
  refine q_ (.pointer none) ?_
  refine q_ (v737) ?_
  refine s_nil (k720 _ _ ?_)
  refine w_seqk fun _ k744 => ?_
  refine g_' ?_
  refine q_ (.iface 49 (i_ 19)) ?_
  obtain ⟨y745, hy746, r747⟩ := bind_some r736
  refine s_ck 13 #[i_ 19] (by kernel_rfl) (c_viaductref01_E e740.wf hy746) ?_
  rintro _ H748 ⟨rfl, e749⟩
  obtain ⟨y750, hy751, r752⟩ := bind_some r747
  refine s_ck 12 #[.iface 49 (i_ 19), .agg #[i_ y745, .slice none 0 0]] (by kernel_rfl) (c_viaductseen_Same e749.wf (Ev.no (tf := 68)) (Sq.nil (enc := enc_i64_i64) (sz := 2) (by decide)) hy751) ?_
  rintro _ H753 ⟨rfl, e754⟩
  by_cases h755 : y750 = true
  ·have r756 := ite_t h755 r752
   rw [h755]
   refine q_ (.bool true) ?_
   refine q_ (.pointer none) ?_
   obtain ⟨y758, hy759, r760⟩ := bind_some r756
   refine s_ck 10 #[.pointer none, i_ 0] (by kernel_rfl) (c_overlay_Overlay_Remove_1 e754.wf hy759) ?_
   rintro _ _ ⟨rfl, rfl⟩
   obtain ⟨y763, hy764, r765⟩ := bind_some r760
   refine s_ck 13 #[i_ 19] (by kernel_rfl) (c_viaductref01_E e754.wf hy764) ?_
   rintro _ H766 ⟨rfl, e767⟩
   obtain ⟨y768, hy769, r770⟩ := bind_some r765
   refine s_ck 12 #[.iface 49 (i_ 19), .agg #[i_ y763, .slice none 0 0]] (by kernel_rfl) (c_viaductseen_Same e767.wf (Ev.no (tf := 68)) (Sq.nil (enc := enc_i64_i64) (sz := 2) (by decide)) hy769) ?_
   rintro _ H771 ⟨rfl, e772⟩
   by_cases h773 : y768 = true
   ·have r774 := ite_t h773 r770
    rw [h773]
    refine q_ (.bool true) ?_
    refine q_ (.bool true) ?_
    refine q_ (.bool false) ?_
    refine q_ (.bool true) ?_
    refine q_ (.bool true) ?_
    refine q_ (.bool true) ?_
    refine q_ (.pointer none) ?_
    obtain ⟨y776, hy777, r778⟩ := bind_some r774
    refine s_ck 7 #[.pointer none, i_ 0] (by kernel_rfl) (c_overlay_Overlay_Out_1 e772.wf hy777) ?_
    rintro _ _ ⟨rfl, rfl⟩
    refine q_ (i_ 0) ?_
    refine q_ (.bool true) ?_
    refine q_ (.bool true) ?_
    refine q_ (.bool true) ?_
    refine q_ (.pointer none) ?_
    obtain ⟨y781, hy782, r783⟩ := bind_some r778
    refine s_ck 8 #[.pointer none, i_ 0] (by kernel_rfl) (c_overlay_Overlay_In_1 e772.wf hy782) ?_
    rintro _ _ ⟨rfl, rfl⟩
    refine q_ (i_ 0) ?_
    refine q_ (.bool true) ?_
    refine q_ (.bool true) ?_
    refine q_ (.bool true) ?_
    refine q_ (.pointer none) ?_
    obtain ⟨y786, hy787, r788⟩ := bind_some r783
    refine s_ck 15 #[.pointer none, i_ 0] (by kernel_rfl) (c_overlay_Overlay_Alive_1 e772.wf hy787) ?_
    rintro _ _ ⟨rfl, rfl⟩
    refine q_ (.bool true) ?_
    refine q_ (.bool true) ?_
    refine q_ (.bool true) ?_
    refine q_ (.pointer none) ?_
    obtain ⟨y791, hy792, r793⟩ := bind_some r788
    refine s_ck 16 #[.pointer none] (by kernel_rfl) (c_overlay_Overlay_Len_1 e772.wf hy792) ?_
    rintro _ _ ⟨rfl, rfl⟩
    refine q_ (.bool true) ?_
    refine q_ (.bool true) ?_
    refine q_ (.bool true) ?_
    refine q_ (.pointer none) ?_
    obtain ⟨y796, hy797, r798⟩ := bind_some r793
    refine s_ck 9 #[.pointer none] (by kernel_rfl) (c_overlay_Overlay_Arcs_1 e772.wf hy797) ?_
    rintro _ _ ⟨rfl, rfl⟩
    refine q_ (.bool true) ?_
    refine q_ (.bool true) ?_
    refine q_ (.bool true) ?_
    refine q_ (.pointer none) ?_
    refine q_ (.bool true) ?_
    refine q_ (.bool true) ?_
    refine q_ (.bool true) ?_
    refine q_ (v737) ?_
    obtain ⟨y801, hy802, r803⟩ := bind_some r798
    refine s_ck 13 #[i_ 7] (by kernel_rfl) (c_viaductref01_E e772.wf hy802) ?_
    rintro _ H804 ⟨rfl, e805⟩
    obtain ⟨y806, hy807, r808⟩ := bind_some r803
    refine s_ck 17 #[i_ 4, i_ 0, .agg #[i_ y801, .slice none 0 0]] (by kernel_rfl) (c_viaductref01_At e805.wf (Sq.nil (enc := enc_i64_i64) (sz := 2) (by decide)) hy807) ?_
    rintro _ H811 ⟨s809, f810, rfl, e812, m813, i814⟩
    obtain ⟨a816, n817, c818, rfl⟩ := m813.form
    have u819 := ((((((m741.fr e749 Dj.nil_l).fr e754 Dj.nil_l).fr e767 Dj.nil_l).fr e772 Dj.nil_l).fr e805 Dj.nil_l).fr e812 Dj.nil_l)
    obtain ⟨y820, hy821, r822⟩ := bind_some r808
    refine s_ck 12 #[v737, .agg #[i_ y806.1, .slice a816 n817 c818]] (by kernel_rfl) (c_viaductseen_Same e812.wf u819 m813.sq hy821) ?_
    rintro _ H823 ⟨rfl, e824⟩
    refine q_ (.bool y820) ?_
    refine q_ (.bool y820) ?_
    refine s_nil (k744 _ _ ?_)
    refine w_ret ?_
    refine b_ret (fn := Tryd.f3) (vs := [.bool y820]) (aRes_tmp (by kernel_rfl) (rfl)) ?_
    have c825 := (FrS.step wf (FrS.step wf (FrS.step wf (FrS.step wf (FrS.step wf (FrS.step wf ((FrS.step wf (FrS.refl (W := []) wf) e8 Inn.nil).extR e17) e112 Inn.nil) e129 (Inn.app (i116.fresh (ntr e8.next e17.next)) (i115.fresh (ntr e8.next e17.next)))) e279 (Inn.app (i116.fresh (ntr e8.next e17.next)) (Inn.trans (i115.fresh (ntr e8.next e17.next)) (ntr (ntr e8.next e17.next) e112.next) i135))) e295 (Inn.app (i116.fresh (ntr e8.next e17.next)) (Inn.trans (Inn.trans (i115.fresh (ntr e8.next e17.next)) (ntr (ntr e8.next e17.next) e112.next) i135) (ntr (ntr (ntr e8.next e17.next) e112.next) e129.next) i284))) e311 (Inn.app (i116.fresh (ntr e8.next e17.next)) (Inn.trans (Inn.trans (Inn.trans (i115.fresh (ntr e8.next e17.next)) (ntr (ntr e8.next e17.next) e112.next) i135) (ntr (ntr (ntr e8.next e17.next) e112.next) e129.next) i284) (ntr (ntr (ntr (ntr e8.next e17.next) e112.next) e129.next) e279.next) i300))) e327 (Inn.app (i116.fresh (ntr e8.next e17.next)) (Inn.trans (Inn.trans (Inn.trans (Inn.trans (i115.fresh (ntr e8.next e17.next)) (ntr (ntr e8.next e17.next) e112.next) i135) (ntr (ntr (ntr e8.next e17.next) e112.next) e129.next) i284) (ntr (ntr (ntr (ntr e8.next e17.next) e112.next) e129.next) e279.next) i300) (ntr (ntr (ntr (ntr (ntr e8.next e17.next) e112.next) e129.next) e279.next) e295.next) i316)))
    obtain rfl := Option.some.inj r822
    exact ⟨rfl, (FrS.step wf (FrS.step wf (FrS.step wf (FrS.step wf (FrS.step wf (FrS.step wf (FrS.step wf (FrS.step wf ((FrS.step wf (FrS.step wf (FrS.step wf (FrS.step wf (FrS.step wf (FrS.step wf (FrS.step wf (FrS.step wf (FrS.step wf (FrS.step wf (FrS.refl (W := []) wf) c825 Inn.nil) e341 Inn.nil) e422 (Inn.app (i116.fresh (ntr e8.next e17.next)) (Inn.trans (Inn.trans (Inn.trans (Inn.trans (Inn.trans (i115.fresh (ntr e8.next e17.next)) (ntr (ntr e8.next e17.next) e112.next) i135) (ntr (ntr (ntr e8.next e17.next) e112.next) e129.next) i284) (ntr (ntr (ntr (ntr e8.next e17.next) e112.next) e129.next) e279.next) i300) (ntr (ntr (ntr (ntr (ntr e8.next e17.next) e112.next) e129.next) e279.next) e295.next) i316) (ntr (ntr (ntr (ntr (ntr (ntr e8.next e17.next) e112.next) e129.next) e279.next) e295.next) e311.next) i332))) e438 (Inn.app (i116.fresh (ntr e8.next e17.next)) (Inn.trans (Inn.trans (Inn.trans (Inn.trans (Inn.trans (Inn.trans (i115.fresh (ntr e8.next e17.next)) (ntr (ntr e8.next e17.next) e112.next) i135) (ntr (ntr (ntr e8.next e17.next) e112.next) e129.next) i284) (ntr (ntr (ntr (ntr e8.next e17.next) e112.next) e129.next) e279.next) i300) (ntr (ntr (ntr (ntr (ntr e8.next e17.next) e112.next) e129.next) e279.next) e295.next) i316) (ntr (ntr (ntr (ntr (ntr (ntr e8.next e17.next) e112.next) e129.next) e279.next) e295.next) e311.next) i332) (ntr (ntr (ntr (ntr (ntr (ntr (ntr (ntr e8.next e17.next) e112.next) e129.next) e279.next) e295.next) e311.next) e327.next) e341.next) i427))) e454 (Inn.app (i116.fresh (ntr e8.next e17.next)) (Inn.trans (Inn.trans (Inn.trans (Inn.trans (Inn.trans (Inn.trans (Inn.trans (i115.fresh (ntr e8.next e17.next)) (ntr (ntr e8.next e17.next) e112.next) i135) (ntr (ntr (ntr e8.next e17.next) e112.next) e129.next) i284) (ntr (ntr (ntr (ntr e8.next e17.next) e112.next) e129.next) e279.next) i300) (ntr (ntr (ntr (ntr (ntr e8.next e17.next) e112.next) e129.next) e279.next) e295.next) i316) (ntr (ntr (ntr (ntr (ntr (ntr e8.next e17.next) e112.next) e129.next) e279.next) e295.next) e311.next) i332) (ntr (ntr (ntr (ntr (ntr (ntr (ntr (ntr e8.next e17.next) e112.next) e129.next) e279.next) e295.next) e311.next) e327.next) e341.next) i427) (ntr (ntr (ntr (ntr (ntr (ntr (ntr (ntr (ntr e8.next e17.next) e112.next) e129.next) e279.next) e295.next) e311.next) e327.next) e341.next) e422.next) i443))) e470 (Inn.app (i116.fresh (ntr e8.next e17.next)) (Inn.trans (Inn.trans (Inn.trans (Inn.trans (Inn.trans (Inn.trans (Inn.trans (Inn.trans (i115.fresh (ntr e8.next e17.next)) (ntr (ntr e8.next e17.next) e112.next) i135) (ntr (ntr (ntr e8.next e17.next) e112.next) e129.next) i284) (ntr (ntr (ntr (ntr e8.next e17.next) e112.next) e129.next) e279.next) i300) (ntr (ntr (ntr (ntr (ntr e8.next e17.next) e112.next) e129.next) e279.next) e295.next) i316) (ntr (ntr (ntr (ntr (ntr (ntr e8.next e17.next) e112.next) e129.next) e279.next) e295.next) e311.next) i332) (ntr (ntr (ntr (ntr (ntr (ntr (ntr (ntr e8.next e17.next) e112.next) e129.next) e279.next) e295.next) e311.next) e327.next) e341.next) i427) (ntr (ntr (ntr (ntr (ntr (ntr (ntr (ntr (ntr e8.next e17.next) e112.next) e129.next) e279.next) e295.next) e311.next) e327.next) e341.next) e422.next) i443) (ntr (ntr (ntr (ntr (ntr (ntr (ntr (ntr (ntr (ntr e8.next e17.next) e112.next) e129.next) e279.next) e295.next) e311.next) e327.next) e341.next) e422.next) e438.next) i459))) e486 (Inn.app (i116.fresh (ntr e8.next e17.next)) (Inn.trans (Inn.trans (Inn.trans (Inn.trans (Inn.trans (Inn.trans (Inn.trans (Inn.trans (Inn.trans (i115.fresh (ntr e8.next e17.next)) (ntr (ntr e8.next e17.next) e112.next) i135) (ntr (ntr (ntr e8.next e17.next) e112.next) e129.next) i284) (ntr (ntr (ntr (ntr e8.next e17.next) e112.next) e129.next) e279.next) i300) (ntr (ntr (ntr (ntr (ntr e8.next e17.next) e112.next) e129.next) e279.next) e295.next) i316) (ntr (ntr (ntr (ntr (ntr (ntr e8.next e17.next) e112.next) e129.next) e279.next) e295.next) e311.next) i332) (ntr (ntr (ntr (ntr (ntr (ntr (ntr (ntr e8.next e17.next) e112.next) e129.next) e279.next) e295.next) e311.next) e327.next) e341.next) i427) (ntr (ntr (ntr (ntr (ntr (ntr (ntr (ntr (ntr e8.next e17.next) e112.next) e129.next) e279.next) e295.next) e311.next) e327.next) e341.next) e422.next) i443) (ntr (ntr (ntr (ntr (ntr (ntr (ntr (ntr (ntr (ntr e8.next e17.next) e112.next) e129.next) e279.next) e295.next) e311.next) e327.next) e341.next) e422.next) e438.next) i459) (ntr (ntr (ntr (ntr (ntr (ntr (ntr (ntr (ntr (ntr (ntr e8.next e17.next) e112.next) e129.next) e279.next) e295.next) e311.next) e327.next) e341.next) e422.next) e438.next) e454.next) i475))) e502 (Inn.app (i116.fresh (ntr e8.next e17.next)) (Inn.trans (Inn.trans (Inn.trans (Inn.trans (Inn.trans (Inn.trans (Inn.trans (Inn.trans (Inn.trans (Inn.trans (i115.fresh (ntr e8.next e17.next)) (ntr (ntr e8.next e17.next) e112.next) i135) (ntr (ntr (ntr e8.next e17.next) e112.next) e129.next) i284) (ntr (ntr (ntr (ntr e8.next e17.next) e112.next) e129.next) e279.next) i300) (ntr (ntr (ntr (ntr (ntr e8.next e17.next) e112.next) e129.next) e279.next) e295.next) i316) (ntr (ntr (ntr (ntr (ntr (ntr e8.next e17.next) e112.next) e129.next) e279.next) e295.next) e311.next) i332) (ntr (ntr (ntr (ntr (ntr (ntr (ntr (ntr e8.next e17.next) e112.next) e129.next) e279.next) e295.next) e311.next) e327.next) e341.next) i427) (ntr (ntr (ntr (ntr (ntr (ntr (ntr (ntr (ntr e8.next e17.next) e112.next) e129.next) e279.next) e295.next) e311.next) e327.next) e341.next) e422.next) i443) (ntr (ntr (ntr (ntr (ntr (ntr (ntr (ntr (ntr (ntr e8.next e17.next) e112.next) e129.next) e279.next) e295.next) e311.next) e327.next) e341.next) e422.next) e438.next) i459) (ntr (ntr (ntr (ntr (ntr (ntr (ntr (ntr (ntr (ntr (ntr e8.next e17.next) e112.next) e129.next) e279.next) e295.next) e311.next) e327.next) e341.next) e422.next) e438.next) e454.next) i475) (ntr (ntr (ntr (ntr (ntr (ntr (ntr (ntr (ntr (ntr (ntr (ntr e8.next e17.next) e112.next) e129.next) e279.next) e295.next) e311.next) e327.next) e341.next) e422.next) e438.next) e454.next) e470.next) i491))) e518 (Inn.app (i116.fresh (ntr e8.next e17.next)) (Inn.trans (Inn.trans (Inn.trans (Inn.trans (Inn.trans (Inn.trans (Inn.trans (Inn.trans (Inn.trans (Inn.trans (Inn.trans (i115.fresh (ntr e8.next e17.next)) (ntr (ntr e8.next e17.next) e112.next) i135) (ntr (ntr (ntr e8.next e17.next) e112.next) e129.next) i284) (ntr (ntr (ntr (ntr e8.next e17.next) e112.next) e129.next) e279.next) i300) (ntr (ntr (ntr (ntr (ntr e8.next e17.next) e112.next) e129.next) e279.next) e295.next) i316) (ntr (ntr (ntr (ntr (ntr (ntr e8.next e17.next) e112.next) e129.next) e279.next) e295.next) e311.next) i332) (ntr (ntr (ntr (ntr (ntr (ntr (ntr (ntr e8.next e17.next) e112.next) e129.next) e279.next) e295.next) e311.next) e327.next) e341.next) i427) (ntr (ntr (ntr (ntr (ntr (ntr (ntr (ntr (ntr e8.next e17.next) e112.next) e129.next) e279.next) e295.next) e311.next) e327.next) e341.next) e422.next) i443) (ntr (ntr (ntr (ntr (ntr (ntr (ntr (ntr (ntr (ntr e8.next e17.next) e112.next) e129.next) e279.next) e295.next) e311.next) e327.next) e341.next) e422.next) e438.next) i459) (ntr (ntr (ntr (ntr (ntr (ntr (ntr (ntr (ntr (ntr (ntr e8.next e17.next) e112.next) e129.next) e279.next) e295.next) e311.next) e327.next) e341.next) e422.next) e438.next) e454.next) i475) (ntr (ntr (ntr (ntr (ntr (ntr (ntr (ntr (ntr (ntr (ntr (ntr e8.next e17.next) e112.next) e129.next) e279.next) e295.next) e311.next) e327.next) e341.next) e422.next) e438.next) e454.next) e470.next) i491) (ntr (ntr (ntr (ntr (ntr (ntr (ntr (ntr (ntr (ntr (ntr (ntr (ntr e8.next e17.next) e112.next) e129.next) e279.next) e295.next) e311.next) e327.next) e341.next) e422.next) e438.next) e454.next) e470.next) e486.next) i507))) e532 (Inn.app (i116.fresh (ntr e8.next e17.next)) (Inn.trans (Inn.trans (Inn.trans (Inn.trans (Inn.trans (Inn.trans (Inn.trans (Inn.trans (Inn.trans (Inn.trans (Inn.trans (Inn.trans (i115.fresh (ntr e8.next e17.next)) (ntr (ntr e8.next e17.next) e112.next) i135) (ntr (ntr (ntr e8.next e17.next) e112.next) e129.next) i284) (ntr (ntr (ntr (ntr e8.next e17.next) e112.next) e129.next) e279.next) i300) (ntr (ntr (ntr (ntr (ntr e8.next e17.next) e112.next) e129.next) e279.next) e295.next) i316) (ntr (ntr (ntr (ntr (ntr (ntr e8.next e17.next) e112.next) e129.next) e279.next) e295.next) e311.next) i332) (ntr (ntr (ntr (ntr (ntr (ntr (ntr (ntr e8.next e17.next) e112.next) e129.next) e279.next) e295.next) e311.next) e327.next) e341.next) i427) (ntr (ntr (ntr (ntr (ntr (ntr (ntr (ntr (ntr e8.next e17.next) e112.next) e129.next) e279.next) e295.next) e311.next) e327.next) e341.next) e422.next) i443) (ntr (ntr (ntr (ntr (ntr (ntr (ntr (ntr (ntr (ntr e8.next e17.next) e112.next) e129.next) e279.next) e295.next) e311.next) e327.next) e341.next) e422.next) e438.next) i459) (ntr (ntr (ntr (ntr (ntr (ntr (ntr (ntr (ntr (ntr (ntr e8.next e17.next) e112.next) e129.next) e279.next) e295.next) e311.next) e327.next) e341.next) e422.next) e438.next) e454.next) i475) (ntr (ntr (ntr (ntr (ntr (ntr (ntr (ntr (ntr (ntr (ntr (ntr e8.next e17.next) e112.next) e129.next) e279.next) e295.next) e311.next) e327.next) e341.next) e422.next) e438.next) e454.next) e470.next) i491) (ntr (ntr (ntr (ntr (ntr (ntr (ntr (ntr (ntr (ntr (ntr (ntr (ntr e8.next e17.next) e112.next) e129.next) e279.next) e295.next) e311.next) e327.next) e341.next) e422.next) e438.next) e454.next) e470.next) e486.next) i507) (ntr (ntr (ntr (ntr (ntr (ntr (ntr (ntr (ntr (ntr (ntr (ntr (ntr (ntr e8.next e17.next) e112.next) e129.next) e279.next) e295.next) e311.next) e327.next) e341.next) e422.next) e438.next) e454.next) e470.next) e486.next) e502.next) i523))).extR e724) e740 Inn.nil) e749 Inn.nil) e754 Inn.nil) e767 Inn.nil) e772 Inn.nil) e805 Inn.nil) e812 Inn.nil) e824 Inn.nil)⟩
   have r826 := ite_f h773 r770
   rw [nb h773]
   refine q_ (.bool false) ?_
   refine q_ (.bool false) ?_
   refine n_' ?_
   refine n_' ?_
   refine q_ (.bool false) ?_
   refine q_ (.bool false) ?_
   refine n_' ?_
   refine n_' ?_
   refine n_' ?_
   refine n_' ?_
   refine q_ (.bool false) ?_
   refine q_ (.bool false) ?_
   refine n_' ?_
   refine n_' ?_
   refine n_' ?_
   refine n_' ?_
   refine q_ (.bool false) ?_
   refine q_ (.bool false) ?_
   refine n_' ?_
   refine n_' ?_
   refine n_' ?_
   refine q_ (.bool false) ?_
   refine q_ (.bool false) ?_
   refine n_' ?_
   refine n_' ?_
   refine n_' ?_
   refine q_ (.bool false) ?_
   refine q_ (.bool false) ?_
   refine n_' ?_
   refine n_' ?_
   refine n_' ?_
   refine q_ (.bool false) ?_
   refine q_ (.bool false) ?_
   refine n_' ?_
   refine n_' ?_
   refine q_ (.bool false) ?_
   refine q_ (.bool false) ?_
   refine n_' ?_
   refine n_' ?_
   refine n_' ?_
   refine n_' ?_
   refine q_ (.bool false) ?_
   refine q_ (.bool false) ?_
   refine s_nil (k744 _ _ ?_)
   refine w_ret ?_
   refine b_ret (fn := Tryd.f3) (vs := [.bool false]) (aRes_tmp (by kernel_rfl) (rfl)) ?_
   obtain rfl := Option.some.inj r826
   exact ⟨rfl, (FrS.step wf (FrS.step wf (FrS.step wf (FrS.step wf (FrS.step wf ((FrS.step wf (FrS.step wf (FrS.step wf (FrS.step wf (FrS.step wf (FrS.step wf (FrS.step wf (FrS.step wf (FrS.step wf (FrS.step wf (FrS.step wf (FrS.step wf (FrS.step wf (FrS.step wf (FrS.step wf ((FrS.step wf (FrS.refl (W := []) wf) e8 Inn.nil).extR e17) e112 Inn.nil) e129 (Inn.app (i116.fresh (ntr e8.next e17.next)) (i115.fresh (ntr e8.next e17.next)))) e279 (Inn.app (i116.fresh (ntr e8.next e17.next)) (Inn.trans (i115.fresh (ntr e8.next e17.next)) (ntr (ntr e8.next e17.next) e112.next) i135))) e295 (Inn.app (i116.fresh (ntr e8.next e17.next)) (Inn.trans (Inn.trans (i115.fresh (ntr e8.next e17.next)) (ntr (ntr e8.next e17.next) e112.next) i135) (ntr (ntr (ntr e8.next e17.next) e112.next) e129.next) i284))) e311 (Inn.app (i116.fresh (ntr e8.next e17.next)) (Inn.trans (Inn.trans (Inn.trans (i115.fresh (ntr e8.next e17.next)) (ntr (ntr e8.next e17.next) e112.next) i135) (ntr (ntr (ntr e8.next e17.next) e112.next) e129.next) i284) (ntr (ntr (ntr (ntr e8.next e17.next) e112.next) e129.next) e279.next) i300))) e327 (Inn.app (i116.fresh (ntr e8.next e17.next)) (Inn.trans (Inn.trans (Inn.trans (Inn.trans (i115.fresh (ntr e8.next e17.next)) (ntr (ntr e8.next e17.next) e112.next) i135) (ntr (ntr (ntr e8.next e17.next) e112.next) e129.next) i284) (ntr (ntr (ntr (ntr e8.next e17.next) e112.next) e129.next) e279.next) i300) (ntr (ntr (ntr (ntr (ntr e8.next e17.next) e112.next) e129.next) e279.next) e295.next) i316))) e341 Inn.nil) e422 (Inn.app (i116.fresh (ntr e8.next e17.next)) (Inn.trans (Inn.trans (Inn.trans (Inn.trans (Inn.trans (i115.fresh (ntr e8.next e17.next)) (ntr (ntr e8.next e17.next) e112.next) i135) (ntr (ntr (ntr e8.next e17.next) e112.next) e129.next) i284) (ntr (ntr (ntr (ntr e8.next e17.next) e112.next) e129.next) e279.next) i300) (ntr (ntr (ntr (ntr (ntr e8.next e17.next) e112.next) e129.next) e279.next) e295.next) i316) (ntr (ntr (ntr (ntr (ntr (ntr e8.next e17.next) e112.next) e129.next) e279.next) e295.next) e311.next) i332))) e438 (Inn.app (i116.fresh (ntr e8.next e17.next)) (Inn.trans (Inn.trans (Inn.trans (Inn.trans (Inn.trans (Inn.trans (i115.fresh (ntr e8.next e17.next)) (ntr (ntr e8.next e17.next) e112.next) i135) (ntr (ntr (ntr e8.next e17.next) e112.next) e129.next) i284) (ntr (ntr (ntr (ntr e8.next e17.next) e112.next) e129.next) e279.next) i300) (ntr (ntr (ntr (ntr (ntr e8.next e17.next) e112.next) e129.next) e279.next) e295.next) i316) (ntr (ntr (ntr (ntr (ntr (ntr e8.next e17.next) e112.next) e129.next) e279.next) e295.next) e311.next) i332) (ntr (ntr (ntr (ntr (ntr (ntr (ntr (ntr e8.next e17.next) e112.next) e129.next) e279.next) e295.next) e311.next) e327.next) e341.next) i427))) e454 (Inn.app (i116.fresh (ntr e8.next e17.next)) (Inn.trans (Inn.trans (Inn.trans (Inn.trans (Inn.trans (Inn.trans (Inn.trans (i115.fresh (ntr e8.next e17.next)) (ntr (ntr e8.next e17.next) e112.next) i135) (ntr (ntr (ntr e8.next e17.next) e112.next) e129.next) i284) (ntr (ntr (ntr (ntr e8.next e17.next) e112.next) e129.next) e279.next) i300) (ntr (ntr (ntr (ntr (ntr e8.next e17.next) e112.next) e129.next) e279.next) e295.next) i316) (ntr (ntr (ntr (ntr (ntr (ntr e8.next e17.next) e112.next) e129.next) e279.next) e295.next) e311.next) i332) (ntr (ntr (ntr (ntr (ntr (ntr (ntr (ntr e8.next e17.next) e112.next) e129.next) e279.next) e295.next) e311.next) e327.next) e341.next) i427) (ntr (ntr (ntr (ntr (ntr (ntr (ntr (ntr (ntr e8.next e17.next) e112.next) e129.next) e279.next) e295.next) e311.next) e327.next) e341.next) e422.next) i443))) e470 (Inn.app (i116.fresh (ntr e8.next e17.next)) (Inn.trans (Inn.trans (Inn.trans (Inn.trans (Inn.trans (Inn.trans (Inn.trans (Inn.trans (i115.fresh (ntr e8.next e17.next)) (ntr (ntr e8.next e17.next) e112.next) i135) (ntr (ntr (ntr e8.next e17.next) e112.next) e129.next) i284) (ntr (ntr (ntr (ntr e8.next e17.next) e112.next) e129.next) e279.next) i300) (ntr (ntr (ntr (ntr (ntr e8.next e17.next) e112.next) e129.next) e279.next) e295.next) i316) (ntr (ntr (ntr (ntr (ntr (ntr e8.next e17.next) e112.next) e129.next) e279.next) e295.next) e311.next) i332) (ntr (ntr (ntr (ntr (ntr (ntr (ntr (ntr e8.next e17.next) e112.next) e129.next) e279.next) e295.next) e311.next) e327.next) e341.next) i427) (ntr (ntr (ntr (ntr (ntr (ntr (ntr (ntr (ntr e8.next e17.next) e112.next) e129.next) e279.next) e295.next) e311.next) e327.next) e341.next) e422.next) i443) (ntr (ntr (ntr (ntr (ntr (ntr (ntr (ntr (ntr (ntr e8.next e17.next) e112.next) e129.next) e279.next) e295.next) e311.next) e327.next) e341.next) e422.next) e438.next) i459))) e486 (Inn.app (i116.fresh (ntr e8.next e17.next)) (Inn.trans (Inn.trans (Inn.trans (Inn.trans (Inn.trans (Inn.trans (Inn.trans (Inn.trans (Inn.trans (i115.fresh (ntr e8.next e17.next)) (ntr (ntr e8.next e17.next) e112.next) i135) (ntr (ntr (ntr e8.next e17.next) e112.next) e129.next) i284) (ntr (ntr (ntr (ntr e8.next e17.next) e112.next) e129.next) e279.next) i300) (ntr (ntr (ntr (ntr (ntr e8.next e17.next) e112.next) e129.next) e279.next) e295.next) i316) (ntr (ntr (ntr (ntr (ntr (ntr e8.next e17.next) e112.next) e129.next) e279.next) e295.next) e311.next) i332) (ntr (ntr (ntr (ntr (ntr (ntr (ntr (ntr e8.next e17.next) e112.next) e129.next) e279.next) e295.next) e311.next) e327.next) e341.next) i427) (ntr (ntr (ntr (ntr (ntr (ntr (ntr (ntr (ntr e8.next e17.next) e112.next) e129.next) e279.next) e295.next) e311.next) e327.next) e341.next) e422.next) i443) (ntr (ntr (ntr (ntr (ntr (ntr (ntr (ntr (ntr (ntr e8.next e17.next) e112.next) e129.next) e279.next) e295.next) e311.next) e327.next) e341.next) e422.next) e438.next) i459) (ntr (ntr (ntr (ntr (ntr (ntr (ntr (ntr (ntr (ntr (ntr e8.next e17.next) e112.next) e129.next) e279.next) e295.next) e311.next) e327.next) e341.next) e422.next) e438.next) e454.next) i475))) e502 (Inn.app (i116.fresh (ntr e8.next e17.next)) (Inn.trans (Inn.trans (Inn.trans (Inn.trans (Inn.trans (Inn.trans (Inn.trans (Inn.trans (Inn.trans (Inn.trans (i115.fresh (ntr e8.next e17.next)) (ntr (ntr e8.next e17.next) e112.next) i135) (ntr (ntr (ntr e8.next e17.next) e112.next) e129.next) i284) (ntr (ntr (ntr (ntr e8.next e17.next) e112.next) e129.next) e279.next) i300) (ntr (ntr (ntr (ntr (ntr e8.next e17.next) e112.next) e129.next) e279.next) e295.next) i316) (ntr (ntr (ntr (ntr (ntr (ntr e8.next e17.next) e112.next) e129.next) e279.next) e295.next) e311.next) i332) (ntr (ntr (ntr (ntr (ntr (ntr (ntr (ntr e8.next e17.next) e112.next) e129.next) e279.next) e295.next) e311.next) e327.next) e341.next) i427) (ntr (ntr (ntr (ntr (ntr (ntr (ntr (ntr (ntr e8.next e17.next) e112.next) e129.next) e279.next) e295.next) e311.next) e327.next) e341.next) e422.next) i443) (ntr (ntr (ntr (ntr (ntr (ntr (ntr (ntr (ntr (ntr e8.next e17.next) e112.next) e129.next) e279.next) e295.next) e311.next) e327.next) e341.next) e422.next) e438.next) i459) (ntr (ntr (ntr (ntr (ntr (ntr (ntr (ntr (ntr (ntr (ntr e8.next e17.next) e112.next) e129.next) e279.next) e295.next) e311.next) e327.next) e341.next) e422.next) e438.next) e454.next) i475) (ntr (ntr (ntr (ntr (ntr (ntr (ntr (ntr (ntr (ntr (ntr (ntr e8.next e17.next) e112.next) e129.next) e279.next) e295.next) e311.next) e327.next) e341.next) e422.next) e438.next) e454.next) e470.next) i491))) e518 (Inn.app (i116.fresh (ntr e8.next e17.next)) (Inn.trans (Inn.trans (Inn.trans (Inn.trans (Inn.trans (Inn.trans (Inn.trans (Inn.trans (Inn.trans (Inn.trans (Inn.trans (i115.fresh (ntr e8.next e17.next)) (ntr (ntr e8.next e17.next) e112.next) i135) (ntr (ntr (ntr e8.next e17.next) e112.next) e129.next) i284) (ntr (ntr (ntr (ntr e8.next e17.next) e112.next) e129.next) e279.next) i300) (ntr (ntr (ntr (ntr (ntr e8.next e17.next) e112.next) e129.next) e279.next) e295.next) i316) (ntr (ntr (ntr (ntr (ntr (ntr e8.next e17.next) e112.next) e129.next) e279.next) e295.next) e311.next) i332) (ntr (ntr (ntr (ntr (ntr (ntr (ntr (ntr e8.next e17.next) e112.next) e129.next) e279.next) e295.next) e311.next) e327.next) e341.next) i427) (ntr (ntr (ntr (ntr (ntr (ntr (ntr (ntr (ntr e8.next e17.next) e112.next) e129.next) e279.next) e295.next) e311.next) e327.next) e341.next) e422.next) i443) (ntr (ntr (ntr (ntr (ntr (ntr (ntr (ntr (ntr (ntr e8.next e17.next) e112.next) e129.next) e279.next) e295.next) e311.next) e327.next) e341.next) e422.next) e438.next) i459) (ntr (ntr (ntr (ntr (ntr (ntr (ntr (ntr (ntr (ntr (ntr e8.next e17.next) e112.next) e129.next) e279.next) e295.next) e311.next) e327.next) e341.next) e422.next) e438.next) e454.next) i475) (ntr (ntr (ntr (ntr (ntr (ntr (ntr (ntr (ntr (ntr (ntr (ntr e8.next e17.next) e112.next) e129.next) e279.next) e295.next) e311.next) e327.next) e341.next) e422.next) e438.next) e454.next) e470.next) i491) (ntr (ntr (ntr (ntr (ntr (ntr (ntr (ntr (ntr (ntr (ntr (ntr (ntr e8.next e17.next) e112.next) e129.next) e279.next) e295.next) e311.next) e327.next) e341.next) e422.next) e438.next) e454.next) e470.next) e486.next) i507))) e532 (Inn.app (i116.fresh (ntr e8.next e17.next)) (Inn.trans (Inn.trans (Inn.trans (Inn.trans (Inn.trans (Inn.trans (Inn.trans (Inn.trans (Inn.trans (Inn.trans (Inn.trans (Inn.trans (i115.fresh (ntr e8.next e17.next)) (ntr (ntr e8.next e17.next) e112.next) i135) (ntr (ntr (ntr e8.next e17.next) e112.next) e129.next) i284) (ntr (ntr (ntr (ntr e8.next e17.next) e112.next) e129.next) e279.next) i300) (ntr (ntr (ntr (ntr (ntr e8.next e17.next) e112.next) e129.next) e279.next) e295.next) i316) (ntr (ntr (ntr (ntr (ntr (ntr e8.next e17.next) e112.next) e129.next) e279.next) e295.next) e311.next) i332) (ntr (ntr (ntr (ntr (ntr (ntr (ntr (ntr e8.next e17.next) e112.next) e129.next) e279.next) e295.next) e311.next) e327.next) e341.next) i427) (ntr (ntr (ntr (ntr (ntr (ntr (ntr (ntr (ntr e8.next e17.next) e112.next) e129.next) e279.next) e295.next) e311.next) e327.next) e341.next) e422.next) i443) (ntr (ntr (ntr (ntr (ntr (ntr (ntr (ntr (ntr (ntr e8.next e17.next) e112.next) e129.next) e279.next) e295.next) e311.next) e327.next) e341.next) e422.next) e438.next) i459) (ntr (ntr (ntr (ntr (ntr (ntr (ntr (ntr (ntr (ntr (ntr e8.next e17.next) e112.next) e129.next) e279.next) e295.next) e311.next) e327.next) e341.next) e422.next) e438.next) e454.next) i475) (ntr (ntr (ntr (ntr (ntr (ntr (ntr (ntr (ntr (ntr (ntr (ntr e8.next e17.next) e112.next) e129.next) e279.next) e295.next) e311.next) e327.next) e341.next) e422.next) e438.next) e454.next) e470.next) i491) (ntr (ntr (ntr (ntr (ntr (ntr (ntr (ntr (ntr (ntr (ntr (ntr (ntr e8.next e17.next) e112.next) e129.next) e279.next) e295.next) e311.next) e327.next) e341.next) e422.next) e438.next) e454.next) e470.next) e486.next) i507) (ntr (ntr (ntr (ntr (ntr (ntr (ntr (ntr (ntr (ntr (ntr (ntr (ntr (ntr e8.next e17.next) e112.next) e129.next) e279.next) e295.next) e311.next) e327.next) e341.next) e422.next) e438.next) e454.next) e470.next) e486.next) e502.next) i523))).extR e724) e740 Inn.nil) e749 Inn.nil) e754 Inn.nil) e767 Inn.nil) e772 Inn.nil)⟩
  have r828 := ite_f h755 r752
  rw [nb h755]
  refine q_ (.bool false) ?_
  refine n_' ?_
  refine n_' ?_
  refine n_' ?_
  refine n_' ?_
  refine q_ (.bool false) ?_
  refine q_ (.bool false) ?_
  refine n_' ?_
  refine n_' ?_
  refine q_ (.bool false) ?_
  refine q_ (.bool false) ?_
  refine n_' ?_
  refine n_' ?_
  refine n_' ?_
  refine n_' ?_
  refine q_ (.bool false) ?_
  refine q_ (.bool false) ?_
  refine n_' ?_
  refine n_' ?_
  refine n_' ?_
  refine n_' ?_
  refine q_ (.bool false) ?_
  refine q_ (.bool false) ?_
  refine n_' ?_
  refine n_' ?_
  refine n_' ?_
  refine q_ (.bool false) ?_
  refine q_ (.bool false) ?_
  refine n_' ?_
  refine n_' ?_
  refine n_' ?_
  refine q_ (.bool false) ?_
  refine q_ (.bool false) ?_
  refine n_' ?_
  refine n_' ?_
  refine n_' ?_
  refine q_ (.bool false) ?_
  refine q_ (.bool false) ?_
  refine n_' ?_
  refine n_' ?_
  refine q_ (.bool false) ?_
  refine q_ (.bool false) ?_
  refine n_' ?_
  refine n_' ?_
  refine n_' ?_
  refine n_' ?_
  refine q_ (.bool false) ?_
  refine q_ (.bool false) ?_
  refine s_nil (k744 _ _ ?_)
  refine w_ret ?_
  refine b_ret (fn := Tryd.f3) (vs := [.bool false]) (aRes_tmp (by kernel_rfl) (rfl)) ?_
  obtain rfl := Option.some.inj r828
  exact ⟨rfl, (FrS.step wf (FrS.step wf (FrS.step wf ((FrS.step wf (FrS.step wf (FrS.step wf (FrS.step wf (FrS.step wf (FrS.step wf (FrS.step wf (FrS.step wf (FrS.step wf (FrS.step wf (FrS.step wf (FrS.step wf (FrS.step wf (FrS.step wf (FrS.step wf ((FrS.step wf (FrS.refl (W := []) wf) e8 Inn.nil).extR e17) e112 Inn.nil) e129 (Inn.app (i116.fresh (ntr e8.next e17.next)) (i115.fresh (ntr e8.next e17.next)))) e279 (Inn.app (i116.fresh (ntr e8.next e17.next)) (Inn.trans (i115.fresh (ntr e8.next e17.next)) (ntr (ntr e8.next e17.next) e112.next) i135))) e295 (Inn.app (i116.fresh (ntr e8.next e17.next)) (Inn.trans (Inn.trans (i115.fresh (ntr e8.next e17.next)) (ntr (ntr e8.next e17.next) e112.next) i135) (ntr (ntr (ntr e8.next e17.next) e112.next) e129.next) i284))) e311 (Inn.app (i116.fresh (ntr e8.next e17.next)) (Inn.trans (Inn.trans (Inn.trans (i115.fresh (ntr e8.next e17.next)) (ntr (ntr e8.next e17.next) e112.next) i135) (ntr (ntr (ntr e8.next e17.next) e112.next) e129.next) i284) (ntr (ntr (ntr (ntr e8.next e17.next) e112.next) e129.next) e279.next) i300))) e327 (Inn.app (i116.fresh (ntr e8.next e17.next)) (Inn.trans (Inn.trans (Inn.trans (Inn.trans (i115.fresh (ntr e8.next e17.next)) (ntr (ntr e8.next e17.next) e112.next) i135) (ntr (ntr (ntr e8.next e17.next) e112.next) e129.next) i284) (ntr (ntr (ntr (ntr e8.next e17.next) e112.next) e129.next) e279.next) i300) (ntr (ntr (ntr (ntr (ntr e8.next e17.next) e112.next) e129.next) e279.next) e295.next) i316))) e341 Inn.nil) e422 (Inn.app (i116.fresh (ntr e8.next e17.next)) (Inn.trans (Inn.trans (Inn.trans (Inn.trans (Inn.trans (i115.fresh (ntr e8.next e17.next)) (ntr (ntr e8.next e17.next) e112.next) i135) (ntr (ntr (ntr e8.next e17.next) e112.next) e129.next) i284) (ntr (ntr (ntr (ntr e8.next e17.next) e112.next) e129.next) e279.next) i300) (ntr (ntr (ntr (ntr (ntr e8.next e17.next) e112.next) e129.next) e279.next) e295.next) i316) (ntr (ntr (ntr (ntr (ntr (ntr e8.next e17.next) e112.next) e129.next) e279.next) e295.next) e311.next) i332))) e438 (Inn.app (i116.fresh (ntr e8.next e17.next)) (Inn.trans (Inn.trans (Inn.trans (Inn.trans (Inn.trans (Inn.trans (i115.fresh (ntr e8.next e17.next)) (ntr (ntr e8.next e17.next) e112.next) i135) (ntr (ntr (ntr e8.next e17.next) e112.next) e129.next) i284) (ntr (ntr (ntr (ntr e8.next e17.next) e112.next) e129.next) e279.next) i300) (ntr (ntr (ntr (ntr (ntr e8.next e17.next) e112.next) e129.next) e279.next) e295.next) i316) (ntr (ntr (ntr (ntr (ntr (ntr e8.next e17.next) e112.next) e129.next) e279.next) e295.next) e311.next) i332) (ntr (ntr (ntr (ntr (ntr (ntr (ntr (ntr e8.next e17.next) e112.next) e129.next) e279.next) e295.next) e311.next) e327.next) e341.next) i427))) e454 (Inn.app (i116.fresh (ntr e8.next e17.next)) (Inn.trans (Inn.trans (Inn.trans (Inn.trans (Inn.trans (Inn.trans (Inn.trans (i115.fresh (ntr e8.next e17.next)) (ntr (ntr e8.next e17.next) e112.next) i135) (ntr (ntr (ntr e8.next e17.next) e112.next) e129.next) i284) (ntr (ntr (ntr (ntr e8.next e17.next) e112.next) e129.next) e279.next) i300) (ntr (ntr (ntr (ntr (ntr e8.next e17.next) e112.next) e129.next) e279.next) e295.next) i316) (ntr (ntr (ntr (ntr (ntr (ntr e8.next e17.next) e112.next) e129.next) e279.next) e295.next) e311.next) i332) (ntr (ntr (ntr (ntr (ntr (ntr (ntr (ntr e8.next e17.next) e112.next) e129.next) e279.next) e295.next) e311.next) e327.next) e341.next) i427) (ntr (ntr (ntr (ntr (ntr (ntr (ntr (ntr (ntr e8.next e17.next) e112.next) e129.next) e279.next) e295.next) e311.next) e327.next) e341.next) e422.next) i443))) e470 (Inn.app (i116.fresh (ntr e8.next e17.next)) (Inn.trans (Inn.trans (Inn.trans (Inn.trans (Inn.trans (Inn.trans (Inn.trans (Inn.trans (i115.fresh (ntr e8.next e17.next)) (ntr (ntr e8.next e17.next) e112.next) i135) (ntr (ntr (ntr e8.next e17.next) e112.next) e129.next) i284) (ntr (ntr (ntr (ntr e8.next e17.next) e112.next) e129.next) e279.next) i300) (ntr (ntr (ntr (ntr (ntr e8.next e17.next) e112.next) e129.next) e279.next) e295.next) i316) (ntr (ntr (ntr (ntr (ntr (ntr e8.next e17.next) e112.next) e129.next) e279.next) e295.next) e311.next) i332) (ntr (ntr (ntr (ntr (ntr (ntr (ntr (ntr e8.next e17.next) e112.next) e129.next) e279.next) e295.next) e311.next) e327.next) e341.next) i427) (ntr (ntr (ntr (ntr (ntr (ntr (ntr (ntr (ntr e8.next e17.next) e112.next) e129.next) e279.next) e295.next) e311.next) e327.next) e341.next) e422.next) i443) (ntr (ntr (ntr (ntr (ntr (ntr (ntr (ntr (ntr (ntr e8.next e17.next) e112.next) e129.next) e279.next) e295.next) e311.next) e327.next) e341.next) e422.next) e438.next) i459))) e486 (Inn.app (i116.fresh (ntr e8.next e17.next)) (Inn.trans (Inn.trans (Inn.trans (Inn.trans (Inn.trans (Inn.trans (Inn.trans (Inn.trans (Inn.trans (i115.fresh (ntr e8.next e17.next)) (ntr (ntr e8.next e17.next) e112.next) i135) (ntr (ntr (ntr e8.next e17.next) e112.next) e129.next) i284) (ntr (ntr (ntr (ntr e8.next e17.next) e112.next) e129.next) e279.next) i300) (ntr (ntr (ntr (ntr (ntr e8.next e17.next) e112.next) e129.next) e279.next) e295.next) i316) (ntr (ntr (ntr (ntr (ntr (ntr e8.next e17.next) e112.next) e129.next) e279.next) e295.next) e311.next) i332) (ntr (ntr (ntr (ntr (ntr (ntr (ntr (ntr e8.next e17.next) e112.next) e129.next) e279.next) e295.next) e311.next) e327.next) e341.next) i427) (ntr (ntr (ntr (ntr (ntr (ntr (ntr (ntr (ntr e8.next e17.next) e112.next) e129.next) e279.next) e295.next) e311.next) e327.next) e341.next) e422.next) i443) (ntr (ntr (ntr (ntr (ntr (ntr (ntr (ntr (ntr (ntr e8.next e17.next) e112.next) e129.next) e279.next) e295.next) e311.next) e327.next) e341.next) e422.next) e438.next) i459) (ntr (ntr (ntr (ntr (ntr (ntr (ntr (ntr (ntr (ntr (ntr e8.next e17.next) e112.next) e129.next) e279.next) e295.next) e311.next) e327.next) e341.next) e422.next) e438.next) e454.next) i475))) e502 (Inn.app (i116.fresh (ntr e8.next e17.next)) (Inn.trans (Inn.trans (Inn.trans (Inn.trans (Inn.trans (Inn.trans (Inn.trans (Inn.trans (Inn.trans (Inn.trans (i115.fresh (ntr e8.next e17.next)) (ntr (ntr e8.next e17.next) e112.next) i135) (ntr (ntr (ntr e8.next e17.next) e112.next) e129.next) i284) (ntr (ntr (ntr (ntr e8.next e17.next) e112.next) e129.next) e279.next) i300) (ntr (ntr (ntr (ntr (ntr e8.next e17.next) e112.next) e129.next) e279.next) e295.next) i316) (ntr (ntr (ntr (ntr (ntr (ntr e8.next e17.next) e112.next) e129.next) e279.next) e295.next) e311.next) i332) (ntr (ntr (ntr (ntr (ntr (ntr (ntr (ntr e8.next e17.next) e112.next) e129.next) e279.next) e295.next) e311.next) e327.next) e341.next) i427) (ntr (ntr (ntr (ntr (ntr (ntr (ntr (ntr (ntr e8.next e17.next) e112.next) e129.next) e279.next) e295.next) e311.next) e327.next) e341.next) e422.next) i443) (ntr (ntr (ntr (ntr (ntr (ntr (ntr (ntr (ntr (ntr e8.next e17.next) e112.next) e129.next) e279.next) e295.next) e311.next) e327.next) e341.next) e422.next) e438.next) i459) (ntr (ntr (ntr (ntr (ntr (ntr (ntr (ntr (ntr (ntr (ntr e8.next e17.next) e112.next) e129.next) e279.next) e295.next) e311.next) e327.next) e341.next) e422.next) e438.next) e454.next) i475) (ntr (ntr (ntr (ntr (ntr (ntr (ntr (ntr (ntr (ntr (ntr (ntr e8.next e17.next) e112.next) e129.next) e279.next) e295.next) e311.next) e327.next) e341.next) e422.next) e438.next) e454.next) e470.next) i491))) e518 (Inn.app (i116.fresh (ntr e8.next e17.next)) (Inn.trans (Inn.trans (Inn.trans (Inn.trans (Inn.trans (Inn.trans (Inn.trans (Inn.trans (Inn.trans (Inn.trans (Inn.trans (i115.fresh (ntr e8.next e17.next)) (ntr (ntr e8.next e17.next) e112.next) i135) (ntr (ntr (ntr e8.next e17.next) e112.next) e129.next) i284) (ntr (ntr (ntr (ntr e8.next e17.next) e112.next) e129.next) e279.next) i300) (ntr (ntr (ntr (ntr (ntr e8.next e17.next) e112.next) e129.next) e279.next) e295.next) i316) (ntr (ntr (ntr (ntr (ntr (ntr e8.next e17.next) e112.next) e129.next) e279.next) e295.next) e311.next) i332) (ntr (ntr (ntr (ntr (ntr (ntr (ntr (ntr e8.next e17.next) e112.next) e129.next) e279.next) e295.next) e311.next) e327.next) e341.next) i427) (ntr (ntr (ntr (ntr (ntr (ntr (ntr (ntr (ntr e8.next e17.next) e112.next) e129.next) e279.next) e295.next) e311.next) e327.next) e341.next) e422.next) i443) (ntr (ntr (ntr (ntr (ntr (ntr (ntr (ntr (ntr (ntr e8.next e17.next) e112.next) e129.next) e279.next) e295.next) e311.next) e327.next) e341.next) e422.next) e438.next) i459) (ntr (ntr (ntr (ntr (ntr (ntr (ntr (ntr (ntr (ntr (ntr e8.next e17.next) e112.next) e129.next) e279.next) e295.next) e311.next) e327.next) e341.next) e422.next) e438.next) e454.next) i475) (ntr (ntr (ntr (ntr (ntr (ntr (ntr (ntr (ntr (ntr (ntr (ntr e8.next e17.next) e112.next) e129.next) e279.next) e295.next) e311.next) e327.next) e341.next) e422.next) e438.next) e454.next) e470.next) i491) (ntr (ntr (ntr (ntr (ntr (ntr (ntr (ntr (ntr (ntr (ntr (ntr (ntr e8.next e17.next) e112.next) e129.next) e279.next) e295.next) e311.next) e327.next) e341.next) e422.next) e438.next) e454.next) e470.next) e486.next) i507))) e532 (Inn.app (i116.fresh (ntr e8.next e17.next)) (Inn.trans (Inn.trans (Inn.trans (Inn.trans (Inn.trans (Inn.trans (Inn.trans (Inn.trans (Inn.trans (Inn.trans (Inn.trans (Inn.trans (i115.fresh (ntr e8.next e17.next)) (ntr (ntr e8.next e17.next) e112.next) i135) (ntr (ntr (ntr e8.next e17.next) e112.next) e129.next) i284) (ntr (ntr (ntr (ntr e8.next e17.next) e112.next) e129.next) e279.next) i300) (ntr (ntr (ntr (ntr (ntr e8.next e17.next) e112.next) e129.next) e279.next) e295.next) i316) (ntr (ntr (ntr (ntr (ntr (ntr e8.next e17.next) e112.next) e129.next) e279.next) e295.next) e311.next) i332) (ntr (ntr (ntr (ntr (ntr (ntr (ntr (ntr e8.next e17.next) e112.next) e129.next) e279.next) e295.next) e311.next) e327.next) e341.next) i427) (ntr (ntr (ntr (ntr (ntr (ntr (ntr (ntr (ntr e8.next e17.next) e112.next) e129.next) e279.next) e295.next) e311.next) e327.next) e341.next) e422.next) i443) (ntr (ntr (ntr (ntr (ntr (ntr (ntr (ntr (ntr (ntr e8.next e17.next) e112.next) e129.next) e279.next) e295.next) e311.next) e327.next) e341.next) e422.next) e438.next) i459) (ntr (ntr (ntr (ntr (ntr (ntr (ntr (ntr (ntr (ntr (ntr e8.next e17.next) e112.next) e129.next) e279.next) e295.next) e311.next) e327.next) e341.next) e422.next) e438.next) e454.next) i475) (ntr (ntr (ntr (ntr (ntr (ntr (ntr (ntr (ntr (ntr (ntr (ntr e8.next e17.next) e112.next) e129.next) e279.next) e295.next) e311.next) e327.next) e341.next) e422.next) e438.next) e454.next) e470.next) i491) (ntr (ntr (ntr (ntr (ntr (ntr (ntr (ntr (ntr (ntr (ntr (ntr (ntr e8.next e17.next) e112.next) e129.next) e279.next) e295.next) e311.next) e327.next) e341.next) e422.next) e438.next) e454.next) e470.next) e486.next) i507) (ntr (ntr (ntr (ntr (ntr (ntr (ntr (ntr (ntr (ntr (ntr (ntr (ntr (ntr e8.next e17.next) e112.next) e129.next) e279.next) e295.next) e311.next) e327.next) e341.next) e422.next) e438.next) e454.next) e470.next) e486.next) e502.next) i523))).extR e724) e740 Inn.nil) e749 Inn.nil) e754 Inn.nil)⟩
 have r830 := elim_r r733
 refine s_ck 5 #[.agg #[i_ 1, .slice a727 n728 c729]] (by kernel_rfl) (c_overlay_New e724.wf hm726.sq hy732) ?_
 rintro _ H834 ⟨s831, f832, b833, rfl, e835, m836, m837, i838, i839, d840⟩
 obtain ⟨a843, n844, c845, rfl⟩ := m836.form
 refine q_ (.tuple #[pt_ b833 0, .nilIface]) ?_
 refine q_ (pt_ b833 0) ?_
 refine q_ (.nilIface) ?_
 refine q_ (pt_ b833 0) ?_
 refine q_ (.nilIface) ?_
 refine s_nil (k720 _ _ ?_)
 refine w_seqk fun _ k846 => ?_
 refine g_' ?_
 refine q_ (.iface 49 (i_ 19)) ?_
 obtain ⟨y847, hy848, r849⟩ := bind_some r830
 refine s_ck 13 #[i_ 19] (by kernel_rfl) (c_viaductref01_E e835.wf hy848) ?_
 rintro _ H850 ⟨rfl, e851⟩
 obtain ⟨y852, hy853, r854⟩ := bind_some r849
 refine s_ck 12 #[.iface 49 (i_ 19), .agg #[i_ y847, .slice none 0 0]] (by kernel_rfl) (c_viaductseen_Same e851.wf (Ev.no (tf := 68)) (Sq.nil (enc := enc_i64_i64) (sz := 2) (by decide)) hy853) ?_
 rintro _ H855 ⟨rfl, e856⟩
 by_cases h857 : y852 = true
 ·have r858 := ite_t h857 r854
  rw [h857]
  refine q_ (.bool true) ?_
  refine q_ (.pointer none) ?_
  obtain ⟨y860, hy861, r862⟩ := bind_some r858
  refine s_ck 10 #[.pointer none, i_ 0] (by kernel_rfl) (c_overlay_Overlay_Remove_1 e856.wf hy861) ?_
  rintro _ _ ⟨rfl, rfl⟩
  obtain ⟨y865, hy866, r867⟩ := bind_some r862
  refine s_ck 13 #[i_ 19] (by kernel_rfl) (c_viaductref01_E e856.wf hy866) ?_
  rintro _ H868 ⟨rfl, e869⟩
  obtain ⟨y870, hy871, r872⟩ := bind_some r867
  refine s_ck 12 #[.iface 49 (i_ 19), .agg #[i_ y865, .slice none 0 0]] (by kernel_rfl) (c_viaductseen_Same e869.wf (Ev.no (tf := 68)) (Sq.nil (enc := enc_i64_i64) (sz := 2) (by decide)) hy871) ?_
  rintro _ H873 ⟨rfl, e874⟩
  by_cases h875 : y870 = true
  ·have r876 := ite_t h875 r872
   rw [h875]
   refine q_ (.bool true) ?_
   refine q_ (.bool true) ?_
   refine q_ (.bool false) ?_
   refine q_ (.bool true) ?_
   refine q_ (.bool true) ?_
   refine q_ (.bool true) ?_
   refine q_ (.pointer none) ?_
   obtain ⟨y878, hy879, r880⟩ := bind_some r876
   refine s_ck 7 #[.pointer none, i_ 0] (by kernel_rfl) (c_overlay_Overlay_Out_1 e874.wf hy879) ?_
   rintro _ _ ⟨rfl, rfl⟩
   refine q_ (i_ 0) ?_
   refine q_ (.bool true) ?_
   refine q_ (.bool true) ?_
   refine q_ (.bool true) ?_
   refine q_ (.pointer none) ?_
   obtain ⟨y883, hy884, r885⟩ := bind_some r880
   refine s_ck 8 #[.pointer none, i_ 0] (by kernel_rfl) (c_overlay_Overlay_In_1 e874.wf hy884) ?_
   rintro _ _ ⟨rfl, rfl⟩
   refine q_ (i_ 0) ?_
   refine q_ (.bool true) ?_
   refine q_ (.bool true) ?_
   refine q_ (.bool true) ?_
   refine q_ (.pointer none) ?_
   obtain ⟨y888, hy889, r890⟩ := bind_some r885
   refine s_ck 15 #[.pointer none, i_ 0] (by kernel_rfl) (c_overlay_Overlay_Alive_1 e874.wf hy889) ?_
   rintro _ _ ⟨rfl, rfl⟩
   refine q_ (.bool true) ?_
   refine q_ (.bool true) ?_
   refine q_ (.bool true) ?_
   refine q_ (.pointer none) ?_
   obtain ⟨y893, hy894, r895⟩ := bind_some r890
   refine s_ck 16 #[.pointer none] (by kernel_rfl) (c_overlay_Overlay_Len_1 e874.wf hy894) ?_
   rintro _ _ ⟨rfl, rfl⟩
   refine q_ (.bool true) ?_
   refine q_ (.bool true) ?_
   refine q_ (.bool true) ?_
   refine q_ (.pointer none) ?_
   obtain ⟨y898, hy899, r900⟩ := bind_some r895
   refine s_ck 9 #[.pointer none] (by kernel_rfl) (c_overlay_Overlay_Arcs_1 e874.wf hy899) ?_
   rintro _ _ ⟨rfl, rfl⟩
   refine q_ (.bool true) ?_
   refine q_ (.bool true) ?_
   refine q_ (.bool true) ?_
   refine q_ (pt_ b833 0) ?_
   refine q_ (.bool false) ?_
   refine q_ (.bool false) ?_
   refine q_ (.bool false) ?_
   refine n_' ?_
   refine n_' ?_
   refine n_' ?_
   refine n_' ?_
   refine q_ (.bool false) ?_
   refine q_ (.bool false) ?_
   refine s_nil (k846 _ _ ?_)
   refine w_ret ?_
   refine b_ret (fn := Tryd.f3) (vs := [.bool false]) (aRes_tmp (by kernel_rfl) (rfl)) ?_
   obtain rfl := Option.some.inj r900
   exact ⟨rfl, (FrS.step wf (FrS.step wf (FrS.step wf (FrS.step wf (FrS.step wf ((FrS.step wf (FrS.step wf (FrS.step wf (FrS.step wf (FrS.step wf (FrS.step wf (FrS.step wf (FrS.step wf (FrS.step wf (FrS.step wf (FrS.step wf (FrS.step wf (FrS.step wf (FrS.step wf (FrS.step wf ((FrS.step wf (FrS.refl (W := []) wf) e8 Inn.nil).extR e17) e112 Inn.nil) e129 (Inn.app (i116.fresh (ntr e8.next e17.next)) (i115.fresh (ntr e8.next e17.next)))) e279 (Inn.app (i116.fresh (ntr e8.next e17.next)) (Inn.trans (i115.fresh (ntr e8.next e17.next)) (ntr (ntr e8.next e17.next) e112.next) i135))) e295 (Inn.app (i116.fresh (ntr e8.next e17.next)) (Inn.trans (Inn.trans (i115.fresh (ntr e8.next e17.next)) (ntr (ntr e8.next e17.next) e112.next) i135) (ntr (ntr (ntr e8.next e17.next) e112.next) e129.next) i284))) e311 (Inn.app (i116.fresh (ntr e8.next e17.next)) (Inn.trans (Inn.trans (Inn.trans (i115.fresh (ntr e8.next e17.next)) (ntr (ntr e8.next e17.next) e112.next) i135) (ntr (ntr (ntr e8.next e17.next) e112.next) e129.next) i284) (ntr (ntr (ntr (ntr e8.next e17.next) e112.next) e129.next) e279.next) i300))) e327 (Inn.app (i116.fresh (ntr e8.next e17.next)) (Inn.trans (Inn.trans (Inn.trans (Inn.trans (i115.fresh (ntr e8.next e17.next)) (ntr (ntr e8.next e17.next) e112.next) i135) (ntr (ntr (ntr e8.next e17.next) e112.next) e129.next) i284) (ntr (ntr (ntr (ntr e8.next e17.next) e112.next) e129.next) e279.next) i300) (ntr (ntr (ntr (ntr (ntr e8.next e17.next) e112.next) e129.next) e279.next) e295.next) i316))) e341 Inn.nil) e422 (Inn.app (i116.fresh (ntr e8.next e17.next)) (Inn.trans (Inn.trans (Inn.trans (Inn.trans (Inn.trans (i115.fresh (ntr e8.next e17.next)) (ntr (ntr e8.next e17.next) e112.next) i135) (ntr (ntr (ntr e8.next e17.next) e112.next) e129.next) i284) (ntr (ntr (ntr (ntr e8.next e17.next) e112.next) e129.next) e279.next) i300) (ntr (ntr (ntr (ntr (ntr e8.next e17.next) e112.next) e129.next) e279.next) e295.next) i316) (ntr (ntr (ntr (ntr (ntr (ntr e8.next e17.next) e112.next) e129.next) e279.next) e295.next) e311.next) i332))) e438 (Inn.app (i116.fresh (ntr e8.next e17.next)) (Inn.trans (Inn.trans (Inn.trans (Inn.trans (Inn.trans (Inn.trans (i115.fresh (ntr e8.next e17.next)) (ntr (ntr e8.next e17.next) e112.next) i135) (ntr (ntr (ntr e8.next e17.next) e112.next) e129.next) i284) (ntr (ntr (ntr (ntr e8.next e17.next) e112.next) e129.next) e279.next) i300) (ntr (ntr (ntr (ntr (ntr e8.next e17.next) e112.next) e129.next) e279.next) e295.next) i316) (ntr (ntr (ntr (ntr (ntr (ntr e8.next e17.next) e112.next) e129.next) e279.next) e295.next) e311.next) i332) (ntr (ntr (ntr (ntr (ntr (ntr (ntr (ntr e8.next e17.next) e112.next) e129.next) e279.next) e295.next) e311.next) e327.next) e341.next) i427))) e454 (Inn.app (i116.fresh (ntr e8.next e17.next)) (Inn.trans (Inn.trans (Inn.trans (Inn.trans (Inn.trans (Inn.trans (Inn.trans (i115.fresh (ntr e8.next e17.next)) (ntr (ntr e8.next e17.next) e112.next) i135) (ntr (ntr (ntr e8.next e17.next) e112.next) e129.next) i284) (ntr (ntr (ntr (ntr e8.next e17.next) e112.next) e129.next) e279.next) i300) (ntr (ntr (ntr (ntr (ntr e8.next e17.next) e112.next) e129.next) e279.next) e295.next) i316) (ntr (ntr (ntr (ntr (ntr (ntr e8.next e17.next) e112.next) e129.next) e279.next) e295.next) e311.next) i332) (ntr (ntr (ntr (ntr (ntr (ntr (ntr (ntr e8.next e17.next) e112.next) e129.next) e279.next) e295.next) e311.next) e327.next) e341.next) i427) (ntr (ntr (ntr (ntr (ntr (ntr (ntr (ntr (ntr e8.next e17.next) e112.next) e129.next) e279.next) e295.next) e311.next) e327.next) e341.next) e422.next) i443))) e470 (Inn.app (i116.fresh (ntr e8.next e17.next)) (Inn.trans (Inn.trans (Inn.trans (Inn.trans (Inn.trans (Inn.trans (Inn.trans (Inn.trans (i115.fresh (ntr e8.next e17.next)) (ntr (ntr e8.next e17.next) e112.next) i135) (ntr (ntr (ntr e8.next e17.next) e112.next) e129.next) i284) (ntr (ntr (ntr (ntr e8.next e17.next) e112.next) e129.next) e279.next) i300) (ntr (ntr (ntr (ntr (ntr e8.next e17.next) e112.next) e129.next) e279.next) e295.next) i316) (ntr (ntr (ntr (ntr (ntr (ntr e8.next e17.next) e112.next) e129.next) e279.next) e295.next) e311.next) i332) (ntr (ntr (ntr (ntr (ntr (ntr (ntr (ntr e8.next e17.next) e112.next) e129.next) e279.next) e295.next) e311.next) e327.next) e341.next) i427) (ntr (ntr (ntr (ntr (ntr (ntr (ntr (ntr (ntr e8.next e17.next) e112.next) e129.next) e279.next) e295.next) e311.next) e327.next) e341.next) e422.next) i443) (ntr (ntr (ntr (ntr (ntr (ntr (ntr (ntr (ntr (ntr e8.next e17.next) e112.next) e129.next) e279.next) e295.next) e311.next) e327.next) e341.next) e422.next) e438.next) i459))) e486 (Inn.app (i116.fresh (ntr e8.next e17.next)) (Inn.trans (Inn.trans (Inn.trans (Inn.trans (Inn.trans (Inn.trans (Inn.trans (Inn.trans (Inn.trans (i115.fresh (ntr e8.next e17.next)) (ntr (ntr e8.next e17.next) e112.next) i135) (ntr (ntr (ntr e8.next e17.next) e112.next) e129.next) i284) (ntr (ntr (ntr (ntr e8.next e17.next) e112.next) e129.next) e279.next) i300) (ntr (ntr (ntr (ntr (ntr e8.next e17.next) e112.next) e129.next) e279.next) e295.next) i316) (ntr (ntr (ntr (ntr (ntr (ntr e8.next e17.next) e112.next) e129.next) e279.next) e295.next) e311.next) i332) (ntr (ntr (ntr (ntr (ntr (ntr (ntr (ntr e8.next e17.next) e112.next) e129.next) e279.next) e295.next) e311.next) e327.next) e341.next) i427) (ntr (ntr (ntr (ntr (ntr (ntr (ntr (ntr (ntr e8.next e17.next) e112.next) e129.next) e279.next) e295.next) e311.next) e327.next) e341.next) e422.next) i443) (ntr (ntr (ntr (ntr (ntr (ntr (ntr (ntr (ntr (ntr e8.next e17.next) e112.next) e129.next) e279.next) e295.next) e311.next) e327.next) e341.next) e422.next) e438.next) i459) (ntr (ntr (ntr (ntr (ntr (ntr (ntr (ntr (ntr (ntr (ntr e8.next e17.next) e112.next) e129.next) e279.next) e295.next) e311.next) e327.next) e341.next) e422.next) e438.next) e454.next) i475))) e502 (Inn.app (i116.fresh (ntr e8.next e17.next)) (Inn.trans (Inn.trans (Inn.trans (Inn.trans (Inn.trans (Inn.trans (Inn.trans (Inn.trans (Inn.trans (Inn.trans (i115.fresh (ntr e8.next e17.next)) (ntr (ntr e8.next e17.next) e112.next) i135) (ntr (ntr (ntr e8.next e17.next) e112.next) e129.next) i284) (ntr (ntr (ntr (ntr e8.next e17.next) e112.next) e129.next) e279.next) i300) (ntr (ntr (ntr (ntr (ntr e8.next e17.next) e112.next) e129.next) e279.next) e295.next) i316) (ntr (ntr (ntr (ntr (ntr (ntr e8.next e17.next) e112.next) e129.next) e279.next) e295.next) e311.next) i332) (ntr (ntr (ntr (ntr (ntr (ntr (ntr (ntr e8.next e17.next) e112.next) e129.next) e279.next) e295.next) e311.next) e327.next) e341.next) i427) (ntr (ntr (ntr (ntr (ntr (ntr (ntr (ntr (ntr e8.next e17.next) e112.next) e129.next) e279.next) e295.next) e311.next) e327.next) e341.next) e422.next) i443) (ntr (ntr (ntr (ntr (ntr (ntr (ntr (ntr (ntr (ntr e8.next e17.next) e112.next) e129.next) e279.next) e295.next) e311.next) e327.next) e341.next) e422.next) e438.next) i459) (ntr (ntr (ntr (ntr (ntr (ntr (ntr (ntr (ntr (ntr (ntr e8.next e17.next) e112.next) e129.next) e279.next) e295.next) e311.next) e327.next) e341.next) e422.next) e438.next) e454.next) i475) (ntr (ntr (ntr (ntr (ntr (ntr (ntr (ntr (ntr (ntr (ntr (ntr e8.next e17.next) e112.next) e129.next) e279.next) e295.next) e311.next) e327.next) e341.next) e422.next) e438.next) e454.next) e470.next) i491))) e518 (Inn.app (i116.fresh (ntr e8.next e17.next)) (Inn.trans (Inn.trans (Inn.trans (Inn.trans (Inn.trans (Inn.trans (Inn.trans (Inn.trans (Inn.trans (Inn.trans (Inn.trans (i115.fresh (ntr e8.next e17.next)) (ntr (ntr e8.next e17.next) e112.next) i135) (ntr (ntr (ntr e8.next e17.next) e112.next) e129.next) i284) (ntr (ntr (ntr (ntr e8.next e17.next) e112.next) e129.next) e279.next) i300) (ntr (ntr (ntr (ntr (ntr e8.next e17.next) e112.next) e129.next) e279.next) e295.next) i316) (ntr (ntr (ntr (ntr (ntr (ntr e8.next e17.next) e112.next) e129.next) e279.next) e295.next) e311.next) i332) (ntr (ntr (ntr (ntr (ntr (ntr (ntr (ntr e8.next e17.next) e112.next) e129.next) e279.next) e295.next) e311.next) e327.next) e341.next) i427) (ntr (ntr (ntr (ntr (ntr (ntr (ntr (ntr (ntr e8.next e17.next) e112.next) e129.next) e279.next) e295.next) e311.next) e327.next) e341.next) e422.next) i443) (ntr (ntr (ntr (ntr (ntr (ntr (ntr (ntr (ntr (ntr e8.next e17.next) e112.next) e129.next) e279.next) e295.next) e311.next) e327.next) e341.next) e422.next) e438.next) i459) (ntr (ntr (ntr (ntr (ntr (ntr (ntr (ntr (ntr (ntr (ntr e8.next e17.next) e112.next) e129.next) e279.next) e295.next) e311.next) e327.next) e341.next) e422.next) e438.next) e454.next) i475) (ntr (ntr (ntr (ntr (ntr (ntr (ntr (ntr (ntr (ntr (ntr (ntr e8.next e17.next) e112.next) e129.next) e279.next) e295.next) e311.next) e327.next) e341.next) e422.next) e438.next) e454.next) e470.next) i491) (ntr (ntr (ntr (ntr (ntr (ntr (ntr (ntr (ntr (ntr (ntr (ntr (ntr e8.next e17.next) e112.next) e129.next) e279.next) e295.next) e311.next) e327.next) e341.next) e422.next) e438.next) e454.next) e470.next) e486.next) i507))) e532 (Inn.app (i116.fresh (ntr e8.next e17.next)) (Inn.trans (Inn.trans (Inn.trans (Inn.trans (Inn.trans (Inn.trans (Inn.trans (Inn.trans (Inn.trans (Inn.trans (Inn.trans (Inn.trans (i115.fresh (ntr e8.next e17.next)) (ntr (ntr e8.next e17.next) e112.next) i135) (ntr (ntr (ntr e8.next e17.next) e112.next) e129.next) i284) (ntr (ntr (ntr (ntr e8.next e17.next) e112.next) e129.next) e279.next) i300) (ntr (ntr (ntr (ntr (ntr e8.next e17.next) e112.next) e129.next) e279.next) e295.next) i316) (ntr (ntr (ntr (ntr (ntr (ntr e8.next e17.next) e112.next) e129.next) e279.next) e295.next) e311.next) i332) (ntr (ntr (ntr (ntr (ntr (ntr (ntr (ntr e8.next e17.next) e112.next) e129.next) e279.next) e295.next) e311.next) e327.next) e341.next) i427) (ntr (ntr (ntr (ntr (ntr (ntr (ntr (ntr (ntr e8.next e17.next) e112.next) e129.next) e279.next) e295.next) e311.next) e327.next) e341.next) e422.next) i443) (ntr (ntr (ntr (ntr (ntr (ntr (ntr (ntr (ntr (ntr e8.next e17.next) e112.next) e129.next) e279.next) e295.next) e311.next) e327.next) e341.next) e422.next) e438.next) i459) (ntr (ntr (ntr (ntr (ntr (ntr (ntr (ntr (ntr (ntr (ntr e8.next e17.next) e112.next) e129.next) e279.next) e295.next) e311.next) e327.next) e341.next) e422.next) e438.next) e454.next) i475) (ntr (ntr (ntr (ntr (ntr (ntr (ntr (ntr (ntr (ntr (ntr (ntr e8.next e17.next) e112.next) e129.next) e279.next) e295.next) e311.next) e327.next) e341.next) e422.next) e438.next) e454.next) e470.next) i491) (ntr (ntr (ntr (ntr (ntr (ntr (ntr (ntr (ntr (ntr (ntr (ntr (ntr e8.next e17.next) e112.next) e129.next) e279.next) e295.next) e311.next) e327.next) e341.next) e422.next) e438.next) e454.next) e470.next) e486.next) i507) (ntr (ntr (ntr (ntr (ntr (ntr (ntr (ntr (ntr (ntr (ntr (ntr (ntr (ntr e8.next e17.next) e112.next) e129.next) e279.next) e295.next) e311.next) e327.next) e341.next) e422.next) e438.next) e454.next) e470.next) e486.next) e502.next) i523))).extR e724) e835 Inn.nil) e851 Inn.nil) e856 Inn.nil) e869 Inn.nil) e874 Inn.nil)⟩
  have r903 := ite_f h875 r872
  rw [nb h875]
  refine q_ (.bool false) ?_
  refine q_ (.bool false) ?_
  refine n_' ?_
  refine n_' ?_
  refine q_ (.bool false) ?_
  refine q_ (.bool false) ?_
  refine n_' ?_
  refine n_' ?_
  refine n_' ?_
  refine n_' ?_
  refine q_ (.bool false) ?_
  refine q_ (.bool false) ?_
  refine n_' ?_
  refine n_' ?_
  refine n_' ?_
  refine n_' ?_
  refine q_ (.bool false) ?_
  refine q_ (.bool false) ?_
  refine n_' ?_
  refine n_' ?_
  refine n_' ?_
  refine q_ (.bool false) ?_
  refine q_ (.bool false) ?_
  refine n_' ?_
  refine n_' ?_
  refine n_' ?_
  refine q_ (.bool false) ?_
  refine q_ (.bool false) ?_
  refine n_' ?_
  refine n_' ?_
  refine n_' ?_
  refine q_ (.bool false) ?_
  refine q_ (.bool false) ?_
  refine n_' ?_
  refine n_' ?_
  refine q_ (.bool false) ?_
  refine q_ (.bool false) ?_
  refine n_' ?_
  refine n_' ?_
  refine n_' ?_
  refine n_' ?_
  refine q_ (.bool false) ?_
  refine q_ (.bool false) ?_
  refine s_nil (k846 _ _ ?_)
  refine w_ret ?_
  refine b_ret (fn := Tryd.f3) (vs := [.bool false]) (aRes_tmp (by kernel_rfl) (rfl)) ?_
  obtain rfl := Option.some.inj r903
  exact ⟨rfl, (FrS.step wf (FrS.step wf (FrS.step wf (FrS.step wf (FrS.step wf ((FrS.step wf (FrS.step wf (FrS.step wf (FrS.step wf (FrS.step wf (FrS.step wf (FrS.step wf (FrS.step wf (FrS.step wf (FrS.step wf (FrS.step wf (FrS.step wf (FrS.step wf (FrS.step wf (FrS.step wf ((FrS.step wf (FrS.refl (W := []) wf) e8 Inn.nil).extR e17) e112 Inn.nil) e129 (Inn.app (i116.fresh (ntr e8.next e17.next)) (i115.fresh (ntr e8.next e17.next)))) e279 (Inn.app (i116.fresh (ntr e8.next e17.next)) (Inn.trans (i115.fresh (ntr e8.next e17.next)) (ntr (ntr e8.next e17.next) e112.next) i135))) e295 (Inn.app (i116.fresh (ntr e8.next e17.next)) (Inn.trans (Inn.trans (i115.fresh (ntr e8.next e17.next)) (ntr (ntr e8.next e17.next) e112.next) i135) (ntr (ntr (ntr e8.next e17.next) e112.next) e129.next) i284))) e311 (Inn.app (i116.fresh (ntr e8.next e17.next)) (Inn.trans (Inn.trans (Inn.trans (i115.fresh (ntr e8.next e17.next)) (ntr (ntr e8.next e17.next) e112.next) i135) (ntr (ntr (ntr e8.next e17.next) e112.next) e129.next) i284) (ntr (ntr (ntr (ntr e8.next e17.next) e112.next) e129.next) e279.next) i300))) e327 (Inn.app (i116.fresh (ntr e8.next e17.next)) (Inn.trans (Inn.trans (Inn.trans (Inn.trans (i115.fresh (ntr e8.next e17.next)) (ntr (ntr e8.next e17.next) e112.next) i135) (ntr (ntr (ntr e8.next e17.next) e112.next) e129.next) i284) (ntr (ntr (ntr (ntr e8.next e17.next) e112.next) e129.next) e279.next) i300) (ntr (ntr (ntr (ntr (ntr e8.next e17.next) e112.next) e129.next) e279.next) e295.next) i316))) e341 Inn.nil) e422 (Inn.app (i116.fresh (ntr e8.next e17.next)) (Inn.trans (Inn.trans (Inn.trans (Inn.trans (Inn.trans (i115.fresh (ntr e8.next e17.next)) (ntr (ntr e8.next e17.next) e112.next) i135) (ntr (ntr (ntr e8.next e17.next) e112.next) e129.next) i284) (ntr (ntr (ntr (ntr e8.next e17.next) e112.next) e129.next) e279.next) i300) (ntr (ntr (ntr (ntr (ntr e8.next e17.next) e112.next) e129.next) e279.next) e295.next) i316) (ntr (ntr (ntr (ntr (ntr (ntr e8.next e17.next) e112.next) e129.next) e279.next) e295.next) e311.next) i332))) e438 (Inn.app (i116.fresh (ntr e8.next e17.next)) (Inn.trans (Inn.trans (Inn.trans (Inn.trans (Inn.trans (Inn.trans (i115.fresh (ntr e8.next e17.next)) (ntr (ntr e8.next e17.next) e112.next) i135) (ntr (ntr (ntr e8.next e17.next) e112.next) e129.next) i284) (ntr (ntr (ntr (ntr e8.next e17.next) e112.next) e129.next) e279.next) i300) (ntr (ntr (ntr (ntr (ntr e8.next e17.next) e112.next) e129.next) e279.next) e295.next) i316) (ntr (ntr (ntr (ntr (ntr (ntr e8.next e17.next) e112.next) e129.next) e279.next) e295.next) e311.next) i332) (ntr (ntr (ntr (ntr (ntr (ntr (ntr (ntr e8.next e17.next) e112.next) e129.next) e279.next) e295.next) e311.next) e327.next) e341.next) i427))) e454 (Inn.app (i116.fresh (ntr e8.next e17.next)) (Inn.trans (Inn.trans (Inn.trans (Inn.trans (Inn.trans (Inn.trans (Inn.trans (i115.fresh (ntr e8.next e17.next)) (ntr (ntr e8.next e17.next) e112.next) i135) (ntr (ntr (ntr e8.next e17.next) e112.next) e129.next) i284) (ntr (ntr (ntr (ntr e8.next e17.next) e112.next) e129.next) e279.next) i300) (ntr (ntr (ntr (ntr (ntr e8.next e17.next) e112.next) e129.next) e279.next) e295.next) i316) (ntr (ntr (ntr (ntr (ntr (ntr e8.next e17.next) e112.next) e129.next) e279.next) e295.next) e311.next) i332) (ntr (ntr (ntr (ntr (ntr (ntr (ntr (ntr e8.next e17.next) e112.next) e129.next) e279.next) e295.next) e311.next) e327.next) e341.next) i427) (ntr (ntr (ntr (ntr (ntr (ntr (ntr (ntr (ntr e8.next e17.next) e112.next) e129.next) e279.next) e295.next) e311.next) e327.next) e341.next) e422.next) i443))) e470 (Inn.app (i116.fresh (ntr e8.next e17.next)) (Inn.trans (Inn.trans (Inn.trans (Inn.trans (Inn.trans (Inn.trans (Inn.trans (Inn.trans (i115.fresh (ntr e8.next e17.next)) (ntr (ntr e8.next e17.next) e112.next) i135) (ntr (ntr (ntr e8.next e17.next) e112.next) e129.next) i284) (ntr (ntr (ntr (ntr e8.next e17.next) e112.next) e129.next) e279.next) i300) (ntr (ntr (ntr (ntr (ntr e8.next e17.next) e112.next) e129.next) e279.next) e295.next) i316) (ntr (ntr (ntr (ntr (ntr (ntr e8.next e17.next) e112.next) e129.next) e279.next) e295.next) e311.next) i332) (ntr (ntr (ntr (ntr (ntr (ntr (ntr (ntr e8.next e17.next) e112.next) e129.next) e279.next) e295.next) e311.next) e327.next) e341.next) i427) (ntr (ntr (ntr (ntr (ntr (ntr (ntr (ntr (ntr e8.next e17.next) e112.next) e129.next) e279.next) e295.next) e311.next) e327.next) e341.next) e422.next) i443) (ntr (ntr (ntr (ntr (ntr (ntr (ntr (ntr (ntr (ntr e8.next e17.next) e112.next) e129.next) e279.next) e295.next) e311.next) e327.next) e341.next) e422.next) e438.next) i459))) e486 (Inn.app (i116.fresh (ntr e8.next e17.next)) (Inn.trans (Inn.trans (Inn.trans (Inn.trans (Inn.trans (Inn.trans (Inn.trans (Inn.trans (Inn.trans (i115.fresh (ntr e8.next e17.next)) (ntr (ntr e8.next e17.next) e112.next) i135) (ntr (ntr (ntr e8.next e17.next) e112.next) e129.next) i284) (ntr (ntr (ntr (ntr e8.next e17.next) e112.next) e129.next) e279.next) i300) (ntr (ntr (ntr (ntr (ntr e8.next e17.next) e112.next) e129.next) e279.next) e295.next) i316) (ntr (ntr (ntr (ntr (ntr (ntr e8.next e17.next) e112.next) e129.next) e279.next) e295.next) e311.next) i332) (ntr (ntr (ntr (ntr (ntr (ntr (ntr (ntr e8.next e17.next) e112.next) e129.next) e279.next) e295.next) e311.next) e327.next) e341.next) i427) (ntr (ntr (ntr (ntr (ntr (ntr (ntr (ntr (ntr e8.next e17.next) e112.next) e129.next) e279.next) e295.next) e311.next) e327.next) e341.next) e422.next) i443) (ntr (ntr (ntr (ntr (ntr (ntr (ntr (ntr (ntr (ntr e8.next e17.next) e112.next) e129.next) e279.next) e295.next) e311.next) e327.next) e341.next) e422.next) e438.next) i459) (ntr (ntr (ntr (ntr (ntr (ntr (ntr (ntr (ntr (ntr (ntr e8.next e17.next) e112.next) e129.next) e279.next) e295.next) e311.next) e327.next) e341.next) e422.next) e438.next) e454.next) i475))) e502 (Inn.app (i116.fresh (ntr e8.next e17.next)) (Inn.trans (Inn.trans (Inn.trans (Inn.trans (Inn.trans (Inn.trans (Inn.trans (Inn.trans (Inn.trans (Inn.trans (i115.fresh (ntr e8.next e17.next)) (ntr (ntr e8.next e17.next) e112.next) i135) (ntr (ntr (ntr e8.next e17.next) e112.next) e129.next) i284) (ntr (ntr (ntr (ntr e8.next e17.next) e112.next) e129.next) e279.next) i300) (ntr (ntr (ntr (ntr (ntr e8.next e17.next) e112.next) e129.next) e279.next) e295.next) i316) (ntr (ntr (ntr (ntr (ntr (ntr e8.next e17.next) e112.next) e129.next) e279.next) e295.next) e311.next) i332) (ntr (ntr (ntr (ntr (ntr (ntr (ntr (ntr e8.next e17.next) e112.next) e129.next) e279.next) e295.next) e311.next) e327.next) e341.next) i427) (ntr (ntr (ntr (ntr (ntr (ntr (ntr (ntr (ntr e8.next e17.next) e112.next) e129.next) e279.next) e295.next) e311.next) e327.next) e341.next) e422.next) i443) (ntr (ntr (ntr (ntr (ntr (ntr (ntr (ntr (ntr (ntr e8.next e17.next) e112.next) e129.next) e279.next) e295.next) e311.next) e327.next) e341.next) e422.next) e438.next) i459) (ntr (ntr (ntr (ntr (ntr (ntr (ntr (ntr (ntr (ntr (ntr e8.next e17.next) e112.next) e129.next) e279.next) e295.next) e311.next) e327.next) e341.next) e422.next) e438.next) e454.next) i475) (ntr (ntr (ntr (ntr (ntr (ntr (ntr (ntr (ntr (ntr (ntr (ntr e8.next e17.next) e112.next) e129.next) e279.next) e295.next) e311.next) e327.next) e341.next) e422.next) e438.next) e454.next) e470.next) i491))) e518 (Inn.app (i116.fresh (ntr e8.next e17.next)) (Inn.trans (Inn.trans (Inn.trans (Inn.trans (Inn.trans (Inn.trans (Inn.trans (Inn.trans (Inn.trans (Inn.trans (Inn.trans (i115.fresh (ntr e8.next e17.next)) (ntr (ntr e8.next e17.next) e112.next) i135) (ntr (ntr (ntr e8.next e17.next) e112.next) e129.next) i284) (ntr (ntr (ntr (ntr e8.next e17.next) e112.next) e129.next) e279.next) i300) (ntr (ntr (ntr (ntr (ntr e8.next e17.next) e112.next) e129.next) e279.next) e295.next) i316) (ntr (ntr (ntr (ntr (ntr (ntr e8.next e17.next) e112.next) e129.next) e279.next) e295.next) e311.next) i332) (ntr (ntr (ntr (ntr (ntr (ntr (ntr (ntr e8.next e17.next) e112.next) e129.next) e279.next) e295.next) e311.next) e327.next) e341.next) i427) (ntr (ntr (ntr (ntr (ntr (ntr (ntr (ntr (ntr e8.next e17.next) e112.next) e129.next) e279.next) e295.next) e311.next) e327.next) e341.next) e422.next) i443) (ntr (ntr (ntr (ntr (ntr (ntr (ntr (ntr (ntr (ntr e8.next e17.next) e112.next) e129.next) e279.next) e295.next) e311.next) e327.next) e341.next) e422.next) e438.next) i459) (ntr (ntr (ntr (ntr (ntr (ntr (ntr (ntr (ntr (ntr (ntr e8.next e17.next) e112.next) e129.next) e279.next) e295.next) e311.next) e327.next) e341.next) e422.next) e438.next) e454.next) i475) (ntr (ntr (ntr (ntr (ntr (ntr (ntr (ntr (ntr (ntr (ntr (ntr e8.next e17.next) e112.next) e129.next) e279.next) e295.next) e311.next) e327.next) e341.next) e422.next) e438.next) e454.next) e470.next) i491) (ntr (ntr (ntr (ntr (ntr (ntr (ntr (ntr (ntr (ntr (ntr (ntr (ntr e8.next e17.next) e112.next) e129.next) e279.next) e295.next) e311.next) e327.next) e341.next) e422.next) e438.next) e454.next) e470.next) e486.next) i507))) e532 (Inn.app (i116.fresh (ntr e8.next e17.next)) (Inn.trans (Inn.trans (Inn.trans (Inn.trans (Inn.trans (Inn.trans (Inn.trans (Inn.trans (Inn.trans (Inn.trans (Inn.trans (Inn.trans (i115.fresh (ntr e8.next e17.next)) (ntr (ntr e8.next e17.next) e112.next) i135) (ntr (ntr (ntr e8.next e17.next) e112.next) e129.next) i284) (ntr (ntr (ntr (ntr e8.next e17.next) e112.next) e129.next) e279.next) i300) (ntr (ntr (ntr (ntr (ntr e8.next e17.next) e112.next) e129.next) e279.next) e295.next) i316) (ntr (ntr (ntr (ntr (ntr (ntr e8.next e17.next) e112.next) e129.next) e279.next) e295.next) e311.next) i332) (ntr (ntr (ntr (ntr (ntr (ntr (ntr (ntr e8.next e17.next) e112.next) e129.next) e279.next) e295.next) e311.next) e327.next) e341.next) i427) (ntr (ntr (ntr (ntr (ntr (ntr (ntr (ntr (ntr e8.next e17.next) e112.next) e129.next) e279.next) e295.next) e311.next) e327.next) e341.next) e422.next) i443) (ntr (ntr (ntr (ntr (ntr (ntr (ntr (ntr (ntr (ntr e8.next e17.next) e112.next) e129.next) e279.next) e295.next) e311.next) e327.next) e341.next) e422.next) e438.next) i459) (ntr (ntr (ntr (ntr (ntr (ntr (ntr (ntr (ntr (ntr (ntr e8.next e17.next) e112.next) e129.next) e279.next) e295.next) e311.next) e327.next) e341.next) e422.next) e438.next) e454.next) i475) (ntr (ntr (ntr (ntr (ntr (ntr (ntr (ntr (ntr (ntr (ntr (ntr e8.next e17.next) e112.next) e129.next) e279.next) e295.next) e311.next) e327.next) e341.next) e422.next) e438.next) e454.next) e470.next) i491) (ntr (ntr (ntr (ntr (ntr (ntr (ntr (ntr (ntr (ntr (ntr (ntr (ntr e8.next e17.next) e112.next) e129.next) e279.next) e295.next) e311.next) e327.next) e341.next) e422.next) e438.next) e454.next) e470.next) e486.next) i507) (ntr (ntr (ntr (ntr (ntr (ntr (ntr (ntr (ntr (ntr (ntr (ntr (ntr (ntr e8.next e17.next) e112.next) e129.next) e279.next) e295.next) e311.next) e327.next) e341.next) e422.next) e438.next) e454.next) e470.next) e486.next) e502.next) i523))).extR e724) e835 Inn.nil) e851 Inn.nil) e856 Inn.nil) e869 Inn.nil) e874 Inn.nil)⟩
 have r905 := ite_f h857 r854
 rw [nb h857]
 refine q_ (.bool false) ?_
 refine n_' ?_
 refine n_' ?_
 refine n_' ?_
 refine n_' ?_
 refine q_ (.bool false) ?_
 refine q_ (.bool false) ?_
 refine n_' ?_
 refine n_' ?_
 refine q_ (.bool false) ?_
 refine q_ (.bool false) ?_
 refine n_' ?_
 refine n_' ?_
 refine n_' ?_
 refine n_' ?_
 refine q_ (.bool false) ?_
 refine q_ (.bool false) ?_
 refine n_' ?_
 refine n_' ?_
 refine n_' ?_
 refine n_' ?_
 refine q_ (.bool false) ?_
 refine q_ (.bool false) ?_
 refine n_' ?_
 refine n_' ?_
 refine n_' ?_
 refine q_ (.bool false) ?_
 refine q_ (.bool false) ?_
 refine n_' ?_
 refine n_' ?_
 refine n_' ?_
 refine q_ (.bool false) ?_
 refine q_ (.bool false) ?_
 refine n_' ?_
 refine n_' ?_
 refine n_' ?_
 refine q_ (.bool false) ?_
 refine q_ (.bool false) ?_
 refine n_' ?_
 refine n_' ?_
 refine q_ (.bool false) ?_
 refine q_ (.bool false) ?_
 refine n_' ?_
 refine n_' ?_
 refine n_' ?_
 refine n_' ?_
 refine q_ (.bool false) ?_
 refine q_ (.bool false) ?_
 refine s_nil (k846 _ _ ?_)
 refine w_ret ?_
 refine b_ret (fn := Tryd.f3) (vs := [.bool false]) (aRes_tmp (by kernel_rfl) (rfl)) ?_
 obtain rfl := Option.some.inj r905
 exact ⟨rfl, (FrS.step wf (FrS.step wf (FrS.step wf ((FrS.step wf (FrS.step wf (FrS.step wf (FrS.step wf (FrS.step wf (FrS.step wf (FrS.step wf (FrS.step wf (FrS.step wf (FrS.step wf (FrS.step wf (FrS.step wf (FrS.step wf (FrS.step wf (FrS.step wf ((FrS.step wf (FrS.refl (W := []) wf) e8 Inn.nil).extR e17) e112 Inn.nil) e129 (Inn.app (i116.fresh (ntr e8.next e17.next)) (i115.fresh (ntr e8.next e17.next)))) e279 (Inn.app (i116.fresh (ntr e8.next e17.next)) (Inn.trans (i115.fresh (ntr e8.next e17.next)) (ntr (ntr e8.next e17.next) e112.next) i135))) e295 (Inn.app (i116.fresh (ntr e8.next e17.next)) (Inn.trans (Inn.trans (i115.fresh (ntr e8.next e17.next)) (ntr (ntr e8.next e17.next) e112.next) i135) (ntr (ntr (ntr e8.next e17.next) e112.next) e129.next) i284))) e311 (Inn.app (i116.fresh (ntr e8.next e17.next)) (Inn.trans (Inn.trans (Inn.trans (i115.fresh (ntr e8.next e17.next)) (ntr (ntr e8.next e17.next) e112.next) i135) (ntr (ntr (ntr e8.next e17.next) e112.next) e129.next) i284) (ntr (ntr (ntr (ntr e8.next e17.next) e112.next) e129.next) e279.next) i300))) e327 (Inn.app (i116.fresh (ntr e8.next e17.next)) (Inn.trans (Inn.trans (Inn.trans (Inn.trans (i115.fresh (ntr e8.next e17.next)) (ntr (ntr e8.next e17.next) e112.next) i135) (ntr (ntr (ntr e8.next e17.next) e112.next) e129.next) i284) (ntr (ntr (ntr (ntr e8.next e17.next) e112.next) e129.next) e279.next) i300) (ntr (ntr (ntr (ntr (ntr e8.next e17.next) e112.next) e129.next) e279.next) e295.next) i316))) e341 Inn.nil) e422 (Inn.app (i116.fresh (ntr e8.next e17.next)) (Inn.trans (Inn.trans (Inn.trans (Inn.trans (Inn.trans (i115.fresh (ntr e8.next e17.next)) (ntr (ntr e8.next e17.next) e112.next) i135) (ntr (ntr (ntr e8.next e17.next) e112.next) e129.next) i284) (ntr (ntr (ntr (ntr e8.next e17.next) e112.next) e129.next) e279.next) i300) (ntr (ntr (ntr (ntr (ntr e8.next e17.next) e112.next) e129.next) e279.next) e295.next) i316) (ntr (ntr (ntr (ntr (ntr (ntr e8.next e17.next) e112.next) e129.next) e279.next) e295.next) e311.next) i332))) e438 (Inn.app (i116.fresh (ntr e8.next e17.next)) (Inn.trans (Inn.trans (Inn.trans (Inn.trans (Inn.trans (Inn.trans (i115.fresh (ntr e8.next e17.next)) (ntr (ntr e8.next e17.next) e112.next) i135) (ntr (ntr (ntr e8.next e17.next) e112.next) e129.next) i284) (ntr (ntr (ntr (ntr e8.next e17.next) e112.next) e129.next) e279.next) i300) (ntr (ntr (ntr (ntr (ntr e8.next e17.next) e112.next) e129.next) e279.next) e295.next) i316) (ntr (ntr (ntr (ntr (ntr (ntr e8.next e17.next) e112.next) e129.next) e279.next) e295.next) e311.next) i332) (ntr (ntr (ntr (ntr (ntr (ntr (ntr (ntr e8.next e17.next) e112.next) e129.next) e279.next) e295.next) e311.next) e327.next) e341.next) i427))) e454 (Inn.app (i116.fresh (ntr e8.next e17.next)) (Inn.trans (Inn.trans (Inn.trans (Inn.trans (Inn.trans (Inn.trans (Inn.trans (i115.fresh (ntr e8.next e17.next)) (ntr (ntr e8.next e17.next) e112.next) i135) (ntr (ntr (ntr e8.next e17.next) e112.next) e129.next) i284) (ntr (ntr (ntr (ntr e8.next e17.next) e112.next) e129.next) e279.next) i300) (ntr (ntr (ntr (ntr (ntr e8.next e17.next) e112.next) e129.next) e279.next) e295.next) i316) (ntr (ntr (ntr (ntr (ntr (ntr e8.next e17.next) e112.next) e129.next) e279.next) e295.next) e311.next) i332) (ntr (ntr (ntr (ntr (ntr (ntr (ntr (ntr e8.next e17.next) e112.next) e129.next) e279.next) e295.next) e311.next) e327.next) e341.next) i427) (ntr (ntr (ntr (ntr (ntr (ntr (ntr (ntr (ntr e8.next e17.next) e112.next) e129.next) e279.next) e295.next) e311.next) e327.next) e341.next) e422.next) i443))) e470 (Inn.app (i116.fresh (ntr e8.next e17.next)) (Inn.trans (Inn.trans (Inn.trans (Inn.trans (Inn.trans (Inn.trans (Inn.trans (Inn.trans (i115.fresh (ntr e8.next e17.next)) (ntr (ntr e8.next e17.next) e112.next) i135) (ntr (ntr (ntr e8.next e17.next) e112.next) e129.next) i284) (ntr (ntr (ntr (ntr e8.next e17.next) e112.next) e129.next) e279.next) i300) (ntr (ntr (ntr (ntr (ntr e8.next e17.next) e112.next) e129.next) e279.next) e295.next) i316) (ntr (ntr (ntr (ntr (ntr (ntr e8.next e17.next) e112.next) e129.next) e279.next) e295.next) e311.next) i332) (ntr (ntr (ntr (ntr (ntr (ntr (ntr (ntr e8.next e17.next) e112.next) e129.next) e279.next) e295.next) e311.next) e327.next) e341.next) i427) (ntr (ntr (ntr (ntr (ntr (ntr (ntr (ntr (ntr e8.next e17.next) e112.next) e129.next) e279.next) e295.next) e311.next) e327.next) e341.next) e422.next) i443) (ntr (ntr (ntr (ntr (ntr (ntr (ntr (ntr (ntr (ntr e8.next e17.next) e112.next) e129.next) e279.next) e295.next) e311.next) e327.next) e341.next) e422.next) e438.next) i459))) e486 (Inn.app (i116.fresh (ntr e8.next e17.next)) (Inn.trans (Inn.trans (Inn.trans (Inn.trans (Inn.trans (Inn.trans (Inn.trans (Inn.trans (Inn.trans (i115.fresh (ntr e8.next e17.next)) (ntr (ntr e8.next e17.next) e112.next) i135) (ntr (ntr (ntr e8.next e17.next) e112.next) e129.next) i284) (ntr (ntr (ntr (ntr e8.next e17.next) e112.next) e129.next) e279.next) i300) (ntr (ntr (ntr (ntr (ntr e8.next e17.next) e112.next) e129.next) e279.next) e295.next) i316) (ntr (ntr (ntr (ntr (ntr (ntr e8.next e17.next) e112.next) e129.next) e279.next) e295.next) e311.next) i332) (ntr (ntr (ntr (ntr (ntr (ntr (ntr (ntr e8.next e17.next) e112.next) e129.next) e279.next) e295.next) e311.next) e327.next) e341.next) i427) (ntr (ntr (ntr (ntr (ntr (ntr (ntr (ntr (ntr e8.next e17.next) e112.next) e129.next) e279.next) e295.next) e311.next) e327.next) e341.next) e422.next) i443) (ntr (ntr (ntr (ntr (ntr (ntr (ntr (ntr (ntr (ntr e8.next e17.next) e112.next) e129.next) e279.next) e295.next) e311.next) e327.next) e341.next) e422.next) e438.next) i459) (ntr (ntr (ntr (ntr (ntr (ntr (ntr (ntr (ntr (ntr (ntr e8.next e17.next) e112.next) e129.next) e279.next) e295.next) e311.next) e327.next) e341.next) e422.next) e438.next) e454.next) i475))) e502 (Inn.app (i116.fresh (ntr e8.next e17.next)) (Inn.trans (Inn.trans (Inn.trans (Inn.trans (Inn.trans (Inn.trans (Inn.trans (Inn.trans (Inn.trans (Inn.trans (i115.fresh (ntr e8.next e17.next)) (ntr (ntr e8.next e17.next) e112.next) i135) (ntr (ntr (ntr e8.next e17.next) e112.next) e129.next) i284) (ntr (ntr (ntr (ntr e8.next e17.next) e112.next) e129.next) e279.next) i300) (ntr (ntr (ntr (ntr (ntr e8.next e17.next) e112.next) e129.next) e279.next) e295.next) i316) (ntr (ntr (ntr (ntr (ntr (ntr e8.next e17.next) e112.next) e129.next) e279.next) e295.next) e311.next) i332) (ntr (ntr (ntr (ntr (ntr (ntr (ntr (ntr e8.next e17.next) e112.next) e129.next) e279.next) e295.next) e311.next) e327.next) e341.next) i427) (ntr (ntr (ntr (ntr (ntr (ntr (ntr (ntr (ntr e8.next e17.next) e112.next) e129.next) e279.next) e295.next) e311.next) e327.next) e341.next) e422.next) i443) (ntr (ntr (ntr (ntr (ntr (ntr (ntr (ntr (ntr (ntr e8.next e17.next) e112.next) e129.next) e279.next) e295.next) e311.next) e327.next) e341.next) e422.next) e438.next) i459) (ntr (ntr (ntr (ntr (ntr (ntr (ntr (ntr (ntr (ntr (ntr e8.next e17.next) e112.next) e129.next) e279.next) e295.next) e311.next) e327.next) e341.next) e422.next) e438.next) e454.next) i475) (ntr (ntr (ntr (ntr (ntr (ntr (ntr (ntr (ntr (ntr (ntr (ntr e8.next e17.next) e112.next) e129.next) e279.next) e295.next) e311.next) e327.next) e341.next) e422.next) e438.next) e454.next) e470.next) i491))) e518 (Inn.app (i116.fresh (ntr e8.next e17.next)) (Inn.trans (Inn.trans (Inn.trans (Inn.trans (Inn.trans (Inn.trans (Inn.trans (Inn.trans (Inn.trans (Inn.trans (Inn.trans (i115.fresh (ntr e8.next e17.next)) (ntr (ntr e8.next e17.next) e112.next) i135) (ntr (ntr (ntr e8.next e17.next) e112.next) e129.next) i284) (ntr (ntr (ntr (ntr e8.next e17.next) e112.next) e129.next) e279.next) i300) (ntr (ntr (ntr (ntr (ntr e8.next e17.next) e112.next) e129.next) e279.next) e295.next) i316) (ntr (ntr (ntr (ntr (ntr (ntr e8.next e17.next) e112.next) e129.next) e279.next) e295.next) e311.next) i332) (ntr (ntr (ntr (ntr (ntr (ntr (ntr (ntr e8.next e17.next) e112.next) e129.next) e279.next) e295.next) e311.next) e327.next) e341.next) i427) (ntr (ntr (ntr (ntr (ntr (ntr (ntr (ntr (ntr e8.next e17.next) e112.next) e129.next) e279.next) e295.next) e311.next) e327.next) e341.next) e422.next) i443) (ntr (ntr (ntr (ntr (ntr (ntr (ntr (ntr (ntr (ntr e8.next e17.next) e112.next) e129.next) e279.next) e295.next) e311.next) e327.next) e341.next) e422.next) e438.next) i459) (ntr (ntr (ntr (ntr (ntr (ntr (ntr (ntr (ntr (ntr (ntr e8.next e17.next) e112.next) e129.next) e279.next) e295.next) e311.next) e327.next) e341.next) e422.next) e438.next) e454.next) i475) (ntr (ntr (ntr (ntr (ntr (ntr (ntr (ntr (ntr (ntr (ntr (ntr e8.next e17.next) e112.next) e129.next) e279.next) e295.next) e311.next) e327.next) e341.next) e422.next) e438.next) e454.next) e470.next) i491) (ntr (ntr (ntr (ntr (ntr (ntr (ntr (ntr (ntr (ntr (ntr (ntr (ntr e8.next e17.next) e112.next) e129.next) e279.next) e295.next) e311.next) e327.next) e341.next) e422.next) e438.next) e454.next) e470.next) e486.next) i507))) e532 (Inn.app (i116.fresh (ntr e8.next e17.next)) (Inn.trans (Inn.trans (Inn.trans (Inn.trans (Inn.trans (Inn.trans (Inn.trans (Inn.trans (Inn.trans (Inn.trans (Inn.trans (Inn.trans (i115.fresh (ntr e8.next e17.next)) (ntr (ntr e8.next e17.next) e112.next) i135) (ntr (ntr (ntr e8.next e17.next) e112.next) e129.next) i284) (ntr (ntr (ntr (ntr e8.next e17.next) e112.next) e129.next) e279.next) i300) (ntr (ntr (ntr (ntr (ntr e8.next e17.next) e112.next) e129.next) e279.next) e295.next) i316) (ntr (ntr (ntr (ntr (ntr (ntr e8.next e17.next) e112.next) e129.next) e279.next) e295.next) e311.next) i332) (ntr (ntr (ntr (ntr (ntr (ntr (ntr (ntr e8.next e17.next) e112.next) e129.next) e279.next) e295.next) e311.next) e327.next) e341.next) i427) (ntr (ntr (ntr (ntr (ntr (ntr (ntr (ntr (ntr e8.next e17.next) e112.next) e129.next) e279.next) e295.next) e311.next) e327.next) e341.next) e422.next) i443) (ntr (ntr (ntr (ntr (ntr (ntr (ntr (ntr (ntr (ntr e8.next e17.next) e112.next) e129.next) e279.next) e295.next) e311.next) e327.next) e341.next) e422.next) e438.next) i459) (ntr (ntr (ntr (ntr (ntr (ntr (ntr (ntr (ntr (ntr (ntr e8.next e17.next) e112.next) e129.next) e279.next) e295.next) e311.next) e327.next) e341.next) e422.next) e438.next) e454.next) i475) (ntr (ntr (ntr (ntr (ntr (ntr (ntr (ntr (ntr (ntr (ntr (ntr e8.next e17.next) e112.next) e129.next) e279.next) e295.next) e311.next) e327.next) e341.next) e422.next) e438.next) e454.next) e470.next) i491) (ntr (ntr (ntr (ntr (ntr (ntr (ntr (ntr (ntr (ntr (ntr (ntr (ntr e8.next e17.next) e112.next) e129.next) e279.next) e295.next) e311.next) e327.next) e341.next) e422.next) e438.next) e454.next) e470.next) e486.next) i507) (ntr (ntr (ntr (ntr (ntr (ntr (ntr (ntr (ntr (ntr (ntr (ntr (ntr (ntr e8.next e17.next) e112.next) e129.next) e279.next) e295.next) e311.next) e327.next) e341.next) e422.next) e438.next) e454.next) e470.next) e486.next) e502.next) i523))).extR e724) e835 Inn.nil) e851 Inn.nil) e856 Inn.nil)⟩


end Go.Vd
