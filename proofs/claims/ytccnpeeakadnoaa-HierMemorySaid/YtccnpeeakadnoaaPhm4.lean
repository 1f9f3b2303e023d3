/- The walks of the functions (printed by a program of ours). -/
import Derived.Test.YtccnpeeakadnoaaPhm3
import Derived.Test.YtccnpeeakadnoaaPhmVeC
import Derived.Test.YtccnpeeakadnoaaPhmIHm
import Derived.Test.YtccnpeeakadnoaaPhmVeN
import Derived.Test.YtccnpeeakadnoaaPhmVeM
import Derived.Test.YtccnpeeakadnoaaPhmSoA
import Derived.Test.YtccnpeeakadnoaaPhmVeT
set_option linter.unusedVariables false
set_option linter.unusedSimpArgs false
set_option linter.unusedSectionVars false
/-! (KHm9) -/

set_option maxRecDepth 100000
set_option maxHeartbeats 4000000
set_option linter.unusedVariables false
namespace Go.Vd
open Go.Proofs
attribute [local irreducible] wpSeq wpOrd aWp
theorem c_viaductlaw10_HierMemory {H : AH} {hd_Node : Value} {fp_Node : Fp} {hd_UpFirst : Value} {fp_UpFirst : Fp} {hd_Up : Value} {fp_Up : Fp} {hd_DownFirst : Value} {fp_DownFirst : Fp} {hd_Down : Value} {fp_Down : Fp} {Node : List (Int)} {UpFirst : List (Int)} {Up : List (Int × Int × Int × Int)} {DownFirst : List (Int)} {Down : List (Int × Int × Int × Int)} {r : Bool}
    (wf : WF H) (h_Node : Sq (encI .u32) 1 H hd_Node Node fp_Node) (h_UpFirst : Sq (encI .u32) 1 H hd_UpFirst UpFirst fp_UpFirst) (h_Up : Sq enc_u32_u64_u32_u32 4 H hd_Up Up fp_Up) (h_DownFirst : Sq (encI .u32) 1 H hd_DownFirst DownFirst fp_DownFirst) (h_Down : Sq enc_u32_u64_u32_u32 4 H hd_Down Down fp_Down) (hr : z_viaductlaw10_HierMemory Node UpFirst Up DownFirst Down = some r) :
    ACalls Try.prog 5 #[.agg #[hd_Node, hd_UpFirst, hd_Up, hd_DownFirst, hd_Down]] H fun v H' => v = .bool r ∧ FrS [] H H' := by
 refine acalls_of_body mixed Try.func5 rfl (Nat.le_of_ble_eq_true rfl) ?_
 unfold z_viaductlaw10_HierMemory at hr
 refine w_seqk fun _ k1 => g_' ?_
 refine s_rwl wf [hd_Node, hd_UpFirst, hd_Up, hd_DownFirst, hd_Down] (one_cons (h_Node.one1) (one_cons (h_UpFirst.one1) (one_cons (h_Up.one1) (one_cons (h_DownFirst.one1) (one_cons (h_Down.one1) (one_nil)))))) (by kernel_rfl) fun b2 H3 e4 hb5 r6 => ?_
 refine q_ (.bool false) (s_nil (k1 _ _ (w_seqk fun _ k8 => w_seqk fun _ k9 => g_' ?_)))
 obtain ⟨y10, hy11, r12⟩ := bind_some hr
 refine s_ck 34 #[] (by kernel_rfl) (c_viaductlaw10_awake e4.wf hy11) ?_
 rintro _ H13 ⟨rfl, e14⟩
 refine q_ (.bool (!y10)) (s_nil (k9 _ _ ?_))
 refine w_cond ((!y10)) (by kernel_rfl) rfl (fun h15 => ?_) (fun h15 => ?_)
 ·have r16 := ite_t h15 r12
  refine w_seqk fun _ k17 => g_' (q_ (.bool false) (s_nil (k17 _ _ ?_)))
  refine w_ret (th_ret ?_)
  refine b_ret (fn := Try.f5) (vs := [.bool false]) (rt_ (rfl)) ?_
  obtain rfl := oi_ r16
  exact ⟨rfl, (FrS.step wf ((f0_ wf).extR e4) e14 Inn.nil)⟩
 have r18 := ite_bf h15 r12
 refine w_skip (k8 _ _ (w_seqk fun _ k19 => w_seqk fun _ k20 => g_' ?_))
 have u21 := (r6.frS e14 Dj.nil_l)
 refine l_' (.agg #[hd_Node, hd_UpFirst, hd_Up, hd_DownFirst, hd_Down]) (aL_ 81 (pt_ b2 0) H13) (u21.l_) ?_
 have u22 := ((h_Node.ext e4).fr e14 Dj.nil_l)
 have u23 := ((h_UpFirst.ext e4).fr e14 Dj.nil_l)
 have u24 := ((h_Up.ext e4).fr e14 Dj.nil_l)
 have u25 := ((h_DownFirst.ext e4).fr e14 Dj.nil_l)
 have u26 := ((h_Down.ext e4).fr e14 Dj.nil_l)
 obtain ⟨y27, hy28, r29⟩ := bind_some r18
 refine s_ck 35 #[.agg #[hd_Node, hd_UpFirst, hd_Up, hd_DownFirst, hd_Down]] (by kernel_rfl) (c_viaductlaw10_great e14.wf u22 u23 u24 u25 u26 hy28) ?_
 rintro _ H30 ⟨rfl, e31⟩
 refine s_nil (k20 _ _ ?_)
 refine w_cond (y27) (by kernel_rfl) rfl (fun h32 => ?_) (fun h32 => ?_)
 ·have r33 := ite_t h32 r29
  refine w_seqk fun _ k34 => g_' (q_ (.bool true) (s_nil (k34 _ _ ?_)))
  refine w_ret (th_ret ?_)
  refine b_ret (fn := Try.f5) (vs := [.bool true]) (rt_ (rfl)) ?_
  obtain rfl := oi_ r33
  exact ⟨rfl, (FrS.step wf (FrS.step wf ((f0_ wf).extR e4) e14 Inn.nil) e31 Inn.nil)⟩
 have r35 := ite_bf h32 r29
 refine w_skip (k19 _ _ (w_seqk fun _ k36 => g_' ?_))
 have u37 := (u21.frS e31 Dj.nil_l)
 refine l_' (.agg #[hd_Node, hd_UpFirst, hd_Up, hd_DownFirst, hd_Down]) (aL_ 81 (pt_ b2 0) H30) (u37.l_) ?_
 have u38 := (u22.fr e31 Dj.nil_l)
 have u39 := (u23.fr e31 Dj.nil_l)
 have u40 := (u24.fr e31 Dj.nil_l)
 have u41 := (u25.fr e31 Dj.nil_l)
 have u42 := (u26.fr e31 Dj.nil_l)
 obtain ⟨y43, hy44, r45⟩ := bind_some r35
 refine s_ck 36 #[.agg #[hd_Node, hd_UpFirst, hd_Up, hd_DownFirst, hd_Down]] (by kernel_rfl) (c_viaductref10_Twin e31.wf u38 u39 u40 u41 u42 hy44) ?_
 rintro _ H56 ⟨s46, f47, s48, f49, s50, f51, s52, f53, s54, f55, rfl, e57, m58, m59, m60, m61, m62, i63, i64, i65, i66, i67, d68, d69, d70, d71, d72, d73, d74, d75, d76, d77⟩
 obtain ⟨a83, n84, c85, rfl⟩ := m58.form
 obtain ⟨a86, n87, c88, rfl⟩ := m59.form
 obtain ⟨a89, n90, c91, rfl⟩ := m60.form
 obtain ⟨a92, n93, c94, rfl⟩ := m61.form
 obtain ⟨a95, n96, c97, rfl⟩ := m62.form
 refine s_rwk e57.wf [.slice none 0 0, .slice none 0 0, .slice none 0 0, .slice none 0 0, .slice none 0 0] (by kernel_rfl) fun b98 H99 e100 hb101 r102 => ?_
 have u108 := (m62.ext e100)
 have u109 := (m61.ext e100)
 have u110 := (m60.ext e100)
 have u111 := (m59.ext e100)
 have u112 := (m58.ext e100)
 obtain ⟨H104, q105, e106, r107⟩ := Row.store (P := Try.prog) (t := 81) (p := 0) e100.wf r102 (.agg #[.slice a83 n84 c85, .slice a86 n87 c88, .slice a89 n90 c91, .slice a92 n93 c94, .slice a95 n96 c97]) [.slice a83 n84 c85, .slice a86 n87 c88, .slice a89 n90 c91, .slice a92 n93 c94, .slice a95 n96 c97] (by kernel_rfl) (by kernel_rfl) (one_cons (u112.one1) (one_cons (u111.one1) (one_cons (u110.one1) (one_cons (u109.one1) (one_cons (u108.one1) (one_nil)))))) (Nat.le_of_ble_eq_true (by kernel_rfl)) [.slice a83 n84 c85, .slice a86 n87 c88, .slice a89 n90 c91, .slice a92 n93 c94, .slice a95 n96 c97] (by kernel_rfl)
 refine s_ek (undef) (by kernel_rfl) (map_ok q105) ?_
 refine s_nil (k36 _ _ (w_seqk fun _ k113 => g_' ?_))
 refine l_' (.agg #[.slice a83 n84 c85, .slice a86 n87 c88, .slice a89 n90 c91, .slice a92 n93 c94, .slice a95 n96 c97]) (aL_ 81 (pt_ b98 0) H104) (r107.l_) ?_
 have u114 := (u112.fr e106 (hb101.djn m58.lt))
 have u115 := (u111.fr e106 (hb101.djn m59.lt))
 have u116 := (u110.fr e106 (hb101.djn m60.lt))
 have u117 := (u109.fr e106 (hb101.djn m61.lt))
 have u118 := (u108.fr e106 (hb101.djn m62.lt))
 obtain ⟨y119, hy120, r121⟩ := bind_some r45
 refine s_ck 37 #[.agg #[.slice a83 n84 c85, .slice a86 n87 c88, .slice a89 n90 c91, .slice a92 n93 c94, .slice a95 n96 c97]] (by kernel_rfl) (c_hier_Turn e106.wf u114.sq u115.sq u116.sq u117.sq u118.sq hy120) ?_
 rintro _ H134 ⟨s122, f123, s124, f125, s126, f127, s128, f129, s130, f131, v132, f133, rfl, e135, m136, m137, m138, m139, m140, m141, i142, i143, i144, i145, i146, i147, d148, d149, d150, d151, d152, d153, d154, d155, d156, d157, d158, d159, d160, d161, d162⟩
 obtain ⟨a169, n170, c171, rfl⟩ := m136.form
 obtain ⟨a172, n173, c174, rfl⟩ := m137.form
 obtain ⟨a175, n176, c177, rfl⟩ := m138.form
 obtain ⟨a178, n179, c180, rfl⟩ := m139.form
 obtain ⟨a181, n182, c183, rfl⟩ := m140.form
 refine q_ (.tuple #[.agg #[.slice a169 n170 c171, .slice a172 n173 c174, .slice a175 n176 c177, .slice a178 n179 c180, .slice a181 n182 c183], v132]) (q_ (.agg #[.slice a169 n170 c171, .slice a172 n173 c174, .slice a175 n176 c177, .slice a178 n179 c180, .slice a181 n182 c183]) (q_ (v132) ?_))
 refine s_rwk e135.wf [.slice none 0 0, .slice none 0 0, .slice none 0 0, .slice none 0 0, .slice none 0 0] (by kernel_rfl) fun b184 H185 e186 hb187 r188 => ?_
 have u194 := (m140.ext e186)
 have u195 := (m139.ext e186)
 have u196 := (m138.ext e186)
 have u197 := (m137.ext e186)
 have u198 := (m136.ext e186)
 obtain ⟨H190, q191, e192, r193⟩ := Row.store (P := Try.prog) (t := 81) (p := 0) e186.wf r188 (.agg #[.slice a169 n170 c171, .slice a172 n173 c174, .slice a175 n176 c177, .slice a178 n179 c180, .slice a181 n182 c183]) [.slice a169 n170 c171, .slice a172 n173 c174, .slice a175 n176 c177, .slice a178 n179 c180, .slice a181 n182 c183] (by kernel_rfl) (by kernel_rfl) (one_cons (u198.one1) (one_cons (u197.one1) (one_cons (u196.one1) (one_cons (u195.one1) (one_cons (u194.one1) (one_nil)))))) (Nat.le_of_ble_eq_true (by kernel_rfl)) [.slice a169 n170 c171, .slice a172 n173 c174, .slice a175 n176 c177, .slice a178 n179 c180, .slice a181 n182 c183] (by kernel_rfl)
 refine s_ek (undef) (by kernel_rfl) (map_ok q191) ?_
 refine q_ (v132) (s_nil (k113 _ _ (w_seqk fun _ k199 => g_' ?_)))
 have u200 := (((r107.frS e135 Dj.nil_l).ext e186).frS e192 (hb187.djn (r102.ltF.le (t_ e106.n e135.n))))
 refine l_' (.agg #[.slice a83 n84 c85, .slice a86 n87 c88, .slice a89 n90 c91, .slice a92 n93 c94, .slice a95 n96 c97]) (aL_ 81 (pt_ b98 0) H190) (u200.l_) ?_
 have u201 := (((u114.fr e135 Dj.nil_l).ext e186).fr e192 (hb187.djn (m58.lt.le (t_ (t_ e100.n e106.n) e135.n))))
 have u202 := (((u115.fr e135 Dj.nil_l).ext e186).fr e192 (hb187.djn (m59.lt.le (t_ (t_ e100.n e106.n) e135.n))))
 have u203 := (((u116.fr e135 Dj.nil_l).ext e186).fr e192 (hb187.djn (m60.lt.le (t_ (t_ e100.n e106.n) e135.n))))
 have u204 := (((u117.fr e135 Dj.nil_l).ext e186).fr e192 (hb187.djn (m61.lt.le (t_ (t_ e100.n e106.n) e135.n))))
 have u205 := (((u118.fr e135 Dj.nil_l).ext e186).fr e192 (hb187.djn (m62.lt.le (t_ (t_ e100.n e106.n) e135.n))))
 obtain ⟨y206, hy207, r208⟩ := bind_some r121
 refine s_ck 37 #[.agg #[.slice a83 n84 c85, .slice a86 n87 c88, .slice a89 n90 c91, .slice a92 n93 c94, .slice a95 n96 c97]] (by kernel_rfl) (c_hier_Turn e192.wf u201.sq u202.sq u203.sq u204.sq u205.sq hy207) ?_
 rintro _ H221 ⟨s209, f210, s211, f212, s213, f214, s215, f216, s217, f218, v219, f220, rfl, e222, m223, m224, m225, m226, m227, m228, i229, i230, i231, i232, i233, i234, d235, d236, d237, d238, d239, d240, d241, d242, d243, d244, d245, d246, d247, d248, d249⟩
 obtain ⟨a256, n257, c258, rfl⟩ := m223.form
 obtain ⟨a259, n260, c261, rfl⟩ := m224.form
 obtain ⟨a262, n263, c264, rfl⟩ := m225.form
 obtain ⟨a265, n266, c267, rfl⟩ := m226.form
 obtain ⟨a268, n269, c270, rfl⟩ := m227.form
 refine q_ (.tuple #[.agg #[.slice a256 n257 c258, .slice a259 n260 c261, .slice a262 n263 c264, .slice a265 n266 c267, .slice a268 n269 c270], v219]) (q_ (.agg #[.slice a256 n257 c258, .slice a259 n260 c261, .slice a262 n263 c264, .slice a265 n266 c267, .slice a268 n269 c270]) (q_ (v219) ?_))
 refine s_rwk e222.wf [.slice none 0 0, .slice none 0 0, .slice none 0 0, .slice none 0 0, .slice none 0 0] (by kernel_rfl) fun b271 H272 e273 hb274 r275 => ?_
 have u281 := (m227.ext e273)
 have u282 := (m226.ext e273)
 have u283 := (m225.ext e273)
 have u284 := (m224.ext e273)
 have u285 := (m223.ext e273)
 obtain ⟨H277, q278, e279, r280⟩ := Row.store (P := Try.prog) (t := 81) (p := 0) e273.wf r275 (.agg #[.slice a256 n257 c258, .slice a259 n260 c261, .slice a262 n263 c264, .slice a265 n266 c267, .slice a268 n269 c270]) [.slice a256 n257 c258, .slice a259 n260 c261, .slice a262 n263 c264, .slice a265 n266 c267, .slice a268 n269 c270] (by kernel_rfl) (by kernel_rfl) (one_cons (u285.one1) (one_cons (u284.one1) (one_cons (u283.one1) (one_cons (u282.one1) (one_cons (u281.one1) (one_nil)))))) (Nat.le_of_ble_eq_true (by kernel_rfl)) [.slice a256 n257 c258, .slice a259 n260 c261, .slice a262 n263 c264, .slice a265 n266 c267, .slice a268 n269 c270] (by kernel_rfl)
 refine s_ek (undef) (by kernel_rfl) (map_ok q278) ?_
 refine q_ (v219) (s_nil (k199 _ _ (w_seqk fun _ k286 => g_' ?_)))
 have u287 := (((u200.frS e222 Dj.nil_l).ext e273).frS e279 (hb274.djn (r102.ltF.le (t_ (t_ (t_ (t_ e106.n e135.n) e186.n) e192.n) e222.n))))
 refine l_' (.agg #[.slice a83 n84 c85, .slice a86 n87 c88, .slice a89 n90 c91, .slice a92 n93 c94, .slice a95 n96 c97]) (aL_ 81 (pt_ b98 0) H277) (u287.l_) ?_
 have u288 := (((u201.fr e222 Dj.nil_l).ext e273).fr e279 (hb274.djn (m58.lt.le (t_ (t_ (t_ (t_ (t_ e100.n e106.n) e135.n) e186.n) e192.n) e222.n))))
 have u289 := (((u202.fr e222 Dj.nil_l).ext e273).fr e279 (hb274.djn (m59.lt.le (t_ (t_ (t_ (t_ (t_ e100.n e106.n) e135.n) e186.n) e192.n) e222.n))))
 have u290 := (((u203.fr e222 Dj.nil_l).ext e273).fr e279 (hb274.djn (m60.lt.le (t_ (t_ (t_ (t_ (t_ e100.n e106.n) e135.n) e186.n) e192.n) e222.n))))
 have u291 := (((u204.fr e222 Dj.nil_l).ext e273).fr e279 (hb274.djn (m61.lt.le (t_ (t_ (t_ (t_ (t_ e100.n e106.n) e135.n) e186.n) e192.n) e222.n))))
 have u292 := (((u205.fr e222 Dj.nil_l).ext e273).fr e279 (hb274.djn (m62.lt.le (t_ (t_ (t_ (t_ (t_ e100.n e106.n) e135.n) e186.n) e192.n) e222.n))))
 obtain ⟨y293, hy294, r295⟩ := bind_some r208
 refine s_ck 38 #[.agg #[.slice a83 n84 c85, .slice a86 n87 c88, .slice a89 n90 c91, .slice a92 n93 c94, .slice a95 n96 c97]] (by kernel_rfl) (c_hier_Graph e279.wf u288.sq u289.sq u290.sq u291.sq u292.sq hy294) ?_
 rintro _ H300 ⟨s296, f297, v298, f299, rfl, e301, m302, m303, i304, i305, d306⟩
 obtain ⟨a309, n310, c311, rfl⟩ := m302.form
 refine q_ (.tuple #[.agg #[i_ y293.1, .slice a309 n310 c311], v298]) (q_ (.agg #[i_ y293.1, .slice a309 n310 c311]) (q_ (v298) ?_))
 refine s_rwk e301.wf [i_ 0, .slice none 0 0] (by kernel_rfl) fun b312 H313 e314 hb315 r316 => ?_
 have u322 := (m302.ext e314)
 obtain ⟨H318, q319, e320, r321⟩ := Row.store (P := Try.prog) (t := 59) (p := 0) e314.wf r316 (.agg #[i_ y293.1, .slice a309 n310 c311]) [i_ y293.1, .slice a309 n310 c311] (by kernel_rfl) (by kernel_rfl) (one_cons (rfl) (one_cons (u322.one1) (one_nil))) (Nat.le_of_ble_eq_true (by kernel_rfl)) [i_ y293.1, .slice a309 n310 c311] (by kernel_rfl)
 refine s_ek (undef) (by kernel_rfl) (map_ok q319) ?_
 refine q_ (v298) (s_nil (k286 _ _ (w_seqk fun _ k323 => g_' ?_)))
 have u324 := (((u287.frS e301 Dj.nil_l).ext e314).frS e320 (hb315.djn (r102.ltF.le (t_ (t_ (t_ (t_ (t_ (t_ (t_ e106.n e135.n) e186.n) e192.n) e222.n) e273.n) e279.n) e301.n))))
 refine l_' (.agg #[.slice a83 n84 c85, .slice a86 n87 c88, .slice a89 n90 c91, .slice a92 n93 c94, .slice a95 n96 c97]) (aL_ 81 (pt_ b98 0) H318) (u324.l_) ?_
 have u325 := (((u288.fr e301 Dj.nil_l).ext e314).fr e320 (hb315.djn (m58.lt.le (t_ (t_ (t_ (t_ (t_ (t_ (t_ (t_ e100.n e106.n) e135.n) e186.n) e192.n) e222.n) e273.n) e279.n) e301.n))))
 have u326 := (((u289.fr e301 Dj.nil_l).ext e314).fr e320 (hb315.djn (m59.lt.le (t_ (t_ (t_ (t_ (t_ (t_ (t_ (t_ e100.n e106.n) e135.n) e186.n) e192.n) e222.n) e273.n) e279.n) e301.n))))
 have u327 := (((u290.fr e301 Dj.nil_l).ext e314).fr e320 (hb315.djn (m60.lt.le (t_ (t_ (t_ (t_ (t_ (t_ (t_ (t_ e100.n e106.n) e135.n) e186.n) e192.n) e222.n) e273.n) e279.n) e301.n))))
 have u328 := (((u291.fr e301 Dj.nil_l).ext e314).fr e320 (hb315.djn (m61.lt.le (t_ (t_ (t_ (t_ (t_ (t_ (t_ (t_ e100.n e106.n) e135.n) e186.n) e192.n) e222.n) e273.n) e279.n) e301.n))))
 have u329 := (((u292.fr e301 Dj.nil_l).ext e314).fr e320 (hb315.djn (m62.lt.le (t_ (t_ (t_ (t_ (t_ (t_ (t_ (t_ e100.n e106.n) e135.n) e186.n) e192.n) e222.n) e273.n) e279.n) e301.n))))
 obtain ⟨y330, hy331, r332⟩ := bind_some r295
 refine s_ck 38 #[.agg #[.slice a83 n84 c85, .slice a86 n87 c88, .slice a89 n90 c91, .slice a92 n93 c94, .slice a95 n96 c97]] (by kernel_rfl) (c_hier_Graph e320.wf u325.sq u326.sq u327.sq u328.sq u329.sq hy331) ?_
 rintro _ H337 ⟨s333, f334, v335, f336, rfl, e338, m339, m340, i341, i342, d343⟩
 obtain ⟨a346, n347, c348, rfl⟩ := m339.form
 refine q_ (.tuple #[.agg #[i_ y330.1, .slice a346 n347 c348], v335]) (q_ (.agg #[i_ y330.1, .slice a346 n347 c348]) (q_ (v335) ?_))
 refine s_rwk e338.wf [i_ 0, .slice none 0 0] (by kernel_rfl) fun b349 H350 e351 hb352 r353 => ?_
 have u359 := (m339.ext e351)
 obtain ⟨H355, q356, e357, r358⟩ := Row.store (P := Try.prog) (t := 59) (p := 0) e351.wf r353 (.agg #[i_ y330.1, .slice a346 n347 c348]) [i_ y330.1, .slice a346 n347 c348] (by kernel_rfl) (by kernel_rfl) (one_cons (rfl) (one_cons (u359.one1) (one_nil))) (Nat.le_of_ble_eq_true (by kernel_rfl)) [i_ y330.1, .slice a346 n347 c348] (by kernel_rfl)
 refine s_ek (undef) (by kernel_rfl) (map_ok q356) ?_
 refine q_ (v335) (s_nil (k323 _ _ (w_seqk fun _ k360 => g_' ?_)))
 have u361 := (((u324.frS e338 Dj.nil_l).ext e351).frS e357 (hb352.djn (r102.ltF.le (t_ (t_ (t_ (t_ (t_ (t_ (t_ (t_ (t_ (t_ e106.n e135.n) e186.n) e192.n) e222.n) e273.n) e279.n) e301.n) e314.n) e320.n) e338.n))))
 refine l_' (.agg #[.slice a83 n84 c85, .slice a86 n87 c88, .slice a89 n90 c91, .slice a92 n93 c94, .slice a95 n96 c97]) (aL_ 81 (pt_ b98 0) H355) (u361.l_) ?_
 have u362 := (((u325.fr e338 Dj.nil_l).ext e351).fr e357 (hb352.djn (m58.lt.le (t_ (t_ (t_ (t_ (t_ (t_ (t_ (t_ (t_ (t_ (t_ e100.n e106.n) e135.n) e186.n) e192.n) e222.n) e273.n) e279.n) e301.n) e314.n) e320.n) e338.n))))
 have u363 := (((u326.fr e338 Dj.nil_l).ext e351).fr e357 (hb352.djn (m59.lt.le (t_ (t_ (t_ (t_ (t_ (t_ (t_ (t_ (t_ (t_ (t_ e100.n e106.n) e135.n) e186.n) e192.n) e222.n) e273.n) e279.n) e301.n) e314.n) e320.n) e338.n))))
 have u364 := (((u327.fr e338 Dj.nil_l).ext e351).fr e357 (hb352.djn (m60.lt.le (t_ (t_ (t_ (t_ (t_ (t_ (t_ (t_ (t_ (t_ (t_ e100.n e106.n) e135.n) e186.n) e192.n) e222.n) e273.n) e279.n) e301.n) e314.n) e320.n) e338.n))))
 have u365 := (((u328.fr e338 Dj.nil_l).ext e351).fr e357 (hb352.djn (m61.lt.le (t_ (t_ (t_ (t_ (t_ (t_ (t_ (t_ (t_ (t_ (t_ e100.n e106.n) e135.n) e186.n) e192.n) e222.n) e273.n) e279.n) e301.n) e314.n) e320.n) e338.n))))
 have u366 := (((u329.fr e338 Dj.nil_l).ext e351).fr e357 (hb352.djn (m62.lt.le (t_ (t_ (t_ (t_ (t_ (t_ (t_ (t_ (t_ (t_ (t_ e100.n e106.n) e135.n) e186.n) e192.n) e222.n) e273.n) e279.n) e301.n) e314.n) e320.n) e338.n))))
 obtain ⟨y367, hy368, r369⟩ := bind_some r332
 refine s_ck 39 #[.agg #[.slice a83 n84 c85, .slice a86 n87 c88, .slice a89 n90 c91, .slice a92 n93 c94, .slice a95 n96 c97]] (by kernel_rfl) (c_hier_Ranks e357.wf u362.sq u363.sq u364.sq u365.sq u366.sq hy368) ?_
 rintro _ H374 ⟨s370, f371, v372, f373, rfl, e375, m376, m377, i378, i379, d380⟩
 obtain ⟨a383, n384, c385, rfl⟩ := m376.form
 refine q_ (.tuple #[.slice a383 n384 c385, v372]) (q_ (.slice a383 n384 c385) (q_ (v372) (q_ (.slice a383 n384 c385) (q_ (v372) (s_nil (k360 _ _ (w_seqk fun _ k386 => g_' ?_)))))))
 have u387 := (u361.frS e375 Dj.nil_l)
 refine l_' (.agg #[.slice a83 n84 c85, .slice a86 n87 c88, .slice a89 n90 c91, .slice a92 n93 c94, .slice a95 n96 c97]) (aL_ 81 (pt_ b98 0) H374) (u387.l_) ?_
 have u388 := (u362.fr e375 Dj.nil_l)
 have u389 := (u363.fr e375 Dj.nil_l)
 have u390 := (u364.fr e375 Dj.nil_l)
 have u391 := (u365.fr e375 Dj.nil_l)
 have u392 := (u366.fr e375 Dj.nil_l)
 obtain ⟨y393, hy394, r395⟩ := bind_some r369
 refine s_ck 39 #[.agg #[.slice a83 n84 c85, .slice a86 n87 c88, .slice a89 n90 c91, .slice a92 n93 c94, .slice a95 n96 c97]] (by kernel_rfl) (c_hier_Ranks e375.wf u388.sq u389.sq u390.sq u391.sq u392.sq hy394) ?_
 rintro _ H400 ⟨s396, f397, v398, f399, rfl, e401, m402, m403, i404, i405, d406⟩
 obtain ⟨a409, n410, c411, rfl⟩ := m402.form
 refine q_ (.tuple #[.slice a409 n410 c411, v398]) (q_ (.slice a409 n410 c411) (q_ (v398) (q_ (.slice a409 n410 c411) (q_ (v398) (s_nil (k386 _ _ (w_seqk fun _ k412 => g_' ?_)))))))
 have u413 := (u387.frS e401 Dj.nil_l)
 refine l_' (.agg #[.slice a83 n84 c85, .slice a86 n87 c88, .slice a89 n90 c91, .slice a92 n93 c94, .slice a95 n96 c97]) (aL_ 81 (pt_ b98 0) H400) (u413.l_) ?_
 refine l_' (.agg #[.slice a83 n84 c85, .slice a86 n87 c88, .slice a89 n90 c91, .slice a92 n93 c94, .slice a95 n96 c97]) (aL_ 81 (pt_ b98 0) H400) (u413.l_) ?_
 have u414 := (u388.fr e401 Dj.nil_l)
 have u415 := (u389.fr e401 Dj.nil_l)
 have u416 := (u390.fr e401 Dj.nil_l)
 have u417 := (u391.fr e401 Dj.nil_l)
 have u418 := (u392.fr e401 Dj.nil_l)
 obtain ⟨y419, hy420, r421⟩ := bind_some r395
 refine s_ck 40 #[.agg #[.slice a83 n84 c85, .slice a86 n87 c88, .slice a89 n90 c91, .slice a92 n93 c94, .slice a95 n96 c97], .agg #[.slice a83 n84 c85, .slice a86 n87 c88, .slice a89 n90 c91, .slice a92 n93 c94, .slice a95 n96 c97]] (by kernel_rfl) (c_hier_Same e401.wf u414.sq u415.sq u416.sq u417.sq u418.sq hy420) ?_
 rintro _ H422 ⟨rfl, e423⟩
 refine s_nil (k412 _ _ (w_seqk fun _ k424 => w_seqk fun _ k425 => g_' ?_))
 have u426 := (u413.frS e423 Dj.nil_l)
 refine l_' (.agg #[.slice a83 n84 c85, .slice a86 n87 c88, .slice a89 n90 c91, .slice a92 n93 c94, .slice a95 n96 c97]) (aL_ 81 (pt_ b98 0) H422) (u426.l_) ?_
 have u427 := ((((((((((((((((((u37.frS e57 Dj.nil_l).ext e100).frS e106 (hb101.djn (r6.ltF.le (t_ (t_ e14.n e31.n) e57.n)))).frS e135 Dj.nil_l).ext e186).frS e192 (hb187.djn (r6.ltF.le (t_ (t_ (t_ (t_ (t_ e14.n e31.n) e57.n) e100.n) e106.n) e135.n)))).frS e222 Dj.nil_l).ext e273).frS e279 (hb274.djn (r6.ltF.le (t_ (t_ (t_ (t_ (t_ (t_ (t_ (t_ e14.n e31.n) e57.n) e100.n) e106.n) e135.n) e186.n) e192.n) e222.n)))).frS e301 Dj.nil_l).ext e314).frS e320 (hb315.djn (r6.ltF.le (t_ (t_ (t_ (t_ (t_ (t_ (t_ (t_ (t_ (t_ (t_ e14.n e31.n) e57.n) e100.n) e106.n) e135.n) e186.n) e192.n) e222.n) e273.n) e279.n) e301.n)))).frS e338 Dj.nil_l).ext e351).frS e357 (hb352.djn (r6.ltF.le (t_ (t_ (t_ (t_ (t_ (t_ (t_ (t_ (t_ (t_ (t_ (t_ (t_ (t_ e14.n e31.n) e57.n) e100.n) e106.n) e135.n) e186.n) e192.n) e222.n) e273.n) e279.n) e301.n) e314.n) e320.n) e338.n)))).frS e375 Dj.nil_l).frS e401 Dj.nil_l).frS e423 Dj.nil_l)
 refine l_' (.agg #[hd_Node, hd_UpFirst, hd_Up, hd_DownFirst, hd_Down]) (aL_ 81 (pt_ b2 0) H422) (u427.l_) ?_
 have u428 := (u414.fr e423 Dj.nil_l)
 have u429 := (u415.fr e423 Dj.nil_l)
 have u430 := (u416.fr e423 Dj.nil_l)
 have u431 := (u417.fr e423 Dj.nil_l)
 have u432 := (u418.fr e423 Dj.nil_l)
 have n433 := (t_ (t_ (t_ (t_ (t_ (t_ (t_ e4.n e14.n) e31.n) e57.n) e100.n) e106.n) e135.n) e186.n)
 have n434 := (t_ (t_ (t_ (t_ (t_ (t_ (t_ e192.n e222.n) e273.n) e279.n) e301.n) e314.n) e320.n) e338.n)
 have u435 := ((((((((((((((((((u38.fr e57 Dj.nil_l).ext e100).fr e106 (hb101.djn (h_Node.lt.le (t_ (t_ (t_ e4.n e14.n) e31.n) e57.n)))).fr e135 Dj.nil_l).ext e186).fr e192 (hb187.djn (h_Node.lt.le (t_ (t_ (t_ (t_ (t_ (t_ e4.n e14.n) e31.n) e57.n) e100.n) e106.n) e135.n)))).fr e222 Dj.nil_l).ext e273).fr e279 (hb274.djn (h_Node.lt.le (t_ (t_ (t_ (t_ (t_ (t_ (t_ (t_ (t_ e4.n e14.n) e31.n) e57.n) e100.n) e106.n) e135.n) e186.n) e192.n) e222.n)))).fr e301 Dj.nil_l).ext e314).fr e320 (hb315.djn (h_Node.lt.le (t_ (t_ (t_ (t_ (t_ (t_ (t_ (t_ (t_ (t_ (t_ (t_ e4.n e14.n) e31.n) e57.n) e100.n) e106.n) e135.n) e186.n) e192.n) e222.n) e273.n) e279.n) e301.n)))).fr e338 Dj.nil_l).ext e351).fr e357 (hb352.djn (h_Node.lt.le (t_ n433 n434)))).fr e375 Dj.nil_l).fr e401 Dj.nil_l).fr e423 Dj.nil_l)
 have u436 := ((((((((((((((((((u39.fr e57 Dj.nil_l).ext e100).fr e106 (hb101.djn (h_UpFirst.lt.le (t_ (t_ (t_ e4.n e14.n) e31.n) e57.n)))).fr e135 Dj.nil_l).ext e186).fr e192 (hb187.djn (h_UpFirst.lt.le (t_ (t_ (t_ (t_ (t_ (t_ e4.n e14.n) e31.n) e57.n) e100.n) e106.n) e135.n)))).fr e222 Dj.nil_l).ext e273).fr e279 (hb274.djn (h_UpFirst.lt.le (t_ (t_ (t_ (t_ (t_ (t_ (t_ (t_ (t_ e4.n e14.n) e31.n) e57.n) e100.n) e106.n) e135.n) e186.n) e192.n) e222.n)))).fr e301 Dj.nil_l).ext e314).fr e320 (hb315.djn (h_UpFirst.lt.le (t_ (t_ (t_ (t_ (t_ (t_ (t_ (t_ (t_ (t_ (t_ (t_ e4.n e14.n) e31.n) e57.n) e100.n) e106.n) e135.n) e186.n) e192.n) e222.n) e273.n) e279.n) e301.n)))).fr e338 Dj.nil_l).ext e351).fr e357 (hb352.djn (h_UpFirst.lt.le (t_ n433 n434)))).fr e375 Dj.nil_l).fr e401 Dj.nil_l).fr e423 Dj.nil_l)
 have u437 := ((((((((((((((((((u40.fr e57 Dj.nil_l).ext e100).fr e106 (hb101.djn (h_Up.lt.le (t_ (t_ (t_ e4.n e14.n) e31.n) e57.n)))).fr e135 Dj.nil_l).ext e186).fr e192 (hb187.djn (h_Up.lt.le (t_ (t_ (t_ (t_ (t_ (t_ e4.n e14.n) e31.n) e57.n) e100.n) e106.n) e135.n)))).fr e222 Dj.nil_l).ext e273).fr e279 (hb274.djn (h_Up.lt.le (t_ (t_ (t_ (t_ (t_ (t_ (t_ (t_ (t_ e4.n e14.n) e31.n) e57.n) e100.n) e106.n) e135.n) e186.n) e192.n) e222.n)))).fr e301 Dj.nil_l).ext e314).fr e320 (hb315.djn (h_Up.lt.le (t_ (t_ (t_ (t_ (t_ (t_ (t_ (t_ (t_ (t_ (t_ (t_ e4.n e14.n) e31.n) e57.n) e100.n) e106.n) e135.n) e186.n) e192.n) e222.n) e273.n) e279.n) e301.n)))).fr e338 Dj.nil_l).ext e351).fr e357 (hb352.djn (h_Up.lt.le (t_ n433 n434)))).fr e375 Dj.nil_l).fr e401 Dj.nil_l).fr e423 Dj.nil_l)
 have u438 := ((((((((((((((((((u41.fr e57 Dj.nil_l).ext e100).fr e106 (hb101.djn (h_DownFirst.lt.le (t_ (t_ (t_ e4.n e14.n) e31.n) e57.n)))).fr e135 Dj.nil_l).ext e186).fr e192 (hb187.djn (h_DownFirst.lt.le (t_ (t_ (t_ (t_ (t_ (t_ e4.n e14.n) e31.n) e57.n) e100.n) e106.n) e135.n)))).fr e222 Dj.nil_l).ext e273).fr e279 (hb274.djn (h_DownFirst.lt.le (t_ (t_ (t_ (t_ (t_ (t_ (t_ (t_ (t_ e4.n e14.n) e31.n) e57.n) e100.n) e106.n) e135.n) e186.n) e192.n) e222.n)))).fr e301 Dj.nil_l).ext e314).fr e320 (hb315.djn (h_DownFirst.lt.le (t_ (t_ (t_ (t_ (t_ (t_ (t_ (t_ (t_ (t_ (t_ (t_ e4.n e14.n) e31.n) e57.n) e100.n) e106.n) e135.n) e186.n) e192.n) e222.n) e273.n) e279.n) e301.n)))).fr e338 Dj.nil_l).ext e351).fr e357 (hb352.djn (h_DownFirst.lt.le (t_ n433 n434)))).fr e375 Dj.nil_l).fr e401 Dj.nil_l).fr e423 Dj.nil_l)
 have u439 := ((((((((((((((((((u42.fr e57 Dj.nil_l).ext e100).fr e106 (hb101.djn (h_Down.lt.le (t_ (t_ (t_ e4.n e14.n) e31.n) e57.n)))).fr e135 Dj.nil_l).ext e186).fr e192 (hb187.djn (h_Down.lt.le (t_ (t_ (t_ (t_ (t_ (t_ e4.n e14.n) e31.n) e57.n) e100.n) e106.n) e135.n)))).fr e222 Dj.nil_l).ext e273).fr e279 (hb274.djn (h_Down.lt.le (t_ (t_ (t_ (t_ (t_ (t_ (t_ (t_ (t_ e4.n e14.n) e31.n) e57.n) e100.n) e106.n) e135.n) e186.n) e192.n) e222.n)))).fr e301 Dj.nil_l).ext e314).fr e320 (hb315.djn (h_Down.lt.le (t_ (t_ (t_ (t_ (t_ (t_ (t_ (t_ (t_ (t_ (t_ (t_ e4.n e14.n) e31.n) e57.n) e100.n) e106.n) e135.n) e186.n) e192.n) e222.n) e273.n) e279.n) e301.n)))).fr e338 Dj.nil_l).ext e351).fr e357 (hb352.djn (h_Down.lt.le (t_ n433 n434)))).fr e375 Dj.nil_l).fr e401 Dj.nil_l).fr e423 Dj.nil_l)
 obtain ⟨y440, hy441, r442⟩ := bind_some r421
 refine s_ck 41 #[.agg #[.slice a83 n84 c85, .slice a86 n87 c88, .slice a89 n90 c91, .slice a92 n93 c94, .slice a95 n96 c97], .agg #[hd_Node, hd_UpFirst, hd_Up, hd_DownFirst, hd_Down]] (by kernel_rfl) (c_viaductref10_Same e423.wf u428.sq u429.sq u430.sq u431.sq u432.sq u435 u436 u437 u438 u439 hy441) ?_
 rintro _ H443 ⟨rfl, e444⟩
 refine q_ (.bool (!y440)) (s_nil (k425 _ _ ?_))
 refine w_cond ((!y440)) (by kernel_rfl) rfl (fun h445 => ?_) (fun h445 => ?_)
 ·have r446 := ite_t h445 r442
  refine w_seqk fun _ k447 => g_' (q_ (.bool false) (s_nil (k447 _ _ ?_)))
  refine w_ret (th_ret ?_)
  refine b_ret (fn := Try.f5) (vs := [.bool false]) (rt_ (rfl)) ?_
  obtain rfl := oi_ r446
  exact ⟨rfl, (FrS.step wf (FrS.step wf (FrS.step wf (FrS.step wf (FrS.step wf ((FrS.step wf (FrS.step wf ((FrS.step wf (FrS.step wf ((FrS.step wf (FrS.step wf ((FrS.step wf (FrS.step wf ((FrS.step wf (FrS.step wf (FrS.step wf ((f0_ wf).extR e4) e14 Inn.nil) e31 Inn.nil) e57 Inn.nil).extR e100) e106 (hb101.fresh (t_ (t_ (t_ e4.n e14.n) e31.n) e57.n))) e135 Inn.nil).extR e186) e192 (hb187.fresh (t_ (t_ (t_ (t_ (t_ (t_ e4.n e14.n) e31.n) e57.n) e100.n) e106.n) e135.n))) e222 Inn.nil).extR e273) e279 (hb274.fresh (t_ (t_ (t_ (t_ (t_ (t_ (t_ (t_ (t_ e4.n e14.n) e31.n) e57.n) e100.n) e106.n) e135.n) e186.n) e192.n) e222.n))) e301 Inn.nil).extR e314) e320 (hb315.fresh (t_ (t_ (t_ (t_ (t_ (t_ (t_ (t_ (t_ (t_ (t_ (t_ e4.n e14.n) e31.n) e57.n) e100.n) e106.n) e135.n) e186.n) e192.n) e222.n) e273.n) e279.n) e301.n))) e338 Inn.nil).extR e351) e357 (hb352.fresh (t_ n433 n434))) e375 Inn.nil) e401 Inn.nil) e423 Inn.nil) e444 Inn.nil)⟩
 have r448 := ite_bf h445 r442
 refine w_skip (k424 _ _ (w_seqk fun _ k449 => w_seqk fun _ k450 => g_' (q_ (pt_ b184 0) ?_)))
 have u451 := (((((((((((((r193.frS e222 Dj.nil_l).ext e273).frS e279 (hb274.djn (r188.ltF.le (t_ e192.n e222.n)))).frS e301 Dj.nil_l).ext e314).frS e320 (hb315.djn (r188.ltF.le (t_ (t_ (t_ (t_ e192.n e222.n) e273.n) e279.n) e301.n)))).frS e338 Dj.nil_l).ext e351).frS e357 (hb352.djn (r188.ltF.le (t_ (t_ (t_ (t_ (t_ (t_ (t_ e192.n e222.n) e273.n) e279.n) e301.n) e314.n) e320.n) e338.n)))).frS e375 Dj.nil_l).frS e401 Dj.nil_l).frS e423 Dj.nil_l).frS e444 Dj.nil_l)
 refine l_' (.slice a169 n170 c171) (aL_ 78 (pt_ b184 0) H443) (u451.l_) ?_
 refine q_ (pt_ b184 1) ?_
 refine l_' (.slice a172 n173 c174) (aL_ 78 (pt_ b184 1) H443) (u451.l_) ?_
 refine q_ (pt_ b184 3) ?_
 refine l_' (.slice a178 n179 c180) (aL_ 78 (pt_ b184 3) H443) (u451.l_) ?_
 refine q_ (pt_ b98 0) ?_
 have u452 := (u426.frS e444 Dj.nil_l)
 refine l_' (.slice a83 n84 c85) (aL_ 78 (pt_ b98 0) H443) (u452.l_) ?_
 refine q_ (pt_ b98 1) ?_
 refine l_' (.slice a86 n87 c88) (aL_ 78 (pt_ b98 1) H443) (u452.l_) ?_
 refine q_ (pt_ b98 3) ?_
 refine l_' (.slice a92 n93 c94) (aL_ 78 (pt_ b98 3) H443) (u452.l_) ?_
 have u458 := (u431.fr e444 Dj.nil_l)
 have u459 := (u429.fr e444 Dj.nil_l)
 have u460 := (u428.fr e444 Dj.nil_l)
 have u461 := ((((((((((((((u195.fr e192 (hb187.djn m139.lt)).fr e222 Dj.nil_l).ext e273).fr e279 (hb274.djn (m139.lt.le (t_ (t_ e186.n e192.n) e222.n)))).fr e301 Dj.nil_l).ext e314).fr e320 (hb315.djn (m139.lt.le (t_ (t_ (t_ (t_ (t_ e186.n e192.n) e222.n) e273.n) e279.n) e301.n)))).fr e338 Dj.nil_l).ext e351).fr e357 (hb352.djn (m139.lt.le (t_ (t_ (t_ (t_ (t_ (t_ (t_ (t_ e186.n e192.n) e222.n) e273.n) e279.n) e301.n) e314.n) e320.n) e338.n)))).fr e375 Dj.nil_l).fr e401 Dj.nil_l).fr e423 Dj.nil_l).fr e444 Dj.nil_l)
 have u462 := ((((((((((((((u197.fr e192 (hb187.djn m137.lt)).fr e222 Dj.nil_l).ext e273).fr e279 (hb274.djn (m137.lt.le (t_ (t_ e186.n e192.n) e222.n)))).fr e301 Dj.nil_l).ext e314).fr e320 (hb315.djn (m137.lt.le (t_ (t_ (t_ (t_ (t_ e186.n e192.n) e222.n) e273.n) e279.n) e301.n)))).fr e338 Dj.nil_l).ext e351).fr e357 (hb352.djn (m137.lt.le (t_ (t_ (t_ (t_ (t_ (t_ (t_ (t_ e186.n e192.n) e222.n) e273.n) e279.n) e301.n) e314.n) e320.n) e338.n)))).fr e375 Dj.nil_l).fr e401 Dj.nil_l).fr e423 Dj.nil_l).fr e444 Dj.nil_l)
 have u463 := ((((((((((((((u198.fr e192 (hb187.djn m136.lt)).fr e222 Dj.nil_l).ext e273).fr e279 (hb274.djn (m136.lt.le (t_ (t_ e186.n e192.n) e222.n)))).fr e301 Dj.nil_l).ext e314).fr e320 (hb315.djn (m136.lt.le (t_ (t_ (t_ (t_ (t_ e186.n e192.n) e222.n) e273.n) e279.n) e301.n)))).fr e338 Dj.nil_l).ext e351).fr e357 (hb352.djn (m136.lt.le (t_ (t_ (t_ (t_ (t_ (t_ (t_ (t_ e186.n e192.n) e222.n) e273.n) e279.n) e301.n) e314.n) e320.n) e338.n)))).fr e375 Dj.nil_l).fr e401 Dj.nil_l).fr e423 Dj.nil_l).fr e444 Dj.nil_l)
 refine s_lsl e444.wf [.slice a169 n170 c171, .slice a172 n173 c174, .slice a178 n179 c180, .slice a83 n84 c85, .slice a86 n87 c88, .slice a92 n93 c94] 6 (one_cons (u463.one1) (one_cons (u462.one1) (one_cons (u461.one1) (one_cons (u460.one1) (one_cons (u459.one1) (one_cons (u458.one1) (one_nil))))))) (by kernel_rfl) fun b453 H454 e455 hb456 r457 => ?_
 refine q_ (i_ 6) (q_ (i_ 0) (s_nil (k450 _ _ (w_block ?_))))
 refine w_unroll ?_
 refine w_seqk fun _ k465 => g_' (q_ (.bool true) (s_nil (k465 _ _ (w_seqk fun _ k466 => ?_))))
 refine w_cond true (by kernel_rfl) rfl (fun _ => ?_) (fun h => by cases h)
 refine w_skip (k466 _ _ (w_seqk fun _ k467 => w_block (w_seqk fun _ k468 => g_' (q_ (pt_ b453 0) ?_))))
 refine l_' (.slice a169 n170 c171) (aL_ 78 (pt_ b453 0) H454) (r457.l_) ?_
 refine q_ (.slice a169 n170 c171) (s_nil (k468 _ _ (w_seqk fun _ k469 => w_seqk fun _ k470 => g_' (q_ (.slice a169 n170 c171) ?_))))
 have u471 := (u463.ext e455)
 refine l_' (i_ (y119.1.length : Int)) (aLen Try.prog 78 (.slice a169 n170 c171) H454) (u471.sq.lenb (by kernel_rfl)) ?_
 refine q_ (i_ 0) (s_nil (k470 _ _ ?_))
 obtain ⟨o472, hx473, r474⟩ := bind_some r448
 refine w_mid (fun α H475 => Has α [(1, pt_ b2 0), (3, pt_ b98 0), (4, pt_ b184 0), (6, pt_ b271 0), (8, pt_ b312 0), (10, pt_ b349 0), (12, .slice a383 n384 c385), (14, .slice a409 n410 c411), (17, .slice a169 n170 c171), (86, .slice (some ⟨b453, 0, none⟩) 6 6), (87, i_ 6), (88, i_ 0)] ∧ FrS f123 H454 H475 ∧ Ow (encI .u32) 1 H475 (.slice a169 n170 c171) o472 f123) (fun _ k479 => ?_) (fun α H475 hM => ?_)
 ·refine w_block ?_
  obtain ⟨n481, hn482⟩ := loopO_iff.1 hx473
  refine w_loopn (fun n α H483 => ∃ (p0 : List (Int)), ∃ (i1 : Int), iterO (fun zz_ => z_viaductlaw10_HierMemory_l0 y119 zz_.1 zz_.2) n (p0, i1) = some o472 ∧ Has α [(1, pt_ b2 0), (3, pt_ b98 0), (4, pt_ b184 0), (6, pt_ b271 0), (8, pt_ b312 0), (10, pt_ b349 0), (12, .slice a383 n384 c385), (14, .slice a409 n410 c411), (17, .slice a169 n170 c171), (86, .slice (some ⟨b453, 0, none⟩) 6 6), (87, i_ 6), (88, i_ 0), (93, i_ (y119.1.length : Int)), (94, i_ i1)] ∧ FrS f123 H454 H483 ∧ Ow (encI .u32) 1 H483 (.slice a169 n170 c171) p0 f123) n481 ⟨y119.1, 0, hn482, ha_, (FrS.refl (W := f123) e455.wf), u471⟩ ?_
  rintro n481 α H483 ⟨p0, i1, hi488, hh487, e484, m486⟩ K493 k493
  obtain ⟨n489, z490, rfl, hz491, hn492⟩ := iter_succ hi488
  obtain ⟨β, rfl⟩ := has_ex hh487
  clear hh487
  replace hz491 : z_viaductlaw10_HierMemory_l0 y119 p0 i1 = some z490 := hz491
  unfold z_viaductlaw10_HierMemory_l0 at hz491
  refine w_seqk fun _ k494 => g_' (q_ (.bool (decide (i1 < (y119.1.length : Int)))) (s_nil (k494 _ _ (w_seqk fun _ k495 => ?_))))
  refine w_condp (i1 < (y119.1.length : Int)) (by kernel_rfl) rfl (fun h496 => ?_) (fun h496 => ?_)
  ·have r497 := ite_t h496 hz491
   refine w_skip (k495 _ _ (w_seqk fun _ k498 => w_block (w_seqk fun _ k499 => g_' (q_ (i_ i1) (q_ (i_ i1) (s_nil (k499 _ _ (g_' (q_ (.slice a169 n170 c171) (q_ (i_ i1) ?_))))))))))
   obtain ⟨g500, r501⟩ := G_some r497
   refine l_' (elp (.slice a169 n170 c171) 1 i1.toNat 0) (aIndexAddr Try.prog 78 (.slice a169 n170 c171) (i_ i1)) (m486.sq.idxb (by kernel_rfl) g500.1 g500.2) ?_
   obtain ⟨H502, q503, e504, hm505⟩ := Ow.store (P := Try.prog) (t := 90) (off := 0) e484.wf m486 g500.1 g500.2 (.int .u32 7777) [.int .u32 7777] (by kernel_rfl) (by kernel_rfl) rfl 7777 (Nat.le_of_ble_eq_true rfl) (by kernel_rfl)
   refine s_ek (undef) (by kernel_rfl) (map_ok q503) ?_
   refine s_nil (k498 _ _ (g_' ?_))
   obtain ⟨g506, r507⟩ := G_some r501
   refine w_' (i1 + 1) (wrap64 (by have := g506; omega)) ?_
   refine q_ (i_ (i1 + 1)) (s_nil ?_)
   obtain rfl := oi_ r507
   exact k493 n489 _ _ (Nat.lt_succ_self _) ⟨(p0.set i1.toNat 7777), (i1 + 1), hn492, ha_, (FrS.step e455.wf (FrS.step e455.wf (FrS.refl (W := f123) e455.wf) e484 Inn.refl') e504 Inn.refl'), hm505⟩
  have r508 := ite_f h496 hz491
  refine w_exit (th_exit (th_exit (bl_eq ?_)))
  obtain rfl := oi_ r508
  obtain rfl := it_inr hn492
  exact k479 _ _ ⟨ha_, (FrS.step e455.wf (FrS.refl (W := f123) e455.wf) e484 Inn.refl'), m486⟩
 obtain ⟨hh480, e476, m478⟩ := hM
 obtain ⟨β, rfl⟩ := has_ex hh480
 clear hh480
 refine k469 _ _ (w_seqk fun _ k509 => g_' (q_ (.slice a169 n170 c171) ?_))
 refine s_owk (enc := (encI .u32)) (sz := 1) e476.wf [1, 2] 2 (by decide) (fun _ _ => rfl) (fun _ _ => rfl) rfl (by kernel_rfl) fun s510 f511 H512 e513 hf514 hm515 => ?_
 obtain ⟨a516, n517, c518, rfl⟩ := hm515.form
 have u520 := (m478.ext e513)
 obtain ⟨g521, r522⟩ := G_some r474
 obtain ⟨s523, f525, H530, H531, q529, q532, hf528, hk533⟩ := Ow.append2 (P := Try.prog) 4 e513.wf u520 hm515.sq (fun _ _ => rfl) (at_ := #[78, 78]) rfl rfl (by kernel_rfl) (by kernel_rfl) (by decide) (by have := g521; first | omega | (simp only [List.length_cons, List.length_nil] at this ⊢; omega) | (simp at this ⊢; omega))
 refine s_apk (by kernel_rfl) (by kernel_rfl) q529 q532 fun H524 hH534 => ?_
 obtain ⟨e526, hm527, ho535⟩ := hk533 H524 hH534
 obtain ⟨a536, n537, c538, rfl⟩ := hm527.form
 refine q_ (.slice a536 n537 c538) (s_nil (k509 _ _ (w_seqk fun _ k540 => g_' (q_ (.slice a536 n537 c538) ?_))))
 refine l_' (i_ ((o472 ++ [1, 2]).length : Int)) (aLen Try.prog 78 (.slice a536 n537 c538) H524) (hm527.sq.lenb (by kernel_rfl)) ?_
 refine q_ (.slice a169 n170 c171) ?_
 refine l_' (i_ (o472.length : Int)) (aLen Try.prog 78 (.slice a169 n170 c171) H524) (ho535.sq.lenb (by kernel_rfl)) ?_
 obtain ⟨g541, r542⟩ := G_some r522
 refine w_' ((o472.length : Int) + 2) (wrap64 (by have := g541; omega)) ?_
 refine q_ (.bool (!decide (((o472 ++ [1, 2]).length : Int) = ((o472.length : Int) + 2)))) (s_nil (k540 _ _ ?_))
 refine w_condn (((o472 ++ [1, 2]).length : Int) = ((o472.length : Int) + 2)) (by kernel_rfl) rfl (fun h543 => ?_) (fun h543 => ?_)
 ·have r544 := ite_f h543 r542
  refine w_seqk fun _ k545 => g_' (q_ (.bool false) (s_nil (k545 _ _ ?_)))
  refine w_ret (bl_ret (th_ret (th_ret (bl_ret (th_ret ?_)))))
  refine b_ret (fn := Try.f5) (vs := [.bool false]) (rt_ (rfl)) ?_
  have c546 := ((FrS.step wf (FrS.step wf ((FrS.step wf (FrS.step wf (FrS.step wf ((f0_ wf).extR e4) e14 Inn.nil) e31 Inn.nil) e57 Inn.nil).extR e100) e106 (hb101.fresh (t_ (t_ (t_ e4.n e14.n) e31.n) e57.n))) e135 Inn.nil).extR e186)
  obtain rfl := oi_ r544
  exact ⟨rfl, (FrS.step wf ((FrS.step wf ((FrS.step wf (FrS.step wf (FrS.step wf (FrS.step wf (FrS.step wf ((FrS.step wf (FrS.step wf ((FrS.step wf (FrS.step wf ((FrS.step wf (FrS.step wf (FrS.step wf (f0_ wf) c546 Inn.nil) e192 (hb187.fresh (t_ (t_ (t_ (t_ (t_ (t_ e4.n e14.n) e31.n) e57.n) e100.n) e106.n) e135.n))) e222 Inn.nil).extR e273) e279 (hb274.fresh (t_ (t_ (t_ (t_ (t_ (t_ (t_ (t_ (t_ e4.n e14.n) e31.n) e57.n) e100.n) e106.n) e135.n) e186.n) e192.n) e222.n))) e301 Inn.nil).extR e314) e320 (hb315.fresh (t_ (t_ (t_ (t_ (t_ (t_ (t_ (t_ (t_ (t_ (t_ (t_ e4.n e14.n) e31.n) e57.n) e100.n) e106.n) e135.n) e186.n) e192.n) e222.n) e273.n) e279.n) e301.n))) e338 Inn.nil).extR e351) e357 (hb352.fresh (t_ n433 n434))) e375 Inn.nil) e401 Inn.nil) e423 Inn.nil) e444 Inn.nil).extR e455) e476 (i142.fresh (t_ (t_ (t_ (t_ (t_ e4.n e14.n) e31.n) e57.n) e100.n) e106.n))).extR e513) e526 (i142.fresh (t_ (t_ (t_ (t_ (t_ e4.n e14.n) e31.n) e57.n) e100.n) e106.n)))⟩
 have r547 := ite_t h543 r542
 refine w_skip (k467 _ _ (g_' (q_ (i_ 1) (q_ (i_ 1) (s_nil ?_)))))
 refine w_unroll ?_
 refine w_seqk fun _ k548 => g_' (q_ (.bool true) (s_nil (k548 _ _ (w_seqk fun _ k549 => ?_))))
 refine w_cond true (by kernel_rfl) rfl (fun _ => ?_) (fun h => by cases h)
 refine w_skip (k549 _ _ (w_seqk fun _ k550 => w_block (w_seqk fun _ k551 => g_' (q_ (pt_ b453 1) ?_))))
 have u552 := (((r457.frS e476 (Dj.symm (hb456.djn (m136.lt.le (t_ (t_ (t_ (t_ (t_ (t_ (t_ (t_ (t_ (t_ (t_ (t_ (t_ (t_ e186.n e192.n) e222.n) e273.n) e279.n) e301.n) e314.n) e320.n) e338.n) e351.n) e357.n) e375.n) e401.n) e423.n) e444.n))))).ext e513).frS e526 (Dj.symm (hb456.djn (m136.lt.le (t_ (t_ (t_ (t_ (t_ (t_ (t_ (t_ (t_ (t_ (t_ (t_ (t_ (t_ e186.n e192.n) e222.n) e273.n) e279.n) e301.n) e314.n) e320.n) e338.n) e351.n) e357.n) e375.n) e401.n) e423.n) e444.n)))))
 refine l_' (.slice a172 n173 c174) (aL_ 78 (pt_ b453 1) H524) (u552.l_) ?_
 refine q_ (.slice a172 n173 c174) (s_nil (k551 _ _ (w_seqk fun _ k553 => w_seqk fun _ k554 => g_' (q_ (.slice a172 n173 c174) ?_))))
 have u555 := ((((u462.ext e455).fr e476 d148).ext e513).fr e526 d148)
 refine l_' (i_ (y119.2.1.length : Int)) (aLen Try.prog 78 (.slice a172 n173 c174) H524) (u555.sq.lenb (by kernel_rfl)) ?_
 refine q_ (i_ 0) (s_nil (k554 _ _ ?_))
 obtain ⟨o556, hx557, r558⟩ := bind_some r547
 refine w_mid (fun α H559 => Has α [(1, pt_ b2 0), (3, pt_ b98 0), (4, pt_ b184 0), (6, pt_ b271 0), (8, pt_ b312 0), (10, pt_ b349 0), (12, .slice a383 n384 c385), (14, .slice a409 n410 c411), (17, .slice a172 n173 c174), (86, .slice (some ⟨b453, 0, none⟩) 6 6), (87, i_ 6), (88, i_ 1)] ∧ FrS f125 H524 H559 ∧ Ow (encI .u32) 1 H559 (.slice a172 n173 c174) o556 f125) (fun _ k563 => ?_) (fun α H559 hM => ?_)
 ·refine w_block ?_
  obtain ⟨n565, hn566⟩ := loopO_iff.1 hx557
  refine w_loopn (fun n α H567 => ∃ (p2 : List (Int)), ∃ (i3 : Int), iterO (fun zz_ => z_viaductlaw10_HierMemory_l1 y119 zz_.1 zz_.2) n (p2, i3) = some o556 ∧ Has α [(1, pt_ b2 0), (3, pt_ b98 0), (4, pt_ b184 0), (6, pt_ b271 0), (8, pt_ b312 0), (10, pt_ b349 0), (12, .slice a383 n384 c385), (14, .slice a409 n410 c411), (17, .slice a172 n173 c174), (86, .slice (some ⟨b453, 0, none⟩) 6 6), (87, i_ 6), (88, i_ 1), (93, i_ (y119.2.1.length : Int)), (94, i_ i3)] ∧ FrS f125 H524 H567 ∧ Ow (encI .u32) 1 H567 (.slice a172 n173 c174) p2 f125) n565 ⟨y119.2.1, 0, hn566, ha_, (FrS.refl (W := f125) e526.wf), u555⟩ ?_
  rintro n565 α H567 ⟨p2, i3, hi572, hh571, e568, m570⟩ K577 k577
  obtain ⟨n573, z574, rfl, hz575, hn576⟩ := iter_succ hi572
  obtain ⟨β, rfl⟩ := has_ex hh571
  clear hh571
  replace hz575 : z_viaductlaw10_HierMemory_l1 y119 p2 i3 = some z574 := hz575
  unfold z_viaductlaw10_HierMemory_l1 at hz575
  refine w_seqk fun _ k578 => g_' (q_ (.bool (decide (i3 < (y119.2.1.length : Int)))) (s_nil (k578 _ _ (w_seqk fun _ k579 => ?_))))
  refine w_condp (i3 < (y119.2.1.length : Int)) (by kernel_rfl) rfl (fun h580 => ?_) (fun h580 => ?_)
  ·have r581 := ite_t h580 hz575
   refine w_skip (k579 _ _ (w_seqk fun _ k582 => w_block (w_seqk fun _ k583 => g_' (q_ (i_ i3) (q_ (i_ i3) (s_nil (k583 _ _ (g_' (q_ (.slice a172 n173 c174) (q_ (i_ i3) ?_))))))))))
   obtain ⟨g584, r585⟩ := G_some r581
   refine l_' (elp (.slice a172 n173 c174) 1 i3.toNat 0) (aIndexAddr Try.prog 78 (.slice a172 n173 c174) (i_ i3)) (m570.sq.idxb (by kernel_rfl) g584.1 g584.2) ?_
   obtain ⟨H586, q587, e588, hm589⟩ := Ow.store (P := Try.prog) (t := 90) (off := 0) e568.wf m570 g584.1 g584.2 (.int .u32 7777) [.int .u32 7777] (by kernel_rfl) (by kernel_rfl) rfl 7777 (Nat.le_of_ble_eq_true rfl) (by kernel_rfl)
   refine s_ek (undef) (by kernel_rfl) (map_ok q587) ?_
   refine s_nil (k582 _ _ (g_' ?_))
   obtain ⟨g590, r591⟩ := G_some r585
   refine w_' (i3 + 1) (wrap64 (by have := g590; omega)) ?_
   refine q_ (i_ (i3 + 1)) (s_nil ?_)
   obtain rfl := oi_ r591
   exact k577 n573 _ _ (Nat.lt_succ_self _) ⟨(p2.set i3.toNat 7777), (i3 + 1), hn576, ha_, (FrS.step e526.wf (FrS.step e526.wf (FrS.refl (W := f125) e526.wf) e568 Inn.refl') e588 Inn.refl'), hm589⟩
  have r592 := ite_f h580 hz575
  refine w_exit (th_exit (th_exit (bl_eq ?_)))
  obtain rfl := oi_ r592
  obtain rfl := it_inr hn576
  exact k563 _ _ ⟨ha_, (FrS.step e526.wf (FrS.refl (W := f125) e526.wf) e568 Inn.refl'), m570⟩
 obtain ⟨hh564, e560, m562⟩ := hM
 obtain ⟨β, rfl⟩ := has_ex hh564
 clear hh564
 refine k553 _ _ (w_seqk fun _ k593 => g_' (q_ (.slice a172 n173 c174) ?_))
 refine s_owk (enc := (encI .u32)) (sz := 1) e560.wf [1, 2] 2 (by decide) (fun _ _ => rfl) (fun _ _ => rfl) rfl (by kernel_rfl) fun s594 f595 H596 e597 hf598 hm599 => ?_
 obtain ⟨a600, n601, c602, rfl⟩ := hm599.form
 have u604 := (m562.ext e597)
 obtain ⟨g605, r606⟩ := G_some r558
 obtain ⟨s607, f609, H614, H615, q613, q616, hf612, hk617⟩ := Ow.append2 (P := Try.prog) 4 e597.wf u604 hm599.sq (fun _ _ => rfl) (at_ := #[78, 78]) rfl rfl (by kernel_rfl) (by kernel_rfl) (by decide) (by have := g605; first | omega | (simp only [List.length_cons, List.length_nil] at this ⊢; omega) | (simp at this ⊢; omega))
 refine s_apk (by kernel_rfl) (by kernel_rfl) q613 q616 fun H608 hH618 => ?_
 obtain ⟨e610, hm611, ho619⟩ := hk617 H608 hH618
 obtain ⟨a620, n621, c622, rfl⟩ := hm611.form
 refine q_ (.slice a620 n621 c622) (s_nil (k593 _ _ (w_seqk fun _ k624 => g_' (q_ (.slice a620 n621 c622) ?_))))
 refine l_' (i_ ((o556 ++ [1, 2]).length : Int)) (aLen Try.prog 78 (.slice a620 n621 c622) H608) (hm611.sq.lenb (by kernel_rfl)) ?_
 refine q_ (.slice a172 n173 c174) ?_
 refine l_' (i_ (o556.length : Int)) (aLen Try.prog 78 (.slice a172 n173 c174) H608) (ho619.sq.lenb (by kernel_rfl)) ?_
 obtain ⟨g625, r626⟩ := G_some r606
 refine w_' ((o556.length : Int) + 2) (wrap64 (by have := g625; omega)) ?_
 refine q_ (.bool (!decide (((o556 ++ [1, 2]).length : Int) = ((o556.length : Int) + 2)))) (s_nil (k624 _ _ ?_))
 refine w_condn (((o556 ++ [1, 2]).length : Int) = ((o556.length : Int) + 2)) (by kernel_rfl) rfl (fun h627 => ?_) (fun h627 => ?_)
 ·have r628 := ite_f h627 r626
  refine w_seqk fun _ k629 => g_' (q_ (.bool false) (s_nil (k629 _ _ ?_)))
  refine w_ret (bl_ret (th_ret (th_ret (bl_ret (th_ret ?_)))))
  refine b_ret (fn := Try.f5) (vs := [.bool false]) (rt_ (rfl)) ?_
  have c630 := ((FrS.step wf (FrS.step wf ((FrS.step wf (FrS.step wf (FrS.step wf ((f0_ wf).extR e4) e14 Inn.nil) e31 Inn.nil) e57 Inn.nil).extR e100) e106 (hb101.fresh (t_ (t_ (t_ e4.n e14.n) e31.n) e57.n))) e135 Inn.nil).extR e186)
  obtain rfl := oi_ r628
  exact ⟨rfl, (FrS.step wf ((FrS.step wf (FrS.step wf ((FrS.step wf ((FrS.step wf (FrS.step wf (FrS.step wf (FrS.step wf (FrS.step wf ((FrS.step wf (FrS.step wf ((FrS.step wf (FrS.step wf ((FrS.step wf (FrS.step wf (FrS.step wf (f0_ wf) c630 Inn.nil) e192 (hb187.fresh (t_ (t_ (t_ (t_ (t_ (t_ e4.n e14.n) e31.n) e57.n) e100.n) e106.n) e135.n))) e222 Inn.nil).extR e273) e279 (hb274.fresh (t_ (t_ (t_ (t_ (t_ (t_ (t_ (t_ (t_ e4.n e14.n) e31.n) e57.n) e100.n) e106.n) e135.n) e186.n) e192.n) e222.n))) e301 Inn.nil).extR e314) e320 (hb315.fresh (t_ (t_ (t_ (t_ (t_ (t_ (t_ (t_ (t_ (t_ (t_ (t_ e4.n e14.n) e31.n) e57.n) e100.n) e106.n) e135.n) e186.n) e192.n) e222.n) e273.n) e279.n) e301.n))) e338 Inn.nil).extR e351) e357 (hb352.fresh (t_ n433 n434))) e375 Inn.nil) e401 Inn.nil) e423 Inn.nil) e444 Inn.nil).extR e455) e476 (i142.fresh (t_ (t_ (t_ (t_ (t_ e4.n e14.n) e31.n) e57.n) e100.n) e106.n))).extR e513) e526 (i142.fresh (t_ (t_ (t_ (t_ (t_ e4.n e14.n) e31.n) e57.n) e100.n) e106.n))) e560 (i143.fresh (t_ (t_ (t_ (t_ (t_ e4.n e14.n) e31.n) e57.n) e100.n) e106.n))).extR e597) e610 (i143.fresh (t_ (t_ (t_ (t_ (t_ e4.n e14.n) e31.n) e57.n) e100.n) e106.n)))⟩
 have r631 := ite_t h627 r626
 refine w_skip (k550 _ _ (g_' (q_ (i_ 2) (q_ (i_ 2) (s_nil ?_)))))
 refine w_unroll ?_
 refine w_seqk fun _ k632 => g_' (q_ (.bool true) (s_nil (k632 _ _ (w_seqk fun _ k633 => ?_))))
 refine w_cond true (by kernel_rfl) rfl (fun _ => ?_) (fun h => by cases h)
 refine w_skip (k633 _ _ (w_seqk fun _ k634 => w_block (w_seqk fun _ k635 => g_' (q_ (pt_ b453 2) ?_))))
 have u636 := (((u552.frS e560 (Dj.symm (hb456.djn (m137.lt.le (t_ (t_ (t_ (t_ (t_ (t_ (t_ (t_ (t_ (t_ (t_ (t_ (t_ (t_ e186.n e192.n) e222.n) e273.n) e279.n) e301.n) e314.n) e320.n) e338.n) e351.n) e357.n) e375.n) e401.n) e423.n) e444.n))))).ext e597).frS e610 (Dj.symm (hb456.djn (m137.lt.le (t_ (t_ (t_ (t_ (t_ (t_ (t_ (t_ (t_ (t_ (t_ (t_ (t_ (t_ e186.n e192.n) e222.n) e273.n) e279.n) e301.n) e314.n) e320.n) e338.n) e351.n) e357.n) e375.n) e401.n) e423.n) e444.n)))))
 refine l_' (.slice a178 n179 c180) (aL_ 78 (pt_ b453 2) H608) (u636.l_) ?_
 refine q_ (.slice a178 n179 c180) (s_nil (k635 _ _ (w_seqk fun _ k637 => w_seqk fun _ k638 => g_' (q_ (.slice a178 n179 c180) ?_))))
 have u639 := (((((((u461.ext e455).fr e476 d151).ext e513).fr e526 d151).fr e560 d152).ext e597).fr e610 d152)
 refine l_' (i_ (y119.2.2.2.1.length : Int)) (aLen Try.prog 78 (.slice a178 n179 c180) H608) (u639.sq.lenb (by kernel_rfl)) ?_
 refine q_ (i_ 0) (s_nil (k638 _ _ ?_))
 obtain ⟨o640, hx641, r642⟩ := bind_some r631
 refine w_mid (fun α H643 => Has α [(1, pt_ b2 0), (3, pt_ b98 0), (4, pt_ b184 0), (6, pt_ b271 0), (8, pt_ b312 0), (10, pt_ b349 0), (12, .slice a383 n384 c385), (14, .slice a409 n410 c411), (17, .slice a178 n179 c180), (86, .slice (some ⟨b453, 0, none⟩) 6 6), (87, i_ 6), (88, i_ 2)] ∧ FrS f129 H608 H643 ∧ Ow (encI .u32) 1 H643 (.slice a178 n179 c180) o640 f129) (fun _ k647 => ?_) (fun α H643 hM => ?_)
 ·refine w_block ?_
  obtain ⟨n649, hn650⟩ := loopO_iff.1 hx641
  refine w_loopn (fun n α H651 => ∃ (p4 : List (Int)), ∃ (i5 : Int), iterO (fun zz_ => z_viaductlaw10_HierMemory_l2 y119 zz_.1 zz_.2) n (p4, i5) = some o640 ∧ Has α [(1, pt_ b2 0), (3, pt_ b98 0), (4, pt_ b184 0), (6, pt_ b271 0), (8, pt_ b312 0), (10, pt_ b349 0), (12, .slice a383 n384 c385), (14, .slice a409 n410 c411), (17, .slice a178 n179 c180), (86, .slice (some ⟨b453, 0, none⟩) 6 6), (87, i_ 6), (88, i_ 2), (93, i_ (y119.2.2.2.1.length : Int)), (94, i_ i5)] ∧ FrS f129 H608 H651 ∧ Ow (encI .u32) 1 H651 (.slice a178 n179 c180) p4 f129) n649 ⟨y119.2.2.2.1, 0, hn650, ha_, (FrS.refl (W := f129) e610.wf), u639⟩ ?_
  rintro n649 α H651 ⟨p4, i5, hi656, hh655, e652, m654⟩ K661 k661
  obtain ⟨n657, z658, rfl, hz659, hn660⟩ := iter_succ hi656
  obtain ⟨β, rfl⟩ := has_ex hh655
  clear hh655
  replace hz659 : z_viaductlaw10_HierMemory_l2 y119 p4 i5 = some z658 := hz659
  unfold z_viaductlaw10_HierMemory_l2 at hz659
  refine w_seqk fun _ k662 => g_' (q_ (.bool (decide (i5 < (y119.2.2.2.1.length : Int)))) (s_nil (k662 _ _ (w_seqk fun _ k663 => ?_))))
  refine w_condp (i5 < (y119.2.2.2.1.length : Int)) (by kernel_rfl) rfl (fun h664 => ?_) (fun h664 => ?_)
  ·have r665 := ite_t h664 hz659
   refine w_skip (k663 _ _ (w_seqk fun _ k666 => w_block (w_seqk fun _ k667 => g_' (q_ (i_ i5) (q_ (i_ i5) (s_nil (k667 _ _ (g_' (q_ (.slice a178 n179 c180) (q_ (i_ i5) ?_))))))))))
   obtain ⟨g668, r669⟩ := G_some r665
   refine l_' (elp (.slice a178 n179 c180) 1 i5.toNat 0) (aIndexAddr Try.prog 78 (.slice a178 n179 c180) (i_ i5)) (m654.sq.idxb (by kernel_rfl) g668.1 g668.2) ?_
   obtain ⟨H670, q671, e672, hm673⟩ := Ow.store (P := Try.prog) (t := 90) (off := 0) e652.wf m654 g668.1 g668.2 (.int .u32 7777) [.int .u32 7777] (by kernel_rfl) (by kernel_rfl) rfl 7777 (Nat.le_of_ble_eq_true rfl) (by kernel_rfl)
   refine s_ek (undef) (by kernel_rfl) (map_ok q671) ?_
   refine s_nil (k666 _ _ (g_' ?_))
   obtain ⟨g674, r675⟩ := G_some r669
   refine w_' (i5 + 1) (wrap64 (by have := g674; omega)) ?_
   refine q_ (i_ (i5 + 1)) (s_nil ?_)
   obtain rfl := oi_ r675
   exact k661 n657 _ _ (Nat.lt_succ_self _) ⟨(p4.set i5.toNat 7777), (i5 + 1), hn660, ha_, (FrS.step e610.wf (FrS.step e610.wf (FrS.refl (W := f129) e610.wf) e652 Inn.refl') e672 Inn.refl'), hm673⟩
  have r676 := ite_f h664 hz659
  refine w_exit (th_exit (th_exit (bl_eq ?_)))
  obtain rfl := oi_ r676
  obtain rfl := it_inr hn660
  exact k647 _ _ ⟨ha_, (FrS.step e610.wf (FrS.refl (W := f129) e610.wf) e652 Inn.refl'), m654⟩
 obtain ⟨hh648, e644, m646⟩ := hM
 obtain ⟨β, rfl⟩ := has_ex hh648
 clear hh648
 refine k637 _ _ (w_seqk fun _ k677 => g_' (q_ (.slice a178 n179 c180) ?_))
 refine s_owk (enc := (encI .u32)) (sz := 1) e644.wf [1, 2] 2 (by decide) (fun _ _ => rfl) (fun _ _ => rfl) rfl (by kernel_rfl) fun s678 f679 H680 e681 hf682 hm683 => ?_
 obtain ⟨a684, n685, c686, rfl⟩ := hm683.form
 have u688 := (m646.ext e681)
 obtain ⟨g689, r690⟩ := G_some r642
 obtain ⟨s691, f693, H698, H699, q697, q700, hf696, hk701⟩ := Ow.append2 (P := Try.prog) 4 e681.wf u688 hm683.sq (fun _ _ => rfl) (at_ := #[78, 78]) rfl rfl (by kernel_rfl) (by kernel_rfl) (by decide) (by have := g689; first | omega | (simp only [List.length_cons, List.length_nil] at this ⊢; omega) | (simp at this ⊢; omega))
 refine s_apk (by kernel_rfl) (by kernel_rfl) q697 q700 fun H692 hH702 => ?_
 obtain ⟨e694, hm695, ho703⟩ := hk701 H692 hH702
 obtain ⟨a704, n705, c706, rfl⟩ := hm695.form
 refine q_ (.slice a704 n705 c706) (s_nil (k677 _ _ (w_seqk fun _ k708 => g_' (q_ (.slice a704 n705 c706) ?_))))
 refine l_' (i_ ((o640 ++ [1, 2]).length : Int)) (aLen Try.prog 78 (.slice a704 n705 c706) H692) (hm695.sq.lenb (by kernel_rfl)) ?_
 refine q_ (.slice a178 n179 c180) ?_
 refine l_' (i_ (o640.length : Int)) (aLen Try.prog 78 (.slice a178 n179 c180) H692) (ho703.sq.lenb (by kernel_rfl)) ?_
 obtain ⟨g709, r710⟩ := G_some r690
 refine w_' ((o640.length : Int) + 2) (wrap64 (by have := g709; omega)) ?_
 refine q_ (.bool (!decide (((o640 ++ [1, 2]).length : Int) = ((o640.length : Int) + 2)))) (s_nil (k708 _ _ ?_))
 refine w_condn (((o640 ++ [1, 2]).length : Int) = ((o640.length : Int) + 2)) (by kernel_rfl) rfl (fun h711 => ?_) (fun h711 => ?_)
 ·have r712 := ite_f h711 r710
  refine w_seqk fun _ k713 => g_' (q_ (.bool false) (s_nil (k713 _ _ ?_)))
  refine w_ret (bl_ret (th_ret (th_ret (bl_ret (th_ret ?_)))))
  refine b_ret (fn := Try.f5) (vs := [.bool false]) (rt_ (rfl)) ?_
  have c714 := ((FrS.step wf (FrS.step wf ((FrS.step wf (FrS.step wf (FrS.step wf ((f0_ wf).extR e4) e14 Inn.nil) e31 Inn.nil) e57 Inn.nil).extR e100) e106 (hb101.fresh (t_ (t_ (t_ e4.n e14.n) e31.n) e57.n))) e135 Inn.nil).extR e186)
  obtain rfl := oi_ r712
  exact ⟨rfl, (FrS.step wf ((FrS.step wf (FrS.step wf ((FrS.step wf (FrS.step wf ((FrS.step wf ((FrS.step wf (FrS.step wf (FrS.step wf (FrS.step wf (FrS.step wf ((FrS.step wf (FrS.step wf ((FrS.step wf (FrS.step wf ((FrS.step wf (FrS.step wf (FrS.step wf (f0_ wf) c714 Inn.nil) e192 (hb187.fresh (t_ (t_ (t_ (t_ (t_ (t_ e4.n e14.n) e31.n) e57.n) e100.n) e106.n) e135.n))) e222 Inn.nil).extR e273) e279 (hb274.fresh (t_ (t_ (t_ (t_ (t_ (t_ (t_ (t_ (t_ e4.n e14.n) e31.n) e57.n) e100.n) e106.n) e135.n) e186.n) e192.n) e222.n))) e301 Inn.nil).extR e314) e320 (hb315.fresh (t_ (t_ (t_ (t_ (t_ (t_ (t_ (t_ (t_ (t_ (t_ (t_ e4.n e14.n) e31.n) e57.n) e100.n) e106.n) e135.n) e186.n) e192.n) e222.n) e273.n) e279.n) e301.n))) e338 Inn.nil).extR e351) e357 (hb352.fresh (t_ n433 n434))) e375 Inn.nil) e401 Inn.nil) e423 Inn.nil) e444 Inn.nil).extR e455) e476 (i142.fresh (t_ (t_ (t_ (t_ (t_ e4.n e14.n) e31.n) e57.n) e100.n) e106.n))).extR e513) e526 (i142.fresh (t_ (t_ (t_ (t_ (t_ e4.n e14.n) e31.n) e57.n) e100.n) e106.n))) e560 (i143.fresh (t_ (t_ (t_ (t_ (t_ e4.n e14.n) e31.n) e57.n) e100.n) e106.n))).extR e597) e610 (i143.fresh (t_ (t_ (t_ (t_ (t_ e4.n e14.n) e31.n) e57.n) e100.n) e106.n))) e644 (i145.fresh (t_ (t_ (t_ (t_ (t_ e4.n e14.n) e31.n) e57.n) e100.n) e106.n))).extR e681) e694 (i145.fresh (t_ (t_ (t_ (t_ (t_ e4.n e14.n) e31.n) e57.n) e100.n) e106.n)))⟩
 have r715 := ite_t h711 r710
 refine w_skip (k634 _ _ (g_' (q_ (i_ 3) (q_ (i_ 3) (s_nil ?_)))))
 refine w_unroll ?_
 refine w_seqk fun _ k716 => g_' (q_ (.bool true) (s_nil (k716 _ _ (w_seqk fun _ k717 => ?_))))
 refine w_cond true (by kernel_rfl) rfl (fun _ => ?_) (fun h => by cases h)
 refine w_skip (k717 _ _ (w_seqk fun _ k718 => w_block (w_seqk fun _ k719 => g_' (q_ (pt_ b453 3) ?_))))
 have u720 := (((u636.frS e644 (Dj.symm (hb456.djn (m139.lt.le (t_ (t_ (t_ (t_ (t_ (t_ (t_ (t_ (t_ (t_ (t_ (t_ (t_ (t_ e186.n e192.n) e222.n) e273.n) e279.n) e301.n) e314.n) e320.n) e338.n) e351.n) e357.n) e375.n) e401.n) e423.n) e444.n))))).ext e681).frS e694 (Dj.symm (hb456.djn (m139.lt.le (t_ (t_ (t_ (t_ (t_ (t_ (t_ (t_ (t_ (t_ (t_ (t_ (t_ (t_ e186.n e192.n) e222.n) e273.n) e279.n) e301.n) e314.n) e320.n) e338.n) e351.n) e357.n) e375.n) e401.n) e423.n) e444.n)))))
 refine l_' (.slice a83 n84 c85) (aL_ 78 (pt_ b453 3) H692) (u720.l_) ?_
 refine q_ (.slice a83 n84 c85) (s_nil (k719 _ _ (w_seqk fun _ k721 => w_seqk fun _ k722 => g_' (q_ (.slice a83 n84 c85) ?_))))
 have u723 := ((((((((((u460.ext e455).fr e476 (i142.djn (m58.lt.le (t_ e100.n e106.n)))).ext e513).fr e526 (i142.djn (m58.lt.le (t_ e100.n e106.n)))).fr e560 (i143.djn (m58.lt.le (t_ e100.n e106.n)))).ext e597).fr e610 (i143.djn (m58.lt.le (t_ e100.n e106.n)))).fr e644 (i145.djn (m58.lt.le (t_ e100.n e106.n)))).ext e681).fr e694 (i145.djn (m58.lt.le (t_ e100.n e106.n))))
 refine l_' (i_ (y43.1.length : Int)) (aLen Try.prog 78 (.slice a83 n84 c85) H692) (u723.sq.lenb (by kernel_rfl)) ?_
 refine q_ (i_ 0) (s_nil (k722 _ _ ?_))
 obtain ⟨o724, hx725, r726⟩ := bind_some r715
 refine w_mid (fun α H727 => Has α [(1, pt_ b2 0), (3, pt_ b98 0), (4, pt_ b184 0), (6, pt_ b271 0), (8, pt_ b312 0), (10, pt_ b349 0), (12, .slice a383 n384 c385), (14, .slice a409 n410 c411), (17, .slice a83 n84 c85), (86, .slice (some ⟨b453, 0, none⟩) 6 6), (87, i_ 6), (88, i_ 3)] ∧ FrS f47 H692 H727 ∧ Ow (encI .u32) 1 H727 (.slice a83 n84 c85) o724 f47) (fun _ k731 => ?_) (fun α H727 hM => ?_)
 ·refine w_block ?_
  obtain ⟨n733, hn734⟩ := loopO_iff.1 hx725
  refine w_loopn (fun n α H735 => ∃ (p6 : List (Int)), ∃ (i7 : Int), iterO (fun zz_ => z_viaductlaw10_HierMemory_l3 y43 zz_.1 zz_.2) n (p6, i7) = some o724 ∧ Has α [(1, pt_ b2 0), (3, pt_ b98 0), (4, pt_ b184 0), (6, pt_ b271 0), (8, pt_ b312 0), (10, pt_ b349 0), (12, .slice a383 n384 c385), (14, .slice a409 n410 c411), (17, .slice a83 n84 c85), (86, .slice (some ⟨b453, 0, none⟩) 6 6), (87, i_ 6), (88, i_ 3), (93, i_ (y43.1.length : Int)), (94, i_ i7)] ∧ FrS f47 H692 H735 ∧ Ow (encI .u32) 1 H735 (.slice a83 n84 c85) p6 f47) n733 ⟨y43.1, 0, hn734, ha_, (FrS.refl (W := f47) e694.wf), u723⟩ ?_
  rintro n733 α H735 ⟨p6, i7, hi740, hh739, e736, m738⟩ K745 k745
  obtain ⟨n741, z742, rfl, hz743, hn744⟩ := iter_succ hi740
  obtain ⟨β, rfl⟩ := has_ex hh739
  clear hh739
  replace hz743 : z_viaductlaw10_HierMemory_l3 y43 p6 i7 = some z742 := hz743
  unfold z_viaductlaw10_HierMemory_l3 at hz743
  refine w_seqk fun _ k746 => g_' (q_ (.bool (decide (i7 < (y43.1.length : Int)))) (s_nil (k746 _ _ (w_seqk fun _ k747 => ?_))))
  refine w_condp (i7 < (y43.1.length : Int)) (by kernel_rfl) rfl (fun h748 => ?_) (fun h748 => ?_)
  ·have r749 := ite_t h748 hz743
   refine w_skip (k747 _ _ (w_seqk fun _ k750 => w_block (w_seqk fun _ k751 => g_' (q_ (i_ i7) (q_ (i_ i7) (s_nil (k751 _ _ (g_' (q_ (.slice a83 n84 c85) (q_ (i_ i7) ?_))))))))))
   obtain ⟨g752, r753⟩ := G_some r749
   refine l_' (elp (.slice a83 n84 c85) 1 i7.toNat 0) (aIndexAddr Try.prog 78 (.slice a83 n84 c85) (i_ i7)) (m738.sq.idxb (by kernel_rfl) g752.1 g752.2) ?_
   obtain ⟨H754, q755, e756, hm757⟩ := Ow.store (P := Try.prog) (t := 90) (off := 0) e736.wf m738 g752.1 g752.2 (.int .u32 7777) [.int .u32 7777] (by kernel_rfl) (by kernel_rfl) rfl 7777 (Nat.le_of_ble_eq_true rfl) (by kernel_rfl)
   refine s_ek (undef) (by kernel_rfl) (map_ok q755) ?_
   refine s_nil (k750 _ _ (g_' ?_))
   obtain ⟨g758, r759⟩ := G_some r753
   refine w_' (i7 + 1) (wrap64 (by have := g758; omega)) ?_
   refine q_ (i_ (i7 + 1)) (s_nil ?_)
   obtain rfl := oi_ r759
   exact k745 n741 _ _ (Nat.lt_succ_self _) ⟨(p6.set i7.toNat 7777), (i7 + 1), hn744, ha_, (FrS.step e694.wf (FrS.step e694.wf (FrS.refl (W := f47) e694.wf) e736 Inn.refl') e756 Inn.refl'), hm757⟩
  have r760 := ite_f h748 hz743
  refine w_exit (th_exit (th_exit (bl_eq ?_)))
  obtain rfl := oi_ r760
  obtain rfl := it_inr hn744
  exact k731 _ _ ⟨ha_, (FrS.step e694.wf (FrS.refl (W := f47) e694.wf) e736 Inn.refl'), m738⟩
 obtain ⟨hh732, e728, m730⟩ := hM
 obtain ⟨β, rfl⟩ := has_ex hh732
 clear hh732
 refine k721 _ _ (w_seqk fun _ k761 => g_' (q_ (.slice a83 n84 c85) ?_))
 refine s_owk (enc := (encI .u32)) (sz := 1) e728.wf [1, 2] 2 (by decide) (fun _ _ => rfl) (fun _ _ => rfl) rfl (by kernel_rfl) fun s762 f763 H764 e765 hf766 hm767 => ?_
 obtain ⟨a768, n769, c770, rfl⟩ := hm767.form
 have u772 := (m730.ext e765)
 obtain ⟨g773, r774⟩ := G_some r726
 obtain ⟨s775, f777, H782, H783, q781, q784, hf780, hk785⟩ := Ow.append2 (P := Try.prog) 4 e765.wf u772 hm767.sq (fun _ _ => rfl) (at_ := #[78, 78]) rfl rfl (by kernel_rfl) (by kernel_rfl) (by decide) (by have := g773; first | omega | (simp only [List.length_cons, List.length_nil] at this ⊢; omega) | (simp at this ⊢; omega))
 refine s_apk (by kernel_rfl) (by kernel_rfl) q781 q784 fun H776 hH786 => ?_
 obtain ⟨e778, hm779, ho787⟩ := hk785 H776 hH786
 obtain ⟨a788, n789, c790, rfl⟩ := hm779.form
 refine q_ (.slice a788 n789 c790) (s_nil (k761 _ _ (w_seqk fun _ k792 => g_' (q_ (.slice a788 n789 c790) ?_))))
 refine l_' (i_ ((o724 ++ [1, 2]).length : Int)) (aLen Try.prog 78 (.slice a788 n789 c790) H776) (hm779.sq.lenb (by kernel_rfl)) ?_
 refine q_ (.slice a83 n84 c85) ?_
 refine l_' (i_ (o724.length : Int)) (aLen Try.prog 78 (.slice a83 n84 c85) H776) (ho787.sq.lenb (by kernel_rfl)) ?_
 obtain ⟨g793, r794⟩ := G_some r774
 refine w_' ((o724.length : Int) + 2) (wrap64 (by have := g793; omega)) ?_
 refine q_ (.bool (!decide (((o724 ++ [1, 2]).length : Int) = ((o724.length : Int) + 2)))) (s_nil (k792 _ _ ?_))
 refine w_condn (((o724 ++ [1, 2]).length : Int) = ((o724.length : Int) + 2)) (by kernel_rfl) rfl (fun h795 => ?_) (fun h795 => ?_)
 ·have r796 := ite_f h795 r794
  refine w_seqk fun _ k797 => g_' (q_ (.bool false) (s_nil (k797 _ _ ?_)))
  refine w_ret (bl_ret (th_ret (th_ret (bl_ret (th_ret ?_)))))
  refine b_ret (fn := Try.f5) (vs := [.bool false]) (rt_ (rfl)) ?_
  have c798 := ((FrS.step wf (FrS.step wf ((FrS.step wf (FrS.step wf (FrS.step wf ((f0_ wf).extR e4) e14 Inn.nil) e31 Inn.nil) e57 Inn.nil).extR e100) e106 (hb101.fresh (t_ (t_ (t_ e4.n e14.n) e31.n) e57.n))) e135 Inn.nil).extR e186)
  obtain rfl := oi_ r796
  exact ⟨rfl, (FrS.step wf ((FrS.step wf (FrS.step wf ((FrS.step wf (FrS.step wf ((FrS.step wf (FrS.step wf ((FrS.step wf ((FrS.step wf (FrS.step wf (FrS.step wf (FrS.step wf (FrS.step wf ((FrS.step wf (FrS.step wf ((FrS.step wf (FrS.step wf ((FrS.step wf (FrS.step wf (FrS.step wf (f0_ wf) c798 Inn.nil) e192 (hb187.fresh (t_ (t_ (t_ (t_ (t_ (t_ e4.n e14.n) e31.n) e57.n) e100.n) e106.n) e135.n))) e222 Inn.nil).extR e273) e279 (hb274.fresh (t_ (t_ (t_ (t_ (t_ (t_ (t_ (t_ (t_ e4.n e14.n) e31.n) e57.n) e100.n) e106.n) e135.n) e186.n) e192.n) e222.n))) e301 Inn.nil).extR e314) e320 (hb315.fresh (t_ (t_ (t_ (t_ (t_ (t_ (t_ (t_ (t_ (t_ (t_ (t_ e4.n e14.n) e31.n) e57.n) e100.n) e106.n) e135.n) e186.n) e192.n) e222.n) e273.n) e279.n) e301.n))) e338 Inn.nil).extR e351) e357 (hb352.fresh (t_ n433 n434))) e375 Inn.nil) e401 Inn.nil) e423 Inn.nil) e444 Inn.nil).extR e455) e476 (i142.fresh (t_ (t_ (t_ (t_ (t_ e4.n e14.n) e31.n) e57.n) e100.n) e106.n))).extR e513) e526 (i142.fresh (t_ (t_ (t_ (t_ (t_ e4.n e14.n) e31.n) e57.n) e100.n) e106.n))) e560 (i143.fresh (t_ (t_ (t_ (t_ (t_ e4.n e14.n) e31.n) e57.n) e100.n) e106.n))).extR e597) e610 (i143.fresh (t_ (t_ (t_ (t_ (t_ e4.n e14.n) e31.n) e57.n) e100.n) e106.n))) e644 (i145.fresh (t_ (t_ (t_ (t_ (t_ e4.n e14.n) e31.n) e57.n) e100.n) e106.n))).extR e681) e694 (i145.fresh (t_ (t_ (t_ (t_ (t_ e4.n e14.n) e31.n) e57.n) e100.n) e106.n))) e728 (i63.fresh (t_ (t_ e4.n e14.n) e31.n))).extR e765) e778 (i63.fresh (t_ (t_ e4.n e14.n) e31.n)))⟩
 have r799 := ite_t h795 r794
 refine w_skip (k718 _ _ (g_' (q_ (i_ 4) (q_ (i_ 4) (s_nil ?_)))))
 refine w_unroll ?_
 refine w_seqk fun _ k800 => g_' (q_ (.bool true) (s_nil (k800 _ _ (w_seqk fun _ k801 => ?_))))
 refine w_cond true (by kernel_rfl) rfl (fun _ => ?_) (fun h => by cases h)
 refine w_skip (k801 _ _ (w_seqk fun _ k802 => w_block (w_seqk fun _ k803 => g_' (q_ (pt_ b453 4) ?_))))
 have u804 := (((u720.frS e728 (Dj.symm (hb456.djn (m58.lt.le (t_ (t_ (t_ (t_ (t_ (t_ (t_ (t_ (t_ (t_ e100.n e106.n) e135.n) e186.n) n434) e351.n) e357.n) e375.n) e401.n) e423.n) e444.n))))).ext e765).frS e778 (Dj.symm (hb456.djn (m58.lt.le (t_ (t_ (t_ (t_ (t_ (t_ (t_ (t_ (t_ (t_ e100.n e106.n) e135.n) e186.n) n434) e351.n) e357.n) e375.n) e401.n) e423.n) e444.n)))))
 refine l_' (.slice a86 n87 c88) (aL_ 78 (pt_ b453 4) H776) (u804.l_) ?_
 refine q_ (.slice a86 n87 c88) (s_nil (k803 _ _ (w_seqk fun _ k805 => w_seqk fun _ k806 => g_' (q_ (.slice a86 n87 c88) ?_))))
 have u807 := (((((((((((((u459.ext e455).fr e476 (i142.djn (m59.lt.le (t_ e100.n e106.n)))).ext e513).fr e526 (i142.djn (m59.lt.le (t_ e100.n e106.n)))).fr e560 (i143.djn (m59.lt.le (t_ e100.n e106.n)))).ext e597).fr e610 (i143.djn (m59.lt.le (t_ e100.n e106.n)))).fr e644 (i145.djn (m59.lt.le (t_ e100.n e106.n)))).ext e681).fr e694 (i145.djn (m59.lt.le (t_ e100.n e106.n)))).fr e728 d68).ext e765).fr e778 d68)
 refine l_' (i_ (y43.2.1.length : Int)) (aLen Try.prog 78 (.slice a86 n87 c88) H776) (u807.sq.lenb (by kernel_rfl)) ?_
 refine q_ (i_ 0) (s_nil (k806 _ _ ?_))
 obtain ⟨o808, hx809, r810⟩ := bind_some r799
 refine w_mid (fun α H811 => Has α [(1, pt_ b2 0), (3, pt_ b98 0), (4, pt_ b184 0), (6, pt_ b271 0), (8, pt_ b312 0), (10, pt_ b349 0), (12, .slice a383 n384 c385), (14, .slice a409 n410 c411), (17, .slice a86 n87 c88), (86, .slice (some ⟨b453, 0, none⟩) 6 6), (87, i_ 6), (88, i_ 4)] ∧ FrS f49 H776 H811 ∧ Ow (encI .u32) 1 H811 (.slice a86 n87 c88) o808 f49) (fun _ k815 => ?_) (fun α H811 hM => ?_)
 ·refine w_block ?_
  obtain ⟨n817, hn818⟩ := loopO_iff.1 hx809
  refine w_loopn (fun n α H819 => ∃ (p8 : List (Int)), ∃ (i9 : Int), iterO (fun zz_ => z_viaductlaw10_HierMemory_l4 y43 zz_.1 zz_.2) n (p8, i9) = some o808 ∧ Has α [(1, pt_ b2 0), (3, pt_ b98 0), (4, pt_ b184 0), (6, pt_ b271 0), (8, pt_ b312 0), (10, pt_ b349 0), (12, .slice a383 n384 c385), (14, .slice a409 n410 c411), (17, .slice a86 n87 c88), (86, .slice (some ⟨b453, 0, none⟩) 6 6), (87, i_ 6), (88, i_ 4), (93, i_ (y43.2.1.length : Int)), (94, i_ i9)] ∧ FrS f49 H776 H819 ∧ Ow (encI .u32) 1 H819 (.slice a86 n87 c88) p8 f49) n817 ⟨y43.2.1, 0, hn818, ha_, (FrS.refl (W := f49) e778.wf), u807⟩ ?_
  rintro n817 α H819 ⟨p8, i9, hi824, hh823, e820, m822⟩ K829 k829
  obtain ⟨n825, z826, rfl, hz827, hn828⟩ := iter_succ hi824
  obtain ⟨β, rfl⟩ := has_ex hh823
  clear hh823
  replace hz827 : z_viaductlaw10_HierMemory_l4 y43 p8 i9 = some z826 := hz827
  unfold z_viaductlaw10_HierMemory_l4 at hz827
  refine w_seqk fun _ k830 => g_' (q_ (.bool (decide (i9 < (y43.2.1.length : Int)))) (s_nil (k830 _ _ (w_seqk fun _ k831 => ?_))))
  refine w_condp (i9 < (y43.2.1.length : Int)) (by kernel_rfl) rfl (fun h832 => ?_) (fun h832 => ?_)
  ·have r833 := ite_t h832 hz827
   refine w_skip (k831 _ _ (w_seqk fun _ k834 => w_block (w_seqk fun _ k835 => g_' (q_ (i_ i9) (q_ (i_ i9) (s_nil (k835 _ _ (g_' (q_ (.slice a86 n87 c88) (q_ (i_ i9) ?_))))))))))
   obtain ⟨g836, r837⟩ := G_some r833
   refine l_' (elp (.slice a86 n87 c88) 1 i9.toNat 0) (aIndexAddr Try.prog 78 (.slice a86 n87 c88) (i_ i9)) (m822.sq.idxb (by kernel_rfl) g836.1 g836.2) ?_
   obtain ⟨H838, q839, e840, hm841⟩ := Ow.store (P := Try.prog) (t := 90) (off := 0) e820.wf m822 g836.1 g836.2 (.int .u32 7777) [.int .u32 7777] (by kernel_rfl) (by kernel_rfl) rfl 7777 (Nat.le_of_ble_eq_true rfl) (by kernel_rfl)
   refine s_ek (undef) (by kernel_rfl) (map_ok q839) ?_
   refine s_nil (k834 _ _ (g_' ?_))
   obtain ⟨g842, r843⟩ := G_some r837
   refine w_' (i9 + 1) (wrap64 (by have := g842; omega)) ?_
   refine q_ (i_ (i9 + 1)) (s_nil ?_)
   obtain rfl := oi_ r843
   exact k829 n825 _ _ (Nat.lt_succ_self _) ⟨(p8.set i9.toNat 7777), (i9 + 1), hn828, ha_, (FrS.step e778.wf (FrS.step e778.wf (FrS.refl (W := f49) e778.wf) e820 Inn.refl') e840 Inn.refl'), hm841⟩
  have r844 := ite_f h832 hz827
  refine w_exit (th_exit (th_exit (bl_eq ?_)))
  obtain rfl := oi_ r844
  obtain rfl := it_inr hn828
  exact k815 _ _ ⟨ha_, (FrS.step e778.wf (FrS.refl (W := f49) e778.wf) e820 Inn.refl'), m822⟩
 obtain ⟨hh816, e812, m814⟩ := hM
 obtain ⟨β, rfl⟩ := has_ex hh816
 clear hh816
 refine k805 _ _ (w_seqk fun _ k845 => g_' (q_ (.slice a86 n87 c88) ?_))
 refine s_owk (enc := (encI .u32)) (sz := 1) e812.wf [1, 2] 2 (by decide) (fun _ _ => rfl) (fun _ _ => rfl) rfl (by kernel_rfl) fun s846 f847 H848 e849 hf850 hm851 => ?_
 obtain ⟨a852, n853, c854, rfl⟩ := hm851.form
 have u856 := (m814.ext e849)
 obtain ⟨g857, r858⟩ := G_some r810
 obtain ⟨s859, f861, H866, H867, q865, q868, hf864, hk869⟩ := Ow.append2 (P := Try.prog) 4 e849.wf u856 hm851.sq (fun _ _ => rfl) (at_ := #[78, 78]) rfl rfl (by kernel_rfl) (by kernel_rfl) (by decide) (by have := g857; first | omega | (simp only [List.length_cons, List.length_nil] at this ⊢; omega) | (simp at this ⊢; omega))
 refine s_apk (by kernel_rfl) (by kernel_rfl) q865 q868 fun H860 hH870 => ?_
 obtain ⟨e862, hm863, ho871⟩ := hk869 H860 hH870
 obtain ⟨a872, n873, c874, rfl⟩ := hm863.form
 refine q_ (.slice a872 n873 c874) (s_nil (k845 _ _ (w_seqk fun _ k876 => g_' (q_ (.slice a872 n873 c874) ?_))))
 refine l_' (i_ ((o808 ++ [1, 2]).length : Int)) (aLen Try.prog 78 (.slice a872 n873 c874) H860) (hm863.sq.lenb (by kernel_rfl)) ?_
 refine q_ (.slice a86 n87 c88) ?_
 refine l_' (i_ (o808.length : Int)) (aLen Try.prog 78 (.slice a86 n87 c88) H860) (ho871.sq.lenb (by kernel_rfl)) ?_
 obtain ⟨g877, r878⟩ := G_some r858
 refine w_' ((o808.length : Int) + 2) (wrap64 (by have := g877; omega)) ?_
 refine q_ (.bool (!decide (((o808 ++ [1, 2]).length : Int) = ((o808.length : Int) + 2)))) (s_nil (k876 _ _ ?_))
 refine w_condn (((o808 ++ [1, 2]).length : Int) = ((o808.length : Int) + 2)) (by kernel_rfl) rfl (fun h879 => ?_) (fun h879 => ?_)
 ·have r880 := ite_f h879 r878
  refine w_seqk fun _ k881 => g_' (q_ (.bool false) (s_nil (k881 _ _ ?_)))
  refine w_ret (bl_ret (th_ret (th_ret (bl_ret (th_ret ?_)))))
  refine b_ret (fn := Try.f5) (vs := [.bool false]) (rt_ (rfl)) ?_
  have c882 := ((FrS.step wf (FrS.step wf ((FrS.step wf (FrS.step wf (FrS.step wf ((f0_ wf).extR e4) e14 Inn.nil) e31 Inn.nil) e57 Inn.nil).extR e100) e106 (hb101.fresh (t_ (t_ (t_ e4.n e14.n) e31.n) e57.n))) e135 Inn.nil).extR e186)
  obtain rfl := oi_ r880
  exact ⟨rfl, (FrS.step wf ((FrS.step wf (FrS.step wf ((FrS.step wf (FrS.step wf ((FrS.step wf (FrS.step wf ((FrS.step wf (FrS.step wf ((FrS.step wf ((FrS.step wf (FrS.step wf (FrS.step wf (FrS.step wf (FrS.step wf ((FrS.step wf (FrS.step wf ((FrS.step wf (FrS.step wf ((FrS.step wf (FrS.step wf (FrS.step wf (f0_ wf) c882 Inn.nil) e192 (hb187.fresh (t_ (t_ (t_ (t_ (t_ (t_ e4.n e14.n) e31.n) e57.n) e100.n) e106.n) e135.n))) e222 Inn.nil).extR e273) e279 (hb274.fresh (t_ (t_ (t_ (t_ (t_ (t_ (t_ (t_ (t_ e4.n e14.n) e31.n) e57.n) e100.n) e106.n) e135.n) e186.n) e192.n) e222.n))) e301 Inn.nil).extR e314) e320 (hb315.fresh (t_ (t_ (t_ (t_ (t_ (t_ (t_ (t_ (t_ (t_ (t_ (t_ e4.n e14.n) e31.n) e57.n) e100.n) e106.n) e135.n) e186.n) e192.n) e222.n) e273.n) e279.n) e301.n))) e338 Inn.nil).extR e351) e357 (hb352.fresh (t_ n433 n434))) e375 Inn.nil) e401 Inn.nil) e423 Inn.nil) e444 Inn.nil).extR e455) e476 (i142.fresh (t_ (t_ (t_ (t_ (t_ e4.n e14.n) e31.n) e57.n) e100.n) e106.n))).extR e513) e526 (i142.fresh (t_ (t_ (t_ (t_ (t_ e4.n e14.n) e31.n) e57.n) e100.n) e106.n))) e560 (i143.fresh (t_ (t_ (t_ (t_ (t_ e4.n e14.n) e31.n) e57.n) e100.n) e106.n))).extR e597) e610 (i143.fresh (t_ (t_ (t_ (t_ (t_ e4.n e14.n) e31.n) e57.n) e100.n) e106.n))) e644 (i145.fresh (t_ (t_ (t_ (t_ (t_ e4.n e14.n) e31.n) e57.n) e100.n) e106.n))).extR e681) e694 (i145.fresh (t_ (t_ (t_ (t_ (t_ e4.n e14.n) e31.n) e57.n) e100.n) e106.n))) e728 (i63.fresh (t_ (t_ e4.n e14.n) e31.n))).extR e765) e778 (i63.fresh (t_ (t_ e4.n e14.n) e31.n))) e812 (i64.fresh (t_ (t_ e4.n e14.n) e31.n))).extR e849) e862 (i64.fresh (t_ (t_ e4.n e14.n) e31.n)))⟩
 have r883 := ite_t h879 r878
 refine w_skip (k802 _ _ (g_' (q_ (i_ 5) (q_ (i_ 5) (s_nil ?_)))))
 refine w_unroll ?_
 refine w_seqk fun _ k884 => g_' (q_ (.bool true) (s_nil (k884 _ _ (w_seqk fun _ k885 => ?_))))
 refine w_cond true (by kernel_rfl) rfl (fun _ => ?_) (fun h => by cases h)
 refine w_skip (k885 _ _ (w_seqk fun _ k886 => w_block (w_seqk fun _ k887 => g_' (q_ (pt_ b453 5) ?_))))
 have u888 := (((u804.frS e812 (Dj.symm (hb456.djn (m59.lt.le (t_ (t_ (t_ (t_ (t_ (t_ (t_ (t_ (t_ (t_ e100.n e106.n) e135.n) e186.n) n434) e351.n) e357.n) e375.n) e401.n) e423.n) e444.n))))).ext e849).frS e862 (Dj.symm (hb456.djn (m59.lt.le (t_ (t_ (t_ (t_ (t_ (t_ (t_ (t_ (t_ (t_ e100.n e106.n) e135.n) e186.n) n434) e351.n) e357.n) e375.n) e401.n) e423.n) e444.n)))))
 refine l_' (.slice a92 n93 c94) (aL_ 78 (pt_ b453 5) H860) (u888.l_) ?_
 refine q_ (.slice a92 n93 c94) (s_nil (k887 _ _ (w_seqk fun _ k889 => w_seqk fun _ k890 => g_' (q_ (.slice a92 n93 c94) ?_))))
 have u891 := ((((((((((((((((u458.ext e455).fr e476 (i142.djn (m61.lt.le (t_ e100.n e106.n)))).ext e513).fr e526 (i142.djn (m61.lt.le (t_ e100.n e106.n)))).fr e560 (i143.djn (m61.lt.le (t_ e100.n e106.n)))).ext e597).fr e610 (i143.djn (m61.lt.le (t_ e100.n e106.n)))).fr e644 (i145.djn (m61.lt.le (t_ e100.n e106.n)))).ext e681).fr e694 (i145.djn (m61.lt.le (t_ e100.n e106.n)))).fr e728 d71).ext e765).fr e778 d71).fr e812 d72).ext e849).fr e862 d72)
 refine l_' (i_ (y43.2.2.2.1.length : Int)) (aLen Try.prog 78 (.slice a92 n93 c94) H860) (u891.sq.lenb (by kernel_rfl)) ?_
 refine q_ (i_ 0) (s_nil (k890 _ _ ?_))
 obtain ⟨o892, hx893, r894⟩ := bind_some r883
 refine w_mid (fun α H895 => Has α [(1, pt_ b2 0), (3, pt_ b98 0), (4, pt_ b184 0), (6, pt_ b271 0), (8, pt_ b312 0), (10, pt_ b349 0), (12, .slice a383 n384 c385), (14, .slice a409 n410 c411), (17, .slice a92 n93 c94), (86, .slice (some ⟨b453, 0, none⟩) 6 6), (87, i_ 6), (88, i_ 5)] ∧ FrS f53 H860 H895 ∧ Ow (encI .u32) 1 H895 (.slice a92 n93 c94) o892 f53) (fun _ k899 => ?_) (fun α H895 hM => ?_)
 ·refine w_block ?_
  obtain ⟨n901, hn902⟩ := loopO_iff.1 hx893
  refine w_loopn (fun n α H903 => ∃ (p10 : List (Int)), ∃ (i11 : Int), iterO (fun zz_ => z_viaductlaw10_HierMemory_l5 y43 zz_.1 zz_.2) n (p10, i11) = some o892 ∧ Has α [(1, pt_ b2 0), (3, pt_ b98 0), (4, pt_ b184 0), (6, pt_ b271 0), (8, pt_ b312 0), (10, pt_ b349 0), (12, .slice a383 n384 c385), (14, .slice a409 n410 c411), (17, .slice a92 n93 c94), (86, .slice (some ⟨b453, 0, none⟩) 6 6), (87, i_ 6), (88, i_ 5), (93, i_ (y43.2.2.2.1.length : Int)), (94, i_ i11)] ∧ FrS f53 H860 H903 ∧ Ow (encI .u32) 1 H903 (.slice a92 n93 c94) p10 f53) n901 ⟨y43.2.2.2.1, 0, hn902, ha_, (FrS.refl (W := f53) e862.wf), u891⟩ ?_
  rintro n901 α H903 ⟨p10, i11, hi908, hh907, e904, m906⟩ K913 k913
  obtain ⟨n909, z910, rfl, hz911, hn912⟩ := iter_succ hi908
  obtain ⟨β, rfl⟩ := has_ex hh907
  clear hh907
  replace hz911 : z_viaductlaw10_HierMemory_l5 y43 p10 i11 = some z910 := hz911
  unfold z_viaductlaw10_HierMemory_l5 at hz911
  refine w_seqk fun _ k914 => g_' (q_ (.bool (decide (i11 < (y43.2.2.2.1.length : Int)))) (s_nil (k914 _ _ (w_seqk fun _ k915 => ?_))))
  refine w_condp (i11 < (y43.2.2.2.1.length : Int)) (by kernel_rfl) rfl (fun h916 => ?_) (fun h916 => ?_)
  ·have r917 := ite_t h916 hz911
   refine w_skip (k915 _ _ (w_seqk fun _ k918 => w_block (w_seqk fun _ k919 => g_' (q_ (i_ i11) (q_ (i_ i11) (s_nil (k919 _ _ (g_' (q_ (.slice a92 n93 c94) (q_ (i_ i11) ?_))))))))))
   obtain ⟨g920, r921⟩ := G_some r917
   refine l_' (elp (.slice a92 n93 c94) 1 i11.toNat 0) (aIndexAddr Try.prog 78 (.slice a92 n93 c94) (i_ i11)) (m906.sq.idxb (by kernel_rfl) g920.1 g920.2) ?_
   obtain ⟨H922, q923, e924, hm925⟩ := Ow.store (P := Try.prog) (t := 90) (off := 0) e904.wf m906 g920.1 g920.2 (.int .u32 7777) [.int .u32 7777] (by kernel_rfl) (by kernel_rfl) rfl 7777 (Nat.le_of_ble_eq_true rfl) (by kernel_rfl)
   refine s_ek (undef) (by kernel_rfl) (map_ok q923) ?_
   refine s_nil (k918 _ _ (g_' ?_))
   obtain ⟨g926, r927⟩ := G_some r921
   refine w_' (i11 + 1) (wrap64 (by have := g926; omega)) ?_
   refine q_ (i_ (i11 + 1)) (s_nil ?_)
   obtain rfl := oi_ r927
   exact k913 n909 _ _ (Nat.lt_succ_self _) ⟨(p10.set i11.toNat 7777), (i11 + 1), hn912, ha_, (FrS.step e862.wf (FrS.step e862.wf (FrS.refl (W := f53) e862.wf) e904 Inn.refl') e924 Inn.refl'), hm925⟩
  have r928 := ite_f h916 hz911
  refine w_exit (th_exit (th_exit (bl_eq ?_)))
  obtain rfl := oi_ r928
  obtain rfl := it_inr hn912
  exact k899 _ _ ⟨ha_, (FrS.step e862.wf (FrS.refl (W := f53) e862.wf) e904 Inn.refl'), m906⟩
 obtain ⟨hh900, e896, m898⟩ := hM
 obtain ⟨β, rfl⟩ := has_ex hh900
 clear hh900
 refine k889 _ _ (w_seqk fun _ k929 => g_' (q_ (.slice a92 n93 c94) ?_))
 refine s_owk (enc := (encI .u32)) (sz := 1) e896.wf [1, 2] 2 (by decide) (fun _ _ => rfl) (fun _ _ => rfl) rfl (by kernel_rfl) fun s930 f931 H932 e933 hf934 hm935 => ?_
 obtain ⟨a936, n937, c938, rfl⟩ := hm935.form
 have u940 := (m898.ext e933)
 obtain ⟨g941, r942⟩ := G_some r894
 obtain ⟨s943, f945, H950, H951, q949, q952, hf948, hk953⟩ := Ow.append2 (P := Try.prog) 4 e933.wf u940 hm935.sq (fun _ _ => rfl) (at_ := #[78, 78]) rfl rfl (by kernel_rfl) (by kernel_rfl) (by decide) (by have := g941; first | omega | (simp only [List.length_cons, List.length_nil] at this ⊢; omega) | (simp at this ⊢; omega))
 refine s_apk (by kernel_rfl) (by kernel_rfl) q949 q952 fun H944 hH954 => ?_
 obtain ⟨e946, hm947, ho955⟩ := hk953 H944 hH954
 obtain ⟨a956, n957, c958, rfl⟩ := hm947.form
 refine q_ (.slice a956 n957 c958) (s_nil (k929 _ _ (w_seqk fun _ k960 => g_' (q_ (.slice a956 n957 c958) ?_))))
 refine l_' (i_ ((o892 ++ [1, 2]).length : Int)) (aLen Try.prog 78 (.slice a956 n957 c958) H944) (hm947.sq.lenb (by kernel_rfl)) ?_
 refine q_ (.slice a92 n93 c94) ?_
 refine l_' (i_ (o892.length : Int)) (aLen Try.prog 78 (.slice a92 n93 c94) H944) (ho955.sq.lenb (by kernel_rfl)) ?_
 obtain ⟨g961, r962⟩ := G_some r942
 refine w_' ((o892.length : Int) + 2) (wrap64 (by have := g961; omega)) ?_
 refine q_ (.bool (!decide (((o892 ++ [1, 2]).length : Int) = ((o892.length : Int) + 2)))) (s_nil (k960 _ _ ?_))
 refine w_condn (((o892 ++ [1, 2]).length : Int) = ((o892.length : Int) + 2)) (by kernel_rfl) rfl (fun h963 => ?_) (fun h963 => ?_)
 ·have r964 := ite_f h963 r962
  refine w_seqk fun _ k965 => g_' (q_ (.bool false) (s_nil (k965 _ _ ?_)))
  refine w_ret (bl_ret (th_ret (th_ret (bl_ret (th_ret ?_)))))
  refine b_ret (fn := Try.f5) (vs := [.bool false]) (rt_ (rfl)) ?_
  have c966 := ((FrS.step wf (FrS.step wf ((FrS.step wf (FrS.step wf (FrS.step wf ((f0_ wf).extR e4) e14 Inn.nil) e31 Inn.nil) e57 Inn.nil).extR e100) e106 (hb101.fresh (t_ (t_ (t_ e4.n e14.n) e31.n) e57.n))) e135 Inn.nil).extR e186)
  obtain rfl := oi_ r964
  exact ⟨rfl, (FrS.step wf ((FrS.step wf (FrS.step wf ((FrS.step wf (FrS.step wf ((FrS.step wf (FrS.step wf ((FrS.step wf (FrS.step wf ((FrS.step wf (FrS.step wf ((FrS.step wf ((FrS.step wf (FrS.step wf (FrS.step wf (FrS.step wf (FrS.step wf ((FrS.step wf (FrS.step wf ((FrS.step wf (FrS.step wf ((FrS.step wf (FrS.step wf (FrS.step wf (f0_ wf) c966 Inn.nil) e192 (hb187.fresh (t_ (t_ (t_ (t_ (t_ (t_ e4.n e14.n) e31.n) e57.n) e100.n) e106.n) e135.n))) e222 Inn.nil).extR e273) e279 (hb274.fresh (t_ (t_ (t_ (t_ (t_ (t_ (t_ (t_ (t_ e4.n e14.n) e31.n) e57.n) e100.n) e106.n) e135.n) e186.n) e192.n) e222.n))) e301 Inn.nil).extR e314) e320 (hb315.fresh (t_ (t_ (t_ (t_ (t_ (t_ (t_ (t_ (t_ (t_ (t_ (t_ e4.n e14.n) e31.n) e57.n) e100.n) e106.n) e135.n) e186.n) e192.n) e222.n) e273.n) e279.n) e301.n))) e338 Inn.nil).extR e351) e357 (hb352.fresh (t_ n433 n434))) e375 Inn.nil) e401 Inn.nil) e423 Inn.nil) e444 Inn.nil).extR e455) e476 (i142.fresh (t_ (t_ (t_ (t_ (t_ e4.n e14.n) e31.n) e57.n) e100.n) e106.n))).extR e513) e526 (i142.fresh (t_ (t_ (t_ (t_ (t_ e4.n e14.n) e31.n) e57.n) e100.n) e106.n))) e560 (i143.fresh (t_ (t_ (t_ (t_ (t_ e4.n e14.n) e31.n) e57.n) e100.n) e106.n))).extR e597) e610 (i143.fresh (t_ (t_ (t_ (t_ (t_ e4.n e14.n) e31.n) e57.n) e100.n) e106.n))) e644 (i145.fresh (t_ (t_ (t_ (t_ (t_ e4.n e14.n) e31.n) e57.n) e100.n) e106.n))).extR e681) e694 (i145.fresh (t_ (t_ (t_ (t_ (t_ e4.n e14.n) e31.n) e57.n) e100.n) e106.n))) e728 (i63.fresh (t_ (t_ e4.n e14.n) e31.n))).extR e765) e778 (i63.fresh (t_ (t_ e4.n e14.n) e31.n))) e812 (i64.fresh (t_ (t_ e4.n e14.n) e31.n))).extR e849) e862 (i64.fresh (t_ (t_ e4.n e14.n) e31.n))) e896 (i66.fresh (t_ (t_ e4.n e14.n) e31.n))).extR e933) e946 (i66.fresh (t_ (t_ e4.n e14.n) e31.n)))⟩
 have r967 := ite_t h963 r962
 refine w_skip (k886 _ _ (g_' (q_ (i_ 6) (q_ (i_ 6) (s_nil ?_)))))
 refine w_unroll ?_
 refine w_seqk fun _ k968 => g_' (q_ (.bool false) (s_nil (k968 _ _ (w_seqk fun _ k969 => ?_))))
 refine w_cond false (by kernel_rfl) rfl (fun h => by cases h) (fun _ => ?_)
 refine w_exit (th_exit (th_exit (bl_eq ?_)))
 refine k449 _ _ (w_seqk fun _ k970 => w_seqk fun _ k971 => g_' (q_ (pt_ b184 2) ?_))
 have u972 := (((((((((((((((((((u451.ext e455).frS e476 (Dj.symm (hb187.djn m136.lt))).ext e513).frS e526 (Dj.symm (hb187.djn m136.lt))).frS e560 (Dj.symm (hb187.djn m137.lt))).ext e597).frS e610 (Dj.symm (hb187.djn m137.lt))).frS e644 (Dj.symm (hb187.djn m139.lt))).ext e681).frS e694 (Dj.symm (hb187.djn m139.lt))).frS e728 (Dj.symm (hb187.djn (m58.lt.le (t_ (t_ e100.n e106.n) e135.n))))).ext e765).frS e778 (Dj.symm (hb187.djn (m58.lt.le (t_ (t_ e100.n e106.n) e135.n))))).frS e812 (Dj.symm (hb187.djn (m59.lt.le (t_ (t_ e100.n e106.n) e135.n))))).ext e849).frS e862 (Dj.symm (hb187.djn (m59.lt.le (t_ (t_ e100.n e106.n) e135.n))))).frS e896 (Dj.symm (hb187.djn (m61.lt.le (t_ (t_ e100.n e106.n) e135.n))))).ext e933).frS e946 (Dj.symm (hb187.djn (m61.lt.le (t_ (t_ e100.n e106.n) e135.n)))))
 refine l_' (.slice a175 n176 c177) (aL_ 79 (pt_ b184 2) H944) (u972.l_) ?_
 refine q_ (pt_ b184 4) ?_
 refine l_' (.slice a181 n182 c183) (aL_ 79 (pt_ b184 4) H944) (u972.l_) ?_
 refine q_ (pt_ b98 2) ?_
 have u973 := (((((((((((((((((((u452.ext e455).frS e476 (i142.djn (r102.ltF.le e106.n))).ext e513).frS e526 (i142.djn (r102.ltF.le e106.n))).frS e560 (i143.djn (r102.ltF.le e106.n))).ext e597).frS e610 (i143.djn (r102.ltF.le e106.n))).frS e644 (i145.djn (r102.ltF.le e106.n))).ext e681).frS e694 (i145.djn (r102.ltF.le e106.n))).frS e728 (Dj.symm (hb101.djn m58.lt))).ext e765).frS e778 (Dj.symm (hb101.djn m58.lt))).frS e812 (Dj.symm (hb101.djn m59.lt))).ext e849).frS e862 (Dj.symm (hb101.djn m59.lt))).frS e896 (Dj.symm (hb101.djn m61.lt))).ext e933).frS e946 (Dj.symm (hb101.djn m61.lt)))
 refine l_' (.slice a89 n90 c91) (aL_ 79 (pt_ b98 2) H944) (u973.l_) ?_
 refine q_ (pt_ b98 4) ?_
 refine l_' (.slice a95 n96 c97) (aL_ 79 (pt_ b98 4) H944) (u973.l_) ?_
 have u979 := ((((((((((((((((((((u432.fr e444 Dj.nil_l).ext e455).fr e476 (i142.djn (m62.lt.le (t_ e100.n e106.n)))).ext e513).fr e526 (i142.djn (m62.lt.le (t_ e100.n e106.n)))).fr e560 (i143.djn (m62.lt.le (t_ e100.n e106.n)))).ext e597).fr e610 (i143.djn (m62.lt.le (t_ e100.n e106.n)))).fr e644 (i145.djn (m62.lt.le (t_ e100.n e106.n)))).ext e681).fr e694 (i145.djn (m62.lt.le (t_ e100.n e106.n)))).fr e728 d74).ext e765).fr e778 d74).fr e812 d75).ext e849).fr e862 d75).fr e896 d77).ext e933).fr e946 d77)
 have u980 := ((((((((((((((((((((u430.fr e444 Dj.nil_l).ext e455).fr e476 (i142.djn (m60.lt.le (t_ e100.n e106.n)))).ext e513).fr e526 (i142.djn (m60.lt.le (t_ e100.n e106.n)))).fr e560 (i143.djn (m60.lt.le (t_ e100.n e106.n)))).ext e597).fr e610 (i143.djn (m60.lt.le (t_ e100.n e106.n)))).fr e644 (i145.djn (m60.lt.le (t_ e100.n e106.n)))).ext e681).fr e694 (i145.djn (m60.lt.le (t_ e100.n e106.n)))).fr e728 d69).ext e765).fr e778 d69).fr e812 d70).ext e849).fr e862 d70).fr e896 (Dj.symm d73)).ext e933).fr e946 (Dj.symm d73))
 have u981 := (((((((((((((((((((((((((((((((((u194.fr e192 (hb187.djn m140.lt)).fr e222 Dj.nil_l).ext e273).fr e279 (hb274.djn (m140.lt.le (t_ (t_ e186.n e192.n) e222.n)))).fr e301 Dj.nil_l).ext e314).fr e320 (hb315.djn (m140.lt.le (t_ (t_ (t_ (t_ (t_ e186.n e192.n) e222.n) e273.n) e279.n) e301.n)))).fr e338 Dj.nil_l).ext e351).fr e357 (hb352.djn (m140.lt.le (t_ (t_ (t_ (t_ (t_ (t_ (t_ (t_ e186.n e192.n) e222.n) e273.n) e279.n) e301.n) e314.n) e320.n) e338.n)))).fr e375 Dj.nil_l).fr e401 Dj.nil_l).fr e423 Dj.nil_l).fr e444 Dj.nil_l).ext e455).fr e476 d154).ext e513).fr e526 d154).fr e560 d155).ext e597).fr e610 d155).fr e644 d157).ext e681).fr e694 d157).fr e728 (Dj.symm (i146.djn (m58.lt.le (t_ e100.n e106.n))))).ext e765).fr e778 (Dj.symm (i146.djn (m58.lt.le (t_ e100.n e106.n))))).fr e812 (Dj.symm (i146.djn (m59.lt.le (t_ e100.n e106.n))))).ext e849).fr e862 (Dj.symm (i146.djn (m59.lt.le (t_ e100.n e106.n))))).fr e896 (Dj.symm (i146.djn (m61.lt.le (t_ e100.n e106.n))))).ext e933).fr e946 (Dj.symm (i146.djn (m61.lt.le (t_ e100.n e106.n)))))
 have u982 := (((((((((((((((((((((((((((((((((u196.fr e192 (hb187.djn m138.lt)).fr e222 Dj.nil_l).ext e273).fr e279 (hb274.djn (m138.lt.le (t_ (t_ e186.n e192.n) e222.n)))).fr e301 Dj.nil_l).ext e314).fr e320 (hb315.djn (m138.lt.le (t_ (t_ (t_ (t_ (t_ e186.n e192.n) e222.n) e273.n) e279.n) e301.n)))).fr e338 Dj.nil_l).ext e351).fr e357 (hb352.djn (m138.lt.le (t_ (t_ (t_ (t_ (t_ (t_ (t_ (t_ e186.n e192.n) e222.n) e273.n) e279.n) e301.n) e314.n) e320.n) e338.n)))).fr e375 Dj.nil_l).fr e401 Dj.nil_l).fr e423 Dj.nil_l).fr e444 Dj.nil_l).ext e455).fr e476 d149).ext e513).fr e526 d149).fr e560 d150).ext e597).fr e610 d150).fr e644 (Dj.symm d153)).ext e681).fr e694 (Dj.symm d153)).fr e728 (Dj.symm (i144.djn (m58.lt.le (t_ e100.n e106.n))))).ext e765).fr e778 (Dj.symm (i144.djn (m58.lt.le (t_ e100.n e106.n))))).fr e812 (Dj.symm (i144.djn (m59.lt.le (t_ e100.n e106.n))))).ext e849).fr e862 (Dj.symm (i144.djn (m59.lt.le (t_ e100.n e106.n))))).fr e896 (Dj.symm (i144.djn (m61.lt.le (t_ e100.n e106.n))))).ext e933).fr e946 (Dj.symm (i144.djn (m61.lt.le (t_ e100.n e106.n)))))
 refine s_lsl e946.wf [.slice a175 n176 c177, .slice a181 n182 c183, .slice a89 n90 c91, .slice a95 n96 c97] 4 (one_cons (u982.one1) (one_cons (u981.one1) (one_cons (u980.one1) (one_cons (u979.one1) (one_nil))))) (by kernel_rfl) fun b974 H975 e976 hb977 r978 => ?_
 refine q_ (i_ 4) (q_ (i_ 0) (s_nil (k971 _ _ (w_block ?_))))
 refine w_unroll ?_
 refine w_seqk fun _ k984 => g_' (q_ (.bool true) (s_nil (k984 _ _ (w_seqk fun _ k985 => ?_))))
 refine w_cond true (by kernel_rfl) rfl (fun _ => ?_) (fun h => by cases h)
 refine w_skip (k985 _ _ (w_seqk fun _ k986 => w_block (w_seqk fun _ k987 => g_' (q_ (pt_ b974 0) ?_))))
 refine l_' (.slice a175 n176 c177) (aL_ 79 (pt_ b974 0) H975) (r978.l_) ?_
 refine q_ (.slice a175 n176 c177) (s_nil (k987 _ _ (w_seqk fun _ k988 => g_' (q_ (.slice a175 n176 c177) ?_))))
 have u989 := (u982.ext e976)
 refine l_' (i_ (y119.2.2.1.length : Int)) (aLen Try.prog 79 (.slice a175 n176 c177) H975) (u989.sq.lenb (by kernel_rfl)) ?_
 refine q_ (i_ 0) (s_nil (k988 _ _ ?_))
 obtain ⟨o990, hx991, r992⟩ := bind_some r967
 refine w_mid (fun α H993 => Has α [(1, pt_ b2 0), (6, pt_ b271 0), (8, pt_ b312 0), (10, pt_ b349 0), (12, .slice a383 n384 c385), (14, .slice a409 n410 c411), (119, .slice (some ⟨b974, 0, none⟩) 4 4), (120, i_ 4), (121, i_ 0)] ∧ FrS f127 H975 H993 ∧ Ow enc_u32_u64_u32_u32 4 H993 (.slice a175 n176 c177) o990 f127) (fun _ k997 => ?_) (fun α H993 hM => ?_)
 ·refine w_block ?_
  obtain ⟨n999, hn1000⟩ := loopO_iff.1 hx991
  refine w_loopn (fun n α H1001 => ∃ (l12 : List (Int × Int × Int × Int)), ∃ (i13 : Int), iterO (fun zz_ => z_viaductlaw10_HierMemory_l6 y119 zz_.1 zz_.2) n (l12, i13) = some o990 ∧ Has α [(1, pt_ b2 0), (6, pt_ b271 0), (8, pt_ b312 0), (10, pt_ b349 0), (12, .slice a383 n384 c385), (14, .slice a409 n410 c411), (21, .slice a175 n176 c177), (119, .slice (some ⟨b974, 0, none⟩) 4 4), (120, i_ 4), (121, i_ 0), (126, i_ (y119.2.2.1.length : Int)), (127, i_ i13)] ∧ FrS f127 H975 H1001 ∧ Ow enc_u32_u64_u32_u32 4 H1001 (.slice a175 n176 c177) l12 f127) n999 ⟨y119.2.2.1, 0, hn1000, ha_, (FrS.refl (W := f127) e976.wf), u989⟩ ?_
  rintro n999 α H1001 ⟨l12, i13, hi1006, hh1005, e1002, m1004⟩ K1011 k1011
  obtain ⟨n1007, z1008, rfl, hz1009, hn1010⟩ := iter_succ hi1006
  obtain ⟨β, rfl⟩ := has_ex hh1005
  clear hh1005
  replace hz1009 : z_viaductlaw10_HierMemory_l6 y119 l12 i13 = some z1008 := hz1009
  unfold z_viaductlaw10_HierMemory_l6 at hz1009
  refine w_seqk fun _ k1012 => g_' (q_ (.bool (decide (i13 < (y119.2.2.1.length : Int)))) (s_nil (k1012 _ _ (w_seqk fun _ k1013 => ?_))))
  refine w_condp (i13 < (y119.2.2.1.length : Int)) (by kernel_rfl) rfl (fun h1014 => ?_) (fun h1014 => ?_)
  ·have r1015 := ite_t h1014 hz1009
   refine w_skip (k1013 _ _ (w_seqk fun _ k1016 => w_block (w_seqk fun _ k1017 => g_' (q_ (i_ i13) (q_ (i_ i13) (s_nil (k1017 _ _ (g_' (q_ (.slice a175 n176 c177) (q_ (i_ i13) (q_ (.agg #[.int .u32 9, .int .u64 0, .int .u32 0, .int .u32 0]) ?_)))))))))))
   obtain ⟨g1018, r1019⟩ := G_some r1015
   refine l_' (elp (.slice a175 n176 c177) 4 i13.toNat 0) (aIndexAddr Try.prog 79 (.slice a175 n176 c177) (i_ i13)) (m1004.sq.idxb (by kernel_rfl) g1018.1 g1018.2) ?_
   obtain ⟨H1020, q1021, e1022, hm1023⟩ := Ow.store (P := Try.prog) (t := 93) (off := 0) e1002.wf m1004 g1018.1 g1018.2 (.agg #[.int .u32 9, .int .u64 0, .int .u32 0, .int .u32 0]) [.int .u32 9, .int .u64 0, .int .u32 0, .int .u32 0] (by kernel_rfl) (by kernel_rfl) rfl (9, 0, 0, 0) (Nat.le_of_ble_eq_true rfl) (by kernel_rfl)
   refine s_ek (undef) (by kernel_rfl) (map_ok q1021) ?_
   refine s_nil (k1016 _ _ (g_' ?_))
   obtain ⟨g1024, r1025⟩ := G_some r1019
   refine w_' (i13 + 1) (wrap64 (by have := g1024; omega)) ?_
   refine q_ (i_ (i13 + 1)) (s_nil ?_)
   obtain rfl := oi_ r1025
   exact k1011 n1007 _ _ (Nat.lt_succ_self _) ⟨(l12.set i13.toNat (9, 0, 0, 0)), (i13 + 1), hn1010, ha_, (FrS.step e976.wf (FrS.step e976.wf (FrS.refl (W := f127) e976.wf) e1002 Inn.refl') e1022 Inn.refl'), hm1023⟩
  have r1026 := ite_f h1014 hz1009
  refine w_exit (th_exit (th_exit (bl_eq ?_)))
  obtain rfl := oi_ r1026
  obtain rfl := it_inr hn1010
  exact k997 _ _ ⟨ha_, (FrS.step e976.wf (FrS.refl (W := f127) e976.wf) e1002 Inn.refl'), m1004⟩
 obtain ⟨hh998, e994, m996⟩ := hM
 obtain ⟨β, rfl⟩ := has_ex hh998
 clear hh998
 refine k986 _ _ (g_' (q_ (i_ 1) (q_ (i_ 1) (s_nil ?_))))
 refine w_unroll ?_
 refine w_seqk fun _ k1027 => g_' (q_ (.bool true) (s_nil (k1027 _ _ (w_seqk fun _ k1028 => ?_))))
 refine w_cond true (by kernel_rfl) rfl (fun _ => ?_) (fun h => by cases h)
 refine w_skip (k1028 _ _ (w_seqk fun _ k1029 => w_block (w_seqk fun _ k1030 => g_' (q_ (pt_ b974 1) ?_))))
 have n1031 := (t_ (t_ (t_ (t_ (t_ (t_ (t_ e351.n e357.n) e375.n) e401.n) e423.n) e444.n) e455.n) e476.n)
 have n1032 := (t_ (t_ (t_ (t_ (t_ (t_ (t_ e513.n e526.n) e560.n) e597.n) e610.n) e644.n) e681.n) e694.n)
 have n1033 := (t_ (t_ (t_ (t_ (t_ (t_ (t_ e728.n e765.n) e778.n) e812.n) e849.n) e862.n) e896.n) e933.n)
 have u1034 := (r978.frS e994 (Dj.symm (hb977.djn (m138.lt.le (t_ (t_ (t_ (t_ (t_ e186.n n434) n1031) n1032) n1033) e946.n)))))
 refine l_' (.slice a181 n182 c183) (aL_ 79 (pt_ b974 1) H993) (u1034.l_) ?_
 refine q_ (.slice a181 n182 c183) (s_nil (k1030 _ _ (w_seqk fun _ k1035 => g_' (q_ (.slice a181 n182 c183) ?_))))
 have u1036 := ((u981.ext e976).fr e994 d156)
 refine l_' (i_ (y119.2.2.2.2.1.length : Int)) (aLen Try.prog 79 (.slice a181 n182 c183) H993) (u1036.sq.lenb (by kernel_rfl)) ?_
 refine q_ (i_ 0) (s_nil (k1035 _ _ ?_))
 obtain ⟨o1037, hx1038, r1039⟩ := bind_some r992
 refine w_mid (fun α H1040 => Has α [(1, pt_ b2 0), (6, pt_ b271 0), (8, pt_ b312 0), (10, pt_ b349 0), (12, .slice a383 n384 c385), (14, .slice a409 n410 c411), (119, .slice (some ⟨b974, 0, none⟩) 4 4), (120, i_ 4), (121, i_ 1)] ∧ FrS f131 H993 H1040 ∧ Ow enc_u32_u64_u32_u32 4 H1040 (.slice a181 n182 c183) o1037 f131) (fun _ k1044 => ?_) (fun α H1040 hM => ?_)
 ·refine w_block ?_
  obtain ⟨n1046, hn1047⟩ := loopO_iff.1 hx1038
  refine w_loopn (fun n α H1048 => ∃ (l14 : List (Int × Int × Int × Int)), ∃ (i15 : Int), iterO (fun zz_ => z_viaductlaw10_HierMemory_l7 y119 zz_.1 zz_.2) n (l14, i15) = some o1037 ∧ Has α [(1, pt_ b2 0), (6, pt_ b271 0), (8, pt_ b312 0), (10, pt_ b349 0), (12, .slice a383 n384 c385), (14, .slice a409 n410 c411), (21, .slice a181 n182 c183), (119, .slice (some ⟨b974, 0, none⟩) 4 4), (120, i_ 4), (121, i_ 1), (126, i_ (y119.2.2.2.2.1.length : Int)), (127, i_ i15)] ∧ FrS f131 H993 H1048 ∧ Ow enc_u32_u64_u32_u32 4 H1048 (.slice a181 n182 c183) l14 f131) n1046 ⟨y119.2.2.2.2.1, 0, hn1047, ha_, (FrS.refl (W := f131) e994.wf), u1036⟩ ?_
  rintro n1046 α H1048 ⟨l14, i15, hi1053, hh1052, e1049, m1051⟩ K1058 k1058
  obtain ⟨n1054, z1055, rfl, hz1056, hn1057⟩ := iter_succ hi1053
  obtain ⟨β, rfl⟩ := has_ex hh1052
  clear hh1052
  replace hz1056 : z_viaductlaw10_HierMemory_l7 y119 l14 i15 = some z1055 := hz1056
  unfold z_viaductlaw10_HierMemory_l7 at hz1056
  refine w_seqk fun _ k1059 => g_' (q_ (.bool (decide (i15 < (y119.2.2.2.2.1.length : Int)))) (s_nil (k1059 _ _ (w_seqk fun _ k1060 => ?_))))
  refine w_condp (i15 < (y119.2.2.2.2.1.length : Int)) (by kernel_rfl) rfl (fun h1061 => ?_) (fun h1061 => ?_)
  ·have r1062 := ite_t h1061 hz1056
   refine w_skip (k1060 _ _ (w_seqk fun _ k1063 => w_block (w_seqk fun _ k1064 => g_' (q_ (i_ i15) (q_ (i_ i15) (s_nil (k1064 _ _ (g_' (q_ (.slice a181 n182 c183) (q_ (i_ i15) (q_ (.agg #[.int .u32 9, .int .u64 0, .int .u32 0, .int .u32 0]) ?_)))))))))))
   obtain ⟨g1065, r1066⟩ := G_some r1062
   refine l_' (elp (.slice a181 n182 c183) 4 i15.toNat 0) (aIndexAddr Try.prog 79 (.slice a181 n182 c183) (i_ i15)) (m1051.sq.idxb (by kernel_rfl) g1065.1 g1065.2) ?_
   obtain ⟨H1067, q1068, e1069, hm1070⟩ := Ow.store (P := Try.prog) (t := 93) (off := 0) e1049.wf m1051 g1065.1 g1065.2 (.agg #[.int .u32 9, .int .u64 0, .int .u32 0, .int .u32 0]) [.int .u32 9, .int .u64 0, .int .u32 0, .int .u32 0] (by kernel_rfl) (by kernel_rfl) rfl (9, 0, 0, 0) (Nat.le_of_ble_eq_true rfl) (by kernel_rfl)
   refine s_ek (undef) (by kernel_rfl) (map_ok q1068) ?_
   refine s_nil (k1063 _ _ (g_' ?_))
   obtain ⟨g1071, r1072⟩ := G_some r1066
   refine w_' (i15 + 1) (wrap64 (by have := g1071; omega)) ?_
   refine q_ (i_ (i15 + 1)) (s_nil ?_)
   obtain rfl := oi_ r1072
   exact k1058 n1054 _ _ (Nat.lt_succ_self _) ⟨(l14.set i15.toNat (9, 0, 0, 0)), (i15 + 1), hn1057, ha_, (FrS.step e994.wf (FrS.step e994.wf (FrS.refl (W := f131) e994.wf) e1049 Inn.refl') e1069 Inn.refl'), hm1070⟩
  have r1073 := ite_f h1061 hz1056
  refine w_exit (th_exit (th_exit (bl_eq ?_)))
  obtain rfl := oi_ r1073
  obtain rfl := it_inr hn1057
  exact k1044 _ _ ⟨ha_, (FrS.step e994.wf (FrS.refl (W := f131) e994.wf) e1049 Inn.refl'), m1051⟩
 obtain ⟨hh1045, e1041, m1043⟩ := hM
 obtain ⟨β, rfl⟩ := has_ex hh1045
 clear hh1045
 refine k1029 _ _ (g_' (q_ (i_ 2) (q_ (i_ 2) (s_nil ?_))))
 refine w_unroll ?_
 refine w_seqk fun _ k1074 => g_' (q_ (.bool true) (s_nil (k1074 _ _ (w_seqk fun _ k1075 => ?_))))
 refine w_cond true (by kernel_rfl) rfl (fun _ => ?_) (fun h => by cases h)
 refine w_skip (k1075 _ _ (w_seqk fun _ k1076 => w_block (w_seqk fun _ k1077 => g_' (q_ (pt_ b974 2) ?_))))
 have u1078 := (u1034.frS e1041 (Dj.symm (hb977.djn (m140.lt.le (t_ (t_ (t_ (t_ (t_ e186.n n434) n1031) n1032) n1033) e946.n)))))
 refine l_' (.slice a89 n90 c91) (aL_ 79 (pt_ b974 2) H1040) (u1078.l_) ?_
 refine q_ (.slice a89 n90 c91) (s_nil (k1077 _ _ (w_seqk fun _ k1079 => g_' (q_ (.slice a89 n90 c91) ?_))))
 have u1080 := (((u980.ext e976).fr e994 (i144.djn (m60.lt.le (t_ e100.n e106.n)))).fr e1041 (i146.djn (m60.lt.le (t_ e100.n e106.n))))
 refine l_' (i_ (y43.2.2.1.length : Int)) (aLen Try.prog 79 (.slice a89 n90 c91) H1040) (u1080.sq.lenb (by kernel_rfl)) ?_
 refine q_ (i_ 0) (s_nil (k1079 _ _ ?_))
 obtain ⟨o1081, hx1082, r1083⟩ := bind_some r1039
 refine w_mid (fun α H1084 => Has α [(1, pt_ b2 0), (6, pt_ b271 0), (8, pt_ b312 0), (10, pt_ b349 0), (12, .slice a383 n384 c385), (14, .slice a409 n410 c411), (119, .slice (some ⟨b974, 0, none⟩) 4 4), (120, i_ 4), (121, i_ 2)] ∧ FrS f51 H1040 H1084 ∧ Ow enc_u32_u64_u32_u32 4 H1084 (.slice a89 n90 c91) o1081 f51) (fun _ k1088 => ?_) (fun α H1084 hM => ?_)
 ·refine w_block ?_
  obtain ⟨n1090, hn1091⟩ := loopO_iff.1 hx1082
  refine w_loopn (fun n α H1092 => ∃ (l16 : List (Int × Int × Int × Int)), ∃ (i17 : Int), iterO (fun zz_ => z_viaductlaw10_HierMemory_l8 y43 zz_.1 zz_.2) n (l16, i17) = some o1081 ∧ Has α [(1, pt_ b2 0), (6, pt_ b271 0), (8, pt_ b312 0), (10, pt_ b349 0), (12, .slice a383 n384 c385), (14, .slice a409 n410 c411), (21, .slice a89 n90 c91), (119, .slice (some ⟨b974, 0, none⟩) 4 4), (120, i_ 4), (121, i_ 2), (126, i_ (y43.2.2.1.length : Int)), (127, i_ i17)] ∧ FrS f51 H1040 H1092 ∧ Ow enc_u32_u64_u32_u32 4 H1092 (.slice a89 n90 c91) l16 f51) n1090 ⟨y43.2.2.1, 0, hn1091, ha_, (FrS.refl (W := f51) e1041.wf), u1080⟩ ?_
  rintro n1090 α H1092 ⟨l16, i17, hi1097, hh1096, e1093, m1095⟩ K1102 k1102
  obtain ⟨n1098, z1099, rfl, hz1100, hn1101⟩ := iter_succ hi1097
  obtain ⟨β, rfl⟩ := has_ex hh1096
  clear hh1096
  replace hz1100 : z_viaductlaw10_HierMemory_l8 y43 l16 i17 = some z1099 := hz1100
  unfold z_viaductlaw10_HierMemory_l8 at hz1100
  refine w_seqk fun _ k1103 => g_' (q_ (.bool (decide (i17 < (y43.2.2.1.length : Int)))) (s_nil (k1103 _ _ (w_seqk fun _ k1104 => ?_))))
  refine w_condp (i17 < (y43.2.2.1.length : Int)) (by kernel_rfl) rfl (fun h1105 => ?_) (fun h1105 => ?_)
  ·have r1106 := ite_t h1105 hz1100
   refine w_skip (k1104 _ _ (w_seqk fun _ k1107 => w_block (w_seqk fun _ k1108 => g_' (q_ (i_ i17) (q_ (i_ i17) (s_nil (k1108 _ _ (g_' (q_ (.slice a89 n90 c91) (q_ (i_ i17) (q_ (.agg #[.int .u32 9, .int .u64 0, .int .u32 0, .int .u32 0]) ?_)))))))))))
   obtain ⟨g1109, r1110⟩ := G_some r1106
   refine l_' (elp (.slice a89 n90 c91) 4 i17.toNat 0) (aIndexAddr Try.prog 79 (.slice a89 n90 c91) (i_ i17)) (m1095.sq.idxb (by kernel_rfl) g1109.1 g1109.2) ?_
   obtain ⟨H1111, q1112, e1113, hm1114⟩ := Ow.store (P := Try.prog) (t := 93) (off := 0) e1093.wf m1095 g1109.1 g1109.2 (.agg #[.int .u32 9, .int .u64 0, .int .u32 0, .int .u32 0]) [.int .u32 9, .int .u64 0, .int .u32 0, .int .u32 0] (by kernel_rfl) (by kernel_rfl) rfl (9, 0, 0, 0) (Nat.le_of_ble_eq_true rfl) (by kernel_rfl)
   refine s_ek (undef) (by kernel_rfl) (map_ok q1112) ?_
   refine s_nil (k1107 _ _ (g_' ?_))
   obtain ⟨g1115, r1116⟩ := G_some r1110
   refine w_' (i17 + 1) (wrap64 (by have := g1115; omega)) ?_
   refine q_ (i_ (i17 + 1)) (s_nil ?_)
   obtain rfl := oi_ r1116
   exact k1102 n1098 _ _ (Nat.lt_succ_self _) ⟨(l16.set i17.toNat (9, 0, 0, 0)), (i17 + 1), hn1101, ha_, (FrS.step e1041.wf (FrS.step e1041.wf (FrS.refl (W := f51) e1041.wf) e1093 Inn.refl') e1113 Inn.refl'), hm1114⟩
  have r1117 := ite_f h1105 hz1100
  refine w_exit (th_exit (th_exit (bl_eq ?_)))
  obtain rfl := oi_ r1117
  obtain rfl := it_inr hn1101
  exact k1088 _ _ ⟨ha_, (FrS.step e1041.wf (FrS.refl (W := f51) e1041.wf) e1093 Inn.refl'), m1095⟩
 obtain ⟨hh1089, e1085, m1087⟩ := hM
 obtain ⟨β, rfl⟩ := has_ex hh1089
 clear hh1089
 refine k1076 _ _ (g_' (q_ (i_ 3) (q_ (i_ 3) (s_nil ?_))))
 refine w_unroll ?_
 refine w_seqk fun _ k1118 => g_' (q_ (.bool true) (s_nil (k1118 _ _ (w_seqk fun _ k1119 => ?_))))
 refine w_cond true (by kernel_rfl) rfl (fun _ => ?_) (fun h => by cases h)
 refine w_skip (k1119 _ _ (w_seqk fun _ k1120 => w_block (w_seqk fun _ k1121 => g_' (q_ (pt_ b974 3) ?_))))
 have u1122 := (u1078.frS e1085 (Dj.symm (hb977.djn (m60.lt.le (t_ (t_ (t_ (t_ (t_ (t_ (t_ (t_ e100.n e106.n) e135.n) e186.n) n434) n1031) n1032) n1033) e946.n)))))
 refine l_' (.slice a95 n96 c97) (aL_ 79 (pt_ b974 3) H1084) (u1122.l_) ?_
 refine q_ (.slice a95 n96 c97) (s_nil (k1121 _ _ (w_seqk fun _ k1123 => g_' (q_ (.slice a95 n96 c97) ?_))))
 have u1124 := ((((u979.ext e976).fr e994 (i144.djn (m62.lt.le (t_ e100.n e106.n)))).fr e1041 (i146.djn (m62.lt.le (t_ e100.n e106.n)))).fr e1085 d76)
 refine l_' (i_ (y43.2.2.2.2.length : Int)) (aLen Try.prog 79 (.slice a95 n96 c97) H1084) (u1124.sq.lenb (by kernel_rfl)) ?_
 refine q_ (i_ 0) (s_nil (k1123 _ _ ?_))
 obtain ⟨o1125, hx1126, r1127⟩ := bind_some r1083
 refine w_mid (fun α H1128 => Has α [(1, pt_ b2 0), (6, pt_ b271 0), (8, pt_ b312 0), (10, pt_ b349 0), (12, .slice a383 n384 c385), (14, .slice a409 n410 c411), (119, .slice (some ⟨b974, 0, none⟩) 4 4), (120, i_ 4), (121, i_ 3)] ∧ FrS f55 H1084 H1128 ∧ Ow enc_u32_u64_u32_u32 4 H1128 (.slice a95 n96 c97) o1125 f55) (fun _ k1132 => ?_) (fun α H1128 hM => ?_)
 ·refine w_block ?_
  obtain ⟨n1134, hn1135⟩ := loopO_iff.1 hx1126
  refine w_loopn (fun n α H1136 => ∃ (l18 : List (Int × Int × Int × Int)), ∃ (i19 : Int), iterO (fun zz_ => z_viaductlaw10_HierMemory_l9 y43 zz_.1 zz_.2) n (l18, i19) = some o1125 ∧ Has α [(1, pt_ b2 0), (6, pt_ b271 0), (8, pt_ b312 0), (10, pt_ b349 0), (12, .slice a383 n384 c385), (14, .slice a409 n410 c411), (21, .slice a95 n96 c97), (119, .slice (some ⟨b974, 0, none⟩) 4 4), (120, i_ 4), (121, i_ 3), (126, i_ (y43.2.2.2.2.length : Int)), (127, i_ i19)] ∧ FrS f55 H1084 H1136 ∧ Ow enc_u32_u64_u32_u32 4 H1136 (.slice a95 n96 c97) l18 f55) n1134 ⟨y43.2.2.2.2, 0, hn1135, ha_, (FrS.refl (W := f55) e1085.wf), u1124⟩ ?_
  rintro n1134 α H1136 ⟨l18, i19, hi1141, hh1140, e1137, m1139⟩ K1146 k1146
  obtain ⟨n1142, z1143, rfl, hz1144, hn1145⟩ := iter_succ hi1141
  obtain ⟨β, rfl⟩ := has_ex hh1140
  clear hh1140
  replace hz1144 : z_viaductlaw10_HierMemory_l9 y43 l18 i19 = some z1143 := hz1144
  unfold z_viaductlaw10_HierMemory_l9 at hz1144
  refine w_seqk fun _ k1147 => g_' (q_ (.bool (decide (i19 < (y43.2.2.2.2.length : Int)))) (s_nil (k1147 _ _ (w_seqk fun _ k1148 => ?_))))
  refine w_condp (i19 < (y43.2.2.2.2.length : Int)) (by kernel_rfl) rfl (fun h1149 => ?_) (fun h1149 => ?_)
  ·have r1150 := ite_t h1149 hz1144
   refine w_skip (k1148 _ _ (w_seqk fun _ k1151 => w_block (w_seqk fun _ k1152 => g_' (q_ (i_ i19) (q_ (i_ i19) (s_nil (k1152 _ _ (g_' (q_ (.slice a95 n96 c97) (q_ (i_ i19) (q_ (.agg #[.int .u32 9, .int .u64 0, .int .u32 0, .int .u32 0]) ?_)))))))))))
   obtain ⟨g1153, r1154⟩ := G_some r1150
   refine l_' (elp (.slice a95 n96 c97) 4 i19.toNat 0) (aIndexAddr Try.prog 79 (.slice a95 n96 c97) (i_ i19)) (m1139.sq.idxb (by kernel_rfl) g1153.1 g1153.2) ?_
   obtain ⟨H1155, q1156, e1157, hm1158⟩ := Ow.store (P := Try.prog) (t := 93) (off := 0) e1137.wf m1139 g1153.1 g1153.2 (.agg #[.int .u32 9, .int .u64 0, .int .u32 0, .int .u32 0]) [.int .u32 9, .int .u64 0, .int .u32 0, .int .u32 0] (by kernel_rfl) (by kernel_rfl) rfl (9, 0, 0, 0) (Nat.le_of_ble_eq_true rfl) (by kernel_rfl)
   refine s_ek (undef) (by kernel_rfl) (map_ok q1156) ?_
   refine s_nil (k1151 _ _ (g_' ?_))
   obtain ⟨g1159, r1160⟩ := G_some r1154
   refine w_' (i19 + 1) (wrap64 (by have := g1159; omega)) ?_
   refine q_ (i_ (i19 + 1)) (s_nil ?_)
   obtain rfl := oi_ r1160
   exact k1146 n1142 _ _ (Nat.lt_succ_self _) ⟨(l18.set i19.toNat (9, 0, 0, 0)), (i19 + 1), hn1145, ha_, (FrS.step e1085.wf (FrS.step e1085.wf (FrS.refl (W := f55) e1085.wf) e1137 Inn.refl') e1157 Inn.refl'), hm1158⟩
  have r1161 := ite_f h1149 hz1144
  refine w_exit (th_exit (th_exit (bl_eq ?_)))
  obtain rfl := oi_ r1161
  obtain rfl := it_inr hn1145
  exact k1132 _ _ ⟨ha_, (FrS.step e1085.wf (FrS.refl (W := f55) e1085.wf) e1137 Inn.refl'), m1139⟩
 obtain ⟨hh1133, e1129, m1131⟩ := hM
 obtain ⟨β, rfl⟩ := has_ex hh1133
 clear hh1133
 refine k1120 _ _ (g_' (q_ (i_ 4) (q_ (i_ 4) (s_nil ?_))))
 refine w_unroll ?_
 refine w_seqk fun _ k1162 => g_' (q_ (.bool false) (s_nil (k1162 _ _ (w_seqk fun _ k1163 => ?_))))
 refine w_cond false (by kernel_rfl) rfl (fun h => by cases h) (fun _ => ?_)
 refine w_exit (th_exit (th_exit (bl_eq ?_)))
 refine k970 _ _ (w_seqk fun _ k1164 => w_seqk fun _ k1165 => g_' (q_ (pt_ b312 1) ?_))
 have u1166 := (((((((((((((((((((((((((((((((r321.frS e338 Dj.nil_l).ext e351).frS e357 (hb352.djn (r316.ltF.le (t_ e320.n e338.n)))).frS e375 Dj.nil_l).frS e401 Dj.nil_l).frS e423 Dj.nil_l).frS e444 Dj.nil_l).ext e455).frS e476 (Dj.symm (hb315.djn (m136.lt.le (t_ (t_ (t_ (t_ (t_ e186.n e192.n) e222.n) e273.n) e279.n) e301.n))))).ext e513).frS e526 (Dj.symm (hb315.djn (m136.lt.le (t_ (t_ (t_ (t_ (t_ e186.n e192.n) e222.n) e273.n) e279.n) e301.n))))).frS e560 (Dj.symm (hb315.djn (m137.lt.le (t_ (t_ (t_ (t_ (t_ e186.n e192.n) e222.n) e273.n) e279.n) e301.n))))).ext e597).frS e610 (Dj.symm (hb315.djn (m137.lt.le (t_ (t_ (t_ (t_ (t_ e186.n e192.n) e222.n) e273.n) e279.n) e301.n))))).frS e644 (Dj.symm (hb315.djn (m139.lt.le (t_ (t_ (t_ (t_ (t_ e186.n e192.n) e222.n) e273.n) e279.n) e301.n))))).ext e681).frS e694 (Dj.symm (hb315.djn (m139.lt.le (t_ (t_ (t_ (t_ (t_ e186.n e192.n) e222.n) e273.n) e279.n) e301.n))))).frS e728 (Dj.symm (hb315.djn (m58.lt.le (t_ (t_ (t_ (t_ (t_ (t_ (t_ (t_ e100.n e106.n) e135.n) e186.n) e192.n) e222.n) e273.n) e279.n) e301.n))))).ext e765).frS e778 (Dj.symm (hb315.djn (m58.lt.le (t_ (t_ (t_ (t_ (t_ (t_ (t_ (t_ e100.n e106.n) e135.n) e186.n) e192.n) e222.n) e273.n) e279.n) e301.n))))).frS e812 (Dj.symm (hb315.djn (m59.lt.le (t_ (t_ (t_ (t_ (t_ (t_ (t_ (t_ e100.n e106.n) e135.n) e186.n) e192.n) e222.n) e273.n) e279.n) e301.n))))).ext e849).frS e862 (Dj.symm (hb315.djn (m59.lt.le (t_ (t_ (t_ (t_ (t_ (t_ (t_ (t_ e100.n e106.n) e135.n) e186.n) e192.n) e222.n) e273.n) e279.n) e301.n))))).frS e896 (Dj.symm (hb315.djn (m61.lt.le (t_ (t_ (t_ (t_ (t_ (t_ (t_ (t_ e100.n e106.n) e135.n) e186.n) e192.n) e222.n) e273.n) e279.n) e301.n))))).ext e933).frS e946 (Dj.symm (hb315.djn (m61.lt.le (t_ (t_ (t_ (t_ (t_ (t_ (t_ (t_ e100.n e106.n) e135.n) e186.n) e192.n) e222.n) e273.n) e279.n) e301.n))))).ext e976).frS e994 (Dj.symm (hb315.djn (m138.lt.le (t_ (t_ (t_ (t_ (t_ e186.n e192.n) e222.n) e273.n) e279.n) e301.n))))).frS e1041 (Dj.symm (hb315.djn (m140.lt.le (t_ (t_ (t_ (t_ (t_ e186.n e192.n) e222.n) e273.n) e279.n) e301.n))))).frS e1085 (Dj.symm (hb315.djn (m60.lt.le (t_ (t_ (t_ (t_ (t_ (t_ (t_ (t_ e100.n e106.n) e135.n) e186.n) e192.n) e222.n) e273.n) e279.n) e301.n))))).frS e1129 (Dj.symm (hb315.djn (m62.lt.le (t_ (t_ (t_ (t_ (t_ (t_ (t_ (t_ e100.n e106.n) e135.n) e186.n) e192.n) e222.n) e273.n) e279.n) e301.n)))))
 refine l_' (.slice a309 n310 c311) (aL_ 57 (pt_ b312 1) H1128) (u1166.l_) ?_
 have u1167 := ((((((((((((((((((((((((((((((((u322.fr e320 (hb315.djn m302.lt)).fr e338 Dj.nil_l).ext e351).fr e357 (hb352.djn (m302.lt.le (t_ (t_ e314.n e320.n) e338.n)))).fr e375 Dj.nil_l).fr e401 Dj.nil_l).fr e423 Dj.nil_l).fr e444 Dj.nil_l).ext e455).fr e476 (Dj.symm (i304.djn (m136.lt.le (t_ (t_ (t_ (t_ e186.n e192.n) e222.n) e273.n) e279.n))))).ext e513).fr e526 (Dj.symm (i304.djn (m136.lt.le (t_ (t_ (t_ (t_ e186.n e192.n) e222.n) e273.n) e279.n))))).fr e560 (Dj.symm (i304.djn (m137.lt.le (t_ (t_ (t_ (t_ e186.n e192.n) e222.n) e273.n) e279.n))))).ext e597).fr e610 (Dj.symm (i304.djn (m137.lt.le (t_ (t_ (t_ (t_ e186.n e192.n) e222.n) e273.n) e279.n))))).fr e644 (Dj.symm (i304.djn (m139.lt.le (t_ (t_ (t_ (t_ e186.n e192.n) e222.n) e273.n) e279.n))))).ext e681).fr e694 (Dj.symm (i304.djn (m139.lt.le (t_ (t_ (t_ (t_ e186.n e192.n) e222.n) e273.n) e279.n))))).fr e728 (Dj.symm (i304.djn (m58.lt.le (t_ (t_ (t_ (t_ (t_ (t_ (t_ e100.n e106.n) e135.n) e186.n) e192.n) e222.n) e273.n) e279.n))))).ext e765).fr e778 (Dj.symm (i304.djn (m58.lt.le (t_ (t_ (t_ (t_ (t_ (t_ (t_ e100.n e106.n) e135.n) e186.n) e192.n) e222.n) e273.n) e279.n))))).fr e812 (Dj.symm (i304.djn (m59.lt.le (t_ (t_ (t_ (t_ (t_ (t_ (t_ e100.n e106.n) e135.n) e186.n) e192.n) e222.n) e273.n) e279.n))))).ext e849).fr e862 (Dj.symm (i304.djn (m59.lt.le (t_ (t_ (t_ (t_ (t_ (t_ (t_ e100.n e106.n) e135.n) e186.n) e192.n) e222.n) e273.n) e279.n))))).fr e896 (Dj.symm (i304.djn (m61.lt.le (t_ (t_ (t_ (t_ (t_ (t_ (t_ e100.n e106.n) e135.n) e186.n) e192.n) e222.n) e273.n) e279.n))))).ext e933).fr e946 (Dj.symm (i304.djn (m61.lt.le (t_ (t_ (t_ (t_ (t_ (t_ (t_ e100.n e106.n) e135.n) e186.n) e192.n) e222.n) e273.n) e279.n))))).ext e976).fr e994 (Dj.symm (i304.djn (m138.lt.le (t_ (t_ (t_ (t_ e186.n e192.n) e222.n) e273.n) e279.n))))).fr e1041 (Dj.symm (i304.djn (m140.lt.le (t_ (t_ (t_ (t_ e186.n e192.n) e222.n) e273.n) e279.n))))).fr e1085 (Dj.symm (i304.djn (m60.lt.le (t_ (t_ (t_ (t_ (t_ (t_ (t_ e100.n e106.n) e135.n) e186.n) e192.n) e222.n) e273.n) e279.n))))).fr e1129 (Dj.symm (i304.djn (m62.lt.le (t_ (t_ (t_ (t_ (t_ (t_ (t_ e100.n e106.n) e135.n) e186.n) e192.n) e222.n) e273.n) e279.n)))))
 refine l_' (i_ (y293.2.1.length : Int)) (aLen Try.prog 57 (.slice a309 n310 c311) H1128) (u1167.sq.lenb (by kernel_rfl)) ?_
 refine q_ (i_ 0) (s_nil (k1165 _ _ ?_))
 obtain ⟨o1168, hx1169, r1170⟩ := bind_some r1127
 refine w_mid (fun α H1171 => Has α [(1, pt_ b2 0), (6, pt_ b271 0), (10, pt_ b349 0), (12, .slice a383 n384 c385), (14, .slice a409 n410 c411)] ∧ FrS f297 H1128 H1171) (fun _ k1173 => ?_) (fun α H1171 hM => ?_)
 ·refine w_block ?_
  obtain ⟨n1175, hn1176⟩ := loopO_iff.1 hx1169
  refine w_loopn (fun n α H1177 => ∃ (i20 : Int), ∃ (g21 : List (Int × Int × Int)), iterO (fun zz_ => z_viaductlaw10_HierMemory_l10 y293 zz_.1 zz_.2) n (i20, g21) = some o1168 ∧ Has α [(1, pt_ b2 0), (6, pt_ b271 0), (8, pt_ b312 0), (10, pt_ b349 0), (12, .slice a383 n384 c385), (14, .slice a409 n410 c411), (138, i_ (y293.2.1.length : Int)), (139, i_ i20)] ∧ FrS f297 H1128 H1177 ∧ Ow enc_i64_i64_i64 3 H1177 (.slice a309 n310 c311) g21 f297) n1175 ⟨0, y293.2.1, hn1176, ha_, (FrS.refl (W := f297) e1129.wf), u1167⟩ ?_
  rintro n1175 α H1177 ⟨i20, g21, hi1182, hh1181, e1178, m1180⟩ K1187 k1187
  obtain ⟨n1183, z1184, rfl, hz1185, hn1186⟩ := iter_succ hi1182
  obtain ⟨β, rfl⟩ := has_ex hh1181
  clear hh1181
  replace hz1185 : z_viaductlaw10_HierMemory_l10 y293 i20 g21 = some z1184 := hz1185
  unfold z_viaductlaw10_HierMemory_l10 at hz1185
  refine w_seqk fun _ k1188 => g_' (q_ (.bool (decide (i20 < (y293.2.1.length : Int)))) (s_nil (k1188 _ _ (w_seqk fun _ k1189 => ?_))))
  refine w_condp (i20 < (y293.2.1.length : Int)) (by kernel_rfl) rfl (fun h1190 => ?_) (fun h1190 => ?_)
  ·have r1191 := ite_t h1190 hz1185
   refine w_skip (k1189 _ _ (w_seqk fun _ k1192 => w_block (w_seqk fun _ k1193 => g_' (q_ (i_ i20) (q_ (i_ i20) (s_nil (k1193 _ _ (g_' (q_ (pt_ b312 1) ?_)))))))))
   have u1194 := (u1166.frS e1178 (Dj.symm (hb315.djn m302.lt)))
   refine l_' (.slice a309 n310 c311) (aL_ 57 (pt_ b312 1) H1177) (u1194.l_) ?_
   refine q_ (i_ i20) (q_ (.agg #[i_ (-1), i_ 0, i_ 0]) ?_)
   obtain ⟨g1195, r1196⟩ := G_some r1191
   refine l_' (elp (.slice a309 n310 c311) 3 i20.toNat 0) (aIndexAddr Try.prog 57 (.slice a309 n310 c311) (i_ i20)) (m1180.sq.idxb (by kernel_rfl) g1195.1 g1195.2) ?_
   obtain ⟨H1197, q1198, e1199, hm1200⟩ := Ow.store (P := Try.prog) (t := 73) (off := 0) e1178.wf m1180 g1195.1 g1195.2 (.agg #[i_ (-1), i_ 0, i_ 0]) [i_ (-1), i_ 0, i_ 0] (by kernel_rfl) (by kernel_rfl) rfl ((-1), 0, 0) (Nat.le_of_ble_eq_true rfl) (by kernel_rfl)
   refine s_ek (undef) (by kernel_rfl) (map_ok q1198) ?_
   refine s_nil (k1192 _ _ (g_' ?_))
   obtain ⟨g1201, r1202⟩ := G_some r1196
   refine w_' (i20 + 1) (wrap64 (by have := g1201; omega)) ?_
   refine q_ (i_ (i20 + 1)) (s_nil ?_)
   obtain rfl := oi_ r1202
   exact k1187 n1183 _ _ (Nat.lt_succ_self _) ⟨(i20 + 1), (g21.set i20.toNat ((-1), 0, 0)), hn1186, ha_, (FrS.step e1129.wf (FrS.step e1129.wf (FrS.refl (W := f297) e1129.wf) e1178 Inn.refl') e1199 Inn.refl'), hm1200⟩
  have r1203 := ite_f h1190 hz1185
  refine w_exit (th_exit (th_exit (bl_eq ?_)))
  obtain rfl := oi_ r1203
  obtain rfl := it_inr hn1186
  exact k1173 _ _ ⟨ha_, (FrS.step e1129.wf (FrS.refl (W := f297) e1129.wf) e1178 Inn.refl')⟩
 obtain ⟨hh1174, e1172⟩ := hM
 obtain ⟨β, rfl⟩ := has_ex hh1174
 clear hh1174
 refine k1164 _ _ (w_seqk fun _ k1204 => w_seqk fun _ k1205 => g_' (q_ (.slice a383 n384 c385) ?_))
 have u1206 := ((((((((((((((((((((((((((((m376.fr e401 Dj.nil_l).fr e423 Dj.nil_l).fr e444 Dj.nil_l).ext e455).fr e476 (Dj.symm (i378.djn (m136.lt.le (t_ (t_ (t_ (t_ (t_ (t_ (t_ (t_ (t_ (t_ e186.n e192.n) e222.n) e273.n) e279.n) e301.n) e314.n) e320.n) e338.n) e351.n) e357.n))))).ext e513).fr e526 (Dj.symm (i378.djn (m136.lt.le (t_ (t_ (t_ (t_ (t_ (t_ (t_ (t_ (t_ (t_ e186.n e192.n) e222.n) e273.n) e279.n) e301.n) e314.n) e320.n) e338.n) e351.n) e357.n))))).fr e560 (Dj.symm (i378.djn (m137.lt.le (t_ (t_ (t_ (t_ (t_ (t_ (t_ (t_ (t_ (t_ e186.n e192.n) e222.n) e273.n) e279.n) e301.n) e314.n) e320.n) e338.n) e351.n) e357.n))))).ext e597).fr e610 (Dj.symm (i378.djn (m137.lt.le (t_ (t_ (t_ (t_ (t_ (t_ (t_ (t_ (t_ (t_ e186.n e192.n) e222.n) e273.n) e279.n) e301.n) e314.n) e320.n) e338.n) e351.n) e357.n))))).fr e644 (Dj.symm (i378.djn (m139.lt.le (t_ (t_ (t_ (t_ (t_ (t_ (t_ (t_ (t_ (t_ e186.n e192.n) e222.n) e273.n) e279.n) e301.n) e314.n) e320.n) e338.n) e351.n) e357.n))))).ext e681).fr e694 (Dj.symm (i378.djn (m139.lt.le (t_ (t_ (t_ (t_ (t_ (t_ (t_ (t_ (t_ (t_ e186.n e192.n) e222.n) e273.n) e279.n) e301.n) e314.n) e320.n) e338.n) e351.n) e357.n))))).fr e728 (Dj.symm (i378.djn (m58.lt.le (t_ (t_ (t_ (t_ (t_ (t_ (t_ (t_ (t_ (t_ (t_ (t_ (t_ e100.n e106.n) e135.n) e186.n) e192.n) e222.n) e273.n) e279.n) e301.n) e314.n) e320.n) e338.n) e351.n) e357.n))))).ext e765).fr e778 (Dj.symm (i378.djn (m58.lt.le (t_ (t_ (t_ (t_ (t_ (t_ (t_ (t_ (t_ (t_ (t_ (t_ (t_ e100.n e106.n) e135.n) e186.n) e192.n) e222.n) e273.n) e279.n) e301.n) e314.n) e320.n) e338.n) e351.n) e357.n))))).fr e812 (Dj.symm (i378.djn (m59.lt.le (t_ (t_ (t_ (t_ (t_ (t_ (t_ (t_ (t_ (t_ (t_ (t_ (t_ e100.n e106.n) e135.n) e186.n) e192.n) e222.n) e273.n) e279.n) e301.n) e314.n) e320.n) e338.n) e351.n) e357.n))))).ext e849).fr e862 (Dj.symm (i378.djn (m59.lt.le (t_ (t_ (t_ (t_ (t_ (t_ (t_ (t_ (t_ (t_ (t_ (t_ (t_ e100.n e106.n) e135.n) e186.n) e192.n) e222.n) e273.n) e279.n) e301.n) e314.n) e320.n) e338.n) e351.n) e357.n))))).fr e896 (Dj.symm (i378.djn (m61.lt.le (t_ (t_ (t_ (t_ (t_ (t_ (t_ (t_ (t_ (t_ (t_ (t_ (t_ e100.n e106.n) e135.n) e186.n) e192.n) e222.n) e273.n) e279.n) e301.n) e314.n) e320.n) e338.n) e351.n) e357.n))))).ext e933).fr e946 (Dj.symm (i378.djn (m61.lt.le (t_ (t_ (t_ (t_ (t_ (t_ (t_ (t_ (t_ (t_ (t_ (t_ (t_ e100.n e106.n) e135.n) e186.n) e192.n) e222.n) e273.n) e279.n) e301.n) e314.n) e320.n) e338.n) e351.n) e357.n))))).ext e976).fr e994 (Dj.symm (i378.djn (m138.lt.le (t_ (t_ (t_ (t_ (t_ (t_ (t_ (t_ (t_ (t_ e186.n e192.n) e222.n) e273.n) e279.n) e301.n) e314.n) e320.n) e338.n) e351.n) e357.n))))).fr e1041 (Dj.symm (i378.djn (m140.lt.le (t_ (t_ (t_ (t_ (t_ (t_ (t_ (t_ (t_ (t_ e186.n e192.n) e222.n) e273.n) e279.n) e301.n) e314.n) e320.n) e338.n) e351.n) e357.n))))).fr e1085 (Dj.symm (i378.djn (m60.lt.le (t_ (t_ (t_ (t_ (t_ (t_ (t_ (t_ (t_ (t_ (t_ (t_ (t_ e100.n e106.n) e135.n) e186.n) e192.n) e222.n) e273.n) e279.n) e301.n) e314.n) e320.n) e338.n) e351.n) e357.n))))).fr e1129 (Dj.symm (i378.djn (m62.lt.le (t_ (t_ (t_ (t_ (t_ (t_ (t_ (t_ (t_ (t_ (t_ (t_ (t_ e100.n e106.n) e135.n) e186.n) e192.n) e222.n) e273.n) e279.n) e301.n) e314.n) e320.n) e338.n) e351.n) e357.n))))).fr e1172 (Dj.symm (i378.djn (m302.lt.le (t_ (t_ (t_ (t_ e314.n e320.n) e338.n) e351.n) e357.n)))))
 refine l_' (i_ (y367.1.length : Int)) (aLen Try.prog 22 (.slice a383 n384 c385) H1171) (u1206.sq.lenb (by kernel_rfl)) ?_
 refine q_ (i_ 0) (s_nil (k1205 _ _ ?_))
 obtain ⟨o1207, hx1208, r1209⟩ := bind_some r1170
 refine w_mid (fun α H1210 => Has α [(1, pt_ b2 0), (6, pt_ b271 0), (10, pt_ b349 0), (14, .slice a409 n410 c411)] ∧ FrS f371 H1171 H1210) (fun _ k1212 => ?_) (fun α H1210 hM => ?_)
 ·refine w_block ?_
  obtain ⟨n1214, hn1215⟩ := loopO_iff.1 hx1208
  refine w_loopn (fun n α H1216 => ∃ (l22 : List (Int)), ∃ (i23 : Int), iterO (fun zz_ => z_viaductlaw10_HierMemory_l11 y367 zz_.1 zz_.2) n (l22, i23) = some o1207 ∧ Has α [(1, pt_ b2 0), (6, pt_ b271 0), (10, pt_ b349 0), (12, .slice a383 n384 c385), (14, .slice a409 n410 c411), (149, i_ (y367.1.length : Int)), (150, i_ i23)] ∧ FrS f371 H1171 H1216 ∧ Ow (encI .i64) 1 H1216 (.slice a383 n384 c385) l22 f371) n1214 ⟨y367.1, 0, hn1215, ha_, (FrS.refl (W := f371) e1172.wf), u1206⟩ ?_
  rintro n1214 α H1216 ⟨l22, i23, hi1221, hh1220, e1217, m1219⟩ K1226 k1226
  obtain ⟨n1222, z1223, rfl, hz1224, hn1225⟩ := iter_succ hi1221
  obtain ⟨β, rfl⟩ := has_ex hh1220
  clear hh1220
  replace hz1224 : z_viaductlaw10_HierMemory_l11 y367 l22 i23 = some z1223 := hz1224
  unfold z_viaductlaw10_HierMemory_l11 at hz1224
  refine w_seqk fun _ k1227 => g_' (q_ (.bool (decide (i23 < (y367.1.length : Int)))) (s_nil (k1227 _ _ (w_seqk fun _ k1228 => ?_))))
  refine w_condp (i23 < (y367.1.length : Int)) (by kernel_rfl) rfl (fun h1229 => ?_) (fun h1229 => ?_)
  ·have r1230 := ite_t h1229 hz1224
   refine w_skip (k1228 _ _ (w_seqk fun _ k1231 => w_block (w_seqk fun _ k1232 => g_' (q_ (i_ i23) (q_ (i_ i23) (s_nil (k1232 _ _ (g_' (q_ (.slice a383 n384 c385) (q_ (i_ i23) ?_))))))))))
   obtain ⟨g1233, r1234⟩ := G_some r1230
   refine l_' (elp (.slice a383 n384 c385) 1 i23.toNat 0) (aIndexAddr Try.prog 22 (.slice a383 n384 c385) (i_ i23)) (m1219.sq.idxb (by kernel_rfl) g1233.1 g1233.2) ?_
   obtain ⟨H1235, q1236, e1237, hm1238⟩ := Ow.store (P := Try.prog) (t := 3) (off := 0) e1217.wf m1219 g1233.1 g1233.2 (i_ (-1)) [i_ (-1)] (by kernel_rfl) (by kernel_rfl) rfl (-1) (Nat.le_of_ble_eq_true rfl) (by kernel_rfl)
   refine s_ek (undef) (by kernel_rfl) (map_ok q1236) ?_
   refine s_nil (k1231 _ _ (g_' ?_))
   obtain ⟨g1239, r1240⟩ := G_some r1234
   refine w_' (i23 + 1) (wrap64 (by have := g1239; omega)) ?_
   refine q_ (i_ (i23 + 1)) (s_nil ?_)
   obtain rfl := oi_ r1240
   exact k1226 n1222 _ _ (Nat.lt_succ_self _) ⟨(l22.set i23.toNat (-1)), (i23 + 1), hn1225, ha_, (FrS.step e1172.wf (FrS.step e1172.wf (FrS.refl (W := f371) e1172.wf) e1217 Inn.refl') e1237 Inn.refl'), hm1238⟩
  have r1241 := ite_f h1229 hz1224
  refine w_exit (th_exit (th_exit (bl_eq ?_)))
  obtain rfl := oi_ r1241
  obtain rfl := it_inr hn1225
  exact k1212 _ _ ⟨ha_, (FrS.step e1172.wf (FrS.refl (W := f371) e1172.wf) e1217 Inn.refl')⟩
 obtain ⟨hh1213, e1211⟩ := hM
 obtain ⟨β, rfl⟩ := has_ex hh1213
 clear hh1213
 refine k1204 _ _ (w_seqk fun _ k1242 => g_' ?_)
 have u1243 := (((((((((((((((((((((((((((u427.frS e444 Dj.nil_l).ext e455).frS e476 (i142.djn (r6.ltF.le (t_ (t_ (t_ (t_ e14.n e31.n) e57.n) e100.n) e106.n)))).ext e513).frS e526 (i142.djn (r6.ltF.le (t_ (t_ (t_ (t_ e14.n e31.n) e57.n) e100.n) e106.n)))).frS e560 (i143.djn (r6.ltF.le (t_ (t_ (t_ (t_ e14.n e31.n) e57.n) e100.n) e106.n)))).ext e597).frS e610 (i143.djn (r6.ltF.le (t_ (t_ (t_ (t_ e14.n e31.n) e57.n) e100.n) e106.n)))).frS e644 (i145.djn (r6.ltF.le (t_ (t_ (t_ (t_ e14.n e31.n) e57.n) e100.n) e106.n)))).ext e681).frS e694 (i145.djn (r6.ltF.le (t_ (t_ (t_ (t_ e14.n e31.n) e57.n) e100.n) e106.n)))).frS e728 (i63.djn (r6.ltF.le (t_ e14.n e31.n)))).ext e765).frS e778 (i63.djn (r6.ltF.le (t_ e14.n e31.n)))).frS e812 (i64.djn (r6.ltF.le (t_ e14.n e31.n)))).ext e849).frS e862 (i64.djn (r6.ltF.le (t_ e14.n e31.n)))).frS e896 (i66.djn (r6.ltF.le (t_ e14.n e31.n)))).ext e933).frS e946 (i66.djn (r6.ltF.le (t_ e14.n e31.n)))).ext e976).frS e994 (i144.djn (r6.ltF.le (t_ (t_ (t_ (t_ e14.n e31.n) e57.n) e100.n) e106.n)))).frS e1041 (i146.djn (r6.ltF.le (t_ (t_ (t_ (t_ e14.n e31.n) e57.n) e100.n) e106.n)))).frS e1085 (i65.djn (r6.ltF.le (t_ e14.n e31.n)))).frS e1129 (i67.djn (r6.ltF.le (t_ e14.n e31.n)))).frS e1172 (i304.djn (r6.ltF.le (t_ (t_ (t_ (t_ (t_ (t_ (t_ (t_ (t_ (t_ e14.n e31.n) e57.n) e100.n) e106.n) e135.n) e186.n) e192.n) e222.n) e273.n) e279.n)))).frS e1211 (i378.djn (r6.ltF.le (t_ (t_ (t_ (t_ (t_ (t_ (t_ (t_ (t_ e14.n e31.n) e57.n) e100.n) e106.n) e135.n) e186.n) n434) e351.n) e357.n))))
 refine l_' (.agg #[hd_Node, hd_UpFirst, hd_Up, hd_DownFirst, hd_Down]) (aL_ 81 (pt_ b2 0) H1210) (u1243.l_) ?_
 have u1244 := (((((((((((((((((((((((((((u435.fr e444 Dj.nil_l).ext e455).fr e476 (i142.djn (h_Node.lt.le (t_ (t_ (t_ (t_ (t_ e4.n e14.n) e31.n) e57.n) e100.n) e106.n)))).ext e513).fr e526 (i142.djn (h_Node.lt.le (t_ (t_ (t_ (t_ (t_ e4.n e14.n) e31.n) e57.n) e100.n) e106.n)))).fr e560 (i143.djn (h_Node.lt.le (t_ (t_ (t_ (t_ (t_ e4.n e14.n) e31.n) e57.n) e100.n) e106.n)))).ext e597).fr e610 (i143.djn (h_Node.lt.le (t_ (t_ (t_ (t_ (t_ e4.n e14.n) e31.n) e57.n) e100.n) e106.n)))).fr e644 (i145.djn (h_Node.lt.le (t_ (t_ (t_ (t_ (t_ e4.n e14.n) e31.n) e57.n) e100.n) e106.n)))).ext e681).fr e694 (i145.djn (h_Node.lt.le (t_ (t_ (t_ (t_ (t_ e4.n e14.n) e31.n) e57.n) e100.n) e106.n)))).fr e728 (i63.djn (h_Node.lt.le (t_ (t_ e4.n e14.n) e31.n)))).ext e765).fr e778 (i63.djn (h_Node.lt.le (t_ (t_ e4.n e14.n) e31.n)))).fr e812 (i64.djn (h_Node.lt.le (t_ (t_ e4.n e14.n) e31.n)))).ext e849).fr e862 (i64.djn (h_Node.lt.le (t_ (t_ e4.n e14.n) e31.n)))).fr e896 (i66.djn (h_Node.lt.le (t_ (t_ e4.n e14.n) e31.n)))).ext e933).fr e946 (i66.djn (h_Node.lt.le (t_ (t_ e4.n e14.n) e31.n)))).ext e976).fr e994 (i144.djn (h_Node.lt.le (t_ (t_ (t_ (t_ (t_ e4.n e14.n) e31.n) e57.n) e100.n) e106.n)))).fr e1041 (i146.djn (h_Node.lt.le (t_ (t_ (t_ (t_ (t_ e4.n e14.n) e31.n) e57.n) e100.n) e106.n)))).fr e1085 (i65.djn (h_Node.lt.le (t_ (t_ e4.n e14.n) e31.n)))).fr e1129 (i67.djn (h_Node.lt.le (t_ (t_ e4.n e14.n) e31.n)))).fr e1172 (i304.djn (h_Node.lt.le (t_ (t_ (t_ (t_ (t_ (t_ (t_ (t_ (t_ (t_ (t_ e4.n e14.n) e31.n) e57.n) e100.n) e106.n) e135.n) e186.n) e192.n) e222.n) e273.n) e279.n)))).fr e1211 (i378.djn (h_Node.lt.le (t_ (t_ (t_ n433 n434) e351.n) e357.n))))
 have u1245 := (((((((((((((((((((((((((((u436.fr e444 Dj.nil_l).ext e455).fr e476 (i142.djn (h_UpFirst.lt.le (t_ (t_ (t_ (t_ (t_ e4.n e14.n) e31.n) e57.n) e100.n) e106.n)))).ext e513).fr e526 (i142.djn (h_UpFirst.lt.le (t_ (t_ (t_ (t_ (t_ e4.n e14.n) e31.n) e57.n) e100.n) e106.n)))).fr e560 (i143.djn (h_UpFirst.lt.le (t_ (t_ (t_ (t_ (t_ e4.n e14.n) e31.n) e57.n) e100.n) e106.n)))).ext e597).fr e610 (i143.djn (h_UpFirst.lt.le (t_ (t_ (t_ (t_ (t_ e4.n e14.n) e31.n) e57.n) e100.n) e106.n)))).fr e644 (i145.djn (h_UpFirst.lt.le (t_ (t_ (t_ (t_ (t_ e4.n e14.n) e31.n) e57.n) e100.n) e106.n)))).ext e681).fr e694 (i145.djn (h_UpFirst.lt.le (t_ (t_ (t_ (t_ (t_ e4.n e14.n) e31.n) e57.n) e100.n) e106.n)))).fr e728 (i63.djn (h_UpFirst.lt.le (t_ (t_ e4.n e14.n) e31.n)))).ext e765).fr e778 (i63.djn (h_UpFirst.lt.le (t_ (t_ e4.n e14.n) e31.n)))).fr e812 (i64.djn (h_UpFirst.lt.le (t_ (t_ e4.n e14.n) e31.n)))).ext e849).fr e862 (i64.djn (h_UpFirst.lt.le (t_ (t_ e4.n e14.n) e31.n)))).fr e896 (i66.djn (h_UpFirst.lt.le (t_ (t_ e4.n e14.n) e31.n)))).ext e933).fr e946 (i66.djn (h_UpFirst.lt.le (t_ (t_ e4.n e14.n) e31.n)))).ext e976).fr e994 (i144.djn (h_UpFirst.lt.le (t_ (t_ (t_ (t_ (t_ e4.n e14.n) e31.n) e57.n) e100.n) e106.n)))).fr e1041 (i146.djn (h_UpFirst.lt.le (t_ (t_ (t_ (t_ (t_ e4.n e14.n) e31.n) e57.n) e100.n) e106.n)))).fr e1085 (i65.djn (h_UpFirst.lt.le (t_ (t_ e4.n e14.n) e31.n)))).fr e1129 (i67.djn (h_UpFirst.lt.le (t_ (t_ e4.n e14.n) e31.n)))).fr e1172 (i304.djn (h_UpFirst.lt.le (t_ (t_ (t_ (t_ (t_ (t_ (t_ (t_ (t_ (t_ (t_ e4.n e14.n) e31.n) e57.n) e100.n) e106.n) e135.n) e186.n) e192.n) e222.n) e273.n) e279.n)))).fr e1211 (i378.djn (h_UpFirst.lt.le (t_ (t_ (t_ n433 n434) e351.n) e357.n))))
 have u1246 := (((((((((((((((((((((((((((u437.fr e444 Dj.nil_l).ext e455).fr e476 (i142.djn (h_Up.lt.le (t_ (t_ (t_ (t_ (t_ e4.n e14.n) e31.n) e57.n) e100.n) e106.n)))).ext e513).fr e526 (i142.djn (h_Up.lt.le (t_ (t_ (t_ (t_ (t_ e4.n e14.n) e31.n) e57.n) e100.n) e106.n)))).fr e560 (i143.djn (h_Up.lt.le (t_ (t_ (t_ (t_ (t_ e4.n e14.n) e31.n) e57.n) e100.n) e106.n)))).ext e597).fr e610 (i143.djn (h_Up.lt.le (t_ (t_ (t_ (t_ (t_ e4.n e14.n) e31.n) e57.n) e100.n) e106.n)))).fr e644 (i145.djn (h_Up.lt.le (t_ (t_ (t_ (t_ (t_ e4.n e14.n) e31.n) e57.n) e100.n) e106.n)))).ext e681).fr e694 (i145.djn (h_Up.lt.le (t_ (t_ (t_ (t_ (t_ e4.n e14.n) e31.n) e57.n) e100.n) e106.n)))).fr e728 (i63.djn (h_Up.lt.le (t_ (t_ e4.n e14.n) e31.n)))).ext e765).fr e778 (i63.djn (h_Up.lt.le (t_ (t_ e4.n e14.n) e31.n)))).fr e812 (i64.djn (h_Up.lt.le (t_ (t_ e4.n e14.n) e31.n)))).ext e849).fr e862 (i64.djn (h_Up.lt.le (t_ (t_ e4.n e14.n) e31.n)))).fr e896 (i66.djn (h_Up.lt.le (t_ (t_ e4.n e14.n) e31.n)))).ext e933).fr e946 (i66.djn (h_Up.lt.le (t_ (t_ e4.n e14.n) e31.n)))).ext e976).fr e994 (i144.djn (h_Up.lt.le (t_ (t_ (t_ (t_ (t_ e4.n e14.n) e31.n) e57.n) e100.n) e106.n)))).fr e1041 (i146.djn (h_Up.lt.le (t_ (t_ (t_ (t_ (t_ e4.n e14.n) e31.n) e57.n) e100.n) e106.n)))).fr e1085 (i65.djn (h_Up.lt.le (t_ (t_ e4.n e14.n) e31.n)))).fr e1129 (i67.djn (h_Up.lt.le (t_ (t_ e4.n e14.n) e31.n)))).fr e1172 (i304.djn (h_Up.lt.le (t_ (t_ (t_ (t_ (t_ (t_ (t_ (t_ (t_ (t_ (t_ e4.n e14.n) e31.n) e57.n) e100.n) e106.n) e135.n) e186.n) e192.n) e222.n) e273.n) e279.n)))).fr e1211 (i378.djn (h_Up.lt.le (t_ (t_ (t_ n433 n434) e351.n) e357.n))))
 have u1247 := (((((((((((((((((((((((((((u438.fr e444 Dj.nil_l).ext e455).fr e476 (i142.djn (h_DownFirst.lt.le (t_ (t_ (t_ (t_ (t_ e4.n e14.n) e31.n) e57.n) e100.n) e106.n)))).ext e513).fr e526 (i142.djn (h_DownFirst.lt.le (t_ (t_ (t_ (t_ (t_ e4.n e14.n) e31.n) e57.n) e100.n) e106.n)))).fr e560 (i143.djn (h_DownFirst.lt.le (t_ (t_ (t_ (t_ (t_ e4.n e14.n) e31.n) e57.n) e100.n) e106.n)))).ext e597).fr e610 (i143.djn (h_DownFirst.lt.le (t_ (t_ (t_ (t_ (t_ e4.n e14.n) e31.n) e57.n) e100.n) e106.n)))).fr e644 (i145.djn (h_DownFirst.lt.le (t_ (t_ (t_ (t_ (t_ e4.n e14.n) e31.n) e57.n) e100.n) e106.n)))).ext e681).fr e694 (i145.djn (h_DownFirst.lt.le (t_ (t_ (t_ (t_ (t_ e4.n e14.n) e31.n) e57.n) e100.n) e106.n)))).fr e728 (i63.djn (h_DownFirst.lt.le (t_ (t_ e4.n e14.n) e31.n)))).ext e765).fr e778 (i63.djn (h_DownFirst.lt.le (t_ (t_ e4.n e14.n) e31.n)))).fr e812 (i64.djn (h_DownFirst.lt.le (t_ (t_ e4.n e14.n) e31.n)))).ext e849).fr e862 (i64.djn (h_DownFirst.lt.le (t_ (t_ e4.n e14.n) e31.n)))).fr e896 (i66.djn (h_DownFirst.lt.le (t_ (t_ e4.n e14.n) e31.n)))).ext e933).fr e946 (i66.djn (h_DownFirst.lt.le (t_ (t_ e4.n e14.n) e31.n)))).ext e976).fr e994 (i144.djn (h_DownFirst.lt.le (t_ (t_ (t_ (t_ (t_ e4.n e14.n) e31.n) e57.n) e100.n) e106.n)))).fr e1041 (i146.djn (h_DownFirst.lt.le (t_ (t_ (t_ (t_ (t_ e4.n e14.n) e31.n) e57.n) e100.n) e106.n)))).fr e1085 (i65.djn (h_DownFirst.lt.le (t_ (t_ e4.n e14.n) e31.n)))).fr e1129 (i67.djn (h_DownFirst.lt.le (t_ (t_ e4.n e14.n) e31.n)))).fr e1172 (i304.djn (h_DownFirst.lt.le (t_ (t_ (t_ (t_ (t_ (t_ (t_ (t_ (t_ (t_ (t_ e4.n e14.n) e31.n) e57.n) e100.n) e106.n) e135.n) e186.n) e192.n) e222.n) e273.n) e279.n)))).fr e1211 (i378.djn (h_DownFirst.lt.le (t_ (t_ (t_ n433 n434) e351.n) e357.n))))
 have u1248 := (((((((((((((((((((((((((((u439.fr e444 Dj.nil_l).ext e455).fr e476 (i142.djn (h_Down.lt.le (t_ (t_ (t_ (t_ (t_ e4.n e14.n) e31.n) e57.n) e100.n) e106.n)))).ext e513).fr e526 (i142.djn (h_Down.lt.le (t_ (t_ (t_ (t_ (t_ e4.n e14.n) e31.n) e57.n) e100.n) e106.n)))).fr e560 (i143.djn (h_Down.lt.le (t_ (t_ (t_ (t_ (t_ e4.n e14.n) e31.n) e57.n) e100.n) e106.n)))).ext e597).fr e610 (i143.djn (h_Down.lt.le (t_ (t_ (t_ (t_ (t_ e4.n e14.n) e31.n) e57.n) e100.n) e106.n)))).fr e644 (i145.djn (h_Down.lt.le (t_ (t_ (t_ (t_ (t_ e4.n e14.n) e31.n) e57.n) e100.n) e106.n)))).ext e681).fr e694 (i145.djn (h_Down.lt.le (t_ (t_ (t_ (t_ (t_ e4.n e14.n) e31.n) e57.n) e100.n) e106.n)))).fr e728 (i63.djn (h_Down.lt.le (t_ (t_ e4.n e14.n) e31.n)))).ext e765).fr e778 (i63.djn (h_Down.lt.le (t_ (t_ e4.n e14.n) e31.n)))).fr e812 (i64.djn (h_Down.lt.le (t_ (t_ e4.n e14.n) e31.n)))).ext e849).fr e862 (i64.djn (h_Down.lt.le (t_ (t_ e4.n e14.n) e31.n)))).fr e896 (i66.djn (h_Down.lt.le (t_ (t_ e4.n e14.n) e31.n)))).ext e933).fr e946 (i66.djn (h_Down.lt.le (t_ (t_ e4.n e14.n) e31.n)))).ext e976).fr e994 (i144.djn (h_Down.lt.le (t_ (t_ (t_ (t_ (t_ e4.n e14.n) e31.n) e57.n) e100.n) e106.n)))).fr e1041 (i146.djn (h_Down.lt.le (t_ (t_ (t_ (t_ (t_ e4.n e14.n) e31.n) e57.n) e100.n) e106.n)))).fr e1085 (i65.djn (h_Down.lt.le (t_ (t_ e4.n e14.n) e31.n)))).fr e1129 (i67.djn (h_Down.lt.le (t_ (t_ e4.n e14.n) e31.n)))).fr e1172 (i304.djn (h_Down.lt.le (t_ (t_ (t_ (t_ (t_ (t_ (t_ (t_ (t_ (t_ (t_ e4.n e14.n) e31.n) e57.n) e100.n) e106.n) e135.n) e186.n) e192.n) e222.n) e273.n) e279.n)))).fr e1211 (i378.djn (h_Down.lt.le (t_ (t_ (t_ n433 n434) e351.n) e357.n))))
 obtain ⟨y1249, hy1250, r1251⟩ := bind_some r1209
 refine s_ck 42 #[.agg #[hd_Node, hd_UpFirst, hd_Up, hd_DownFirst, hd_Down]] (by kernel_rfl) (c_viaductref10_DocTurn e1211.wf u1244 u1245 u1246 u1247 u1248 hy1250) ?_
 rintro _ H1264 ⟨s1252, f1253, s1254, f1255, s1256, f1257, s1258, f1259, s1260, f1261, s1262, f1263, rfl, e1265, m1266, m1267, m1268, m1269, m1270, m1271, i1272, i1273, i1274, i1275, i1276, i1277, d1278, d1279, d1280, d1281, d1282, d1283, d1284, d1285, d1286, d1287, d1288, d1289, d1290, d1291, d1292⟩
 obtain ⟨a1299, n1300, c1301, rfl⟩ := m1266.form
 obtain ⟨a1302, n1303, c1304, rfl⟩ := m1267.form
 obtain ⟨a1305, n1306, c1307, rfl⟩ := m1268.form
 obtain ⟨a1308, n1309, c1310, rfl⟩ := m1269.form
 obtain ⟨a1311, n1312, c1313, rfl⟩ := m1270.form
 obtain ⟨a1314, n1315, c1316, rfl⟩ := m1271.form
 refine q_ (.tuple #[.agg #[.slice a1299 n1300 c1301, .slice a1302 n1303 c1304, .slice a1305 n1306 c1307, .slice a1308 n1309 c1310, .slice a1311 n1312 c1313], .agg #[i_ y1249.2.2.2.2.2.1, .slice a1314 n1315 c1316]]) (q_ (.agg #[.slice a1299 n1300 c1301, .slice a1302 n1303 c1304, .slice a1305 n1306 c1307, .slice a1308 n1309 c1310, .slice a1311 n1312 c1313]) (q_ (.agg #[i_ y1249.2.2.2.2.2.1, .slice a1314 n1315 c1316]) ?_))
 refine s_rwk e1265.wf [.slice none 0 0, .slice none 0 0, .slice none 0 0, .slice none 0 0, .slice none 0 0] (by kernel_rfl) fun b1317 H1318 e1319 hb1320 r1321 => ?_
 refine s_rwk e1319.wf [i_ 0, .slice none 0 0] (by kernel_rfl) fun b1323 H1324 e1325 hb1326 r1327 => ?_
 have u1333 := (r1321.ext e1325)
 have u1334 := ((m1270.ext e1319).ext e1325)
 have u1335 := ((m1269.ext e1319).ext e1325)
 have u1336 := ((m1268.ext e1319).ext e1325)
 have u1337 := ((m1267.ext e1319).ext e1325)
 have u1338 := ((m1266.ext e1319).ext e1325)
 obtain ⟨H1329, q1330, e1331, r1332⟩ := Row.store (P := Try.prog) (t := 81) (p := 0) e1325.wf u1333 (.agg #[.slice a1299 n1300 c1301, .slice a1302 n1303 c1304, .slice a1305 n1306 c1307, .slice a1308 n1309 c1310, .slice a1311 n1312 c1313]) [.slice a1299 n1300 c1301, .slice a1302 n1303 c1304, .slice a1305 n1306 c1307, .slice a1308 n1309 c1310, .slice a1311 n1312 c1313] (by kernel_rfl) (by kernel_rfl) (one_cons (u1338.one1) (one_cons (u1337.one1) (one_cons (u1336.one1) (one_cons (u1335.one1) (one_cons (u1334.one1) (one_nil)))))) (Nat.le_of_ble_eq_true (by kernel_rfl)) [.slice a1299 n1300 c1301, .slice a1302 n1303 c1304, .slice a1305 n1306 c1307, .slice a1308 n1309 c1310, .slice a1311 n1312 c1313] (by kernel_rfl)
 refine s_ek (undef) (by kernel_rfl) (map_ok q1330) ?_
 have u1343 := (r1327.frS e1331 (Dj.symm (hb1326.djn r1321.ltF)))
 have u1344 := (((m1271.ext e1319).ext e1325).fr e1331 (hb1320.djn m1271.lt))
 obtain ⟨H1339, q1340, e1341, r1342⟩ := Row.store (P := Try.prog) (t := 46) (p := 0) e1331.wf u1343 (.agg #[i_ y1249.2.2.2.2.2.1, .slice a1314 n1315 c1316]) [i_ y1249.2.2.2.2.2.1, .slice a1314 n1315 c1316] (by kernel_rfl) (by kernel_rfl) (one_cons (rfl) (one_cons (u1344.one1) (one_nil))) (Nat.le_of_ble_eq_true (by kernel_rfl)) [i_ y1249.2.2.2.2.2.1, .slice a1314 n1315 c1316] (by kernel_rfl)
 refine s_ek (undef) (by kernel_rfl) (map_ok q1340) ?_
 refine s_nil (k1242 _ _ (w_seqk fun _ k1345 => g_' ?_))
 have n1346 := (t_ (t_ (t_ (t_ (t_ (t_ (t_ e946.n e976.n) e994.n) e1041.n) e1085.n) e1129.n) e1172.n) e1211.n)
 have u1347 := (((((u1243.frS e1265 Dj.nil_l).ext e1319).ext e1325).frS e1331 (hb1320.djn (r6.ltF.le (t_ (t_ (t_ (t_ (t_ (t_ (t_ (t_ (t_ (t_ (t_ (t_ e14.n e31.n) e57.n) e100.n) e106.n) e135.n) e186.n) n434) n1031) n1032) n1033) n1346) e1265.n)))).frS e1341 (hb1326.djn (r6.ltF.le (t_ (t_ (t_ (t_ (t_ (t_ (t_ (t_ (t_ (t_ (t_ (t_ (t_ e14.n e31.n) e57.n) e100.n) e106.n) e135.n) e186.n) n434) n1031) n1032) n1033) n1346) e1265.n) e1319.n))))
 refine l_' (.agg #[hd_Node, hd_UpFirst, hd_Up, hd_DownFirst, hd_Down]) (aL_ 81 (pt_ b2 0) H1339) (u1347.l_) ?_
 have u1348 := (((((u1244.fr e1265 Dj.nil_l).ext e1319).ext e1325).fr e1331 (hb1320.djn (h_Node.lt.le (t_ (t_ (t_ (t_ (t_ (t_ n433 n434) n1031) n1032) n1033) n1346) e1265.n)))).fr e1341 (hb1326.djn (h_Node.lt.le (t_ (t_ (t_ (t_ (t_ (t_ (t_ n433 n434) n1031) n1032) n1033) n1346) e1265.n) e1319.n))))
 have u1349 := (((((u1245.fr e1265 Dj.nil_l).ext e1319).ext e1325).fr e1331 (hb1320.djn (h_UpFirst.lt.le (t_ (t_ (t_ (t_ (t_ (t_ n433 n434) n1031) n1032) n1033) n1346) e1265.n)))).fr e1341 (hb1326.djn (h_UpFirst.lt.le (t_ (t_ (t_ (t_ (t_ (t_ (t_ n433 n434) n1031) n1032) n1033) n1346) e1265.n) e1319.n))))
 have u1350 := (((((u1246.fr e1265 Dj.nil_l).ext e1319).ext e1325).fr e1331 (hb1320.djn (h_Up.lt.le (t_ (t_ (t_ (t_ (t_ (t_ n433 n434) n1031) n1032) n1033) n1346) e1265.n)))).fr e1341 (hb1326.djn (h_Up.lt.le (t_ (t_ (t_ (t_ (t_ (t_ (t_ n433 n434) n1031) n1032) n1033) n1346) e1265.n) e1319.n))))
 have u1351 := (((((u1247.fr e1265 Dj.nil_l).ext e1319).ext e1325).fr e1331 (hb1320.djn (h_DownFirst.lt.le (t_ (t_ (t_ (t_ (t_ (t_ n433 n434) n1031) n1032) n1033) n1346) e1265.n)))).fr e1341 (hb1326.djn (h_DownFirst.lt.le (t_ (t_ (t_ (t_ (t_ (t_ (t_ n433 n434) n1031) n1032) n1033) n1346) e1265.n) e1319.n))))
 have u1352 := (((((u1248.fr e1265 Dj.nil_l).ext e1319).ext e1325).fr e1331 (hb1320.djn (h_Down.lt.le (t_ (t_ (t_ (t_ (t_ (t_ n433 n434) n1031) n1032) n1033) n1346) e1265.n)))).fr e1341 (hb1326.djn (h_Down.lt.le (t_ (t_ (t_ (t_ (t_ (t_ (t_ n433 n434) n1031) n1032) n1033) n1346) e1265.n) e1319.n))))
 obtain ⟨y1353, hy1354, r1355⟩ := bind_some r1251
 refine s_ck 43 #[.agg #[hd_Node, hd_UpFirst, hd_Up, hd_DownFirst, hd_Down]] (by kernel_rfl) (c_viaductref10_DocGraph e1341.wf u1348 u1349 u1350 u1351 u1352 hy1354) ?_
 rintro _ H1360 ⟨s1356, f1357, s1358, f1359, rfl, e1361, m1362, m1363, i1364, i1365, d1366⟩
 obtain ⟨a1369, n1370, c1371, rfl⟩ := m1362.form
 obtain ⟨a1372, n1373, c1374, rfl⟩ := m1363.form
 refine q_ (.tuple #[.agg #[i_ y1353.1, .slice a1369 n1370 c1371], .agg #[i_ y1353.2.2.1, .slice a1372 n1373 c1374]]) (q_ (.agg #[i_ y1353.1, .slice a1369 n1370 c1371]) (q_ (.agg #[i_ y1353.2.2.1, .slice a1372 n1373 c1374]) ?_))
 refine s_rwk e1361.wf [i_ 0, .slice none 0 0] (by kernel_rfl) fun b1375 H1376 e1377 hb1378 r1379 => ?_
 refine s_rwk e1377.wf [i_ 0, .slice none 0 0] (by kernel_rfl) fun b1381 H1382 e1383 hb1384 r1385 => ?_
 have u1391 := (r1379.ext e1383)
 have u1392 := ((m1362.ext e1377).ext e1383)
 obtain ⟨H1387, q1388, e1389, r1390⟩ := Row.store (P := Try.prog) (t := 59) (p := 0) e1383.wf u1391 (.agg #[i_ y1353.1, .slice a1369 n1370 c1371]) [i_ y1353.1, .slice a1369 n1370 c1371] (by kernel_rfl) (by kernel_rfl) (one_cons (rfl) (one_cons (u1392.one1) (one_nil))) (Nat.le_of_ble_eq_true (by kernel_rfl)) [i_ y1353.1, .slice a1369 n1370 c1371] (by kernel_rfl)
 refine s_ek (undef) (by kernel_rfl) (map_ok q1388) ?_
 have u1397 := (r1385.frS e1389 (Dj.symm (hb1384.djn r1379.ltF)))
 have u1398 := (((m1363.ext e1377).ext e1383).fr e1389 (hb1378.djn m1363.lt))
 obtain ⟨H1393, q1394, e1395, r1396⟩ := Row.store (P := Try.prog) (t := 46) (p := 0) e1389.wf u1397 (.agg #[i_ y1353.2.2.1, .slice a1372 n1373 c1374]) [i_ y1353.2.2.1, .slice a1372 n1373 c1374] (by kernel_rfl) (by kernel_rfl) (one_cons (rfl) (one_cons (u1398.one1) (one_nil))) (Nat.le_of_ble_eq_true (by kernel_rfl)) [i_ y1353.2.2.1, .slice a1372 n1373 c1374] (by kernel_rfl)
 refine s_ek (undef) (by kernel_rfl) (map_ok q1394) ?_
 refine s_nil (k1345 _ _ (w_seqk fun _ k1399 => g_' ?_))
 have u1400 := (((((u1347.frS e1361 Dj.nil_l).ext e1377).ext e1383).frS e1389 (hb1378.djn (r6.ltF.le (t_ (t_ (t_ (t_ (t_ (t_ (t_ (t_ (t_ (t_ (t_ (t_ (t_ (t_ (t_ (t_ (t_ e14.n e31.n) e57.n) e100.n) e106.n) e135.n) e186.n) n434) n1031) n1032) n1033) n1346) e1265.n) e1319.n) e1325.n) e1331.n) e1341.n) e1361.n)))).frS e1395 (hb1384.djn (r6.ltF.le (t_ (t_ (t_ (t_ (t_ (t_ (t_ (t_ (t_ (t_ (t_ (t_ (t_ (t_ (t_ (t_ (t_ (t_ e14.n e31.n) e57.n) e100.n) e106.n) e135.n) e186.n) n434) n1031) n1032) n1033) n1346) e1265.n) e1319.n) e1325.n) e1331.n) e1341.n) e1361.n) e1377.n))))
 refine l_' (.agg #[hd_Node, hd_UpFirst, hd_Up, hd_DownFirst, hd_Down]) (aL_ 81 (pt_ b2 0) H1393) (u1400.l_) ?_
 have u1401 := (((((u1348.fr e1361 Dj.nil_l).ext e1377).ext e1383).fr e1389 (hb1378.djn (h_Node.lt.le (t_ (t_ (t_ (t_ (t_ (t_ (t_ (t_ (t_ (t_ (t_ n433 n434) n1031) n1032) n1033) n1346) e1265.n) e1319.n) e1325.n) e1331.n) e1341.n) e1361.n)))).fr e1395 (hb1384.djn (h_Node.lt.le (t_ (t_ (t_ (t_ (t_ (t_ (t_ (t_ (t_ (t_ (t_ (t_ n433 n434) n1031) n1032) n1033) n1346) e1265.n) e1319.n) e1325.n) e1331.n) e1341.n) e1361.n) e1377.n))))
 have u1402 := (((((u1349.fr e1361 Dj.nil_l).ext e1377).ext e1383).fr e1389 (hb1378.djn (h_UpFirst.lt.le (t_ (t_ (t_ (t_ (t_ (t_ (t_ (t_ (t_ (t_ (t_ n433 n434) n1031) n1032) n1033) n1346) e1265.n) e1319.n) e1325.n) e1331.n) e1341.n) e1361.n)))).fr e1395 (hb1384.djn (h_UpFirst.lt.le (t_ (t_ (t_ (t_ (t_ (t_ (t_ (t_ (t_ (t_ (t_ (t_ n433 n434) n1031) n1032) n1033) n1346) e1265.n) e1319.n) e1325.n) e1331.n) e1341.n) e1361.n) e1377.n))))
 have u1403 := (((((u1350.fr e1361 Dj.nil_l).ext e1377).ext e1383).fr e1389 (hb1378.djn (h_Up.lt.le (t_ (t_ (t_ (t_ (t_ (t_ (t_ (t_ (t_ (t_ (t_ n433 n434) n1031) n1032) n1033) n1346) e1265.n) e1319.n) e1325.n) e1331.n) e1341.n) e1361.n)))).fr e1395 (hb1384.djn (h_Up.lt.le (t_ (t_ (t_ (t_ (t_ (t_ (t_ (t_ (t_ (t_ (t_ (t_ n433 n434) n1031) n1032) n1033) n1346) e1265.n) e1319.n) e1325.n) e1331.n) e1341.n) e1361.n) e1377.n))))
 have u1404 := (((((u1351.fr e1361 Dj.nil_l).ext e1377).ext e1383).fr e1389 (hb1378.djn (h_DownFirst.lt.le (t_ (t_ (t_ (t_ (t_ (t_ (t_ (t_ (t_ (t_ (t_ n433 n434) n1031) n1032) n1033) n1346) e1265.n) e1319.n) e1325.n) e1331.n) e1341.n) e1361.n)))).fr e1395 (hb1384.djn (h_DownFirst.lt.le (t_ (t_ (t_ (t_ (t_ (t_ (t_ (t_ (t_ (t_ (t_ (t_ n433 n434) n1031) n1032) n1033) n1346) e1265.n) e1319.n) e1325.n) e1331.n) e1341.n) e1361.n) e1377.n))))
 have u1405 := (((((u1352.fr e1361 Dj.nil_l).ext e1377).ext e1383).fr e1389 (hb1378.djn (h_Down.lt.le (t_ (t_ (t_ (t_ (t_ (t_ (t_ (t_ (t_ (t_ (t_ n433 n434) n1031) n1032) n1033) n1346) e1265.n) e1319.n) e1325.n) e1331.n) e1341.n) e1361.n)))).fr e1395 (hb1384.djn (h_Down.lt.le (t_ (t_ (t_ (t_ (t_ (t_ (t_ (t_ (t_ (t_ (t_ (t_ n433 n434) n1031) n1032) n1033) n1346) e1265.n) e1319.n) e1325.n) e1331.n) e1341.n) e1361.n) e1377.n))))
 obtain ⟨y1406, hy1407, r1408⟩ := bind_some r1355
 refine s_ck 44 #[.agg #[hd_Node, hd_UpFirst, hd_Up, hd_DownFirst, hd_Down]] (by kernel_rfl) (c_viaductref10_DocRanks e1395.wf u1401 u1402 u1403 u1404 u1405 hy1407) ?_
 rintro _ H1413 ⟨s1409, f1410, s1411, f1412, rfl, e1414, m1415, m1416, i1417, i1418, d1419⟩
 obtain ⟨a1422, n1423, c1424, rfl⟩ := m1415.form
 obtain ⟨a1425, n1426, c1427, rfl⟩ := m1416.form
 refine q_ (.tuple #[.slice a1422 n1423 c1424, .agg #[i_ y1406.2.1, .slice a1425 n1426 c1427]]) (q_ (.slice a1422 n1423 c1424) (q_ (.agg #[i_ y1406.2.1, .slice a1425 n1426 c1427]) ?_))
 refine s_rwk e1414.wf [i_ 0, .slice none 0 0] (by kernel_rfl) fun b1428 H1429 e1430 hb1431 r1432 => ?_
 refine q_ (.slice a1422 n1423 c1424) ?_
 have u1438 := (m1416.ext e1430)
 obtain ⟨H1434, q1435, e1436, r1437⟩ := Row.store (P := Try.prog) (t := 46) (p := 0) e1430.wf r1432 (.agg #[i_ y1406.2.1, .slice a1425 n1426 c1427]) [i_ y1406.2.1, .slice a1425 n1426 c1427] (by kernel_rfl) (by kernel_rfl) (one_cons (rfl) (one_cons (u1438.one1) (one_nil))) (Nat.le_of_ble_eq_true (by kernel_rfl)) [i_ y1406.2.1, .slice a1425 n1426 c1427] (by kernel_rfl)
 refine s_ek (undef) (by kernel_rfl) (map_ok q1435) ?_
 refine s_nil (k1399 _ _ (w_seqk fun _ k1439 => g_' ?_))
 have c1440 := (((FrS.step e1211.wf (FrS.step e1211.wf (FrS.step e1211.wf (((FrS.step e1211.wf (FrS.refl (W := []) e1211.wf) e1265 Inn.nil).extR e1319).extR e1325) e1331 (hb1320.fresh e1265.n)) e1341 (hb1326.fresh (t_ e1265.n e1319.n))) e1361 Inn.nil).extR e1377).extR e1383)
 have n1441 := (t_ (t_ (t_ (t_ (t_ (t_ (t_ e1265.n e1319.n) e1325.n) e1331.n) e1341.n) e1361.n) e1377.n) e1383.n)
 have u1442 := ((((((((((((((((((((((((((((((((((((((((((r280.frS e301 Dj.nil_l).ext e314).frS e320 (hb315.djn (r275.ltF.le (t_ e279.n e301.n)))).frS e338 Dj.nil_l).ext e351).frS e357 (hb352.djn (r275.ltF.le (t_ (t_ (t_ (t_ e279.n e301.n) e314.n) e320.n) e338.n)))).frS e375 Dj.nil_l).frS e401 Dj.nil_l).frS e423 Dj.nil_l).frS e444 Dj.nil_l).ext e455).frS e476 (Dj.symm (hb274.djn (m136.lt.le (t_ (t_ e186.n e192.n) e222.n))))).ext e513).frS e526 (Dj.symm (hb274.djn (m136.lt.le (t_ (t_ e186.n e192.n) e222.n))))).frS e560 (Dj.symm (hb274.djn (m137.lt.le (t_ (t_ e186.n e192.n) e222.n))))).ext e597).frS e610 (Dj.symm (hb274.djn (m137.lt.le (t_ (t_ e186.n e192.n) e222.n))))).frS e644 (Dj.symm (hb274.djn (m139.lt.le (t_ (t_ e186.n e192.n) e222.n))))).ext e681).frS e694 (Dj.symm (hb274.djn (m139.lt.le (t_ (t_ e186.n e192.n) e222.n))))).frS e728 (Dj.symm (hb274.djn (m58.lt.le (t_ (t_ (t_ (t_ (t_ e100.n e106.n) e135.n) e186.n) e192.n) e222.n))))).ext e765).frS e778 (Dj.symm (hb274.djn (m58.lt.le (t_ (t_ (t_ (t_ (t_ e100.n e106.n) e135.n) e186.n) e192.n) e222.n))))).frS e812 (Dj.symm (hb274.djn (m59.lt.le (t_ (t_ (t_ (t_ (t_ e100.n e106.n) e135.n) e186.n) e192.n) e222.n))))).ext e849).frS e862 (Dj.symm (hb274.djn (m59.lt.le (t_ (t_ (t_ (t_ (t_ e100.n e106.n) e135.n) e186.n) e192.n) e222.n))))).frS e896 (Dj.symm (hb274.djn (m61.lt.le (t_ (t_ (t_ (t_ (t_ e100.n e106.n) e135.n) e186.n) e192.n) e222.n))))).ext e933).frS e946 (Dj.symm (hb274.djn (m61.lt.le (t_ (t_ (t_ (t_ (t_ e100.n e106.n) e135.n) e186.n) e192.n) e222.n))))).ext e976).frS e994 (Dj.symm (hb274.djn (m138.lt.le (t_ (t_ e186.n e192.n) e222.n))))).frS e1041 (Dj.symm (hb274.djn (m140.lt.le (t_ (t_ e186.n e192.n) e222.n))))).frS e1085 (Dj.symm (hb274.djn (m60.lt.le (t_ (t_ (t_ (t_ (t_ e100.n e106.n) e135.n) e186.n) e192.n) e222.n))))).frS e1129 (Dj.symm (hb274.djn (m62.lt.le (t_ (t_ (t_ (t_ (t_ e100.n e106.n) e135.n) e186.n) e192.n) e222.n))))).frS e1172 (i304.djn (r275.ltF.le e279.n))).frS e1211 (i378.djn (r275.ltF.le (t_ (t_ (t_ (t_ (t_ (t_ e279.n e301.n) e314.n) e320.n) e338.n) e351.n) e357.n)))).frS c1440 Dj.nil_l).frS e1389 (hb1378.djn (r275.ltF.le (t_ (t_ (t_ (t_ (t_ (t_ (t_ (t_ (t_ (t_ (t_ (t_ (t_ (t_ e279.n e301.n) e314.n) e320.n) e338.n) n1031) n1032) n1033) n1346) e1265.n) e1319.n) e1325.n) e1331.n) e1341.n) e1361.n)))).frS e1395 (hb1384.djn (r275.ltF.le (t_ (t_ (t_ (t_ (t_ (t_ (t_ (t_ (t_ (t_ (t_ (t_ (t_ (t_ (t_ e279.n e301.n) e314.n) e320.n) e338.n) n1031) n1032) n1033) n1346) e1265.n) e1319.n) e1325.n) e1331.n) e1341.n) e1361.n) e1377.n)))).frS e1414 Dj.nil_l).ext e1430).frS e1436 (hb1431.djn (r275.ltF.le (t_ (t_ (t_ (t_ (t_ (t_ (t_ (t_ (t_ (t_ (t_ (t_ e279.n e301.n) e314.n) e320.n) e338.n) n1031) n1032) n1033) n1346) n1441) e1389.n) e1395.n) e1414.n))))
 refine l_' (.agg #[.slice a256 n257 c258, .slice a259 n260 c261, .slice a262 n263 c264, .slice a265 n266 c267, .slice a268 n269 c270]) (aL_ 81 (pt_ b271 0) H1434) (u1442.l_) ?_
 have u1443 := (((((((((r1332.frS e1341 (hb1326.djn r1321.ltF)).frS e1361 Dj.nil_l).ext e1377).ext e1383).frS e1389 (hb1378.djn (r1321.ltF.le (t_ (t_ (t_ e1325.n e1331.n) e1341.n) e1361.n)))).frS e1395 (hb1384.djn (r1321.ltF.le (t_ (t_ (t_ (t_ e1325.n e1331.n) e1341.n) e1361.n) e1377.n)))).frS e1414 Dj.nil_l).ext e1430).frS e1436 (hb1431.djn (r1321.ltF.le (t_ (t_ (t_ (t_ (t_ (t_ (t_ (t_ e1325.n e1331.n) e1341.n) e1361.n) e1377.n) e1383.n) e1389.n) e1395.n) e1414.n))))
 refine l_' (.agg #[.slice a1299 n1300 c1301, .slice a1302 n1303 c1304, .slice a1305 n1306 c1307, .slice a1308 n1309 c1310, .slice a1311 n1312 c1313]) (aL_ 81 (pt_ b1317 0) H1434) (u1443.l_) ?_
 have u1444 := (((((((((((((((((((((((((((((((((((((((((((u285.fr e279 (hb274.djn m223.lt)).fr e301 Dj.nil_l).ext e314).fr e320 (hb315.djn (m223.lt.le (t_ (t_ e273.n e279.n) e301.n)))).fr e338 Dj.nil_l).ext e351).fr e357 (hb352.djn (m223.lt.le (t_ (t_ (t_ (t_ (t_ e273.n e279.n) e301.n) e314.n) e320.n) e338.n)))).fr e375 Dj.nil_l).fr e401 Dj.nil_l).fr e423 Dj.nil_l).fr e444 Dj.nil_l).ext e455).fr e476 (Dj.symm (i229.djn (m136.lt.le (t_ e186.n e192.n))))).ext e513).fr e526 (Dj.symm (i229.djn (m136.lt.le (t_ e186.n e192.n))))).fr e560 (Dj.symm (i229.djn (m137.lt.le (t_ e186.n e192.n))))).ext e597).fr e610 (Dj.symm (i229.djn (m137.lt.le (t_ e186.n e192.n))))).fr e644 (Dj.symm (i229.djn (m139.lt.le (t_ e186.n e192.n))))).ext e681).fr e694 (Dj.symm (i229.djn (m139.lt.le (t_ e186.n e192.n))))).fr e728 (Dj.symm (i229.djn (m58.lt.le (t_ (t_ (t_ (t_ e100.n e106.n) e135.n) e186.n) e192.n))))).ext e765).fr e778 (Dj.symm (i229.djn (m58.lt.le (t_ (t_ (t_ (t_ e100.n e106.n) e135.n) e186.n) e192.n))))).fr e812 (Dj.symm (i229.djn (m59.lt.le (t_ (t_ (t_ (t_ e100.n e106.n) e135.n) e186.n) e192.n))))).ext e849).fr e862 (Dj.symm (i229.djn (m59.lt.le (t_ (t_ (t_ (t_ e100.n e106.n) e135.n) e186.n) e192.n))))).fr e896 (Dj.symm (i229.djn (m61.lt.le (t_ (t_ (t_ (t_ e100.n e106.n) e135.n) e186.n) e192.n))))).ext e933).fr e946 (Dj.symm (i229.djn (m61.lt.le (t_ (t_ (t_ (t_ e100.n e106.n) e135.n) e186.n) e192.n))))).ext e976).fr e994 (Dj.symm (i229.djn (m138.lt.le (t_ e186.n e192.n))))).fr e1041 (Dj.symm (i229.djn (m140.lt.le (t_ e186.n e192.n))))).fr e1085 (Dj.symm (i229.djn (m60.lt.le (t_ (t_ (t_ (t_ e100.n e106.n) e135.n) e186.n) e192.n))))).fr e1129 (Dj.symm (i229.djn (m62.lt.le (t_ (t_ (t_ (t_ e100.n e106.n) e135.n) e186.n) e192.n))))).fr e1172 (i304.djn (m223.lt.le (t_ e273.n e279.n)))).fr e1211 (i378.djn (m223.lt.le (t_ (t_ (t_ (t_ (t_ (t_ (t_ e273.n e279.n) e301.n) e314.n) e320.n) e338.n) e351.n) e357.n)))).fr c1440 Dj.nil_l).fr e1389 (hb1378.djn (m223.lt.le (t_ (t_ (t_ (t_ (t_ (t_ (t_ (t_ (t_ (t_ (t_ (t_ (t_ (t_ (t_ e273.n e279.n) e301.n) e314.n) e320.n) e338.n) n1031) n1032) n1033) n1346) e1265.n) e1319.n) e1325.n) e1331.n) e1341.n) e1361.n)))).fr e1395 (hb1384.djn (m223.lt.le (t_ (t_ (t_ (t_ (t_ (t_ (t_ (t_ (t_ (t_ (t_ (t_ (t_ (t_ (t_ (t_ e273.n e279.n) e301.n) e314.n) e320.n) e338.n) n1031) n1032) n1033) n1346) e1265.n) e1319.n) e1325.n) e1331.n) e1341.n) e1361.n) e1377.n)))).fr e1414 Dj.nil_l).ext e1430).fr e1436 (hb1431.djn (m223.lt.le (t_ (t_ (t_ (t_ (t_ (t_ (t_ (t_ (t_ (t_ (t_ (t_ (t_ e273.n e279.n) e301.n) e314.n) e320.n) e338.n) n1031) n1032) n1033) n1346) n1441) e1389.n) e1395.n) e1414.n))))
 have u1445 := (((((((((((((((((((((((((((((((((((((((((((u284.fr e279 (hb274.djn m224.lt)).fr e301 Dj.nil_l).ext e314).fr e320 (hb315.djn (m224.lt.le (t_ (t_ e273.n e279.n) e301.n)))).fr e338 Dj.nil_l).ext e351).fr e357 (hb352.djn (m224.lt.le (t_ (t_ (t_ (t_ (t_ e273.n e279.n) e301.n) e314.n) e320.n) e338.n)))).fr e375 Dj.nil_l).fr e401 Dj.nil_l).fr e423 Dj.nil_l).fr e444 Dj.nil_l).ext e455).fr e476 (Dj.symm (i230.djn (m136.lt.le (t_ e186.n e192.n))))).ext e513).fr e526 (Dj.symm (i230.djn (m136.lt.le (t_ e186.n e192.n))))).fr e560 (Dj.symm (i230.djn (m137.lt.le (t_ e186.n e192.n))))).ext e597).fr e610 (Dj.symm (i230.djn (m137.lt.le (t_ e186.n e192.n))))).fr e644 (Dj.symm (i230.djn (m139.lt.le (t_ e186.n e192.n))))).ext e681).fr e694 (Dj.symm (i230.djn (m139.lt.le (t_ e186.n e192.n))))).fr e728 (Dj.symm (i230.djn (m58.lt.le (t_ (t_ (t_ (t_ e100.n e106.n) e135.n) e186.n) e192.n))))).ext e765).fr e778 (Dj.symm (i230.djn (m58.lt.le (t_ (t_ (t_ (t_ e100.n e106.n) e135.n) e186.n) e192.n))))).fr e812 (Dj.symm (i230.djn (m59.lt.le (t_ (t_ (t_ (t_ e100.n e106.n) e135.n) e186.n) e192.n))))).ext e849).fr e862 (Dj.symm (i230.djn (m59.lt.le (t_ (t_ (t_ (t_ e100.n e106.n) e135.n) e186.n) e192.n))))).fr e896 (Dj.symm (i230.djn (m61.lt.le (t_ (t_ (t_ (t_ e100.n e106.n) e135.n) e186.n) e192.n))))).ext e933).fr e946 (Dj.symm (i230.djn (m61.lt.le (t_ (t_ (t_ (t_ e100.n e106.n) e135.n) e186.n) e192.n))))).ext e976).fr e994 (Dj.symm (i230.djn (m138.lt.le (t_ e186.n e192.n))))).fr e1041 (Dj.symm (i230.djn (m140.lt.le (t_ e186.n e192.n))))).fr e1085 (Dj.symm (i230.djn (m60.lt.le (t_ (t_ (t_ (t_ e100.n e106.n) e135.n) e186.n) e192.n))))).fr e1129 (Dj.symm (i230.djn (m62.lt.le (t_ (t_ (t_ (t_ e100.n e106.n) e135.n) e186.n) e192.n))))).fr e1172 (i304.djn (m224.lt.le (t_ e273.n e279.n)))).fr e1211 (i378.djn (m224.lt.le (t_ (t_ (t_ (t_ (t_ (t_ (t_ e273.n e279.n) e301.n) e314.n) e320.n) e338.n) e351.n) e357.n)))).fr c1440 Dj.nil_l).fr e1389 (hb1378.djn (m224.lt.le (t_ (t_ (t_ (t_ (t_ (t_ (t_ (t_ (t_ (t_ (t_ (t_ (t_ (t_ (t_ e273.n e279.n) e301.n) e314.n) e320.n) e338.n) n1031) n1032) n1033) n1346) e1265.n) e1319.n) e1325.n) e1331.n) e1341.n) e1361.n)))).fr e1395 (hb1384.djn (m224.lt.le (t_ (t_ (t_ (t_ (t_ (t_ (t_ (t_ (t_ (t_ (t_ (t_ (t_ (t_ (t_ (t_ e273.n e279.n) e301.n) e314.n) e320.n) e338.n) n1031) n1032) n1033) n1346) e1265.n) e1319.n) e1325.n) e1331.n) e1341.n) e1361.n) e1377.n)))).fr e1414 Dj.nil_l).ext e1430).fr e1436 (hb1431.djn (m224.lt.le (t_ (t_ (t_ (t_ (t_ (t_ (t_ (t_ (t_ (t_ (t_ (t_ (t_ e273.n e279.n) e301.n) e314.n) e320.n) e338.n) n1031) n1032) n1033) n1346) n1441) e1389.n) e1395.n) e1414.n))))
 have u1446 := (((((((((((((((((((((((((((((((((((((((((((u283.fr e279 (hb274.djn m225.lt)).fr e301 Dj.nil_l).ext e314).fr e320 (hb315.djn (m225.lt.le (t_ (t_ e273.n e279.n) e301.n)))).fr e338 Dj.nil_l).ext e351).fr e357 (hb352.djn (m225.lt.le (t_ (t_ (t_ (t_ (t_ e273.n e279.n) e301.n) e314.n) e320.n) e338.n)))).fr e375 Dj.nil_l).fr e401 Dj.nil_l).fr e423 Dj.nil_l).fr e444 Dj.nil_l).ext e455).fr e476 (Dj.symm (i231.djn (m136.lt.le (t_ e186.n e192.n))))).ext e513).fr e526 (Dj.symm (i231.djn (m136.lt.le (t_ e186.n e192.n))))).fr e560 (Dj.symm (i231.djn (m137.lt.le (t_ e186.n e192.n))))).ext e597).fr e610 (Dj.symm (i231.djn (m137.lt.le (t_ e186.n e192.n))))).fr e644 (Dj.symm (i231.djn (m139.lt.le (t_ e186.n e192.n))))).ext e681).fr e694 (Dj.symm (i231.djn (m139.lt.le (t_ e186.n e192.n))))).fr e728 (Dj.symm (i231.djn (m58.lt.le (t_ (t_ (t_ (t_ e100.n e106.n) e135.n) e186.n) e192.n))))).ext e765).fr e778 (Dj.symm (i231.djn (m58.lt.le (t_ (t_ (t_ (t_ e100.n e106.n) e135.n) e186.n) e192.n))))).fr e812 (Dj.symm (i231.djn (m59.lt.le (t_ (t_ (t_ (t_ e100.n e106.n) e135.n) e186.n) e192.n))))).ext e849).fr e862 (Dj.symm (i231.djn (m59.lt.le (t_ (t_ (t_ (t_ e100.n e106.n) e135.n) e186.n) e192.n))))).fr e896 (Dj.symm (i231.djn (m61.lt.le (t_ (t_ (t_ (t_ e100.n e106.n) e135.n) e186.n) e192.n))))).ext e933).fr e946 (Dj.symm (i231.djn (m61.lt.le (t_ (t_ (t_ (t_ e100.n e106.n) e135.n) e186.n) e192.n))))).ext e976).fr e994 (Dj.symm (i231.djn (m138.lt.le (t_ e186.n e192.n))))).fr e1041 (Dj.symm (i231.djn (m140.lt.le (t_ e186.n e192.n))))).fr e1085 (Dj.symm (i231.djn (m60.lt.le (t_ (t_ (t_ (t_ e100.n e106.n) e135.n) e186.n) e192.n))))).fr e1129 (Dj.symm (i231.djn (m62.lt.le (t_ (t_ (t_ (t_ e100.n e106.n) e135.n) e186.n) e192.n))))).fr e1172 (i304.djn (m225.lt.le (t_ e273.n e279.n)))).fr e1211 (i378.djn (m225.lt.le (t_ (t_ (t_ (t_ (t_ (t_ (t_ e273.n e279.n) e301.n) e314.n) e320.n) e338.n) e351.n) e357.n)))).fr c1440 Dj.nil_l).fr e1389 (hb1378.djn (m225.lt.le (t_ (t_ (t_ (t_ (t_ (t_ (t_ (t_ (t_ (t_ (t_ (t_ (t_ (t_ (t_ e273.n e279.n) e301.n) e314.n) e320.n) e338.n) n1031) n1032) n1033) n1346) e1265.n) e1319.n) e1325.n) e1331.n) e1341.n) e1361.n)))).fr e1395 (hb1384.djn (m225.lt.le (t_ (t_ (t_ (t_ (t_ (t_ (t_ (t_ (t_ (t_ (t_ (t_ (t_ (t_ (t_ (t_ e273.n e279.n) e301.n) e314.n) e320.n) e338.n) n1031) n1032) n1033) n1346) e1265.n) e1319.n) e1325.n) e1331.n) e1341.n) e1361.n) e1377.n)))).fr e1414 Dj.nil_l).ext e1430).fr e1436 (hb1431.djn (m225.lt.le (t_ (t_ (t_ (t_ (t_ (t_ (t_ (t_ (t_ (t_ (t_ (t_ (t_ e273.n e279.n) e301.n) e314.n) e320.n) e338.n) n1031) n1032) n1033) n1346) n1441) e1389.n) e1395.n) e1414.n))))
 have u1447 := (((((((((((((((((((((((((((((((((((((((((((u282.fr e279 (hb274.djn m226.lt)).fr e301 Dj.nil_l).ext e314).fr e320 (hb315.djn (m226.lt.le (t_ (t_ e273.n e279.n) e301.n)))).fr e338 Dj.nil_l).ext e351).fr e357 (hb352.djn (m226.lt.le (t_ (t_ (t_ (t_ (t_ e273.n e279.n) e301.n) e314.n) e320.n) e338.n)))).fr e375 Dj.nil_l).fr e401 Dj.nil_l).fr e423 Dj.nil_l).fr e444 Dj.nil_l).ext e455).fr e476 (Dj.symm (i232.djn (m136.lt.le (t_ e186.n e192.n))))).ext e513).fr e526 (Dj.symm (i232.djn (m136.lt.le (t_ e186.n e192.n))))).fr e560 (Dj.symm (i232.djn (m137.lt.le (t_ e186.n e192.n))))).ext e597).fr e610 (Dj.symm (i232.djn (m137.lt.le (t_ e186.n e192.n))))).fr e644 (Dj.symm (i232.djn (m139.lt.le (t_ e186.n e192.n))))).ext e681).fr e694 (Dj.symm (i232.djn (m139.lt.le (t_ e186.n e192.n))))).fr e728 (Dj.symm (i232.djn (m58.lt.le (t_ (t_ (t_ (t_ e100.n e106.n) e135.n) e186.n) e192.n))))).ext e765).fr e778 (Dj.symm (i232.djn (m58.lt.le (t_ (t_ (t_ (t_ e100.n e106.n) e135.n) e186.n) e192.n))))).fr e812 (Dj.symm (i232.djn (m59.lt.le (t_ (t_ (t_ (t_ e100.n e106.n) e135.n) e186.n) e192.n))))).ext e849).fr e862 (Dj.symm (i232.djn (m59.lt.le (t_ (t_ (t_ (t_ e100.n e106.n) e135.n) e186.n) e192.n))))).fr e896 (Dj.symm (i232.djn (m61.lt.le (t_ (t_ (t_ (t_ e100.n e106.n) e135.n) e186.n) e192.n))))).ext e933).fr e946 (Dj.symm (i232.djn (m61.lt.le (t_ (t_ (t_ (t_ e100.n e106.n) e135.n) e186.n) e192.n))))).ext e976).fr e994 (Dj.symm (i232.djn (m138.lt.le (t_ e186.n e192.n))))).fr e1041 (Dj.symm (i232.djn (m140.lt.le (t_ e186.n e192.n))))).fr e1085 (Dj.symm (i232.djn (m60.lt.le (t_ (t_ (t_ (t_ e100.n e106.n) e135.n) e186.n) e192.n))))).fr e1129 (Dj.symm (i232.djn (m62.lt.le (t_ (t_ (t_ (t_ e100.n e106.n) e135.n) e186.n) e192.n))))).fr e1172 (i304.djn (m226.lt.le (t_ e273.n e279.n)))).fr e1211 (i378.djn (m226.lt.le (t_ (t_ (t_ (t_ (t_ (t_ (t_ e273.n e279.n) e301.n) e314.n) e320.n) e338.n) e351.n) e357.n)))).fr c1440 Dj.nil_l).fr e1389 (hb1378.djn (m226.lt.le (t_ (t_ (t_ (t_ (t_ (t_ (t_ (t_ (t_ (t_ (t_ (t_ (t_ (t_ (t_ e273.n e279.n) e301.n) e314.n) e320.n) e338.n) n1031) n1032) n1033) n1346) e1265.n) e1319.n) e1325.n) e1331.n) e1341.n) e1361.n)))).fr e1395 (hb1384.djn (m226.lt.le (t_ (t_ (t_ (t_ (t_ (t_ (t_ (t_ (t_ (t_ (t_ (t_ (t_ (t_ (t_ (t_ e273.n e279.n) e301.n) e314.n) e320.n) e338.n) n1031) n1032) n1033) n1346) e1265.n) e1319.n) e1325.n) e1331.n) e1341.n) e1361.n) e1377.n)))).fr e1414 Dj.nil_l).ext e1430).fr e1436 (hb1431.djn (m226.lt.le (t_ (t_ (t_ (t_ (t_ (t_ (t_ (t_ (t_ (t_ (t_ (t_ (t_ e273.n e279.n) e301.n) e314.n) e320.n) e338.n) n1031) n1032) n1033) n1346) n1441) e1389.n) e1395.n) e1414.n))))
 have u1448 := (((((((((((((((((((((((((((((((((((((((((((u281.fr e279 (hb274.djn m227.lt)).fr e301 Dj.nil_l).ext e314).fr e320 (hb315.djn (m227.lt.le (t_ (t_ e273.n e279.n) e301.n)))).fr e338 Dj.nil_l).ext e351).fr e357 (hb352.djn (m227.lt.le (t_ (t_ (t_ (t_ (t_ e273.n e279.n) e301.n) e314.n) e320.n) e338.n)))).fr e375 Dj.nil_l).fr e401 Dj.nil_l).fr e423 Dj.nil_l).fr e444 Dj.nil_l).ext e455).fr e476 (Dj.symm (i233.djn (m136.lt.le (t_ e186.n e192.n))))).ext e513).fr e526 (Dj.symm (i233.djn (m136.lt.le (t_ e186.n e192.n))))).fr e560 (Dj.symm (i233.djn (m137.lt.le (t_ e186.n e192.n))))).ext e597).fr e610 (Dj.symm (i233.djn (m137.lt.le (t_ e186.n e192.n))))).fr e644 (Dj.symm (i233.djn (m139.lt.le (t_ e186.n e192.n))))).ext e681).fr e694 (Dj.symm (i233.djn (m139.lt.le (t_ e186.n e192.n))))).fr e728 (Dj.symm (i233.djn (m58.lt.le (t_ (t_ (t_ (t_ e100.n e106.n) e135.n) e186.n) e192.n))))).ext e765).fr e778 (Dj.symm (i233.djn (m58.lt.le (t_ (t_ (t_ (t_ e100.n e106.n) e135.n) e186.n) e192.n))))).fr e812 (Dj.symm (i233.djn (m59.lt.le (t_ (t_ (t_ (t_ e100.n e106.n) e135.n) e186.n) e192.n))))).ext e849).fr e862 (Dj.symm (i233.djn (m59.lt.le (t_ (t_ (t_ (t_ e100.n e106.n) e135.n) e186.n) e192.n))))).fr e896 (Dj.symm (i233.djn (m61.lt.le (t_ (t_ (t_ (t_ e100.n e106.n) e135.n) e186.n) e192.n))))).ext e933).fr e946 (Dj.symm (i233.djn (m61.lt.le (t_ (t_ (t_ (t_ e100.n e106.n) e135.n) e186.n) e192.n))))).ext e976).fr e994 (Dj.symm (i233.djn (m138.lt.le (t_ e186.n e192.n))))).fr e1041 (Dj.symm (i233.djn (m140.lt.le (t_ e186.n e192.n))))).fr e1085 (Dj.symm (i233.djn (m60.lt.le (t_ (t_ (t_ (t_ e100.n e106.n) e135.n) e186.n) e192.n))))).fr e1129 (Dj.symm (i233.djn (m62.lt.le (t_ (t_ (t_ (t_ e100.n e106.n) e135.n) e186.n) e192.n))))).fr e1172 (i304.djn (m227.lt.le (t_ e273.n e279.n)))).fr e1211 (i378.djn (m227.lt.le (t_ (t_ (t_ (t_ (t_ (t_ (t_ e273.n e279.n) e301.n) e314.n) e320.n) e338.n) e351.n) e357.n)))).fr c1440 Dj.nil_l).fr e1389 (hb1378.djn (m227.lt.le (t_ (t_ (t_ (t_ (t_ (t_ (t_ (t_ (t_ (t_ (t_ (t_ (t_ (t_ (t_ e273.n e279.n) e301.n) e314.n) e320.n) e338.n) n1031) n1032) n1033) n1346) e1265.n) e1319.n) e1325.n) e1331.n) e1341.n) e1361.n)))).fr e1395 (hb1384.djn (m227.lt.le (t_ (t_ (t_ (t_ (t_ (t_ (t_ (t_ (t_ (t_ (t_ (t_ (t_ (t_ (t_ (t_ e273.n e279.n) e301.n) e314.n) e320.n) e338.n) n1031) n1032) n1033) n1346) e1265.n) e1319.n) e1325.n) e1331.n) e1341.n) e1361.n) e1377.n)))).fr e1414 Dj.nil_l).ext e1430).fr e1436 (hb1431.djn (m227.lt.le (t_ (t_ (t_ (t_ (t_ (t_ (t_ (t_ (t_ (t_ (t_ (t_ (t_ e273.n e279.n) e301.n) e314.n) e320.n) e338.n) n1031) n1032) n1033) n1346) n1441) e1389.n) e1395.n) e1414.n))))
 have u1449 := ((((((((((u1338.fr e1331 (hb1320.djn m1266.lt)).fr e1341 (hb1326.djn (m1266.lt.le e1319.n))).fr e1361 Dj.nil_l).ext e1377).ext e1383).fr e1389 (hb1378.djn (m1266.lt.le (t_ (t_ (t_ (t_ e1319.n e1325.n) e1331.n) e1341.n) e1361.n)))).fr e1395 (hb1384.djn (m1266.lt.le (t_ (t_ (t_ (t_ (t_ e1319.n e1325.n) e1331.n) e1341.n) e1361.n) e1377.n)))).fr e1414 Dj.nil_l).ext e1430).fr e1436 (hb1431.djn (m1266.lt.le (t_ (t_ (t_ (t_ (t_ (t_ (t_ (t_ (t_ e1319.n e1325.n) e1331.n) e1341.n) e1361.n) e1377.n) e1383.n) e1389.n) e1395.n) e1414.n))))
 have u1450 := ((((((((((u1337.fr e1331 (hb1320.djn m1267.lt)).fr e1341 (hb1326.djn (m1267.lt.le e1319.n))).fr e1361 Dj.nil_l).ext e1377).ext e1383).fr e1389 (hb1378.djn (m1267.lt.le (t_ (t_ (t_ (t_ e1319.n e1325.n) e1331.n) e1341.n) e1361.n)))).fr e1395 (hb1384.djn (m1267.lt.le (t_ (t_ (t_ (t_ (t_ e1319.n e1325.n) e1331.n) e1341.n) e1361.n) e1377.n)))).fr e1414 Dj.nil_l).ext e1430).fr e1436 (hb1431.djn (m1267.lt.le (t_ (t_ (t_ (t_ (t_ (t_ (t_ (t_ (t_ e1319.n e1325.n) e1331.n) e1341.n) e1361.n) e1377.n) e1383.n) e1389.n) e1395.n) e1414.n))))
 have u1451 := ((((((((((u1336.fr e1331 (hb1320.djn m1268.lt)).fr e1341 (hb1326.djn (m1268.lt.le e1319.n))).fr e1361 Dj.nil_l).ext e1377).ext e1383).fr e1389 (hb1378.djn (m1268.lt.le (t_ (t_ (t_ (t_ e1319.n e1325.n) e1331.n) e1341.n) e1361.n)))).fr e1395 (hb1384.djn (m1268.lt.le (t_ (t_ (t_ (t_ (t_ e1319.n e1325.n) e1331.n) e1341.n) e1361.n) e1377.n)))).fr e1414 Dj.nil_l).ext e1430).fr e1436 (hb1431.djn (m1268.lt.le (t_ (t_ (t_ (t_ (t_ (t_ (t_ (t_ (t_ e1319.n e1325.n) e1331.n) e1341.n) e1361.n) e1377.n) e1383.n) e1389.n) e1395.n) e1414.n))))
 have u1452 := ((((((((((u1335.fr e1331 (hb1320.djn m1269.lt)).fr e1341 (hb1326.djn (m1269.lt.le e1319.n))).fr e1361 Dj.nil_l).ext e1377).ext e1383).fr e1389 (hb1378.djn (m1269.lt.le (t_ (t_ (t_ (t_ e1319.n e1325.n) e1331.n) e1341.n) e1361.n)))).fr e1395 (hb1384.djn (m1269.lt.le (t_ (t_ (t_ (t_ (t_ e1319.n e1325.n) e1331.n) e1341.n) e1361.n) e1377.n)))).fr e1414 Dj.nil_l).ext e1430).fr e1436 (hb1431.djn (m1269.lt.le (t_ (t_ (t_ (t_ (t_ (t_ (t_ (t_ (t_ e1319.n e1325.n) e1331.n) e1341.n) e1361.n) e1377.n) e1383.n) e1389.n) e1395.n) e1414.n))))
 have u1453 := ((((((((((u1334.fr e1331 (hb1320.djn m1270.lt)).fr e1341 (hb1326.djn (m1270.lt.le e1319.n))).fr e1361 Dj.nil_l).ext e1377).ext e1383).fr e1389 (hb1378.djn (m1270.lt.le (t_ (t_ (t_ (t_ e1319.n e1325.n) e1331.n) e1341.n) e1361.n)))).fr e1395 (hb1384.djn (m1270.lt.le (t_ (t_ (t_ (t_ (t_ e1319.n e1325.n) e1331.n) e1341.n) e1361.n) e1377.n)))).fr e1414 Dj.nil_l).ext e1430).fr e1436 (hb1431.djn (m1270.lt.le (t_ (t_ (t_ (t_ (t_ (t_ (t_ (t_ (t_ e1319.n e1325.n) e1331.n) e1341.n) e1361.n) e1377.n) e1383.n) e1389.n) e1395.n) e1414.n))))
 obtain ⟨y1454, hy1455, r1456⟩ := bind_some r1408
 refine s_ck 41 #[.agg #[.slice a256 n257 c258, .slice a259 n260 c261, .slice a262 n263 c264, .slice a265 n266 c267, .slice a268 n269 c270], .agg #[.slice a1299 n1300 c1301, .slice a1302 n1303 c1304, .slice a1305 n1306 c1307, .slice a1308 n1309 c1310, .slice a1311 n1312 c1313]] (by kernel_rfl) (c_viaductref10_Same e1436.wf u1444.sq u1445.sq u1446.sq u1447.sq u1448.sq u1449.sq u1450.sq u1451.sq u1452.sq u1453.sq hy1455) ?_
 rintro _ H1457 ⟨rfl, e1458⟩
 by_cases h1459 : y1454 = true
 ·have r1460 := ite_t h1459 r1456
  rw [h1459]
  refine q_ (.bool true) ?_
  have u1462 := (((((((((((((((((((((((((((((((((((((r358.frS e375 Dj.nil_l).frS e401 Dj.nil_l).frS e423 Dj.nil_l).frS e444 Dj.nil_l).ext e455).frS e476 (Dj.symm (hb352.djn (m136.lt.le (t_ (t_ (t_ (t_ (t_ (t_ (t_ (t_ e186.n e192.n) e222.n) e273.n) e279.n) e301.n) e314.n) e320.n) e338.n))))).ext e513).frS e526 (Dj.symm (hb352.djn (m136.lt.le (t_ (t_ (t_ (t_ (t_ (t_ (t_ (t_ e186.n e192.n) e222.n) e273.n) e279.n) e301.n) e314.n) e320.n) e338.n))))).frS e560 (Dj.symm (hb352.djn (m137.lt.le (t_ (t_ (t_ (t_ (t_ (t_ (t_ (t_ e186.n e192.n) e222.n) e273.n) e279.n) e301.n) e314.n) e320.n) e338.n))))).ext e597).frS e610 (Dj.symm (hb352.djn (m137.lt.le (t_ (t_ (t_ (t_ (t_ (t_ (t_ (t_ e186.n e192.n) e222.n) e273.n) e279.n) e301.n) e314.n) e320.n) e338.n))))).frS e644 (Dj.symm (hb352.djn (m139.lt.le (t_ (t_ (t_ (t_ (t_ (t_ (t_ (t_ e186.n e192.n) e222.n) e273.n) e279.n) e301.n) e314.n) e320.n) e338.n))))).ext e681).frS e694 (Dj.symm (hb352.djn (m139.lt.le (t_ (t_ (t_ (t_ (t_ (t_ (t_ (t_ e186.n e192.n) e222.n) e273.n) e279.n) e301.n) e314.n) e320.n) e338.n))))).frS e728 (Dj.symm (hb352.djn (m58.lt.le (t_ (t_ (t_ (t_ (t_ (t_ (t_ (t_ (t_ (t_ (t_ e100.n e106.n) e135.n) e186.n) e192.n) e222.n) e273.n) e279.n) e301.n) e314.n) e320.n) e338.n))))).ext e765).frS e778 (Dj.symm (hb352.djn (m58.lt.le (t_ (t_ (t_ (t_ (t_ (t_ (t_ (t_ (t_ (t_ (t_ e100.n e106.n) e135.n) e186.n) e192.n) e222.n) e273.n) e279.n) e301.n) e314.n) e320.n) e338.n))))).frS e812 (Dj.symm (hb352.djn (m59.lt.le (t_ (t_ (t_ (t_ (t_ (t_ (t_ (t_ (t_ (t_ (t_ e100.n e106.n) e135.n) e186.n) e192.n) e222.n) e273.n) e279.n) e301.n) e314.n) e320.n) e338.n))))).ext e849).frS e862 (Dj.symm (hb352.djn (m59.lt.le (t_ (t_ (t_ (t_ (t_ (t_ (t_ (t_ (t_ (t_ (t_ e100.n e106.n) e135.n) e186.n) e192.n) e222.n) e273.n) e279.n) e301.n) e314.n) e320.n) e338.n))))).frS e896 (Dj.symm (hb352.djn (m61.lt.le (t_ (t_ (t_ (t_ (t_ (t_ (t_ (t_ (t_ (t_ (t_ e100.n e106.n) e135.n) e186.n) e192.n) e222.n) e273.n) e279.n) e301.n) e314.n) e320.n) e338.n))))).ext e933).frS e946 (Dj.symm (hb352.djn (m61.lt.le (t_ (t_ (t_ (t_ (t_ (t_ (t_ (t_ (t_ (t_ (t_ e100.n e106.n) e135.n) e186.n) e192.n) e222.n) e273.n) e279.n) e301.n) e314.n) e320.n) e338.n))))).ext e976).frS e994 (Dj.symm (hb352.djn (m138.lt.le (t_ (t_ (t_ (t_ (t_ (t_ (t_ (t_ e186.n e192.n) e222.n) e273.n) e279.n) e301.n) e314.n) e320.n) e338.n))))).frS e1041 (Dj.symm (hb352.djn (m140.lt.le (t_ (t_ (t_ (t_ (t_ (t_ (t_ (t_ e186.n e192.n) e222.n) e273.n) e279.n) e301.n) e314.n) e320.n) e338.n))))).frS e1085 (Dj.symm (hb352.djn (m60.lt.le (t_ (t_ (t_ (t_ (t_ (t_ (t_ (t_ (t_ (t_ (t_ e100.n e106.n) e135.n) e186.n) e192.n) e222.n) e273.n) e279.n) e301.n) e314.n) e320.n) e338.n))))).frS e1129 (Dj.symm (hb352.djn (m62.lt.le (t_ (t_ (t_ (t_ (t_ (t_ (t_ (t_ (t_ (t_ (t_ e100.n e106.n) e135.n) e186.n) e192.n) e222.n) e273.n) e279.n) e301.n) e314.n) e320.n) e338.n))))).frS e1172 (Dj.symm (hb352.djn (m302.lt.le (t_ (t_ e314.n e320.n) e338.n))))).frS e1211 (i378.djn (r353.ltF.le e357.n))).frS c1440 Dj.nil_l).frS e1389 (hb1378.djn (r353.ltF.le (t_ (t_ (t_ (t_ (t_ (t_ (t_ (t_ (t_ (t_ (t_ (t_ (t_ (t_ (t_ e357.n e375.n) e401.n) e423.n) e444.n) e455.n) e476.n) n1032) n1033) n1346) e1265.n) e1319.n) e1325.n) e1331.n) e1341.n) e1361.n)))).frS e1395 (hb1384.djn (r353.ltF.le (t_ (t_ (t_ (t_ (t_ (t_ (t_ (t_ (t_ (t_ (t_ (t_ (t_ (t_ (t_ (t_ e357.n e375.n) e401.n) e423.n) e444.n) e455.n) e476.n) n1032) n1033) n1346) e1265.n) e1319.n) e1325.n) e1331.n) e1341.n) e1361.n) e1377.n)))).frS e1414 Dj.nil_l).ext e1430).frS e1436 (hb1431.djn (r353.ltF.le (t_ (t_ (t_ (t_ (t_ (t_ (t_ (t_ (t_ (t_ (t_ (t_ (t_ e357.n e375.n) e401.n) e423.n) e444.n) e455.n) e476.n) n1032) n1033) n1346) n1441) e1389.n) e1395.n) e1414.n)))).frS e1458 Dj.nil_l)
  refine l_' (.agg #[i_ y330.1, .slice a346 n347 c348]) (aL_ 59 (pt_ b349 0) H1457) (u1462.l_) ?_
  have u1463 := (((((r1390.frS e1395 (hb1384.djn r1379.ltF)).frS e1414 Dj.nil_l).ext e1430).frS e1436 (hb1431.djn (r1379.ltF.le (t_ (t_ (t_ e1383.n e1389.n) e1395.n) e1414.n)))).frS e1458 Dj.nil_l)
  refine l_' (.agg #[i_ y1353.1, .slice a1369 n1370 c1371]) (aL_ 59 (pt_ b1375 0) H1457) (u1463.l_) ?_
  have u1464 := ((((((((((((((((((((((((((((((((((((((u359.fr e357 (hb352.djn m339.lt)).fr e375 Dj.nil_l).fr e401 Dj.nil_l).fr e423 Dj.nil_l).fr e444 Dj.nil_l).ext e455).fr e476 (Dj.symm (i341.djn (m136.lt.le (t_ (t_ (t_ (t_ (t_ (t_ (t_ e186.n e192.n) e222.n) e273.n) e279.n) e301.n) e314.n) e320.n))))).ext e513).fr e526 (Dj.symm (i341.djn (m136.lt.le (t_ (t_ (t_ (t_ (t_ (t_ (t_ e186.n e192.n) e222.n) e273.n) e279.n) e301.n) e314.n) e320.n))))).fr e560 (Dj.symm (i341.djn (m137.lt.le (t_ (t_ (t_ (t_ (t_ (t_ (t_ e186.n e192.n) e222.n) e273.n) e279.n) e301.n) e314.n) e320.n))))).ext e597).fr e610 (Dj.symm (i341.djn (m137.lt.le (t_ (t_ (t_ (t_ (t_ (t_ (t_ e186.n e192.n) e222.n) e273.n) e279.n) e301.n) e314.n) e320.n))))).fr e644 (Dj.symm (i341.djn (m139.lt.le (t_ (t_ (t_ (t_ (t_ (t_ (t_ e186.n e192.n) e222.n) e273.n) e279.n) e301.n) e314.n) e320.n))))).ext e681).fr e694 (Dj.symm (i341.djn (m139.lt.le (t_ (t_ (t_ (t_ (t_ (t_ (t_ e186.n e192.n) e222.n) e273.n) e279.n) e301.n) e314.n) e320.n))))).fr e728 (Dj.symm (i341.djn (m58.lt.le (t_ (t_ (t_ (t_ (t_ (t_ (t_ (t_ (t_ (t_ e100.n e106.n) e135.n) e186.n) e192.n) e222.n) e273.n) e279.n) e301.n) e314.n) e320.n))))).ext e765).fr e778 (Dj.symm (i341.djn (m58.lt.le (t_ (t_ (t_ (t_ (t_ (t_ (t_ (t_ (t_ (t_ e100.n e106.n) e135.n) e186.n) e192.n) e222.n) e273.n) e279.n) e301.n) e314.n) e320.n))))).fr e812 (Dj.symm (i341.djn (m59.lt.le (t_ (t_ (t_ (t_ (t_ (t_ (t_ (t_ (t_ (t_ e100.n e106.n) e135.n) e186.n) e192.n) e222.n) e273.n) e279.n) e301.n) e314.n) e320.n))))).ext e849).fr e862 (Dj.symm (i341.djn (m59.lt.le (t_ (t_ (t_ (t_ (t_ (t_ (t_ (t_ (t_ (t_ e100.n e106.n) e135.n) e186.n) e192.n) e222.n) e273.n) e279.n) e301.n) e314.n) e320.n))))).fr e896 (Dj.symm (i341.djn (m61.lt.le (t_ (t_ (t_ (t_ (t_ (t_ (t_ (t_ (t_ (t_ e100.n e106.n) e135.n) e186.n) e192.n) e222.n) e273.n) e279.n) e301.n) e314.n) e320.n))))).ext e933).fr e946 (Dj.symm (i341.djn (m61.lt.le (t_ (t_ (t_ (t_ (t_ (t_ (t_ (t_ (t_ (t_ e100.n e106.n) e135.n) e186.n) e192.n) e222.n) e273.n) e279.n) e301.n) e314.n) e320.n))))).ext e976).fr e994 (Dj.symm (i341.djn (m138.lt.le (t_ (t_ (t_ (t_ (t_ (t_ (t_ e186.n e192.n) e222.n) e273.n) e279.n) e301.n) e314.n) e320.n))))).fr e1041 (Dj.symm (i341.djn (m140.lt.le (t_ (t_ (t_ (t_ (t_ (t_ (t_ e186.n e192.n) e222.n) e273.n) e279.n) e301.n) e314.n) e320.n))))).fr e1085 (Dj.symm (i341.djn (m60.lt.le (t_ (t_ (t_ (t_ (t_ (t_ (t_ (t_ (t_ (t_ e100.n e106.n) e135.n) e186.n) e192.n) e222.n) e273.n) e279.n) e301.n) e314.n) e320.n))))).fr e1129 (Dj.symm (i341.djn (m62.lt.le (t_ (t_ (t_ (t_ (t_ (t_ (t_ (t_ (t_ (t_ e100.n e106.n) e135.n) e186.n) e192.n) e222.n) e273.n) e279.n) e301.n) e314.n) e320.n))))).fr e1172 (Dj.symm (i341.djn (m302.lt.le (t_ e314.n e320.n))))).fr e1211 (i378.djn (m339.lt.le (t_ e351.n e357.n)))).fr c1440 Dj.nil_l).fr e1389 (hb1378.djn (m339.lt.le (t_ (t_ (t_ (t_ (t_ (t_ (t_ (t_ (t_ n1031 n1032) n1033) n1346) e1265.n) e1319.n) e1325.n) e1331.n) e1341.n) e1361.n)))).fr e1395 (hb1384.djn (m339.lt.le (t_ (t_ (t_ (t_ (t_ (t_ (t_ (t_ (t_ (t_ n1031 n1032) n1033) n1346) e1265.n) e1319.n) e1325.n) e1331.n) e1341.n) e1361.n) e1377.n)))).fr e1414 Dj.nil_l).ext e1430).fr e1436 (hb1431.djn (m339.lt.le (t_ (t_ (t_ (t_ (t_ (t_ (t_ n1031 n1032) n1033) n1346) n1441) e1389.n) e1395.n) e1414.n)))).fr e1458 Dj.nil_l)
  have u1465 := ((((((u1392.fr e1389 (hb1378.djn m1362.lt)).fr e1395 (hb1384.djn (m1362.lt.le e1377.n))).fr e1414 Dj.nil_l).ext e1430).fr e1436 (hb1431.djn (m1362.lt.le (t_ (t_ (t_ (t_ e1377.n e1383.n) e1389.n) e1395.n) e1414.n)))).fr e1458 Dj.nil_l)
  obtain ⟨y1466, hy1467, r1468⟩ := bind_some r1460
  refine s_ck 33 #[.agg #[i_ y330.1, .slice a346 n347 c348], .agg #[i_ y1353.1, .slice a1369 n1370 c1371]] (by kernel_rfl) (c_viaductref03_Same e1458.wf u1464.sq u1465.sq hy1467) ?_
  rintro _ H1469 ⟨rfl, e1470⟩
  by_cases h1471 : y1466 = true
  ·have r1472 := ite_t h1471 r1468
   rw [h1471]
   refine q_ (.bool true) (q_ (.bool true) (q_ (.slice a409 n410 c411) (q_ (.slice a1422 n1423 c1424) ?_)))
   have u1474 := ((((((((((((((((((((((((((((((((((((m402.fr e423 Dj.nil_l).fr e444 Dj.nil_l).ext e455).fr e476 (Dj.symm (i404.djn (m136.lt.le (t_ (t_ (t_ (t_ (t_ (t_ (t_ (t_ (t_ (t_ (t_ e186.n e192.n) e222.n) e273.n) e279.n) e301.n) e314.n) e320.n) e338.n) e351.n) e357.n) e375.n))))).ext e513).fr e526 (Dj.symm (i404.djn (m136.lt.le (t_ (t_ (t_ (t_ (t_ (t_ (t_ (t_ (t_ (t_ (t_ e186.n e192.n) e222.n) e273.n) e279.n) e301.n) e314.n) e320.n) e338.n) e351.n) e357.n) e375.n))))).fr e560 (Dj.symm (i404.djn (m137.lt.le (t_ (t_ (t_ (t_ (t_ (t_ (t_ (t_ (t_ (t_ (t_ e186.n e192.n) e222.n) e273.n) e279.n) e301.n) e314.n) e320.n) e338.n) e351.n) e357.n) e375.n))))).ext e597).fr e610 (Dj.symm (i404.djn (m137.lt.le (t_ (t_ (t_ (t_ (t_ (t_ (t_ (t_ (t_ (t_ (t_ e186.n e192.n) e222.n) e273.n) e279.n) e301.n) e314.n) e320.n) e338.n) e351.n) e357.n) e375.n))))).fr e644 (Dj.symm (i404.djn (m139.lt.le (t_ (t_ (t_ (t_ (t_ (t_ (t_ (t_ (t_ (t_ (t_ e186.n e192.n) e222.n) e273.n) e279.n) e301.n) e314.n) e320.n) e338.n) e351.n) e357.n) e375.n))))).ext e681).fr e694 (Dj.symm (i404.djn (m139.lt.le (t_ (t_ (t_ (t_ (t_ (t_ (t_ (t_ (t_ (t_ (t_ e186.n e192.n) e222.n) e273.n) e279.n) e301.n) e314.n) e320.n) e338.n) e351.n) e357.n) e375.n))))).fr e728 (Dj.symm (i404.djn (m58.lt.le (t_ (t_ (t_ (t_ (t_ (t_ (t_ (t_ (t_ (t_ (t_ (t_ (t_ (t_ e100.n e106.n) e135.n) e186.n) e192.n) e222.n) e273.n) e279.n) e301.n) e314.n) e320.n) e338.n) e351.n) e357.n) e375.n))))).ext e765).fr e778 (Dj.symm (i404.djn (m58.lt.le (t_ (t_ (t_ (t_ (t_ (t_ (t_ (t_ (t_ (t_ (t_ (t_ (t_ (t_ e100.n e106.n) e135.n) e186.n) e192.n) e222.n) e273.n) e279.n) e301.n) e314.n) e320.n) e338.n) e351.n) e357.n) e375.n))))).fr e812 (Dj.symm (i404.djn (m59.lt.le (t_ (t_ (t_ (t_ (t_ (t_ (t_ (t_ (t_ (t_ (t_ (t_ (t_ (t_ e100.n e106.n) e135.n) e186.n) e192.n) e222.n) e273.n) e279.n) e301.n) e314.n) e320.n) e338.n) e351.n) e357.n) e375.n))))).ext e849).fr e862 (Dj.symm (i404.djn (m59.lt.le (t_ (t_ (t_ (t_ (t_ (t_ (t_ (t_ (t_ (t_ (t_ (t_ (t_ (t_ e100.n e106.n) e135.n) e186.n) e192.n) e222.n) e273.n) e279.n) e301.n) e314.n) e320.n) e338.n) e351.n) e357.n) e375.n))))).fr e896 (Dj.symm (i404.djn (m61.lt.le (t_ (t_ (t_ (t_ (t_ (t_ (t_ (t_ (t_ (t_ (t_ (t_ (t_ (t_ e100.n e106.n) e135.n) e186.n) e192.n) e222.n) e273.n) e279.n) e301.n) e314.n) e320.n) e338.n) e351.n) e357.n) e375.n))))).ext e933).fr e946 (Dj.symm (i404.djn (m61.lt.le (t_ (t_ (t_ (t_ (t_ (t_ (t_ (t_ (t_ (t_ (t_ (t_ (t_ (t_ e100.n e106.n) e135.n) e186.n) e192.n) e222.n) e273.n) e279.n) e301.n) e314.n) e320.n) e338.n) e351.n) e357.n) e375.n))))).ext e976).fr e994 (Dj.symm (i404.djn (m138.lt.le (t_ (t_ (t_ (t_ (t_ (t_ (t_ (t_ (t_ (t_ (t_ e186.n e192.n) e222.n) e273.n) e279.n) e301.n) e314.n) e320.n) e338.n) e351.n) e357.n) e375.n))))).fr e1041 (Dj.symm (i404.djn (m140.lt.le (t_ (t_ (t_ (t_ (t_ (t_ (t_ (t_ (t_ (t_ (t_ e186.n e192.n) e222.n) e273.n) e279.n) e301.n) e314.n) e320.n) e338.n) e351.n) e357.n) e375.n))))).fr e1085 (Dj.symm (i404.djn (m60.lt.le (t_ (t_ (t_ (t_ (t_ (t_ (t_ (t_ (t_ (t_ (t_ (t_ (t_ (t_ e100.n e106.n) e135.n) e186.n) e192.n) e222.n) e273.n) e279.n) e301.n) e314.n) e320.n) e338.n) e351.n) e357.n) e375.n))))).fr e1129 (Dj.symm (i404.djn (m62.lt.le (t_ (t_ (t_ (t_ (t_ (t_ (t_ (t_ (t_ (t_ (t_ (t_ (t_ (t_ e100.n e106.n) e135.n) e186.n) e192.n) e222.n) e273.n) e279.n) e301.n) e314.n) e320.n) e338.n) e351.n) e357.n) e375.n))))).fr e1172 (Dj.symm (i404.djn (m302.lt.le (t_ (t_ (t_ (t_ (t_ e314.n e320.n) e338.n) e351.n) e357.n) e375.n))))).fr e1211 (Dj.symm (i404.djn m376.lt))).fr c1440 Dj.nil_l).fr e1389 (hb1378.djn (m402.lt.le (t_ (t_ (t_ (t_ (t_ (t_ (t_ (t_ (t_ (t_ (t_ (t_ e423.n e444.n) e455.n) e476.n) n1032) n1033) n1346) e1265.n) e1319.n) e1325.n) e1331.n) e1341.n) e1361.n)))).fr e1395 (hb1384.djn (m402.lt.le (t_ (t_ (t_ (t_ (t_ (t_ (t_ (t_ (t_ (t_ (t_ (t_ (t_ e423.n e444.n) e455.n) e476.n) n1032) n1033) n1346) e1265.n) e1319.n) e1325.n) e1331.n) e1341.n) e1361.n) e1377.n)))).fr e1414 Dj.nil_l).ext e1430).fr e1436 (hb1431.djn (m402.lt.le (t_ (t_ (t_ (t_ (t_ (t_ (t_ (t_ (t_ (t_ e423.n e444.n) e455.n) e476.n) n1032) n1033) n1346) n1441) e1389.n) e1395.n) e1414.n)))).fr e1458 Dj.nil_l).fr e1470 Dj.nil_l)
   have u1475 := ((((m1415.ext e1430).fr e1436 (hb1431.djn m1415.lt)).fr e1458 Dj.nil_l).fr e1470 Dj.nil_l)
   obtain ⟨y1476, hy1477, r1478⟩ := bind_some r1472
   refine s_ck 45 #[.slice a409 n410 c411, .slice a1422 n1423 c1424] (by kernel_rfl) (c_viaductref02_SameInts e1470.wf u1474.sq u1475.sq hy1477) ?_
   rintro _ _ ⟨rfl, rfl⟩
   refine q_ (.bool y1476) (q_ (.bool y1476) (s_nil (k1439 _ _ ?_)))
   refine w_ret ?_
   refine b_ret (fn := Try.f5) (vs := [.bool y1476]) (rt_ (rfl)) ?_
   have c1481 := ((FrS.step wf (FrS.step wf ((FrS.step wf (FrS.step wf (FrS.step wf ((f0_ wf).extR e4) e14 Inn.nil) e31 Inn.nil) e57 Inn.nil).extR e100) e106 (hb101.fresh (t_ (t_ (t_ e4.n e14.n) e31.n) e57.n))) e135 Inn.nil).extR e186)
   obtain rfl := oi_ r1478
   exact ⟨rfl, (FrS.step wf (FrS.step wf (FrS.step wf ((FrS.step wf (FrS.step wf (FrS.step wf (FrS.step wf (FrS.step wf (FrS.step wf (FrS.step wf (FrS.step wf (FrS.step wf (FrS.step wf ((FrS.step wf ((FrS.step wf (FrS.step wf ((FrS.step wf (FrS.step wf ((FrS.step wf (FrS.step wf ((FrS.step wf (FrS.step wf ((FrS.step wf (FrS.step wf ((FrS.step wf ((FrS.step wf (FrS.step wf (FrS.step wf (FrS.step wf (FrS.step wf ((FrS.step wf (FrS.step wf ((FrS.step wf (FrS.step wf ((FrS.step wf (FrS.step wf (FrS.step wf (f0_ wf) c1481 Inn.nil) e192 (hb187.fresh (t_ (t_ (t_ (t_ (t_ (t_ e4.n e14.n) e31.n) e57.n) e100.n) e106.n) e135.n))) e222 Inn.nil).extR e273) e279 (hb274.fresh (t_ (t_ (t_ (t_ (t_ (t_ (t_ (t_ (t_ e4.n e14.n) e31.n) e57.n) e100.n) e106.n) e135.n) e186.n) e192.n) e222.n))) e301 Inn.nil).extR e314) e320 (hb315.fresh (t_ (t_ (t_ (t_ (t_ (t_ (t_ (t_ (t_ (t_ (t_ (t_ e4.n e14.n) e31.n) e57.n) e100.n) e106.n) e135.n) e186.n) e192.n) e222.n) e273.n) e279.n) e301.n))) e338 Inn.nil).extR e351) e357 (hb352.fresh (t_ n433 n434))) e375 Inn.nil) e401 Inn.nil) e423 Inn.nil) e444 Inn.nil).extR e455) e476 (i142.fresh (t_ (t_ (t_ (t_ (t_ e4.n e14.n) e31.n) e57.n) e100.n) e106.n))).extR e513) e526 (i142.fresh (t_ (t_ (t_ (t_ (t_ e4.n e14.n) e31.n) e57.n) e100.n) e106.n))) e560 (i143.fresh (t_ (t_ (t_ (t_ (t_ e4.n e14.n) e31.n) e57.n) e100.n) e106.n))).extR e597) e610 (i143.fresh (t_ (t_ (t_ (t_ (t_ e4.n e14.n) e31.n) e57.n) e100.n) e106.n))) e644 (i145.fresh (t_ (t_ (t_ (t_ (t_ e4.n e14.n) e31.n) e57.n) e100.n) e106.n))).extR e681) e694 (i145.fresh (t_ (t_ (t_ (t_ (t_ e4.n e14.n) e31.n) e57.n) e100.n) e106.n))) e728 (i63.fresh (t_ (t_ e4.n e14.n) e31.n))).extR e765) e778 (i63.fresh (t_ (t_ e4.n e14.n) e31.n))) e812 (i64.fresh (t_ (t_ e4.n e14.n) e31.n))).extR e849) e862 (i64.fresh (t_ (t_ e4.n e14.n) e31.n))) e896 (i66.fresh (t_ (t_ e4.n e14.n) e31.n))).extR e933) e946 (i66.fresh (t_ (t_ e4.n e14.n) e31.n))).extR e976) e994 (i144.fresh (t_ (t_ (t_ (t_ (t_ e4.n e14.n) e31.n) e57.n) e100.n) e106.n))) e1041 (i146.fresh (t_ (t_ (t_ (t_ (t_ e4.n e14.n) e31.n) e57.n) e100.n) e106.n))) e1085 (i65.fresh (t_ (t_ e4.n e14.n) e31.n))) e1129 (i67.fresh (t_ (t_ e4.n e14.n) e31.n))) e1172 (i304.fresh (t_ (t_ (t_ (t_ (t_ (t_ (t_ (t_ (t_ (t_ (t_ e4.n e14.n) e31.n) e57.n) e100.n) e106.n) e135.n) e186.n) e192.n) e222.n) e273.n) e279.n))) e1211 (i378.fresh (t_ (t_ (t_ n433 n434) e351.n) e357.n))) c1440 Inn.nil) e1389 (hb1378.fresh (t_ (t_ (t_ (t_ (t_ (t_ (t_ (t_ (t_ (t_ (t_ n433 n434) n1031) n1032) n1033) n1346) e1265.n) e1319.n) e1325.n) e1331.n) e1341.n) e1361.n))) e1395 (hb1384.fresh (t_ (t_ (t_ (t_ (t_ (t_ (t_ (t_ (t_ (t_ (t_ (t_ n433 n434) n1031) n1032) n1033) n1346) e1265.n) e1319.n) e1325.n) e1331.n) e1341.n) e1361.n) e1377.n))) e1414 Inn.nil).extR e1430) e1436 (hb1431.fresh (t_ (t_ (t_ (t_ (t_ (t_ (t_ (t_ (t_ n433 n434) n1031) n1032) n1033) n1346) n1441) e1389.n) e1395.n) e1414.n))) e1458 Inn.nil) e1470 Inn.nil)⟩
  have r1482 := ite_f h1471 r1468
  rw [nb h1471]
  refine q_ (.bool false) (q_ (.bool false) (n_' (n_' (n_' (q_ (.bool false) (q_ (.bool false) (s_nil (k1439 _ _ ?_))))))))
  refine w_ret ?_
  refine b_ret (fn := Try.f5) (vs := [.bool false]) (rt_ (rfl)) ?_
  have c1484 := ((FrS.step wf (FrS.step wf ((FrS.step wf (FrS.step wf (FrS.step wf ((f0_ wf).extR e4) e14 Inn.nil) e31 Inn.nil) e57 Inn.nil).extR e100) e106 (hb101.fresh (t_ (t_ (t_ e4.n e14.n) e31.n) e57.n))) e135 Inn.nil).extR e186)
  obtain rfl := oi_ r1482
  exact ⟨rfl, (FrS.step wf (FrS.step wf (FrS.step wf ((FrS.step wf (FrS.step wf (FrS.step wf (FrS.step wf (FrS.step wf (FrS.step wf (FrS.step wf (FrS.step wf (FrS.step wf (FrS.step wf ((FrS.step wf ((FrS.step wf (FrS.step wf ((FrS.step wf (FrS.step wf ((FrS.step wf (FrS.step wf ((FrS.step wf (FrS.step wf ((FrS.step wf (FrS.step wf ((FrS.step wf ((FrS.step wf (FrS.step wf (FrS.step wf (FrS.step wf (FrS.step wf ((FrS.step wf (FrS.step wf ((FrS.step wf (FrS.step wf ((FrS.step wf (FrS.step wf (FrS.step wf (f0_ wf) c1484 Inn.nil) e192 (hb187.fresh (t_ (t_ (t_ (t_ (t_ (t_ e4.n e14.n) e31.n) e57.n) e100.n) e106.n) e135.n))) e222 Inn.nil).extR e273) e279 (hb274.fresh (t_ (t_ (t_ (t_ (t_ (t_ (t_ (t_ (t_ e4.n e14.n) e31.n) e57.n) e100.n) e106.n) e135.n) e186.n) e192.n) e222.n))) e301 Inn.nil).extR e314) e320 (hb315.fresh (t_ (t_ (t_ (t_ (t_ (t_ (t_ (t_ (t_ (t_ (t_ (t_ e4.n e14.n) e31.n) e57.n) e100.n) e106.n) e135.n) e186.n) e192.n) e222.n) e273.n) e279.n) e301.n))) e338 Inn.nil).extR e351) e357 (hb352.fresh (t_ n433 n434))) e375 Inn.nil) e401 Inn.nil) e423 Inn.nil) e444 Inn.nil).extR e455) e476 (i142.fresh (t_ (t_ (t_ (t_ (t_ e4.n e14.n) e31.n) e57.n) e100.n) e106.n))).extR e513) e526 (i142.fresh (t_ (t_ (t_ (t_ (t_ e4.n e14.n) e31.n) e57.n) e100.n) e106.n))) e560 (i143.fresh (t_ (t_ (t_ (t_ (t_ e4.n e14.n) e31.n) e57.n) e100.n) e106.n))).extR e597) e610 (i143.fresh (t_ (t_ (t_ (t_ (t_ e4.n e14.n) e31.n) e57.n) e100.n) e106.n))) e644 (i145.fresh (t_ (t_ (t_ (t_ (t_ e4.n e14.n) e31.n) e57.n) e100.n) e106.n))).extR e681) e694 (i145.fresh (t_ (t_ (t_ (t_ (t_ e4.n e14.n) e31.n) e57.n) e100.n) e106.n))) e728 (i63.fresh (t_ (t_ e4.n e14.n) e31.n))).extR e765) e778 (i63.fresh (t_ (t_ e4.n e14.n) e31.n))) e812 (i64.fresh (t_ (t_ e4.n e14.n) e31.n))).extR e849) e862 (i64.fresh (t_ (t_ e4.n e14.n) e31.n))) e896 (i66.fresh (t_ (t_ e4.n e14.n) e31.n))).extR e933) e946 (i66.fresh (t_ (t_ e4.n e14.n) e31.n))).extR e976) e994 (i144.fresh (t_ (t_ (t_ (t_ (t_ e4.n e14.n) e31.n) e57.n) e100.n) e106.n))) e1041 (i146.fresh (t_ (t_ (t_ (t_ (t_ e4.n e14.n) e31.n) e57.n) e100.n) e106.n))) e1085 (i65.fresh (t_ (t_ e4.n e14.n) e31.n))) e1129 (i67.fresh (t_ (t_ e4.n e14.n) e31.n))) e1172 (i304.fresh (t_ (t_ (t_ (t_ (t_ (t_ (t_ (t_ (t_ (t_ (t_ e4.n e14.n) e31.n) e57.n) e100.n) e106.n) e135.n) e186.n) e192.n) e222.n) e273.n) e279.n))) e1211 (i378.fresh (t_ (t_ (t_ n433 n434) e351.n) e357.n))) c1440 Inn.nil) e1389 (hb1378.fresh (t_ (t_ (t_ (t_ (t_ (t_ (t_ (t_ (t_ (t_ (t_ n433 n434) n1031) n1032) n1033) n1346) e1265.n) e1319.n) e1325.n) e1331.n) e1341.n) e1361.n))) e1395 (hb1384.fresh (t_ (t_ (t_ (t_ (t_ (t_ (t_ (t_ (t_ (t_ (t_ (t_ n433 n434) n1031) n1032) n1033) n1346) e1265.n) e1319.n) e1325.n) e1331.n) e1341.n) e1361.n) e1377.n))) e1414 Inn.nil).extR e1430) e1436 (hb1431.fresh (t_ (t_ (t_ (t_ (t_ (t_ (t_ (t_ (t_ n433 n434) n1031) n1032) n1033) n1346) n1441) e1389.n) e1395.n) e1414.n))) e1458 Inn.nil) e1470 Inn.nil)⟩
 have r1485 := ite_f h1459 r1456
 rw [nb h1459]
 refine q_ (.bool false) (n_' (n_' (n_' (q_ (.bool false) (q_ (.bool false) (n_' (n_' (n_' (q_ (.bool false) (q_ (.bool false) (s_nil (k1439 _ _ ?_))))))))))))
 refine w_ret ?_
 refine b_ret (fn := Try.f5) (vs := [.bool false]) (rt_ (rfl)) ?_
 have c1487 := ((FrS.step wf (FrS.step wf ((FrS.step wf (FrS.step wf (FrS.step wf ((f0_ wf).extR e4) e14 Inn.nil) e31 Inn.nil) e57 Inn.nil).extR e100) e106 (hb101.fresh (t_ (t_ (t_ e4.n e14.n) e31.n) e57.n))) e135 Inn.nil).extR e186)
 obtain rfl := oi_ r1485
 exact ⟨rfl, (FrS.step wf (FrS.step wf ((FrS.step wf (FrS.step wf (FrS.step wf (FrS.step wf (FrS.step wf (FrS.step wf (FrS.step wf (FrS.step wf (FrS.step wf (FrS.step wf ((FrS.step wf ((FrS.step wf (FrS.step wf ((FrS.step wf (FrS.step wf ((FrS.step wf (FrS.step wf ((FrS.step wf (FrS.step wf ((FrS.step wf (FrS.step wf ((FrS.step wf ((FrS.step wf (FrS.step wf (FrS.step wf (FrS.step wf (FrS.step wf ((FrS.step wf (FrS.step wf ((FrS.step wf (FrS.step wf ((FrS.step wf (FrS.step wf (FrS.step wf (f0_ wf) c1487 Inn.nil) e192 (hb187.fresh (t_ (t_ (t_ (t_ (t_ (t_ e4.n e14.n) e31.n) e57.n) e100.n) e106.n) e135.n))) e222 Inn.nil).extR e273) e279 (hb274.fresh (t_ (t_ (t_ (t_ (t_ (t_ (t_ (t_ (t_ e4.n e14.n) e31.n) e57.n) e100.n) e106.n) e135.n) e186.n) e192.n) e222.n))) e301 Inn.nil).extR e314) e320 (hb315.fresh (t_ (t_ (t_ (t_ (t_ (t_ (t_ (t_ (t_ (t_ (t_ (t_ e4.n e14.n) e31.n) e57.n) e100.n) e106.n) e135.n) e186.n) e192.n) e222.n) e273.n) e279.n) e301.n))) e338 Inn.nil).extR e351) e357 (hb352.fresh (t_ n433 n434))) e375 Inn.nil) e401 Inn.nil) e423 Inn.nil) e444 Inn.nil).extR e455) e476 (i142.fresh (t_ (t_ (t_ (t_ (t_ e4.n e14.n) e31.n) e57.n) e100.n) e106.n))).extR e513) e526 (i142.fresh (t_ (t_ (t_ (t_ (t_ e4.n e14.n) e31.n) e57.n) e100.n) e106.n))) e560 (i143.fresh (t_ (t_ (t_ (t_ (t_ e4.n e14.n) e31.n) e57.n) e100.n) e106.n))).extR e597) e610 (i143.fresh (t_ (t_ (t_ (t_ (t_ e4.n e14.n) e31.n) e57.n) e100.n) e106.n))) e644 (i145.fresh (t_ (t_ (t_ (t_ (t_ e4.n e14.n) e31.n) e57.n) e100.n) e106.n))).extR e681) e694 (i145.fresh (t_ (t_ (t_ (t_ (t_ e4.n e14.n) e31.n) e57.n) e100.n) e106.n))) e728 (i63.fresh (t_ (t_ e4.n e14.n) e31.n))).extR e765) e778 (i63.fresh (t_ (t_ e4.n e14.n) e31.n))) e812 (i64.fresh (t_ (t_ e4.n e14.n) e31.n))).extR e849) e862 (i64.fresh (t_ (t_ e4.n e14.n) e31.n))) e896 (i66.fresh (t_ (t_ e4.n e14.n) e31.n))).extR e933) e946 (i66.fresh (t_ (t_ e4.n e14.n) e31.n))).extR e976) e994 (i144.fresh (t_ (t_ (t_ (t_ (t_ e4.n e14.n) e31.n) e57.n) e100.n) e106.n))) e1041 (i146.fresh (t_ (t_ (t_ (t_ (t_ e4.n e14.n) e31.n) e57.n) e100.n) e106.n))) e1085 (i65.fresh (t_ (t_ e4.n e14.n) e31.n))) e1129 (i67.fresh (t_ (t_ e4.n e14.n) e31.n))) e1172 (i304.fresh (t_ (t_ (t_ (t_ (t_ (t_ (t_ (t_ (t_ (t_ (t_ e4.n e14.n) e31.n) e57.n) e100.n) e106.n) e135.n) e186.n) e192.n) e222.n) e273.n) e279.n))) e1211 (i378.fresh (t_ (t_ (t_ n433 n434) e351.n) e357.n))) c1440 Inn.nil) e1389 (hb1378.fresh (t_ (t_ (t_ (t_ (t_ (t_ (t_ (t_ (t_ (t_ (t_ n433 n434) n1031) n1032) n1033) n1346) e1265.n) e1319.n) e1325.n) e1331.n) e1341.n) e1361.n))) e1395 (hb1384.fresh (t_ (t_ (t_ (t_ (t_ (t_ (t_ (t_ (t_ (t_ (t_ (t_ n433 n434) n1031) n1032) n1033) n1346) e1265.n) e1319.n) e1325.n) e1331.n) e1341.n) e1361.n) e1377.n))) e1414 Inn.nil).extR e1430) e1436 (hb1431.fresh (t_ (t_ (t_ (t_ (t_ (t_ (t_ (t_ (t_ n433 n434) n1031) n1032) n1033) n1346) n1441) e1389.n) e1395.n) e1414.n))) e1458 Inn.nil)⟩
end Go.Vd
