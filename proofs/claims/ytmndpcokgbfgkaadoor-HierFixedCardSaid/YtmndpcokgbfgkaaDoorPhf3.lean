/- The walks of the functions (printed by a program of ours). -/
import Derived.Test.YtmndpcokgbfgkaaDoorPhf2
import Derived.Test.YtmndpcokgbfgkaaDoorDrG
import Derived.Test.YtmndpcokgbfgkaaDoorIHf
import Derived.Test.YtmndpcokgbfgkaaDoorSoA
import Derived.Test.YtmndpcokgbfgkaaDoorVeT
set_option linter.unusedVariables false
set_option linter.unusedSimpArgs false
set_option linter.unusedSectionVars false
/-! (KHf4) -/

set_option maxRecDepth 100000
set_option maxHeartbeats 4000000
set_option linter.unusedVariables false
namespace Go.Vd
open Go.Proofs
attribute [local irreducible] wpSeq wpOrd aWp
theorem c_viaductlaw10_HierFixed {H : AH} {r : Bool}
  (wf : WF H) (hr : z_viaductlaw10_HierFixed = some r) :
  ACalls Tryd.prog 3 #[] H fun v H' => v = .bool r ∧ FrS [] H H' := by
 refine acalls_of_body mixed Tryd.func3 rfl (Nat.le_of_ble_eq_true rfl) ?_
 unfold z_viaductlaw10_HierFixed at hr
 refine w_seqk fun K1 k1 => ?_
 refine w_reg (by kernel_rfl) ?_
 refine s_qk (.bool false) (by kernel_rfl) ?_
 refine s_nil ?_
 refine k1 _ _ ?_
 refine w_seqk fun K2 k2 => ?_
 refine w_seqk fun K3 k3 => ?_
 refine w_reg (by kernel_rfl) ?_
 obtain ⟨y4, hy5, r6⟩ := bind_some hr
 refine s_ck 4 #[] (by kernel_rfl) (c_viaductlaw10_awake wf hy5) ?_
 rintro _ H7 ⟨rfl, e8⟩
 by_cases h9 : y4 = true
 ·have r10 := ite_t h9 r6
  rw [h9]
  refine s_qk (.bool false) (by kernel_rfl) ?_
  refine s_qk (.bool false) (by kernel_rfl) ?_
  refine s_qk (.bool false) (by kernel_rfl) ?_
  refine s_qk (.bool false) (by kernel_rfl) ?_
  refine s_qk (.bool false) (by kernel_rfl) ?_
  refine s_qk (.bool false) (by kernel_rfl) ?_
  refine s_qk (.bool false) (by kernel_rfl) ?_
  refine s_nil ?_
  refine k3 _ _ ?_
  refine w_cond false (by kernel_rfl) rfl (fun h => by cases h) (fun _ => ?_)
  refine w_skip ?_
  refine k2 _ _ ?_
  refine w_seqk fun K12 k12 => ?_
  refine w_reg (by kernel_rfl) ?_
  obtain ⟨y13, hy14, r15⟩ := bind_some r10
  refine s_ck 5 #[.int .i64 14] (by kernel_rfl) (c_viaductref01_E e8.wf hy14) ?_
  rintro _ H16 ⟨rfl, e17⟩
  obtain ⟨y18, hy19, r20⟩ := bind_some r15
  refine s_ck 5 #[.int .i64 8] (by kernel_rfl) (c_viaductref01_E e17.wf hy19) ?_
  rintro _ H21 ⟨rfl, e22⟩
  refine s_rwk e22.wf [.int .i64 0, .slice none 0 0] (by kernel_rfl) fun b23 H24 e25 hb26 r27 => ?_
  refine s_rwk e25.wf [.int .i64 0, .slice none 0 0] (by kernel_rfl) fun b29 H30 e31 hb32 r33 => ?_
  have u39 := (r27.ext e31)
  obtain ⟨H35, q36, e37, r38⟩ := Row.store (P := Tryd.prog) (t := 25) (p := 0) e31.wf u39 (.agg #[.int .i64 y13, .slice none 0 0]) [.int .i64 y13, .slice none 0 0] (by kernel_rfl) (by kernel_rfl) (one_cons (rfl) (one_cons (rfl) (one_nil))) (Nat.le_of_ble_eq_true (by kernel_rfl)) [.int .i64 y13, .slice none 0 0] (by kernel_rfl)
  refine s_ek (undef) (by kernel_rfl) (map_ok q36) ?_
  have u44 := (r33.frS e37 (Dj.symm (hb32.djn r27.ltF)))
  obtain ⟨H40, q41, e42, r43⟩ := Row.store (P := Tryd.prog) (t := 25) (p := 0) e37.wf u44 (.agg #[.int .i64 y18, .slice none 0 0]) [.int .i64 y18, .slice none 0 0] (by kernel_rfl) (by kernel_rfl) (one_cons (rfl) (one_cons (rfl) (one_nil))) (Nat.le_of_ble_eq_true (by kernel_rfl)) [.int .i64 y18, .slice none 0 0] (by kernel_rfl)
  refine s_ek (undef) (by kernel_rfl) (map_ok q41) ?_
  refine s_nil ?_
  refine k12 _ _ ?_
  refine w_seqk fun K45 k45 => ?_
  refine w_reg (by kernel_rfl) ?_
  obtain ⟨y46, hy47, r48⟩ := bind_some r20
  refine s_ck 6 #[] (by kernel_rfl) (c_viaductref10_Three e42.wf hy47) ?_
  rintro _ H59 ⟨s49, f50, s51, f52, s53, f54, s55, f56, s57, f58, rfl, e60, m61, m62, m63, m64, m65, i66, i67, i68, i69, i70, d71, d72, d73, d74, d75, d76, d77, d78, d79, d80⟩
  obtain ⟨a86, n87, c88, rfl⟩ := m61.form
  obtain ⟨a89, n90, c91, rfl⟩ := m62.form
  obtain ⟨a92, n93, c94, rfl⟩ := m63.form
  obtain ⟨a95, n96, c97, rfl⟩ := m64.form
  obtain ⟨a98, n99, c100, rfl⟩ := m65.form
  refine s_rwk e60.wf [.slice none 0 0, .slice none 0 0, .slice none 0 0, .slice none 0 0, .slice none 0 0] (by kernel_rfl) fun b101 H102 e103 hb104 r105 => ?_
  have u111 := (m65.ext e103)
  have u112 := (m64.ext e103)
  have u113 := (m63.ext e103)
  have u114 := (m62.ext e103)
  have u115 := (m61.ext e103)
  obtain ⟨H107, q108, e109, r110⟩ := Row.store (P := Tryd.prog) (t := 31) (p := 0) e103.wf r105 (.agg #[.slice a86 n87 c88, .slice a89 n90 c91, .slice a92 n93 c94, .slice a95 n96 c97, .slice a98 n99 c100]) [.slice a86 n87 c88, .slice a89 n90 c91, .slice a92 n93 c94, .slice a95 n96 c97, .slice a98 n99 c100] (by kernel_rfl) (by kernel_rfl) (one_cons (u115.one1) (one_cons (u114.one1) (one_cons (u113.one1) (one_cons (u112.one1) (one_cons (u111.one1) (one_nil)))))) (Nat.le_of_ble_eq_true (by kernel_rfl)) [.slice a86 n87 c88, .slice a89 n90 c91, .slice a92 n93 c94, .slice a95 n96 c97, .slice a98 n99 c100] (by kernel_rfl)
  refine s_ek (undef) (by kernel_rfl) (map_ok q108) ?_
  refine s_nil ?_
  refine k45 _ _ ?_
  refine w_seqk fun K116 k116 => ?_
  refine w_reg (by kernel_rfl) ?_
  refine s_qk (.pointer (some ⟨b101, 2, none⟩)) (by kernel_rfl) ?_
  refine s_ql (.slice a92 n93 c94) (x := aLoad Tryd.prog 29 (.pointer (some ⟨b101, 2, none⟩)) H107) (by kernel_rfl) (r110.ld (by kernel_rfl)) ?_
  obtain ⟨g117, r118⟩ := G_some r48
  have u119 := (u113.fr e109 (hb104.djn m63.lt))
  refine s_ql (elp (.slice a92 n93 c94) 4 (1 : Int).toNat 0) (x := aIndexAddr Tryd.prog 29 (.slice a92 n93 c94) (.int .i64 1)) (by kernel_rfl) (u119.sq.idxb (by kernel_rfl) (by decide) g117) ?_
  refine s_ql (elp (.slice a92 n93 c94) 4 (1 : Int).toNat 1) (x := aFieldAddr Tryd.prog 36 (elp (.slice a92 n93 c94) 4 (1 : Int).toNat 0) 1) (by kernel_rfl) (Sq.fldq (d := 1) u119.sq (by decide) g117 (by kernel_rfl)) ?_
  obtain ⟨H120, q121, e122, hm123⟩ := Ow.store (P := Tryd.prog) (t := 33) (off := 1) e109.wf u119 (by decide) g117 (.int .u64 6) [.int .u64 6] (by kernel_rfl) (by kernel_rfl) rfl ((gt y46.2.2.1 1).1, 6, (gt y46.2.2.1 1).2.2.1, (gt y46.2.2.1 1).2.2.2) (Nat.le_of_ble_eq_true rfl) (by kernel_rfl)
  refine s_ek (undef) (by kernel_rfl) (map_ok q121) ?_
  refine s_nil ?_
  refine k116 _ _ ?_
  refine w_seqk fun K124 k124 => ?_
  refine w_reg (by kernel_rfl) ?_
  obtain ⟨y125, hy126, r127⟩ := bind_some r118
  refine s_ck 6 #[] (by kernel_rfl) (c_viaductref10_Three e122.wf hy126) ?_
  rintro _ H138 ⟨s128, f129, s130, f131, s132, f133, s134, f135, s136, f137, rfl, e139, m140, m141, m142, m143, m144, i145, i146, i147, i148, i149, d150, d151, d152, d153, d154, d155, d156, d157, d158, d159⟩
  obtain ⟨a165, n166, c167, rfl⟩ := m140.form
  obtain ⟨a168, n169, c170, rfl⟩ := m141.form
  obtain ⟨a171, n172, c173, rfl⟩ := m142.form
  obtain ⟨a174, n175, c176, rfl⟩ := m143.form
  obtain ⟨a177, n178, c179, rfl⟩ := m144.form
  refine s_rwk e139.wf [.slice none 0 0, .slice none 0 0, .slice none 0 0, .slice none 0 0, .slice none 0 0] (by kernel_rfl) fun b180 H181 e182 hb183 r184 => ?_
  have u190 := (m144.ext e182)
  have u191 := (m143.ext e182)
  have u192 := (m142.ext e182)
  have u193 := (m141.ext e182)
  have u194 := (m140.ext e182)
  obtain ⟨H186, q187, e188, r189⟩ := Row.store (P := Tryd.prog) (t := 31) (p := 0) e182.wf r184 (.agg #[.slice a165 n166 c167, .slice a168 n169 c170, .slice a171 n172 c173, .slice a174 n175 c176, .slice a177 n178 c179]) [.slice a165 n166 c167, .slice a168 n169 c170, .slice a171 n172 c173, .slice a174 n175 c176, .slice a177 n178 c179] (by kernel_rfl) (by kernel_rfl) (one_cons (u194.one1) (one_cons (u193.one1) (one_cons (u192.one1) (one_cons (u191.one1) (one_cons (u190.one1) (one_nil)))))) (Nat.le_of_ble_eq_true (by kernel_rfl)) [.slice a165 n166 c167, .slice a168 n169 c170, .slice a171 n172 c173, .slice a174 n175 c176, .slice a177 n178 c179] (by kernel_rfl)
  refine s_ek (undef) (by kernel_rfl) (map_ok q187) ?_
  refine s_nil ?_
  refine k124 _ _ ?_
  refine w_seqk fun K195 k195 => ?_
  refine w_reg (by kernel_rfl) ?_
  refine s_qk (.pointer (some ⟨b180, 2, none⟩)) (by kernel_rfl) ?_
  refine s_ql (.slice a171 n172 c173) (x := aLoad Tryd.prog 29 (.pointer (some ⟨b180, 2, none⟩)) H186) (by kernel_rfl) (r189.ld (by kernel_rfl)) ?_
  obtain ⟨g196, r197⟩ := G_some r127
  have u198 := (u192.fr e188 (hb183.djn m142.lt))
  refine s_ql (elp (.slice a171 n172 c173) 4 (1 : Int).toNat 0) (x := aIndexAddr Tryd.prog 29 (.slice a171 n172 c173) (.int .i64 1)) (by kernel_rfl) (u198.sq.idxb (by kernel_rfl) (by decide) g196) ?_
  refine s_ql (elp (.slice a171 n172 c173) 4 (1 : Int).toNat 2) (x := aFieldAddr Tryd.prog 36 (elp (.slice a171 n172 c173) 4 (1 : Int).toNat 0) 2) (by kernel_rfl) (Sq.fldq (d := 2) u198.sq (by decide) g196 (by kernel_rfl)) ?_
  obtain ⟨H199, q200, e201, hm202⟩ := Ow.store (P := Tryd.prog) (t := 34) (off := 2) e188.wf u198 (by decide) g196 (.int .u32 0) [.int .u32 0] (by kernel_rfl) (by kernel_rfl) rfl ((gt y125.2.2.1 1).1, (gt y125.2.2.1 1).2.1, 0, (gt y125.2.2.1 1).2.2.2) (Nat.le_of_ble_eq_true rfl) (by kernel_rfl)
  refine s_ek (undef) (by kernel_rfl) (map_ok q200) ?_
  refine s_nil ?_
  refine k195 _ _ ?_
  refine w_seqk fun K203 k203 => ?_
  refine w_reg (by kernel_rfl) ?_
  obtain ⟨y204, hy205, r206⟩ := bind_some r197
  refine s_ck 6 #[] (by kernel_rfl) (c_viaductref10_Three e201.wf hy205) ?_
  rintro _ H217 ⟨s207, f208, s209, f210, s211, f212, s213, f214, s215, f216, rfl, e218, m219, m220, m221, m222, m223, i224, i225, i226, i227, i228, d229, d230, d231, d232, d233, d234, d235, d236, d237, d238⟩
  obtain ⟨a244, n245, c246, rfl⟩ := m219.form
  obtain ⟨a247, n248, c249, rfl⟩ := m220.form
  obtain ⟨a250, n251, c252, rfl⟩ := m221.form
  obtain ⟨a253, n254, c255, rfl⟩ := m222.form
  obtain ⟨a256, n257, c258, rfl⟩ := m223.form
  refine s_rwk e218.wf [.slice none 0 0, .slice none 0 0, .slice none 0 0, .slice none 0 0, .slice none 0 0] (by kernel_rfl) fun b259 H260 e261 hb262 r263 => ?_
  have u269 := (m223.ext e261)
  have u270 := (m222.ext e261)
  have u271 := (m221.ext e261)
  have u272 := (m220.ext e261)
  have u273 := (m219.ext e261)
  obtain ⟨H265, q266, e267, r268⟩ := Row.store (P := Tryd.prog) (t := 31) (p := 0) e261.wf r263 (.agg #[.slice a244 n245 c246, .slice a247 n248 c249, .slice a250 n251 c252, .slice a253 n254 c255, .slice a256 n257 c258]) [.slice a244 n245 c246, .slice a247 n248 c249, .slice a250 n251 c252, .slice a253 n254 c255, .slice a256 n257 c258] (by kernel_rfl) (by kernel_rfl) (one_cons (u273.one1) (one_cons (u272.one1) (one_cons (u271.one1) (one_cons (u270.one1) (one_cons (u269.one1) (one_nil)))))) (Nat.le_of_ble_eq_true (by kernel_rfl)) [.slice a244 n245 c246, .slice a247 n248 c249, .slice a250 n251 c252, .slice a253 n254 c255, .slice a256 n257 c258] (by kernel_rfl)
  refine s_ek (undef) (by kernel_rfl) (map_ok q266) ?_
  refine s_nil ?_
  refine k203 _ _ ?_
  refine w_seqk fun K274 k274 => ?_
  refine w_reg (by kernel_rfl) ?_
  refine s_qk (.pointer (some ⟨b259, 2, none⟩)) (by kernel_rfl) ?_
  refine s_ql (.slice a250 n251 c252) (x := aLoad Tryd.prog 29 (.pointer (some ⟨b259, 2, none⟩)) H265) (by kernel_rfl) (r268.ld (by kernel_rfl)) ?_
  obtain ⟨g275, r276⟩ := G_some r206
  have u277 := (u271.fr e267 (hb262.djn m221.lt))
  refine s_ql (elp (.slice a250 n251 c252) 4 (1 : Int).toNat 0) (x := aIndexAddr Tryd.prog 29 (.slice a250 n251 c252) (.int .i64 1)) (by kernel_rfl) (u277.sq.idxb (by kernel_rfl) (by decide) g275) ?_
  refine s_ql (elp (.slice a250 n251 c252) 4 (1 : Int).toNat 0) (x := aFieldAddr Tryd.prog 36 (elp (.slice a250 n251 c252) 4 (1 : Int).toNat 0) 0) (by kernel_rfl) (Sq.fldq (d := 0) u277.sq (by decide) g275 (by kernel_rfl)) ?_
  obtain ⟨H278, q279, e280, hm281⟩ := Ow.store (P := Tryd.prog) (t := 34) (off := 0) e267.wf u277 (by decide) g275 (.int .u32 1) [.int .u32 1] (by kernel_rfl) (by kernel_rfl) rfl (1, (gt y204.2.2.1 1).2.1, (gt y204.2.2.1 1).2.2.1, (gt y204.2.2.1 1).2.2.2) (Nat.le_of_ble_eq_true rfl) (by kernel_rfl)
  refine s_ek (undef) (by kernel_rfl) (map_ok q279) ?_
  refine s_nil ?_
  refine k274 _ _ ?_
  refine w_seqk fun K282 k282 => ?_
  refine w_reg (by kernel_rfl) ?_
  obtain ⟨y283, hy284, r285⟩ := bind_some r276
  refine s_ck 6 #[] (by kernel_rfl) (c_viaductref10_Three e280.wf hy284) ?_
  rintro _ H296 ⟨s286, f287, s288, f289, s290, f291, s292, f293, s294, f295, rfl, e297, m298, m299, m300, m301, m302, i303, i304, i305, i306, i307, d308, d309, d310, d311, d312, d313, d314, d315, d316, d317⟩
  obtain ⟨a323, n324, c325, rfl⟩ := m298.form
  obtain ⟨a326, n327, c328, rfl⟩ := m299.form
  obtain ⟨a329, n330, c331, rfl⟩ := m300.form
  obtain ⟨a332, n333, c334, rfl⟩ := m301.form
  obtain ⟨a335, n336, c337, rfl⟩ := m302.form
  refine s_rwk e297.wf [.slice none 0 0, .slice none 0 0, .slice none 0 0, .slice none 0 0, .slice none 0 0] (by kernel_rfl) fun b338 H339 e340 hb341 r342 => ?_
  have u348 := (m302.ext e340)
  have u349 := (m301.ext e340)
  have u350 := (m300.ext e340)
  have u351 := (m299.ext e340)
  have u352 := (m298.ext e340)
  obtain ⟨H344, q345, e346, r347⟩ := Row.store (P := Tryd.prog) (t := 31) (p := 0) e340.wf r342 (.agg #[.slice a323 n324 c325, .slice a326 n327 c328, .slice a329 n330 c331, .slice a332 n333 c334, .slice a335 n336 c337]) [.slice a323 n324 c325, .slice a326 n327 c328, .slice a329 n330 c331, .slice a332 n333 c334, .slice a335 n336 c337] (by kernel_rfl) (by kernel_rfl) (one_cons (u352.one1) (one_cons (u351.one1) (one_cons (u350.one1) (one_cons (u349.one1) (one_cons (u348.one1) (one_nil)))))) (Nat.le_of_ble_eq_true (by kernel_rfl)) [.slice a323 n324 c325, .slice a326 n327 c328, .slice a329 n330 c331, .slice a332 n333 c334, .slice a335 n336 c337] (by kernel_rfl)
  refine s_ek (undef) (by kernel_rfl) (map_ok q345) ?_
  refine s_nil ?_
  refine k282 _ _ ?_
  refine w_seqk fun K353 k353 => ?_
  refine w_reg (by kernel_rfl) ?_
  refine s_qk (.pointer (some ⟨b338, 0, none⟩)) (by kernel_rfl) ?_
  refine s_ql (.slice a323 n324 c325) (x := aLoad Tryd.prog 28 (.pointer (some ⟨b338, 0, none⟩)) H344) (by kernel_rfl) (r347.ld (by kernel_rfl)) ?_
  obtain ⟨g354, r355⟩ := G_some r285
  have u356 := (u352.fr e346 (hb341.djn m298.lt))
  refine s_ql (elp (.slice a323 n324 c325) 1 (2 : Int).toNat 0) (x := aIndexAddr Tryd.prog 28 (.slice a323 n324 c325) (.int .i64 2)) (by kernel_rfl) (u356.sq.idxb (by kernel_rfl) (by decide) g354) ?_
  obtain ⟨H357, q358, e359, hm360⟩ := Ow.store (P := Tryd.prog) (t := 34) (off := 0) e346.wf u356 (by decide) g354 (.int .u32 1) [.int .u32 1] (by kernel_rfl) (by kernel_rfl) rfl 1 (Nat.le_of_ble_eq_true rfl) (by kernel_rfl)
  refine s_ek (undef) (by kernel_rfl) (map_ok q358) ?_
  refine s_nil ?_
  refine k353 _ _ ?_
  refine w_seqk fun K361 k361 => ?_
  refine w_reg (by kernel_rfl) ?_
  obtain ⟨y362, hy363, r364⟩ := bind_some r355
  refine s_ck 6 #[] (by kernel_rfl) (c_viaductref10_Three e359.wf hy363) ?_
  rintro _ H375 ⟨s365, f366, s367, f368, s369, f370, s371, f372, s373, f374, rfl, e376, m377, m378, m379, m380, m381, i382, i383, i384, i385, i386, d387, d388, d389, d390, d391, d392, d393, d394, d395, d396⟩
  obtain ⟨a402, n403, c404, rfl⟩ := m377.form
  obtain ⟨a405, n406, c407, rfl⟩ := m378.form
  obtain ⟨a408, n409, c410, rfl⟩ := m379.form
  obtain ⟨a411, n412, c413, rfl⟩ := m380.form
  obtain ⟨a414, n415, c416, rfl⟩ := m381.form
  refine s_rwk e376.wf [.slice none 0 0, .slice none 0 0, .slice none 0 0, .slice none 0 0, .slice none 0 0] (by kernel_rfl) fun b417 H418 e419 hb420 r421 => ?_
  have u427 := (m381.ext e419)
  have u428 := (m380.ext e419)
  have u429 := (m379.ext e419)
  have u430 := (m378.ext e419)
  have u431 := (m377.ext e419)
  obtain ⟨H423, q424, e425, r426⟩ := Row.store (P := Tryd.prog) (t := 31) (p := 0) e419.wf r421 (.agg #[.slice a402 n403 c404, .slice a405 n406 c407, .slice a408 n409 c410, .slice a411 n412 c413, .slice a414 n415 c416]) [.slice a402 n403 c404, .slice a405 n406 c407, .slice a408 n409 c410, .slice a411 n412 c413, .slice a414 n415 c416] (by kernel_rfl) (by kernel_rfl) (one_cons (u431.one1) (one_cons (u430.one1) (one_cons (u429.one1) (one_cons (u428.one1) (one_cons (u427.one1) (one_nil)))))) (Nat.le_of_ble_eq_true (by kernel_rfl)) [.slice a402 n403 c404, .slice a405 n406 c407, .slice a408 n409 c410, .slice a411 n412 c413, .slice a414 n415 c416] (by kernel_rfl)
  refine s_ek (undef) (by kernel_rfl) (map_ok q424) ?_
  refine s_nil ?_
  refine k361 _ _ ?_
  refine w_seqk fun K432 k432 => ?_
  refine w_reg (by kernel_rfl) ?_
  refine s_qk (.pointer (some ⟨b417, 1, none⟩)) (by kernel_rfl) ?_
  refine s_ql (.slice a405 n406 c407) (x := aLoad Tryd.prog 28 (.pointer (some ⟨b417, 1, none⟩)) H423) (by kernel_rfl) (r426.ld (by kernel_rfl)) ?_
  obtain ⟨g433, r434⟩ := G_some r364
  have u438 := (u430.fr e425 (hb420.djn m378.lt))
  obtain ⟨s435, q436, hs437⟩ := Ow.head (P := Tryd.prog) u438 (t := 28) (by kernel_rfl) (hi := (some (.int .i64 3))) (r := (3 : Int).toNat) (aBound_int _ (by have := g433; omega)) (by have := g433; omega)
  obtain ⟨a439, n440, c441, rfl⟩ := hs437.form
  refine s_ql (.slice a439 n440 c441) (by kernel_rfl) q436 ?_
  refine s_qk (.pointer (some ⟨b417, 1, none⟩)) (by kernel_rfl) ?_
  obtain ⟨H443, q444, e445, r446⟩ := Row.store (P := Tryd.prog) (t := 28) (p := 1) e425.wf r426 (.slice a439 n440 c441) [.slice a439 n440 c441] (by kernel_rfl) (by kernel_rfl) (one_cons (hs437.one1) (one_nil)) (Nat.le_of_ble_eq_true (by kernel_rfl)) [.slice a402 n403 c404, .slice a439 n440 c441, .slice a408 n409 c410, .slice a411 n412 c413, .slice a414 n415 c416] (by kernel_rfl)
  refine s_ek (undef) (by kernel_rfl) (map_ok q444) ?_
  refine s_nil ?_
  refine k432 _ _ ?_
  refine w_seqk fun K447 k447 => ?_
  refine w_reg (by kernel_rfl) ?_
  obtain ⟨y448, hy449, r450⟩ := bind_some r434
  refine s_ck 6 #[] (by kernel_rfl) (c_viaductref10_Three e445.wf hy449) ?_
  rintro _ H461 ⟨s451, f452, s453, f454, s455, f456, s457, f458, s459, f460, rfl, e462, m463, m464, m465, m466, m467, i468, i469, i470, i471, i472, d473, d474, d475, d476, d477, d478, d479, d480, d481, d482⟩
  obtain ⟨a488, n489, c490, rfl⟩ := m463.form
  obtain ⟨a491, n492, c493, rfl⟩ := m464.form
  obtain ⟨a494, n495, c496, rfl⟩ := m465.form
  obtain ⟨a497, n498, c499, rfl⟩ := m466.form
  obtain ⟨a500, n501, c502, rfl⟩ := m467.form
  refine s_rwk e462.wf [.slice none 0 0, .slice none 0 0, .slice none 0 0, .slice none 0 0, .slice none 0 0] (by kernel_rfl) fun b503 H504 e505 hb506 r507 => ?_
  have u513 := (m467.ext e505)
  have u514 := (m466.ext e505)
  have u515 := (m465.ext e505)
  have u516 := (m464.ext e505)
  have u517 := (m463.ext e505)
  obtain ⟨H509, q510, e511, r512⟩ := Row.store (P := Tryd.prog) (t := 31) (p := 0) e505.wf r507 (.agg #[.slice a488 n489 c490, .slice a491 n492 c493, .slice a494 n495 c496, .slice a497 n498 c499, .slice a500 n501 c502]) [.slice a488 n489 c490, .slice a491 n492 c493, .slice a494 n495 c496, .slice a497 n498 c499, .slice a500 n501 c502] (by kernel_rfl) (by kernel_rfl) (one_cons (u517.one1) (one_cons (u516.one1) (one_cons (u515.one1) (one_cons (u514.one1) (one_cons (u513.one1) (one_nil)))))) (Nat.le_of_ble_eq_true (by kernel_rfl)) [.slice a488 n489 c490, .slice a491 n492 c493, .slice a494 n495 c496, .slice a497 n498 c499, .slice a500 n501 c502] (by kernel_rfl)
  refine s_ek (undef) (by kernel_rfl) (map_ok q510) ?_
  refine s_nil ?_
  refine k447 _ _ ?_
  refine w_seqk fun K518 k518 => ?_
  refine w_reg (by kernel_rfl) ?_
  refine s_qk (.pointer (some ⟨b503, 2, none⟩)) (by kernel_rfl) ?_
  refine s_ql (.slice a494 n495 c496) (x := aLoad Tryd.prog 29 (.pointer (some ⟨b503, 2, none⟩)) H509) (by kernel_rfl) (r512.ld (by kernel_rfl)) ?_
  obtain ⟨g519, r520⟩ := G_some r450
  have u521 := (u515.fr e511 (hb506.djn m465.lt))
  refine s_ql (elp (.slice a494 n495 c496) 4 (1 : Int).toNat 0) (x := aIndexAddr Tryd.prog 29 (.slice a494 n495 c496) (.int .i64 1)) (by kernel_rfl) (u521.sq.idxb (by kernel_rfl) (by decide) g519) ?_
  refine s_ql (elp (.slice a494 n495 c496) 4 (1 : Int).toNat 2) (x := aFieldAddr Tryd.prog 36 (elp (.slice a494 n495 c496) 4 (1 : Int).toNat 0) 2) (by kernel_rfl) (Sq.fldq (d := 2) u521.sq (by decide) g519 (by kernel_rfl)) ?_
  obtain ⟨H522, q523, e524, hm525⟩ := Ow.store (P := Tryd.prog) (t := 34) (off := 2) e511.wf u521 (by decide) g519 (.int .u32 4294967295) [.int .u32 4294967295] (by kernel_rfl) (by kernel_rfl) rfl ((gt y448.2.2.1 1).1, (gt y448.2.2.1 1).2.1, 4294967295, (gt y448.2.2.1 1).2.2.2) (Nat.le_of_ble_eq_true rfl) (by kernel_rfl)
  refine s_ek (undef) (by kernel_rfl) (map_ok q523) ?_
  refine s_nil ?_
  refine k518 _ _ ?_
  refine w_seqk fun K526 k526 => ?_
  refine w_reg (by kernel_rfl) ?_
  obtain ⟨y527, hy528, r529⟩ := bind_some r520
  refine s_ck 6 #[] (by kernel_rfl) (c_viaductref10_Three e524.wf hy528) ?_
  rintro _ H540 ⟨s530, f531, s532, f533, s534, f535, s536, f537, s538, f539, rfl, e541, m542, m543, m544, m545, m546, i547, i548, i549, i550, i551, d552, d553, d554, d555, d556, d557, d558, d559, d560, d561⟩
  obtain ⟨a567, n568, c569, rfl⟩ := m542.form
  obtain ⟨a570, n571, c572, rfl⟩ := m543.form
  obtain ⟨a573, n574, c575, rfl⟩ := m544.form
  obtain ⟨a576, n577, c578, rfl⟩ := m545.form
  obtain ⟨a579, n580, c581, rfl⟩ := m546.form
  refine s_rwk e541.wf [.slice none 0 0, .slice none 0 0, .slice none 0 0, .slice none 0 0, .slice none 0 0] (by kernel_rfl) fun b582 H583 e584 hb585 r586 => ?_
  have u592 := (m546.ext e584)
  have u593 := (m545.ext e584)
  have u594 := (m544.ext e584)
  have u595 := (m543.ext e584)
  have u596 := (m542.ext e584)
  obtain ⟨H588, q589, e590, r591⟩ := Row.store (P := Tryd.prog) (t := 31) (p := 0) e584.wf r586 (.agg #[.slice a567 n568 c569, .slice a570 n571 c572, .slice a573 n574 c575, .slice a576 n577 c578, .slice a579 n580 c581]) [.slice a567 n568 c569, .slice a570 n571 c572, .slice a573 n574 c575, .slice a576 n577 c578, .slice a579 n580 c581] (by kernel_rfl) (by kernel_rfl) (one_cons (u596.one1) (one_cons (u595.one1) (one_cons (u594.one1) (one_cons (u593.one1) (one_cons (u592.one1) (one_nil)))))) (Nat.le_of_ble_eq_true (by kernel_rfl)) [.slice a567 n568 c569, .slice a570 n571 c572, .slice a573 n574 c575, .slice a576 n577 c578, .slice a579 n580 c581] (by kernel_rfl)
  refine s_ek (undef) (by kernel_rfl) (map_ok q589) ?_
  refine s_nil ?_
  refine k526 _ _ ?_
  refine w_seqk fun K597 k597 => ?_
  refine w_reg (by kernel_rfl) ?_
  refine s_qk (.pointer (some ⟨b582, 2, none⟩)) (by kernel_rfl) ?_
  refine s_ql (.slice a573 n574 c575) (x := aLoad Tryd.prog 29 (.pointer (some ⟨b582, 2, none⟩)) H588) (by kernel_rfl) (r591.ld (by kernel_rfl)) ?_
  obtain ⟨g598, r599⟩ := G_some r529
  have u600 := (u594.fr e590 (hb585.djn m544.lt))
  refine s_ql (elp (.slice a573 n574 c575) 4 (0 : Int).toNat 0) (x := aIndexAddr Tryd.prog 29 (.slice a573 n574 c575) (.int .i64 0)) (by kernel_rfl) (u600.sq.idxb (by kernel_rfl) (by decide) g598) ?_
  refine s_ql (elp (.slice a573 n574 c575) 4 (0 : Int).toNat 1) (x := aFieldAddr Tryd.prog 36 (elp (.slice a573 n574 c575) 4 (0 : Int).toNat 0) 1) (by kernel_rfl) (Sq.fldq (d := 1) u600.sq (by decide) g598 (by kernel_rfl)) ?_
  obtain ⟨H601, q602, e603, hm604⟩ := Ow.store (P := Tryd.prog) (t := 33) (off := 1) e590.wf u600 (by decide) g598 (.int .u64 2147483648) [.int .u64 2147483648] (by kernel_rfl) (by kernel_rfl) rfl ((gt y527.2.2.1 0).1, 2147483648, (gt y527.2.2.1 0).2.2.1, (gt y527.2.2.1 0).2.2.2) (Nat.le_of_ble_eq_true rfl) (by kernel_rfl)
  refine s_ek (undef) (by kernel_rfl) (map_ok q602) ?_
  refine s_nil ?_
  refine k597 _ _ ?_
  refine w_seqk fun K605 k605 => ?_
  refine w_reg (by kernel_rfl) ?_
  obtain ⟨y606, hy607, r608⟩ := bind_some r599
  refine s_ck 6 #[] (by kernel_rfl) (c_viaductref10_Three e603.wf hy607) ?_
  rintro _ H619 ⟨s609, f610, s611, f612, s613, f614, s615, f616, s617, f618, rfl, e620, m621, m622, m623, m624, m625, i626, i627, i628, i629, i630, d631, d632, d633, d634, d635, d636, d637, d638, d639, d640⟩
  obtain ⟨a646, n647, c648, rfl⟩ := m621.form
  obtain ⟨a649, n650, c651, rfl⟩ := m622.form
  obtain ⟨a652, n653, c654, rfl⟩ := m623.form
  obtain ⟨a655, n656, c657, rfl⟩ := m624.form
  obtain ⟨a658, n659, c660, rfl⟩ := m625.form
  refine s_rwk e620.wf [.slice none 0 0, .slice none 0 0, .slice none 0 0, .slice none 0 0, .slice none 0 0] (by kernel_rfl) fun b661 H662 e663 hb664 r665 => ?_
  have u671 := (m625.ext e663)
  have u672 := (m624.ext e663)
  have u673 := (m623.ext e663)
  have u674 := (m622.ext e663)
  have u675 := (m621.ext e663)
  obtain ⟨H667, q668, e669, r670⟩ := Row.store (P := Tryd.prog) (t := 31) (p := 0) e663.wf r665 (.agg #[.slice a646 n647 c648, .slice a649 n650 c651, .slice a652 n653 c654, .slice a655 n656 c657, .slice a658 n659 c660]) [.slice a646 n647 c648, .slice a649 n650 c651, .slice a652 n653 c654, .slice a655 n656 c657, .slice a658 n659 c660] (by kernel_rfl) (by kernel_rfl) (one_cons (u675.one1) (one_cons (u674.one1) (one_cons (u673.one1) (one_cons (u672.one1) (one_cons (u671.one1) (one_nil)))))) (Nat.le_of_ble_eq_true (by kernel_rfl)) [.slice a646 n647 c648, .slice a649 n650 c651, .slice a652 n653 c654, .slice a655 n656 c657, .slice a658 n659 c660] (by kernel_rfl)
  refine s_ek (undef) (by kernel_rfl) (map_ok q668) ?_
  refine s_nil ?_
  refine k605 _ _ ?_
  refine w_seqk fun K676 k676 => ?_
  refine w_reg (by kernel_rfl) ?_
  refine s_qk (.pointer (some ⟨b661, 1, none⟩)) (by kernel_rfl) ?_
  refine s_ql (.slice a649 n650 c651) (x := aLoad Tryd.prog 28 (.pointer (some ⟨b661, 1, none⟩)) H667) (by kernel_rfl) (r670.ld (by kernel_rfl)) ?_
  obtain ⟨g677, r678⟩ := G_some r608
  have u679 := (u674.fr e669 (hb664.djn m622.lt))
  refine s_ql (elp (.slice a649 n650 c651) 1 (1 : Int).toNat 0) (x := aIndexAddr Tryd.prog 28 (.slice a649 n650 c651) (.int .i64 1)) (by kernel_rfl) (u679.sq.idxb (by kernel_rfl) (by decide) g677) ?_
  obtain ⟨H680, q681, e682, hm683⟩ := Ow.store (P := Tryd.prog) (t := 34) (off := 0) e669.wf u679 (by decide) g677 (.int .u32 3) [.int .u32 3] (by kernel_rfl) (by kernel_rfl) rfl 3 (Nat.le_of_ble_eq_true rfl) (by kernel_rfl)
  refine s_ek (undef) (by kernel_rfl) (map_ok q681) ?_
  refine s_nil ?_
  refine k676 _ _ ?_
  refine w_seqk fun K684 k684 => ?_
  refine w_reg (by kernel_rfl) ?_
  obtain ⟨y685, hy686, r687⟩ := bind_some r678
  refine s_ck 6 #[] (by kernel_rfl) (c_viaductref10_Three e682.wf hy686) ?_
  rintro _ H698 ⟨s688, f689, s690, f691, s692, f693, s694, f695, s696, f697, rfl, e699, m700, m701, m702, m703, m704, i705, i706, i707, i708, i709, d710, d711, d712, d713, d714, d715, d716, d717, d718, d719⟩
  obtain ⟨a725, n726, c727, rfl⟩ := m700.form
  obtain ⟨a728, n729, c730, rfl⟩ := m701.form
  obtain ⟨a731, n732, c733, rfl⟩ := m702.form
  obtain ⟨a734, n735, c736, rfl⟩ := m703.form
  obtain ⟨a737, n738, c739, rfl⟩ := m704.form
  refine s_rwk e699.wf [.slice none 0 0, .slice none 0 0, .slice none 0 0, .slice none 0 0, .slice none 0 0] (by kernel_rfl) fun b740 H741 e742 hb743 r744 => ?_
  have u750 := (m704.ext e742)
  have u751 := (m703.ext e742)
  have u752 := (m702.ext e742)
  have u753 := (m701.ext e742)
  have u754 := (m700.ext e742)
  obtain ⟨H746, q747, e748, r749⟩ := Row.store (P := Tryd.prog) (t := 31) (p := 0) e742.wf r744 (.agg #[.slice a725 n726 c727, .slice a728 n729 c730, .slice a731 n732 c733, .slice a734 n735 c736, .slice a737 n738 c739]) [.slice a725 n726 c727, .slice a728 n729 c730, .slice a731 n732 c733, .slice a734 n735 c736, .slice a737 n738 c739] (by kernel_rfl) (by kernel_rfl) (one_cons (u754.one1) (one_cons (u753.one1) (one_cons (u752.one1) (one_cons (u751.one1) (one_cons (u750.one1) (one_nil)))))) (Nat.le_of_ble_eq_true (by kernel_rfl)) [.slice a725 n726 c727, .slice a728 n729 c730, .slice a731 n732 c733, .slice a734 n735 c736, .slice a737 n738 c739] (by kernel_rfl)
  refine s_ek (undef) (by kernel_rfl) (map_ok q747) ?_
  refine s_nil ?_
  refine k684 _ _ ?_
  refine w_seqk fun K755 k755 => ?_
  refine w_reg (by kernel_rfl) ?_
  refine s_qk (.pointer (some ⟨b740, 3, none⟩)) (by kernel_rfl) ?_
  refine s_ql (.slice a734 n735 c736) (x := aLoad Tryd.prog 28 (.pointer (some ⟨b740, 3, none⟩)) H746) (by kernel_rfl) (r749.ld (by kernel_rfl)) ?_
  obtain ⟨g756, r757⟩ := G_some r687
  have u758 := (u751.fr e748 (hb743.djn m703.lt))
  refine s_ql (elp (.slice a734 n735 c736) 1 (0 : Int).toNat 0) (x := aIndexAddr Tryd.prog 28 (.slice a734 n735 c736) (.int .i64 0)) (by kernel_rfl) (u758.sq.idxb (by kernel_rfl) (by decide) g756) ?_
  obtain ⟨H759, q760, e761, hm762⟩ := Ow.store (P := Tryd.prog) (t := 34) (off := 0) e748.wf u758 (by decide) g756 (.int .u32 1) [.int .u32 1] (by kernel_rfl) (by kernel_rfl) rfl 1 (Nat.le_of_ble_eq_true rfl) (by kernel_rfl)
  refine s_ek (undef) (by kernel_rfl) (map_ok q760) ?_
  refine s_nil ?_
  refine k755 _ _ ?_
  refine w_seqk fun K763 k763 => ?_
  refine w_seqk fun K764 k764 => ?_
  obtain ⟨o765, hx766, r767⟩ := bind_some r757
  refine w_mid (fun α H768 => Has α [(1, .pointer (some ⟨b23, 0, none⟩)), (2, .pointer (some ⟨b29, 0, none⟩)), (3, .pointer (some ⟨b101, 0, none⟩)), (146, .bool o765)] ∧ FrS [] H759 H768) (fun K770 k770 => ?_) (fun α H768 hM => ?_)
  ·refine w_draw [0, 2, 1, 3, 4, 5, 6, 8, 7, 9, 10, 11, 12, 13, 15, 14, 16, 17, 18, 19, 22, 20, 21, 23, 24, 25, 26, 27, 28, 29, 30, 31, 32, 33, 35, 34, 36, 37, 38, 39, 40, 42, 41, 43, 44, 45, 46, 47, 49, 48, 50, 51, 52, 53, 54, 55, 56, 57, 58, 59, 60, 61, 62, 63, 64] (by kernel_rfl) ?_
   have c772 := (FrS.step e376.wf (FrS.step e376.wf (FrS.step e376.wf ((FrS.step e376.wf (FrS.step e376.wf (FrS.step e376.wf ((FrS.refl (W := []) e376.wf).extR e419) e425 (hb420.fresh (Nat.le_refl _))) e445 (hb420.fresh (Nat.le_refl _))) e462 Inn.nil).extR e505) e511 (hb506.fresh (ntr (ntr (ntr e419.next e425.next) e445.next) e462.next))) e524 (i470.fresh (ntr (ntr e419.next e425.next) e445.next))) e541 Inn.nil)
   have n773 := (ntr (ntr (ntr (ntr (ntr (ntr (ntr e103.next e109.next) e122.next) e139.next) e182.next) e188.next) e201.next) e218.next)
   have n774 := (ntr (ntr (ntr (ntr (ntr (ntr (ntr e261.next e267.next) e280.next) e297.next) e340.next) e346.next) e359.next) e376.next)
   have n775 := (ntr (ntr (ntr (ntr (ntr (ntr (ntr e419.next e425.next) e445.next) e462.next) e505.next) e511.next) e524.next) e541.next)
   have n776 := (ntr (ntr (ntr (ntr (ntr (ntr (ntr e584.next e590.next) e603.next) e620.next) e663.next) e669.next) e682.next) e699.next)
   have u777 := (((((((((((((((((((((((((((((r43.frS e60 Dj.nil_l).ext e103).frS e109 (hb104.djn (r33.ltF.le (ntr (ntr e37.next e42.next) e60.next)))).frS e122 (i68.djn (r33.ltF.le (ntr e37.next e42.next)))).frS e139 Dj.nil_l).ext e182).frS e188 (hb183.djn (r33.ltF.le (ntr (ntr (ntr (ntr (ntr (ntr e37.next e42.next) e60.next) e103.next) e109.next) e122.next) e139.next)))).frS e201 (i147.djn (r33.ltF.le (ntr (ntr (ntr (ntr (ntr e37.next e42.next) e60.next) e103.next) e109.next) e122.next)))).frS e218 Dj.nil_l).ext e261).frS e267 (hb262.djn (r33.ltF.le (ntr (ntr (ntr (ntr (ntr (ntr (ntr (ntr (ntr (ntr e37.next e42.next) e60.next) e103.next) e109.next) e122.next) e139.next) e182.next) e188.next) e201.next) e218.next)))).frS e280 (i226.djn (r33.ltF.le (ntr (ntr (ntr (ntr (ntr (ntr (ntr (ntr (ntr e37.next e42.next) e60.next) e103.next) e109.next) e122.next) e139.next) e182.next) e188.next) e201.next)))).frS e297 Dj.nil_l).ext e340).frS e346 (hb341.djn (r33.ltF.le (ntr (ntr (ntr (ntr (ntr (ntr (ntr (ntr (ntr (ntr (ntr (ntr (ntr (ntr e37.next e42.next) e60.next) e103.next) e109.next) e122.next) e139.next) e182.next) e188.next) e201.next) e218.next) e261.next) e267.next) e280.next) e297.next)))).frS e359 (i303.djn (r33.ltF.le (ntr (ntr (ntr (ntr (ntr (ntr (ntr (ntr (ntr (ntr (ntr (ntr (ntr e37.next e42.next) e60.next) e103.next) e109.next) e122.next) e139.next) e182.next) e188.next) e201.next) e218.next) e261.next) e267.next) e280.next)))).frS e376 Dj.nil_l).frS c772 Dj.nil_l).ext e584).frS e590 (hb585.djn (r33.ltF.le (ntr (ntr (ntr (ntr (ntr e37.next e42.next) e60.next) n773) n774) n775)))).frS e603 (i549.djn (r33.ltF.le (ntr (ntr (ntr (ntr (ntr (ntr (ntr (ntr (ntr (ntr (ntr e37.next e42.next) e60.next) n773) n774) e419.next) e425.next) e445.next) e462.next) e505.next) e511.next) e524.next)))).frS e620 Dj.nil_l).ext e663).frS e669 (hb664.djn (r33.ltF.le (ntr (ntr (ntr (ntr (ntr (ntr (ntr (ntr (ntr e37.next e42.next) e60.next) n773) n774) n775) e584.next) e590.next) e603.next) e620.next)))).frS e682 (i627.djn (r33.ltF.le (ntr (ntr (ntr (ntr (ntr (ntr (ntr (ntr e37.next e42.next) e60.next) n773) n774) n775) e584.next) e590.next) e603.next)))).frS e699 Dj.nil_l).ext e742).frS e748 (hb743.djn (r33.ltF.le (ntr (ntr (ntr (ntr (ntr (ntr e37.next e42.next) e60.next) n773) n774) n775) n776)))).frS e761 (i708.djn (r33.ltF.le (ntr (ntr (ntr (ntr (ntr (ntr (ntr (ntr (ntr (ntr (ntr (ntr e37.next e42.next) e60.next) n773) n774) n775) e584.next) e590.next) e603.next) e620.next) e663.next) e669.next) e682.next))))
   refine d_ql (.agg #[.int .i64 y18, .slice none 0 0]) (x := aLoad Tryd.prog 25 (.pointer (some ⟨b29, 0, none⟩)) H759) (by kernel_rfl) (u777.ld (by kernel_rfl)) ?_
   have u778 := ((((((((((((((((((((((((((r110.frS e122 (Dj.symm (hb104.djn m63.lt))).frS e139 Dj.nil_l).ext e182).frS e188 (hb183.djn (r105.ltF.le (ntr (ntr e109.next e122.next) e139.next)))).frS e201 (i147.djn (r105.ltF.le (ntr e109.next e122.next)))).frS e218 Dj.nil_l).ext e261).frS e267 (hb262.djn (r105.ltF.le (ntr (ntr (ntr (ntr (ntr (ntr e109.next e122.next) e139.next) e182.next) e188.next) e201.next) e218.next)))).frS e280 (i226.djn (r105.ltF.le (ntr (ntr (ntr (ntr (ntr e109.next e122.next) e139.next) e182.next) e188.next) e201.next)))).frS e297 Dj.nil_l).ext e340).frS e346 (hb341.djn (r105.ltF.le (ntr (ntr (ntr (ntr (ntr (ntr (ntr (ntr (ntr (ntr e109.next e122.next) e139.next) e182.next) e188.next) e201.next) e218.next) e261.next) e267.next) e280.next) e297.next)))).frS e359 (i303.djn (r105.ltF.le (ntr (ntr (ntr (ntr (ntr (ntr (ntr (ntr (ntr e109.next e122.next) e139.next) e182.next) e188.next) e201.next) e218.next) e261.next) e267.next) e280.next)))).frS e376 Dj.nil_l).frS c772 Dj.nil_l).ext e584).frS e590 (hb585.djn (r105.ltF.le (ntr (ntr (ntr (ntr (ntr (ntr (ntr (ntr e109.next e122.next) e139.next) e182.next) e188.next) e201.next) e218.next) n774) n775)))).frS e603 (i549.djn (r105.ltF.le (ntr (ntr (ntr (ntr (ntr (ntr (ntr (ntr (ntr (ntr (ntr (ntr (ntr (ntr e109.next e122.next) e139.next) e182.next) e188.next) e201.next) e218.next) n774) e419.next) e425.next) e445.next) e462.next) e505.next) e511.next) e524.next)))).frS e620 Dj.nil_l).ext e663).frS e669 (hb664.djn (r105.ltF.le (ntr (ntr (ntr (ntr (ntr (ntr (ntr (ntr (ntr (ntr (ntr (ntr e109.next e122.next) e139.next) e182.next) e188.next) e201.next) e218.next) n774) n775) e584.next) e590.next) e603.next) e620.next)))).frS e682 (i627.djn (r105.ltF.le (ntr (ntr (ntr (ntr (ntr (ntr (ntr (ntr (ntr (ntr (ntr e109.next e122.next) e139.next) e182.next) e188.next) e201.next) e218.next) n774) n775) e584.next) e590.next) e603.next)))).frS e699 Dj.nil_l).ext e742).frS e748 (hb743.djn (r105.ltF.le (ntr (ntr (ntr (ntr (ntr (ntr (ntr (ntr (ntr e109.next e122.next) e139.next) e182.next) e188.next) e201.next) e218.next) n774) n775) n776)))).frS e761 (i708.djn (r105.ltF.le (ntr (ntr (ntr (ntr (ntr (ntr (ntr (ntr (ntr (ntr (ntr (ntr (ntr (ntr (ntr e109.next e122.next) e139.next) e182.next) e188.next) e201.next) e218.next) n774) n775) e584.next) e590.next) e603.next) e620.next) e663.next) e669.next) e682.next))))
   refine d_fl (.agg #[.slice a86 n87 c88, .slice a89 n90 c91, .slice a92 n93 c94, .slice a95 n96 c97, .slice a98 n99 c100]) (x := aLoad Tryd.prog 31 (.pointer (some ⟨b101, 0, none⟩)) H759) (by kernel_rfl) (u778.ld (by kernel_rfl)) ?_
   obtain ⟨y779, hy780, r781⟩ := bind_some hx766
   refine d_ck 8 #[.int .i64 4, .int .i64 1, .agg #[.int .i64 y18, .slice none 0 0]] (by kernel_rfl) (c_viaductref01_At e761.wf (Sq.nil (enc := enc_i64_i64) (sz := 2) (by decide)) hy780) ?_
   rintro _ H784 ⟨s782, f783, rfl, e785, m786, i787⟩
   obtain ⟨a789, n790, c791, rfl⟩ := m786.form
   have u792 := (u778.frS e785 Dj.nil_l)
   refine ⟨st_ql (y := aLoad Tryd.prog 31 (.pointer (some ⟨b101, 0, none⟩)) H784) (by kernel_rfl) (u792.ld (by kernel_rfl)) (st_nil), ?_⟩
   have u793 := ((((((((((((((((((((((((((((u115.fr e109 (hb104.djn m61.lt)).fr e122 (Dj.symm d72)).fr e139 Dj.nil_l).ext e182).fr e188 (hb183.djn (m61.lt.le (ntr (ntr (ntr e103.next e109.next) e122.next) e139.next)))).fr e201 (i147.djn (m61.lt.le (ntr (ntr e103.next e109.next) e122.next)))).fr e218 Dj.nil_l).ext e261).fr e267 (hb262.djn (m61.lt.le (ntr (ntr (ntr (ntr (ntr (ntr (ntr e103.next e109.next) e122.next) e139.next) e182.next) e188.next) e201.next) e218.next)))).fr e280 (i226.djn (m61.lt.le (ntr (ntr (ntr (ntr (ntr (ntr e103.next e109.next) e122.next) e139.next) e182.next) e188.next) e201.next)))).fr e297 Dj.nil_l).ext e340).fr e346 (hb341.djn (m61.lt.le (ntr (ntr (ntr (ntr (ntr (ntr (ntr (ntr (ntr (ntr (ntr e103.next e109.next) e122.next) e139.next) e182.next) e188.next) e201.next) e218.next) e261.next) e267.next) e280.next) e297.next)))).fr e359 (i303.djn (m61.lt.le (ntr (ntr (ntr (ntr (ntr (ntr (ntr (ntr (ntr (ntr e103.next e109.next) e122.next) e139.next) e182.next) e188.next) e201.next) e218.next) e261.next) e267.next) e280.next)))).fr e376 Dj.nil_l).fr c772 Dj.nil_l).ext e584).fr e590 (hb585.djn (m61.lt.le (ntr (ntr n773 n774) n775)))).fr e603 (i549.djn (m61.lt.le (ntr (ntr (ntr (ntr (ntr (ntr (ntr (ntr n773 n774) e419.next) e425.next) e445.next) e462.next) e505.next) e511.next) e524.next)))).fr e620 Dj.nil_l).ext e663).fr e669 (hb664.djn (m61.lt.le (ntr (ntr (ntr (ntr (ntr (ntr n773 n774) n775) e584.next) e590.next) e603.next) e620.next)))).fr e682 (i627.djn (m61.lt.le (ntr (ntr (ntr (ntr (ntr n773 n774) n775) e584.next) e590.next) e603.next)))).fr e699 Dj.nil_l).ext e742).fr e748 (hb743.djn (m61.lt.le (ntr (ntr (ntr n773 n774) n775) n776)))).fr e761 (i708.djn (m61.lt.le (ntr (ntr (ntr (ntr (ntr (ntr (ntr (ntr (ntr n773 n774) n775) e584.next) e590.next) e603.next) e620.next) e663.next) e669.next) e682.next)))).fr e785 Dj.nil_l)
   have u794 := ((((((((((((((((((((((((((((u114.fr e109 (hb104.djn m62.lt)).fr e122 (Dj.symm d73)).fr e139 Dj.nil_l).ext e182).fr e188 (hb183.djn (m62.lt.le (ntr (ntr (ntr e103.next e109.next) e122.next) e139.next)))).fr e201 (i147.djn (m62.lt.le (ntr (ntr e103.next e109.next) e122.next)))).fr e218 Dj.nil_l).ext e261).fr e267 (hb262.djn (m62.lt.le (ntr (ntr (ntr (ntr (ntr (ntr (ntr e103.next e109.next) e122.next) e139.next) e182.next) e188.next) e201.next) e218.next)))).fr e280 (i226.djn (m62.lt.le (ntr (ntr (ntr (ntr (ntr (ntr e103.next e109.next) e122.next) e139.next) e182.next) e188.next) e201.next)))).fr e297 Dj.nil_l).ext e340).fr e346 (hb341.djn (m62.lt.le (ntr (ntr (ntr (ntr (ntr (ntr (ntr (ntr (ntr (ntr (ntr e103.next e109.next) e122.next) e139.next) e182.next) e188.next) e201.next) e218.next) e261.next) e267.next) e280.next) e297.next)))).fr e359 (i303.djn (m62.lt.le (ntr (ntr (ntr (ntr (ntr (ntr (ntr (ntr (ntr (ntr e103.next e109.next) e122.next) e139.next) e182.next) e188.next) e201.next) e218.next) e261.next) e267.next) e280.next)))).fr e376 Dj.nil_l).fr c772 Dj.nil_l).ext e584).fr e590 (hb585.djn (m62.lt.le (ntr (ntr n773 n774) n775)))).fr e603 (i549.djn (m62.lt.le (ntr (ntr (ntr (ntr (ntr (ntr (ntr (ntr n773 n774) e419.next) e425.next) e445.next) e462.next) e505.next) e511.next) e524.next)))).fr e620 Dj.nil_l).ext e663).fr e669 (hb664.djn (m62.lt.le (ntr (ntr (ntr (ntr (ntr (ntr n773 n774) n775) e584.next) e590.next) e603.next) e620.next)))).fr e682 (i627.djn (m62.lt.le (ntr (ntr (ntr (ntr (ntr n773 n774) n775) e584.next) e590.next) e603.next)))).fr e699 Dj.nil_l).ext e742).fr e748 (hb743.djn (m62.lt.le (ntr (ntr (ntr n773 n774) n775) n776)))).fr e761 (i708.djn (m62.lt.le (ntr (ntr (ntr (ntr (ntr (ntr (ntr (ntr (ntr n773 n774) n775) e584.next) e590.next) e603.next) e620.next) e663.next) e669.next) e682.next)))).fr e785 Dj.nil_l)
   have u795 := ((((((((((((((((((((((((((hm123.fr e139 Dj.nil_l).ext e182).fr e188 (hb183.djn (m63.lt.le (ntr (ntr (ntr e103.next e109.next) e122.next) e139.next)))).fr e201 (i147.djn (m63.lt.le (ntr (ntr e103.next e109.next) e122.next)))).fr e218 Dj.nil_l).ext e261).fr e267 (hb262.djn (m63.lt.le (ntr (ntr (ntr (ntr (ntr (ntr (ntr e103.next e109.next) e122.next) e139.next) e182.next) e188.next) e201.next) e218.next)))).fr e280 (i226.djn (m63.lt.le (ntr (ntr (ntr (ntr (ntr (ntr e103.next e109.next) e122.next) e139.next) e182.next) e188.next) e201.next)))).fr e297 Dj.nil_l).ext e340).fr e346 (hb341.djn (m63.lt.le (ntr (ntr (ntr (ntr (ntr (ntr (ntr (ntr (ntr (ntr (ntr e103.next e109.next) e122.next) e139.next) e182.next) e188.next) e201.next) e218.next) e261.next) e267.next) e280.next) e297.next)))).fr e359 (i303.djn (m63.lt.le (ntr (ntr (ntr (ntr (ntr (ntr (ntr (ntr (ntr (ntr e103.next e109.next) e122.next) e139.next) e182.next) e188.next) e201.next) e218.next) e261.next) e267.next) e280.next)))).fr e376 Dj.nil_l).fr c772 Dj.nil_l).ext e584).fr e590 (hb585.djn (m63.lt.le (ntr (ntr n773 n774) n775)))).fr e603 (i549.djn (m63.lt.le (ntr (ntr (ntr (ntr (ntr (ntr (ntr (ntr n773 n774) e419.next) e425.next) e445.next) e462.next) e505.next) e511.next) e524.next)))).fr e620 Dj.nil_l).ext e663).fr e669 (hb664.djn (m63.lt.le (ntr (ntr (ntr (ntr (ntr (ntr n773 n774) n775) e584.next) e590.next) e603.next) e620.next)))).fr e682 (i627.djn (m63.lt.le (ntr (ntr (ntr (ntr (ntr n773 n774) n775) e584.next) e590.next) e603.next)))).fr e699 Dj.nil_l).ext e742).fr e748 (hb743.djn (m63.lt.le (ntr (ntr (ntr n773 n774) n775) n776)))).fr e761 (i708.djn (m63.lt.le (ntr (ntr (ntr (ntr (ntr (ntr (ntr (ntr (ntr n773 n774) n775) e584.next) e590.next) e603.next) e620.next) e663.next) e669.next) e682.next)))).fr e785 Dj.nil_l)
   have u796 := ((((((((((((((((((((((((((((u112.fr e109 (hb104.djn m64.lt)).fr e122 d76).fr e139 Dj.nil_l).ext e182).fr e188 (hb183.djn (m64.lt.le (ntr (ntr (ntr e103.next e109.next) e122.next) e139.next)))).fr e201 (i147.djn (m64.lt.le (ntr (ntr e103.next e109.next) e122.next)))).fr e218 Dj.nil_l).ext e261).fr e267 (hb262.djn (m64.lt.le (ntr (ntr (ntr (ntr (ntr (ntr (ntr e103.next e109.next) e122.next) e139.next) e182.next) e188.next) e201.next) e218.next)))).fr e280 (i226.djn (m64.lt.le (ntr (ntr (ntr (ntr (ntr (ntr e103.next e109.next) e122.next) e139.next) e182.next) e188.next) e201.next)))).fr e297 Dj.nil_l).ext e340).fr e346 (hb341.djn (m64.lt.le (ntr (ntr (ntr (ntr (ntr (ntr (ntr (ntr (ntr (ntr (ntr e103.next e109.next) e122.next) e139.next) e182.next) e188.next) e201.next) e218.next) e261.next) e267.next) e280.next) e297.next)))).fr e359 (i303.djn (m64.lt.le (ntr (ntr (ntr (ntr (ntr (ntr (ntr (ntr (ntr (ntr e103.next e109.next) e122.next) e139.next) e182.next) e188.next) e201.next) e218.next) e261.next) e267.next) e280.next)))).fr e376 Dj.nil_l).fr c772 Dj.nil_l).ext e584).fr e590 (hb585.djn (m64.lt.le (ntr (ntr n773 n774) n775)))).fr e603 (i549.djn (m64.lt.le (ntr (ntr (ntr (ntr (ntr (ntr (ntr (ntr n773 n774) e419.next) e425.next) e445.next) e462.next) e505.next) e511.next) e524.next)))).fr e620 Dj.nil_l).ext e663).fr e669 (hb664.djn (m64.lt.le (ntr (ntr (ntr (ntr (ntr (ntr n773 n774) n775) e584.next) e590.next) e603.next) e620.next)))).fr e682 (i627.djn (m64.lt.le (ntr (ntr (ntr (ntr (ntr n773 n774) n775) e584.next) e590.next) e603.next)))).fr e699 Dj.nil_l).ext e742).fr e748 (hb743.djn (m64.lt.le (ntr (ntr (ntr n773 n774) n775) n776)))).fr e761 (i708.djn (m64.lt.le (ntr (ntr (ntr (ntr (ntr (ntr (ntr (ntr (ntr n773 n774) n775) e584.next) e590.next) e603.next) e620.next) e663.next) e669.next) e682.next)))).fr e785 Dj.nil_l)
   have u797 := ((((((((((((((((((((((((((((u111.fr e109 (hb104.djn m65.lt)).fr e122 d79).fr e139 Dj.nil_l).ext e182).fr e188 (hb183.djn (m65.lt.le (ntr (ntr (ntr e103.next e109.next) e122.next) e139.next)))).fr e201 (i147.djn (m65.lt.le (ntr (ntr e103.next e109.next) e122.next)))).fr e218 Dj.nil_l).ext e261).fr e267 (hb262.djn (m65.lt.le (ntr (ntr (ntr (ntr (ntr (ntr (ntr e103.next e109.next) e122.next) e139.next) e182.next) e188.next) e201.next) e218.next)))).fr e280 (i226.djn (m65.lt.le (ntr (ntr (ntr (ntr (ntr (ntr e103.next e109.next) e122.next) e139.next) e182.next) e188.next) e201.next)))).fr e297 Dj.nil_l).ext e340).fr e346 (hb341.djn (m65.lt.le (ntr (ntr (ntr (ntr (ntr (ntr (ntr (ntr (ntr (ntr (ntr e103.next e109.next) e122.next) e139.next) e182.next) e188.next) e201.next) e218.next) e261.next) e267.next) e280.next) e297.next)))).fr e359 (i303.djn (m65.lt.le (ntr (ntr (ntr (ntr (ntr (ntr (ntr (ntr (ntr (ntr e103.next e109.next) e122.next) e139.next) e182.next) e188.next) e201.next) e218.next) e261.next) e267.next) e280.next)))).fr e376 Dj.nil_l).fr c772 Dj.nil_l).ext e584).fr e590 (hb585.djn (m65.lt.le (ntr (ntr n773 n774) n775)))).fr e603 (i549.djn (m65.lt.le (ntr (ntr (ntr (ntr (ntr (ntr (ntr (ntr n773 n774) e419.next) e425.next) e445.next) e462.next) e505.next) e511.next) e524.next)))).fr e620 Dj.nil_l).ext e663).fr e669 (hb664.djn (m65.lt.le (ntr (ntr (ntr (ntr (ntr (ntr n773 n774) n775) e584.next) e590.next) e603.next) e620.next)))).fr e682 (i627.djn (m65.lt.le (ntr (ntr (ntr (ntr (ntr n773 n774) n775) e584.next) e590.next) e603.next)))).fr e699 Dj.nil_l).ext e742).fr e748 (hb743.djn (m65.lt.le (ntr (ntr (ntr n773 n774) n775) n776)))).fr e761 (i708.djn (m65.lt.le (ntr (ntr (ntr (ntr (ntr (ntr (ntr (ntr (ntr n773 n774) n775) e584.next) e590.next) e603.next) e620.next) e663.next) e669.next) e682.next)))).fr e785 Dj.nil_l)
   obtain ⟨y798, hy799, r800⟩ := bind_some r781
   refine d_ck 7 #[.agg #[.int .i64 y779.1, .slice a789 n790 c791], .agg #[.slice a86 n87 c88, .slice a89 n90 c91, .slice a92 n93 c94, .slice a95 n96 c97, .slice a98 n99 c100]] (by kernel_rfl) (c_viaductlaw10_bad e785.wf m786.sq u793.sq u794.sq u795.sq u796.sq u797.sq hy799) ?_
   rintro _ H801 ⟨rfl, e802⟩
   refine ⟨st_anc (by kernel_rfl) (st_nil), ?_⟩
   by_cases h803 : y798 = true
   ·have r804 := ite_t h803 r800
    rw [h803]
    refine d_qk (.bool false) (by kernel_rfl) ?_
    refine d_qk (.bool false) (by kernel_rfl) ?_
    have u806 := ((((((((((((((((((((((((((((((((r38.frS e42 (hb32.djn r27.ltF)).frS e60 Dj.nil_l).ext e103).frS e109 (hb104.djn (r27.ltF.le (ntr (ntr (ntr e31.next e37.next) e42.next) e60.next)))).frS e122 (i68.djn (r27.ltF.le (ntr (ntr e31.next e37.next) e42.next)))).frS e139 Dj.nil_l).ext e182).frS e188 (hb183.djn (r27.ltF.le (ntr (ntr (ntr (ntr (ntr (ntr (ntr e31.next e37.next) e42.next) e60.next) e103.next) e109.next) e122.next) e139.next)))).frS e201 (i147.djn (r27.ltF.le (ntr (ntr (ntr (ntr (ntr (ntr e31.next e37.next) e42.next) e60.next) e103.next) e109.next) e122.next)))).frS e218 Dj.nil_l).ext e261).frS e267 (hb262.djn (r27.ltF.le (ntr (ntr (ntr (ntr (ntr (ntr (ntr (ntr (ntr (ntr (ntr e31.next e37.next) e42.next) e60.next) e103.next) e109.next) e122.next) e139.next) e182.next) e188.next) e201.next) e218.next)))).frS e280 (i226.djn (r27.ltF.le (ntr (ntr (ntr (ntr (ntr (ntr (ntr (ntr (ntr (ntr e31.next e37.next) e42.next) e60.next) e103.next) e109.next) e122.next) e139.next) e182.next) e188.next) e201.next)))).frS e297 Dj.nil_l).ext e340).frS e346 (hb341.djn (r27.ltF.le (ntr (ntr (ntr (ntr (ntr (ntr (ntr (ntr e31.next e37.next) e42.next) e60.next) n773) e261.next) e267.next) e280.next) e297.next)))).frS e359 (i303.djn (r27.ltF.le (ntr (ntr (ntr (ntr (ntr (ntr (ntr (ntr (ntr (ntr (ntr (ntr (ntr (ntr e31.next e37.next) e42.next) e60.next) e103.next) e109.next) e122.next) e139.next) e182.next) e188.next) e201.next) e218.next) e261.next) e267.next) e280.next)))).frS e376 Dj.nil_l).frS c772 Dj.nil_l).ext e584).frS e590 (hb585.djn (r27.ltF.le (ntr (ntr (ntr (ntr (ntr (ntr e31.next e37.next) e42.next) e60.next) n773) n774) n775)))).frS e603 (i549.djn (r27.ltF.le (ntr (ntr (ntr (ntr (ntr (ntr (ntr (ntr (ntr (ntr (ntr (ntr e31.next e37.next) e42.next) e60.next) n773) n774) e419.next) e425.next) e445.next) e462.next) e505.next) e511.next) e524.next)))).frS e620 Dj.nil_l).ext e663).frS e669 (hb664.djn (r27.ltF.le (ntr (ntr (ntr (ntr (ntr (ntr (ntr (ntr (ntr (ntr e31.next e37.next) e42.next) e60.next) n773) n774) n775) e584.next) e590.next) e603.next) e620.next)))).frS e682 (i627.djn (r27.ltF.le (ntr (ntr (ntr (ntr (ntr (ntr (ntr (ntr (ntr e31.next e37.next) e42.next) e60.next) n773) n774) n775) e584.next) e590.next) e603.next)))).frS e699 Dj.nil_l).ext e742).frS e748 (hb743.djn (r27.ltF.le (ntr (ntr (ntr (ntr (ntr (ntr (ntr e31.next e37.next) e42.next) e60.next) n773) n774) n775) n776)))).frS e761 (i708.djn (r27.ltF.le (ntr (ntr (ntr (ntr (ntr (ntr (ntr (ntr (ntr (ntr (ntr (ntr (ntr e31.next e37.next) e42.next) e60.next) n773) n774) n775) e584.next) e590.next) e603.next) e620.next) e663.next) e669.next) e682.next)))).frS e785 Dj.nil_l).frS e802 Dj.nil_l)
    refine d_ql (.agg #[.int .i64 y13, .slice none 0 0]) (x := aLoad Tryd.prog 25 (.pointer (some ⟨b23, 0, none⟩)) H801) (by kernel_rfl) (u806.ld (by kernel_rfl)) ?_
    have u807 := ((((((((((((((((((((((((r189.frS e201 (Dj.symm (hb183.djn m142.lt))).frS e218 Dj.nil_l).ext e261).frS e267 (hb262.djn (r184.ltF.le (ntr (ntr e188.next e201.next) e218.next)))).frS e280 (i226.djn (r184.ltF.le (ntr e188.next e201.next)))).frS e297 Dj.nil_l).ext e340).frS e346 (hb341.djn (r184.ltF.le (ntr (ntr (ntr (ntr (ntr (ntr e188.next e201.next) e218.next) e261.next) e267.next) e280.next) e297.next)))).frS e359 (i303.djn (r184.ltF.le (ntr (ntr (ntr (ntr (ntr e188.next e201.next) e218.next) e261.next) e267.next) e280.next)))).frS e376 Dj.nil_l).frS c772 Dj.nil_l).ext e584).frS e590 (hb585.djn (r184.ltF.le (ntr (ntr (ntr (ntr e188.next e201.next) e218.next) n774) n775)))).frS e603 (i549.djn (r184.ltF.le (ntr (ntr (ntr (ntr (ntr (ntr (ntr (ntr (ntr (ntr e188.next e201.next) e218.next) n774) e419.next) e425.next) e445.next) e462.next) e505.next) e511.next) e524.next)))).frS e620 Dj.nil_l).ext e663).frS e669 (hb664.djn (r184.ltF.le (ntr (ntr (ntr (ntr (ntr (ntr (ntr (ntr e188.next e201.next) e218.next) n774) n775) e584.next) e590.next) e603.next) e620.next)))).frS e682 (i627.djn (r184.ltF.le (ntr (ntr (ntr (ntr (ntr (ntr (ntr e188.next e201.next) e218.next) n774) n775) e584.next) e590.next) e603.next)))).frS e699 Dj.nil_l).ext e742).frS e748 (hb743.djn (r184.ltF.le (ntr (ntr (ntr (ntr (ntr e188.next e201.next) e218.next) n774) n775) n776)))).frS e761 (i708.djn (r184.ltF.le (ntr (ntr (ntr (ntr (ntr (ntr (ntr (ntr (ntr (ntr (ntr e188.next e201.next) e218.next) n774) n775) e584.next) e590.next) e603.next) e620.next) e663.next) e669.next) e682.next)))).frS e785 Dj.nil_l).frS e802 Dj.nil_l)
    refine d_fl (.agg #[.slice a165 n166 c167, .slice a168 n169 c170, .slice a171 n172 c173, .slice a174 n175 c176, .slice a177 n178 c179]) (x := aLoad Tryd.prog 31 (.pointer (some ⟨b180, 0, none⟩)) H801) (by kernel_rfl) (u807.ld (by kernel_rfl)) ?_
    obtain ⟨y808, hy809, r810⟩ := bind_some r804
    refine d_ck 8 #[.int .i64 4, .int .i64 1, .agg #[.int .i64 y13, .slice none 0 0]] (by kernel_rfl) (c_viaductref01_At e802.wf (Sq.nil (enc := enc_i64_i64) (sz := 2) (by decide)) hy809) ?_
    rintro _ H813 ⟨s811, f812, rfl, e814, m815, i816⟩
    obtain ⟨a818, n819, c820, rfl⟩ := m815.form
    have u821 := (u807.frS e814 Dj.nil_l)
    refine ⟨st_ql (y := aLoad Tryd.prog 31 (.pointer (some ⟨b180, 0, none⟩)) H813) (by kernel_rfl) (u821.ld (by kernel_rfl)) (st_anc (by kernel_rfl) (st_nil)), ?_⟩
    have u822 := ((((((((((((((((((((((((((u194.fr e188 (hb183.djn m140.lt)).fr e201 (Dj.symm d151)).fr e218 Dj.nil_l).ext e261).fr e267 (hb262.djn (m140.lt.le (ntr (ntr (ntr e182.next e188.next) e201.next) e218.next)))).fr e280 (i226.djn (m140.lt.le (ntr (ntr e182.next e188.next) e201.next)))).fr e297 Dj.nil_l).ext e340).fr e346 (hb341.djn (m140.lt.le (ntr (ntr (ntr (ntr (ntr (ntr (ntr e182.next e188.next) e201.next) e218.next) e261.next) e267.next) e280.next) e297.next)))).fr e359 (i303.djn (m140.lt.le (ntr (ntr (ntr (ntr (ntr (ntr e182.next e188.next) e201.next) e218.next) e261.next) e267.next) e280.next)))).fr e376 Dj.nil_l).fr c772 Dj.nil_l).ext e584).fr e590 (hb585.djn (m140.lt.le (ntr (ntr (ntr (ntr (ntr e182.next e188.next) e201.next) e218.next) n774) n775)))).fr e603 (i549.djn (m140.lt.le (ntr (ntr (ntr (ntr (ntr (ntr (ntr (ntr (ntr (ntr (ntr e182.next e188.next) e201.next) e218.next) n774) e419.next) e425.next) e445.next) e462.next) e505.next) e511.next) e524.next)))).fr e620 Dj.nil_l).ext e663).fr e669 (hb664.djn (m140.lt.le (ntr (ntr (ntr (ntr (ntr (ntr (ntr (ntr (ntr e182.next e188.next) e201.next) e218.next) n774) n775) e584.next) e590.next) e603.next) e620.next)))).fr e682 (i627.djn (m140.lt.le (ntr (ntr (ntr (ntr (ntr (ntr (ntr (ntr e182.next e188.next) e201.next) e218.next) n774) n775) e584.next) e590.next) e603.next)))).fr e699 Dj.nil_l).ext e742).fr e748 (hb743.djn (m140.lt.le (ntr (ntr (ntr (ntr (ntr (ntr e182.next e188.next) e201.next) e218.next) n774) n775) n776)))).fr e761 (i708.djn (m140.lt.le (ntr (ntr (ntr (ntr (ntr (ntr (ntr (ntr (ntr (ntr (ntr (ntr e182.next e188.next) e201.next) e218.next) n774) n775) e584.next) e590.next) e603.next) e620.next) e663.next) e669.next) e682.next)))).fr e785 Dj.nil_l).fr e802 Dj.nil_l).fr e814 Dj.nil_l)
    have u823 := ((((((((((((((((((((((((((u193.fr e188 (hb183.djn m141.lt)).fr e201 (Dj.symm d152)).fr e218 Dj.nil_l).ext e261).fr e267 (hb262.djn (m141.lt.le (ntr (ntr (ntr e182.next e188.next) e201.next) e218.next)))).fr e280 (i226.djn (m141.lt.le (ntr (ntr e182.next e188.next) e201.next)))).fr e297 Dj.nil_l).ext e340).fr e346 (hb341.djn (m141.lt.le (ntr (ntr (ntr (ntr (ntr (ntr (ntr e182.next e188.next) e201.next) e218.next) e261.next) e267.next) e280.next) e297.next)))).fr e359 (i303.djn (m141.lt.le (ntr (ntr (ntr (ntr (ntr (ntr e182.next e188.next) e201.next) e218.next) e261.next) e267.next) e280.next)))).fr e376 Dj.nil_l).fr c772 Dj.nil_l).ext e584).fr e590 (hb585.djn (m141.lt.le (ntr (ntr (ntr (ntr (ntr e182.next e188.next) e201.next) e218.next) n774) n775)))).fr e603 (i549.djn (m141.lt.le (ntr (ntr (ntr (ntr (ntr (ntr (ntr (ntr (ntr (ntr (ntr e182.next e188.next) e201.next) e218.next) n774) e419.next) e425.next) e445.next) e462.next) e505.next) e511.next) e524.next)))).fr e620 Dj.nil_l).ext e663).fr e669 (hb664.djn (m141.lt.le (ntr (ntr (ntr (ntr (ntr (ntr (ntr (ntr (ntr e182.next e188.next) e201.next) e218.next) n774) n775) e584.next) e590.next) e603.next) e620.next)))).fr e682 (i627.djn (m141.lt.le (ntr (ntr (ntr (ntr (ntr (ntr (ntr (ntr e182.next e188.next) e201.next) e218.next) n774) n775) e584.next) e590.next) e603.next)))).fr e699 Dj.nil_l).ext e742).fr e748 (hb743.djn (m141.lt.le (ntr (ntr (ntr (ntr (ntr (ntr e182.next e188.next) e201.next) e218.next) n774) n775) n776)))).fr e761 (i708.djn (m141.lt.le (ntr (ntr (ntr (ntr (ntr (ntr (ntr (ntr (ntr (ntr (ntr (ntr e182.next e188.next) e201.next) e218.next) n774) n775) e584.next) e590.next) e603.next) e620.next) e663.next) e669.next) e682.next)))).fr e785 Dj.nil_l).fr e802 Dj.nil_l).fr e814 Dj.nil_l)
    have u824 := ((((((((((((((((((((((((hm202.fr e218 Dj.nil_l).ext e261).fr e267 (hb262.djn (m142.lt.le (ntr (ntr (ntr e182.next e188.next) e201.next) e218.next)))).fr e280 (i226.djn (m142.lt.le (ntr (ntr e182.next e188.next) e201.next)))).fr e297 Dj.nil_l).ext e340).fr e346 (hb341.djn (m142.lt.le (ntr (ntr (ntr (ntr (ntr (ntr (ntr e182.next e188.next) e201.next) e218.next) e261.next) e267.next) e280.next) e297.next)))).fr e359 (i303.djn (m142.lt.le (ntr (ntr (ntr (ntr (ntr (ntr e182.next e188.next) e201.next) e218.next) e261.next) e267.next) e280.next)))).fr e376 Dj.nil_l).fr c772 Dj.nil_l).ext e584).fr e590 (hb585.djn (m142.lt.le (ntr (ntr (ntr (ntr (ntr e182.next e188.next) e201.next) e218.next) n774) n775)))).fr e603 (i549.djn (m142.lt.le (ntr (ntr (ntr (ntr (ntr (ntr (ntr (ntr (ntr (ntr (ntr e182.next e188.next) e201.next) e218.next) n774) e419.next) e425.next) e445.next) e462.next) e505.next) e511.next) e524.next)))).fr e620 Dj.nil_l).ext e663).fr e669 (hb664.djn (m142.lt.le (ntr (ntr (ntr (ntr (ntr (ntr (ntr (ntr (ntr e182.next e188.next) e201.next) e218.next) n774) n775) e584.next) e590.next) e603.next) e620.next)))).fr e682 (i627.djn (m142.lt.le (ntr (ntr (ntr (ntr (ntr (ntr (ntr (ntr e182.next e188.next) e201.next) e218.next) n774) n775) e584.next) e590.next) e603.next)))).fr e699 Dj.nil_l).ext e742).fr e748 (hb743.djn (m142.lt.le (ntr (ntr (ntr (ntr (ntr (ntr e182.next e188.next) e201.next) e218.next) n774) n775) n776)))).fr e761 (i708.djn (m142.lt.le (ntr (ntr (ntr (ntr (ntr (ntr (ntr (ntr (ntr (ntr (ntr (ntr e182.next e188.next) e201.next) e218.next) n774) n775) e584.next) e590.next) e603.next) e620.next) e663.next) e669.next) e682.next)))).fr e785 Dj.nil_l).fr e802 Dj.nil_l).fr e814 Dj.nil_l)
    have u825 := ((((((((((((((((((((((((((u191.fr e188 (hb183.djn m143.lt)).fr e201 d155).fr e218 Dj.nil_l).ext e261).fr e267 (hb262.djn (m143.lt.le (ntr (ntr (ntr e182.next e188.next) e201.next) e218.next)))).fr e280 (i226.djn (m143.lt.le (ntr (ntr e182.next e188.next) e201.next)))).fr e297 Dj.nil_l).ext e340).fr e346 (hb341.djn (m143.lt.le (ntr (ntr (ntr (ntr (ntr (ntr (ntr e182.next e188.next) e201.next) e218.next) e261.next) e267.next) e280.next) e297.next)))).fr e359 (i303.djn (m143.lt.le (ntr (ntr (ntr (ntr (ntr (ntr e182.next e188.next) e201.next) e218.next) e261.next) e267.next) e280.next)))).fr e376 Dj.nil_l).fr c772 Dj.nil_l).ext e584).fr e590 (hb585.djn (m143.lt.le (ntr (ntr (ntr (ntr (ntr e182.next e188.next) e201.next) e218.next) n774) n775)))).fr e603 (i549.djn (m143.lt.le (ntr (ntr (ntr (ntr (ntr (ntr (ntr (ntr (ntr (ntr (ntr e182.next e188.next) e201.next) e218.next) n774) e419.next) e425.next) e445.next) e462.next) e505.next) e511.next) e524.next)))).fr e620 Dj.nil_l).ext e663).fr e669 (hb664.djn (m143.lt.le (ntr (ntr (ntr (ntr (ntr (ntr (ntr (ntr (ntr e182.next e188.next) e201.next) e218.next) n774) n775) e584.next) e590.next) e603.next) e620.next)))).fr e682 (i627.djn (m143.lt.le (ntr (ntr (ntr (ntr (ntr (ntr (ntr (ntr e182.next e188.next) e201.next) e218.next) n774) n775) e584.next) e590.next) e603.next)))).fr e699 Dj.nil_l).ext e742).fr e748 (hb743.djn (m143.lt.le (ntr (ntr (ntr (ntr (ntr (ntr e182.next e188.next) e201.next) e218.next) n774) n775) n776)))).fr e761 (i708.djn (m143.lt.le (ntr (ntr (ntr (ntr (ntr (ntr (ntr (ntr (ntr (ntr (ntr (ntr e182.next e188.next) e201.next) e218.next) n774) n775) e584.next) e590.next) e603.next) e620.next) e663.next) e669.next) e682.next)))).fr e785 Dj.nil_l).fr e802 Dj.nil_l).fr e814 Dj.nil_l)
    have u826 := ((((((((((((((((((((((((((u190.fr e188 (hb183.djn m144.lt)).fr e201 d158).fr e218 Dj.nil_l).ext e261).fr e267 (hb262.djn (m144.lt.le (ntr (ntr (ntr e182.next e188.next) e201.next) e218.next)))).fr e280 (i226.djn (m144.lt.le (ntr (ntr e182.next e188.next) e201.next)))).fr e297 Dj.nil_l).ext e340).fr e346 (hb341.djn (m144.lt.le (ntr (ntr (ntr (ntr (ntr (ntr (ntr e182.next e188.next) e201.next) e218.next) e261.next) e267.next) e280.next) e297.next)))).fr e359 (i303.djn (m144.lt.le (ntr (ntr (ntr (ntr (ntr (ntr e182.next e188.next) e201.next) e218.next) e261.next) e267.next) e280.next)))).fr e376 Dj.nil_l).fr c772 Dj.nil_l).ext e584).fr e590 (hb585.djn (m144.lt.le (ntr (ntr (ntr (ntr (ntr e182.next e188.next) e201.next) e218.next) n774) n775)))).fr e603 (i549.djn (m144.lt.le (ntr (ntr (ntr (ntr (ntr (ntr (ntr (ntr (ntr (ntr (ntr e182.next e188.next) e201.next) e218.next) n774) e419.next) e425.next) e445.next) e462.next) e505.next) e511.next) e524.next)))).fr e620 Dj.nil_l).ext e663).fr e669 (hb664.djn (m144.lt.le (ntr (ntr (ntr (ntr (ntr (ntr (ntr (ntr (ntr e182.next e188.next) e201.next) e218.next) n774) n775) e584.next) e590.next) e603.next) e620.next)))).fr e682 (i627.djn (m144.lt.le (ntr (ntr (ntr (ntr (ntr (ntr (ntr (ntr e182.next e188.next) e201.next) e218.next) n774) n775) e584.next) e590.next) e603.next)))).fr e699 Dj.nil_l).ext e742).fr e748 (hb743.djn (m144.lt.le (ntr (ntr (ntr (ntr (ntr (ntr e182.next e188.next) e201.next) e218.next) n774) n775) n776)))).fr e761 (i708.djn (m144.lt.le (ntr (ntr (ntr (ntr (ntr (ntr (ntr (ntr (ntr (ntr (ntr (ntr e182.next e188.next) e201.next) e218.next) n774) n775) e584.next) e590.next) e603.next) e620.next) e663.next) e669.next) e682.next)))).fr e785 Dj.nil_l).fr e802 Dj.nil_l).fr e814 Dj.nil_l)
    obtain ⟨y827, hy828, r829⟩ := bind_some r810
    refine d_ck 7 #[.agg #[.int .i64 y808.1, .slice a818 n819 c820], .agg #[.slice a165 n166 c167, .slice a168 n169 c170, .slice a171 n172 c173, .slice a174 n175 c176, .slice a177 n178 c179]] (by kernel_rfl) (c_viaductlaw10_bad e814.wf m815.sq u822.sq u823.sq u824.sq u825.sq u826.sq hy828) ?_
    rintro _ H830 ⟨rfl, e831⟩
    refine ⟨st_anc (by kernel_rfl) (st_anc (by kernel_rfl) (st_nil)), ?_⟩
    by_cases h832 : y827 = true
    ·have r833 := ite_t h832 r829
     rw [h832]
     refine d_qk (.bool false) (by kernel_rfl) ?_
     refine d_qk (.bool false) (by kernel_rfl) ?_
     refine d_qk (.bool false) (by kernel_rfl) ?_
     have u835 := ((u806.frS e814 Dj.nil_l).frS e831 Dj.nil_l)
     refine d_ql (.agg #[.int .i64 y13, .slice none 0 0]) (x := aLoad Tryd.prog 25 (.pointer (some ⟨b23, 0, none⟩)) H830) (by kernel_rfl) (u835.ld (by kernel_rfl)) ?_
     have u836 := ((((((((((((((((((((((r268.frS e280 (Dj.symm (hb262.djn m221.lt))).frS e297 Dj.nil_l).ext e340).frS e346 (hb341.djn (r263.ltF.le (ntr (ntr e267.next e280.next) e297.next)))).frS e359 (i303.djn (r263.ltF.le (ntr e267.next e280.next)))).frS e376 Dj.nil_l).frS c772 Dj.nil_l).ext e584).frS e590 (hb585.djn (r263.ltF.le (ntr (ntr (ntr (ntr (ntr (ntr (ntr (ntr (ntr (ntr (ntr (ntr (ntr (ntr e267.next e280.next) e297.next) e340.next) e346.next) e359.next) e376.next) e419.next) e425.next) e445.next) e462.next) e505.next) e511.next) e524.next) e541.next)))).frS e603 (i549.djn (r263.ltF.le (ntr (ntr (ntr (ntr (ntr (ntr (ntr (ntr (ntr (ntr (ntr (ntr (ntr e267.next e280.next) e297.next) e340.next) e346.next) e359.next) e376.next) e419.next) e425.next) e445.next) e462.next) e505.next) e511.next) e524.next)))).frS e620 Dj.nil_l).ext e663).frS e669 (hb664.djn (r263.ltF.le (ntr (ntr (ntr (ntr (ntr (ntr (ntr (ntr (ntr (ntr (ntr e267.next e280.next) e297.next) e340.next) e346.next) e359.next) e376.next) n775) e584.next) e590.next) e603.next) e620.next)))).frS e682 (i627.djn (r263.ltF.le (ntr (ntr (ntr (ntr (ntr (ntr (ntr (ntr (ntr (ntr e267.next e280.next) e297.next) e340.next) e346.next) e359.next) e376.next) n775) e584.next) e590.next) e603.next)))).frS e699 Dj.nil_l).ext e742).frS e748 (hb743.djn (r263.ltF.le (ntr (ntr (ntr (ntr (ntr (ntr (ntr (ntr e267.next e280.next) e297.next) e340.next) e346.next) e359.next) e376.next) n775) n776)))).frS e761 (i708.djn (r263.ltF.le (ntr (ntr (ntr (ntr (ntr (ntr (ntr (ntr (ntr (ntr (ntr (ntr (ntr (ntr e267.next e280.next) e297.next) e340.next) e346.next) e359.next) e376.next) n775) e584.next) e590.next) e603.next) e620.next) e663.next) e669.next) e682.next)))).frS e785 Dj.nil_l).frS e802 Dj.nil_l).frS e814 Dj.nil_l).frS e831 Dj.nil_l)
     refine d_fl (.agg #[.slice a244 n245 c246, .slice a247 n248 c249, .slice a250 n251 c252, .slice a253 n254 c255, .slice a256 n257 c258]) (x := aLoad Tryd.prog 31 (.pointer (some ⟨b259, 0, none⟩)) H830) (by kernel_rfl) (u836.ld (by kernel_rfl)) ?_
     obtain ⟨y837, hy838, r839⟩ := bind_some r833
     refine d_ck 8 #[.int .i64 4, .int .i64 1, .agg #[.int .i64 y13, .slice none 0 0]] (by kernel_rfl) (c_viaductref01_At e831.wf (Sq.nil (enc := enc_i64_i64) (sz := 2) (by decide)) hy838) ?_
     rintro _ H842 ⟨s840, f841, rfl, e843, m844, i845⟩
     obtain ⟨a847, n848, c849, rfl⟩ := m844.form
     have u850 := (u836.frS e843 Dj.nil_l)
     refine ⟨st_ql (y := aLoad Tryd.prog 31 (.pointer (some ⟨b259, 0, none⟩)) H842) (by kernel_rfl) (u850.ld (by kernel_rfl)) (st_anc (by kernel_rfl) (st_anc (by kernel_rfl) (st_nil))), ?_⟩
     have u851 := ((((((((((((((((((((((((u273.fr e267 (hb262.djn m219.lt)).fr e280 (Dj.symm d230)).fr e297 Dj.nil_l).ext e340).fr e346 (hb341.djn (m219.lt.le (ntr (ntr (ntr e261.next e267.next) e280.next) e297.next)))).fr e359 (i303.djn (m219.lt.le (ntr (ntr e261.next e267.next) e280.next)))).fr e376 Dj.nil_l).fr c772 Dj.nil_l).ext e584).fr e590 (hb585.djn (m219.lt.le (ntr n774 n775)))).fr e603 (i549.djn (m219.lt.le (ntr (ntr (ntr (ntr (ntr (ntr (ntr (ntr (ntr (ntr (ntr (ntr (ntr (ntr e261.next e267.next) e280.next) e297.next) e340.next) e346.next) e359.next) e376.next) e419.next) e425.next) e445.next) e462.next) e505.next) e511.next) e524.next)))).fr e620 Dj.nil_l).ext e663).fr e669 (hb664.djn (m219.lt.le (ntr (ntr (ntr (ntr (ntr n774 n775) e584.next) e590.next) e603.next) e620.next)))).fr e682 (i627.djn (m219.lt.le (ntr (ntr (ntr (ntr n774 n775) e584.next) e590.next) e603.next)))).fr e699 Dj.nil_l).ext e742).fr e748 (hb743.djn (m219.lt.le (ntr (ntr n774 n775) n776)))).fr e761 (i708.djn (m219.lt.le (ntr (ntr (ntr (ntr (ntr (ntr (ntr (ntr n774 n775) e584.next) e590.next) e603.next) e620.next) e663.next) e669.next) e682.next)))).fr e785 Dj.nil_l).fr e802 Dj.nil_l).fr e814 Dj.nil_l).fr e831 Dj.nil_l).fr e843 Dj.nil_l)
     have u852 := ((((((((((((((((((((((((u272.fr e267 (hb262.djn m220.lt)).fr e280 (Dj.symm d231)).fr e297 Dj.nil_l).ext e340).fr e346 (hb341.djn (m220.lt.le (ntr (ntr (ntr e261.next e267.next) e280.next) e297.next)))).fr e359 (i303.djn (m220.lt.le (ntr (ntr e261.next e267.next) e280.next)))).fr e376 Dj.nil_l).fr c772 Dj.nil_l).ext e584).fr e590 (hb585.djn (m220.lt.le (ntr n774 n775)))).fr e603 (i549.djn (m220.lt.le (ntr (ntr (ntr (ntr (ntr (ntr (ntr (ntr (ntr (ntr (ntr (ntr (ntr (ntr e261.next e267.next) e280.next) e297.next) e340.next) e346.next) e359.next) e376.next) e419.next) e425.next) e445.next) e462.next) e505.next) e511.next) e524.next)))).fr e620 Dj.nil_l).ext e663).fr e669 (hb664.djn (m220.lt.le (ntr (ntr (ntr (ntr (ntr n774 n775) e584.next) e590.next) e603.next) e620.next)))).fr e682 (i627.djn (m220.lt.le (ntr (ntr (ntr (ntr n774 n775) e584.next) e590.next) e603.next)))).fr e699 Dj.nil_l).ext e742).fr e748 (hb743.djn (m220.lt.le (ntr (ntr n774 n775) n776)))).fr e761 (i708.djn (m220.lt.le (ntr (ntr (ntr (ntr (ntr (ntr (ntr (ntr n774 n775) e584.next) e590.next) e603.next) e620.next) e663.next) e669.next) e682.next)))).fr e785 Dj.nil_l).fr e802 Dj.nil_l).fr e814 Dj.nil_l).fr e831 Dj.nil_l).fr e843 Dj.nil_l)
     have u853 := ((((((((((((((((((((((hm281.fr e297 Dj.nil_l).ext e340).fr e346 (hb341.djn (m221.lt.le (ntr (ntr (ntr e261.next e267.next) e280.next) e297.next)))).fr e359 (i303.djn (m221.lt.le (ntr (ntr e261.next e267.next) e280.next)))).fr e376 Dj.nil_l).fr c772 Dj.nil_l).ext e584).fr e590 (hb585.djn (m221.lt.le (ntr n774 n775)))).fr e603 (i549.djn (m221.lt.le (ntr (ntr (ntr (ntr (ntr (ntr (ntr (ntr (ntr (ntr (ntr (ntr (ntr (ntr e261.next e267.next) e280.next) e297.next) e340.next) e346.next) e359.next) e376.next) e419.next) e425.next) e445.next) e462.next) e505.next) e511.next) e524.next)))).fr e620 Dj.nil_l).ext e663).fr e669 (hb664.djn (m221.lt.le (ntr (ntr (ntr (ntr (ntr n774 n775) e584.next) e590.next) e603.next) e620.next)))).fr e682 (i627.djn (m221.lt.le (ntr (ntr (ntr (ntr n774 n775) e584.next) e590.next) e603.next)))).fr e699 Dj.nil_l).ext e742).fr e748 (hb743.djn (m221.lt.le (ntr (ntr n774 n775) n776)))).fr e761 (i708.djn (m221.lt.le (ntr (ntr (ntr (ntr (ntr (ntr (ntr (ntr n774 n775) e584.next) e590.next) e603.next) e620.next) e663.next) e669.next) e682.next)))).fr e785 Dj.nil_l).fr e802 Dj.nil_l).fr e814 Dj.nil_l).fr e831 Dj.nil_l).fr e843 Dj.nil_l)
     have u854 := ((((((((((((((((((((((((u270.fr e267 (hb262.djn m222.lt)).fr e280 d234).fr e297 Dj.nil_l).ext e340).fr e346 (hb341.djn (m222.lt.le (ntr (ntr (ntr e261.next e267.next) e280.next) e297.next)))).fr e359 (i303.djn (m222.lt.le (ntr (ntr e261.next e267.next) e280.next)))).fr e376 Dj.nil_l).fr c772 Dj.nil_l).ext e584).fr e590 (hb585.djn (m222.lt.le (ntr n774 n775)))).fr e603 (i549.djn (m222.lt.le (ntr (ntr (ntr (ntr (ntr (ntr (ntr (ntr (ntr (ntr (ntr (ntr (ntr (ntr e261.next e267.next) e280.next) e297.next) e340.next) e346.next) e359.next) e376.next) e419.next) e425.next) e445.next) e462.next) e505.next) e511.next) e524.next)))).fr e620 Dj.nil_l).ext e663).fr e669 (hb664.djn (m222.lt.le (ntr (ntr (ntr (ntr (ntr n774 n775) e584.next) e590.next) e603.next) e620.next)))).fr e682 (i627.djn (m222.lt.le (ntr (ntr (ntr (ntr n774 n775) e584.next) e590.next) e603.next)))).fr e699 Dj.nil_l).ext e742).fr e748 (hb743.djn (m222.lt.le (ntr (ntr n774 n775) n776)))).fr e761 (i708.djn (m222.lt.le (ntr (ntr (ntr (ntr (ntr (ntr (ntr (ntr n774 n775) e584.next) e590.next) e603.next) e620.next) e663.next) e669.next) e682.next)))).fr e785 Dj.nil_l).fr e802 Dj.nil_l).fr e814 Dj.nil_l).fr e831 Dj.nil_l).fr e843 Dj.nil_l)
     have u855 := ((((((((((((((((((((((((u269.fr e267 (hb262.djn m223.lt)).fr e280 d237).fr e297 Dj.nil_l).ext e340).fr e346 (hb341.djn (m223.lt.le (ntr (ntr (ntr e261.next e267.next) e280.next) e297.next)))).fr e359 (i303.djn (m223.lt.le (ntr (ntr e261.next e267.next) e280.next)))).fr e376 Dj.nil_l).fr c772 Dj.nil_l).ext e584).fr e590 (hb585.djn (m223.lt.le (ntr n774 n775)))).fr e603 (i549.djn (m223.lt.le (ntr (ntr (ntr (ntr (ntr (ntr (ntr (ntr (ntr (ntr (ntr (ntr (ntr (ntr e261.next e267.next) e280.next) e297.next) e340.next) e346.next) e359.next) e376.next) e419.next) e425.next) e445.next) e462.next) e505.next) e511.next) e524.next)))).fr e620 Dj.nil_l).ext e663).fr e669 (hb664.djn (m223.lt.le (ntr (ntr (ntr (ntr (ntr n774 n775) e584.next) e590.next) e603.next) e620.next)))).fr e682 (i627.djn (m223.lt.le (ntr (ntr (ntr (ntr n774 n775) e584.next) e590.next) e603.next)))).fr e699 Dj.nil_l).ext e742).fr e748 (hb743.djn (m223.lt.le (ntr (ntr n774 n775) n776)))).fr e761 (i708.djn (m223.lt.le (ntr (ntr (ntr (ntr (ntr (ntr (ntr (ntr n774 n775) e584.next) e590.next) e603.next) e620.next) e663.next) e669.next) e682.next)))).fr e785 Dj.nil_l).fr e802 Dj.nil_l).fr e814 Dj.nil_l).fr e831 Dj.nil_l).fr e843 Dj.nil_l)
     obtain ⟨y856, hy857, r858⟩ := bind_some r839
     refine d_ck 7 #[.agg #[.int .i64 y837.1, .slice a847 n848 c849], .agg #[.slice a244 n245 c246, .slice a247 n248 c249, .slice a250 n251 c252, .slice a253 n254 c255, .slice a256 n257 c258]] (by kernel_rfl) (c_viaductlaw10_bad e843.wf m844.sq u851.sq u852.sq u853.sq u854.sq u855.sq hy857) ?_
     rintro _ H859 ⟨rfl, e860⟩
     refine ⟨st_anc (by kernel_rfl) (st_anc (by kernel_rfl) (st_anc (by kernel_rfl) (st_nil))), ?_⟩
     by_cases h861 : y856 = true
     ·have r862 := ite_t h861 r858
      rw [h861]
      refine d_qk (.bool false) (by kernel_rfl) ?_
      refine d_qk (.bool false) (by kernel_rfl) ?_
      refine d_qk (.bool false) (by kernel_rfl) ?_
      have u864 := ((((((((((((((((((((r347.frS e359 (Dj.symm (hb341.djn m298.lt))).frS e376 Dj.nil_l).frS c772 Dj.nil_l).ext e584).frS e590 (hb585.djn (r342.ltF.le (ntr (ntr (ntr (ntr (ntr (ntr (ntr (ntr (ntr (ntr e346.next e359.next) e376.next) e419.next) e425.next) e445.next) e462.next) e505.next) e511.next) e524.next) e541.next)))).frS e603 (i549.djn (r342.ltF.le (ntr (ntr (ntr (ntr (ntr (ntr (ntr (ntr (ntr e346.next e359.next) e376.next) e419.next) e425.next) e445.next) e462.next) e505.next) e511.next) e524.next)))).frS e620 Dj.nil_l).ext e663).frS e669 (hb664.djn (r342.ltF.le (ntr (ntr (ntr (ntr (ntr (ntr (ntr (ntr (ntr (ntr (ntr (ntr (ntr (ntr e346.next e359.next) e376.next) e419.next) e425.next) e445.next) e462.next) e505.next) e511.next) e524.next) e541.next) e584.next) e590.next) e603.next) e620.next)))).frS e682 (i627.djn (r342.ltF.le (ntr (ntr (ntr (ntr (ntr (ntr (ntr (ntr (ntr (ntr (ntr (ntr (ntr e346.next e359.next) e376.next) e419.next) e425.next) e445.next) e462.next) e505.next) e511.next) e524.next) e541.next) e584.next) e590.next) e603.next)))).frS e699 Dj.nil_l).ext e742).frS e748 (hb743.djn (r342.ltF.le (ntr (ntr (ntr (ntr e346.next e359.next) e376.next) n775) n776)))).frS e761 (i708.djn (r342.ltF.le (ntr (ntr (ntr (ntr (ntr (ntr (ntr (ntr (ntr (ntr e346.next e359.next) e376.next) n775) e584.next) e590.next) e603.next) e620.next) e663.next) e669.next) e682.next)))).frS e785 Dj.nil_l).frS e802 Dj.nil_l).frS e814 Dj.nil_l).frS e831 Dj.nil_l).frS e843 Dj.nil_l).frS e860 Dj.nil_l)
      refine d_fl (.agg #[.slice a323 n324 c325, .slice a326 n327 c328, .slice a329 n330 c331, .slice a332 n333 c334, .slice a335 n336 c337]) (x := aLoad Tryd.prog 31 (.pointer (some ⟨b338, 0, none⟩)) H859) (by kernel_rfl) (u864.ld (by kernel_rfl)) ?_
      obtain ⟨y865, hy866, r867⟩ := bind_some r862
      refine d_ck 5 #[.int .i64 20] (by kernel_rfl) (c_viaductref01_E e860.wf hy866) ?_
      rintro _ H868 ⟨rfl, e869⟩
      have u870 := (u864.frS e869 Dj.nil_l)
      refine ⟨st_ql (y := aLoad Tryd.prog 31 (.pointer (some ⟨b338, 0, none⟩)) H868) (by kernel_rfl) (u870.ld (by kernel_rfl)) (st_anc (by kernel_rfl) (st_anc (by kernel_rfl) (st_anc (by kernel_rfl) (st_nil)))), ?_⟩
      obtain ⟨y871, hy872, r873⟩ := bind_some r867
      refine d_ck 8 #[.int .i64 3, .int .i64 2, .agg #[.int .i64 y865, .slice none 0 0]] (by kernel_rfl) (c_viaductref01_At e869.wf (Sq.nil (enc := enc_i64_i64) (sz := 2) (by decide)) hy872) ?_
      rintro _ H876 ⟨s874, f875, rfl, e877, m878, i879⟩
      obtain ⟨a881, n882, c883, rfl⟩ := m878.form
      have u884 := (u870.frS e877 Dj.nil_l)
      refine ⟨st_ql (y := aLoad Tryd.prog 31 (.pointer (some ⟨b338, 0, none⟩)) H876) (by kernel_rfl) (u884.ld (by kernel_rfl)) (st_anc (by kernel_rfl) (st_anc (by kernel_rfl) (st_anc (by kernel_rfl) (st_nil)))), ?_⟩
      have u885 := (((((((((((((((((((((hm360.fr e376 Dj.nil_l).fr c772 Dj.nil_l).ext e584).fr e590 (hb585.djn (m298.lt.le (ntr (ntr (ntr (ntr (ntr (ntr (ntr (ntr (ntr (ntr (ntr e340.next e346.next) e359.next) e376.next) e419.next) e425.next) e445.next) e462.next) e505.next) e511.next) e524.next) e541.next)))).fr e603 (i549.djn (m298.lt.le (ntr (ntr (ntr (ntr (ntr (ntr (ntr (ntr (ntr (ntr e340.next e346.next) e359.next) e376.next) e419.next) e425.next) e445.next) e462.next) e505.next) e511.next) e524.next)))).fr e620 Dj.nil_l).ext e663).fr e669 (hb664.djn (m298.lt.le (ntr (ntr (ntr (ntr (ntr (ntr (ntr (ntr e340.next e346.next) e359.next) e376.next) n775) e584.next) e590.next) e603.next) e620.next)))).fr e682 (i627.djn (m298.lt.le (ntr (ntr (ntr (ntr (ntr (ntr (ntr (ntr (ntr (ntr (ntr (ntr (ntr (ntr e340.next e346.next) e359.next) e376.next) e419.next) e425.next) e445.next) e462.next) e505.next) e511.next) e524.next) e541.next) e584.next) e590.next) e603.next)))).fr e699 Dj.nil_l).ext e742).fr e748 (hb743.djn (m298.lt.le (ntr (ntr (ntr (ntr (ntr e340.next e346.next) e359.next) e376.next) n775) n776)))).fr e761 (i708.djn (m298.lt.le (ntr (ntr (ntr (ntr (ntr (ntr (ntr (ntr (ntr (ntr (ntr e340.next e346.next) e359.next) e376.next) n775) e584.next) e590.next) e603.next) e620.next) e663.next) e669.next) e682.next)))).fr e785 Dj.nil_l).fr e802 Dj.nil_l).fr e814 Dj.nil_l).fr e831 Dj.nil_l).fr e843 Dj.nil_l).fr e860 Dj.nil_l).fr e869 Dj.nil_l).fr e877 Dj.nil_l)
      have u886 := (((((((((((((((((((((((u351.fr e346 (hb341.djn m299.lt)).fr e359 d308).fr e376 Dj.nil_l).fr c772 Dj.nil_l).ext e584).fr e590 (hb585.djn (m299.lt.le (ntr (ntr (ntr (ntr (ntr (ntr (ntr (ntr (ntr (ntr (ntr e340.next e346.next) e359.next) e376.next) e419.next) e425.next) e445.next) e462.next) e505.next) e511.next) e524.next) e541.next)))).fr e603 (i549.djn (m299.lt.le (ntr (ntr (ntr (ntr (ntr (ntr (ntr (ntr (ntr (ntr e340.next e346.next) e359.next) e376.next) e419.next) e425.next) e445.next) e462.next) e505.next) e511.next) e524.next)))).fr e620 Dj.nil_l).ext e663).fr e669 (hb664.djn (m299.lt.le (ntr (ntr (ntr (ntr (ntr (ntr (ntr (ntr e340.next e346.next) e359.next) e376.next) n775) e584.next) e590.next) e603.next) e620.next)))).fr e682 (i627.djn (m299.lt.le (ntr (ntr (ntr (ntr (ntr (ntr (ntr (ntr (ntr (ntr (ntr (ntr (ntr (ntr e340.next e346.next) e359.next) e376.next) e419.next) e425.next) e445.next) e462.next) e505.next) e511.next) e524.next) e541.next) e584.next) e590.next) e603.next)))).fr e699 Dj.nil_l).ext e742).fr e748 (hb743.djn (m299.lt.le (ntr (ntr (ntr (ntr (ntr e340.next e346.next) e359.next) e376.next) n775) n776)))).fr e761 (i708.djn (m299.lt.le (ntr (ntr (ntr (ntr (ntr (ntr (ntr (ntr (ntr (ntr (ntr e340.next e346.next) e359.next) e376.next) n775) e584.next) e590.next) e603.next) e620.next) e663.next) e669.next) e682.next)))).fr e785 Dj.nil_l).fr e802 Dj.nil_l).fr e814 Dj.nil_l).fr e831 Dj.nil_l).fr e843 Dj.nil_l).fr e860 Dj.nil_l).fr e869 Dj.nil_l).fr e877 Dj.nil_l)
      have u887 := (((((((((((((((((((((((u350.fr e346 (hb341.djn m300.lt)).fr e359 d309).fr e376 Dj.nil_l).fr c772 Dj.nil_l).ext e584).fr e590 (hb585.djn (m300.lt.le (ntr (ntr (ntr (ntr (ntr (ntr (ntr (ntr (ntr (ntr (ntr e340.next e346.next) e359.next) e376.next) e419.next) e425.next) e445.next) e462.next) e505.next) e511.next) e524.next) e541.next)))).fr e603 (i549.djn (m300.lt.le (ntr (ntr (ntr (ntr (ntr (ntr (ntr (ntr (ntr (ntr e340.next e346.next) e359.next) e376.next) e419.next) e425.next) e445.next) e462.next) e505.next) e511.next) e524.next)))).fr e620 Dj.nil_l).ext e663).fr e669 (hb664.djn (m300.lt.le (ntr (ntr (ntr (ntr (ntr (ntr (ntr (ntr e340.next e346.next) e359.next) e376.next) n775) e584.next) e590.next) e603.next) e620.next)))).fr e682 (i627.djn (m300.lt.le (ntr (ntr (ntr (ntr (ntr (ntr (ntr (ntr (ntr (ntr (ntr (ntr (ntr (ntr e340.next e346.next) e359.next) e376.next) e419.next) e425.next) e445.next) e462.next) e505.next) e511.next) e524.next) e541.next) e584.next) e590.next) e603.next)))).fr e699 Dj.nil_l).ext e742).fr e748 (hb743.djn (m300.lt.le (ntr (ntr (ntr (ntr (ntr e340.next e346.next) e359.next) e376.next) n775) n776)))).fr e761 (i708.djn (m300.lt.le (ntr (ntr (ntr (ntr (ntr (ntr (ntr (ntr (ntr (ntr (ntr e340.next e346.next) e359.next) e376.next) n775) e584.next) e590.next) e603.next) e620.next) e663.next) e669.next) e682.next)))).fr e785 Dj.nil_l).fr e802 Dj.nil_l).fr e814 Dj.nil_l).fr e831 Dj.nil_l).fr e843 Dj.nil_l).fr e860 Dj.nil_l).fr e869 Dj.nil_l).fr e877 Dj.nil_l)
      have u888 := (((((((((((((((((((((((u349.fr e346 (hb341.djn m301.lt)).fr e359 d311).fr e376 Dj.nil_l).fr c772 Dj.nil_l).ext e584).fr e590 (hb585.djn (m301.lt.le (ntr (ntr (ntr (ntr (ntr (ntr (ntr (ntr (ntr (ntr (ntr e340.next e346.next) e359.next) e376.next) e419.next) e425.next) e445.next) e462.next) e505.next) e511.next) e524.next) e541.next)))).fr e603 (i549.djn (m301.lt.le (ntr (ntr (ntr (ntr (ntr (ntr (ntr (ntr (ntr (ntr e340.next e346.next) e359.next) e376.next) e419.next) e425.next) e445.next) e462.next) e505.next) e511.next) e524.next)))).fr e620 Dj.nil_l).ext e663).fr e669 (hb664.djn (m301.lt.le (ntr (ntr (ntr (ntr (ntr (ntr (ntr (ntr e340.next e346.next) e359.next) e376.next) n775) e584.next) e590.next) e603.next) e620.next)))).fr e682 (i627.djn (m301.lt.le (ntr (ntr (ntr (ntr (ntr (ntr (ntr (ntr (ntr (ntr (ntr (ntr (ntr (ntr e340.next e346.next) e359.next) e376.next) e419.next) e425.next) e445.next) e462.next) e505.next) e511.next) e524.next) e541.next) e584.next) e590.next) e603.next)))).fr e699 Dj.nil_l).ext e742).fr e748 (hb743.djn (m301.lt.le (ntr (ntr (ntr (ntr (ntr e340.next e346.next) e359.next) e376.next) n775) n776)))).fr e761 (i708.djn (m301.lt.le (ntr (ntr (ntr (ntr (ntr (ntr (ntr (ntr (ntr (ntr (ntr e340.next e346.next) e359.next) e376.next) n775) e584.next) e590.next) e603.next) e620.next) e663.next) e669.next) e682.next)))).fr e785 Dj.nil_l).fr e802 Dj.nil_l).fr e814 Dj.nil_l).fr e831 Dj.nil_l).fr e843 Dj.nil_l).fr e860 Dj.nil_l).fr e869 Dj.nil_l).fr e877 Dj.nil_l)
      have u889 := (((((((((((((((((((((((u348.fr e346 (hb341.djn m302.lt)).fr e359 d314).fr e376 Dj.nil_l).fr c772 Dj.nil_l).ext e584).fr e590 (hb585.djn (m302.lt.le (ntr (ntr (ntr (ntr (ntr (ntr (ntr (ntr (ntr (ntr (ntr e340.next e346.next) e359.next) e376.next) e419.next) e425.next) e445.next) e462.next) e505.next) e511.next) e524.next) e541.next)))).fr e603 (i549.djn (m302.lt.le (ntr (ntr (ntr (ntr (ntr (ntr (ntr (ntr (ntr (ntr e340.next e346.next) e359.next) e376.next) e419.next) e425.next) e445.next) e462.next) e505.next) e511.next) e524.next)))).fr e620 Dj.nil_l).ext e663).fr e669 (hb664.djn (m302.lt.le (ntr (ntr (ntr (ntr (ntr (ntr (ntr (ntr e340.next e346.next) e359.next) e376.next) n775) e584.next) e590.next) e603.next) e620.next)))).fr e682 (i627.djn (m302.lt.le (ntr (ntr (ntr (ntr (ntr (ntr (ntr (ntr (ntr (ntr (ntr (ntr (ntr (ntr e340.next e346.next) e359.next) e376.next) e419.next) e425.next) e445.next) e462.next) e505.next) e511.next) e524.next) e541.next) e584.next) e590.next) e603.next)))).fr e699 Dj.nil_l).ext e742).fr e748 (hb743.djn (m302.lt.le (ntr (ntr (ntr (ntr (ntr e340.next e346.next) e359.next) e376.next) n775) n776)))).fr e761 (i708.djn (m302.lt.le (ntr (ntr (ntr (ntr (ntr (ntr (ntr (ntr (ntr (ntr (ntr e340.next e346.next) e359.next) e376.next) n775) e584.next) e590.next) e603.next) e620.next) e663.next) e669.next) e682.next)))).fr e785 Dj.nil_l).fr e802 Dj.nil_l).fr e814 Dj.nil_l).fr e831 Dj.nil_l).fr e843 Dj.nil_l).fr e860 Dj.nil_l).fr e869 Dj.nil_l).fr e877 Dj.nil_l)
      obtain ⟨y890, hy891, r892⟩ := bind_some r873
      refine d_ck 7 #[.agg #[.int .i64 y871.1, .slice a881 n882 c883], .agg #[.slice a323 n324 c325, .slice a326 n327 c328, .slice a329 n330 c331, .slice a332 n333 c334, .slice a335 n336 c337]] (by kernel_rfl) (c_viaductlaw10_bad e877.wf m878.sq u885.sq u886.sq u887.sq u888.sq u889.sq hy891) ?_
      rintro _ H893 ⟨rfl, e894⟩
      refine ⟨st_anc (by kernel_rfl) (st_anc (by kernel_rfl) (st_anc (by kernel_rfl) (st_anc (by kernel_rfl) (st_nil)))), ?_⟩
      by_cases h895 : y890 = true
      ·have r896 := ite_t h895 r892
       rw [h895]
       refine d_qk (.bool false) (by kernel_rfl) ?_
       refine d_qk (.bool false) (by kernel_rfl) ?_
       refine d_qk (.bool false) (by kernel_rfl) ?_
       have u898 := (((((u835.frS e843 Dj.nil_l).frS e860 Dj.nil_l).frS e869 Dj.nil_l).frS e877 Dj.nil_l).frS e894 Dj.nil_l)
       refine d_ql (.agg #[.int .i64 y13, .slice none 0 0]) (x := aLoad Tryd.prog 25 (.pointer (some ⟨b23, 0, none⟩)) H893) (by kernel_rfl) (u898.ld (by kernel_rfl)) ?_
       have u899 := (((((((((((((((((((((((((r446.frS e462 Dj.nil_l).ext e505).frS e511 (hb506.djn (r421.ltF.le (ntr (ntr e425.next e445.next) e462.next)))).frS e524 (i470.djn (r421.ltF.le (ntr e425.next e445.next)))).frS e541 Dj.nil_l).ext e584).frS e590 (hb585.djn (r421.ltF.le (ntr (ntr (ntr (ntr (ntr (ntr e425.next e445.next) e462.next) e505.next) e511.next) e524.next) e541.next)))).frS e603 (i549.djn (r421.ltF.le (ntr (ntr (ntr (ntr (ntr e425.next e445.next) e462.next) e505.next) e511.next) e524.next)))).frS e620 Dj.nil_l).ext e663).frS e669 (hb664.djn (r421.ltF.le (ntr (ntr (ntr (ntr (ntr (ntr (ntr (ntr (ntr (ntr e425.next e445.next) e462.next) e505.next) e511.next) e524.next) e541.next) e584.next) e590.next) e603.next) e620.next)))).frS e682 (i627.djn (r421.ltF.le (ntr (ntr (ntr (ntr (ntr (ntr (ntr (ntr (ntr e425.next e445.next) e462.next) e505.next) e511.next) e524.next) e541.next) e584.next) e590.next) e603.next)))).frS e699 Dj.nil_l).ext e742).frS e748 (hb743.djn (r421.ltF.le (ntr (ntr (ntr (ntr (ntr (ntr (ntr (ntr (ntr (ntr (ntr (ntr (ntr (ntr e425.next e445.next) e462.next) e505.next) e511.next) e524.next) e541.next) e584.next) e590.next) e603.next) e620.next) e663.next) e669.next) e682.next) e699.next)))).frS e761 (i708.djn (r421.ltF.le (ntr (ntr (ntr (ntr (ntr (ntr (ntr (ntr (ntr (ntr (ntr (ntr (ntr e425.next e445.next) e462.next) e505.next) e511.next) e524.next) e541.next) e584.next) e590.next) e603.next) e620.next) e663.next) e669.next) e682.next)))).frS e785 Dj.nil_l).frS e802 Dj.nil_l).frS e814 Dj.nil_l).frS e831 Dj.nil_l).frS e843 Dj.nil_l).frS e860 Dj.nil_l).frS e869 Dj.nil_l).frS e877 Dj.nil_l).frS e894 Dj.nil_l)
       refine d_ql (.agg #[.slice a402 n403 c404, .slice a439 n440 c441, .slice a408 n409 c410, .slice a411 n412 c413, .slice a414 n415 c416]) (x := aLoad Tryd.prog 31 (.pointer (some ⟨b417, 0, none⟩)) H893) (by kernel_rfl) (u899.ld (by kernel_rfl)) ?_
       have u900 := (((((((((((((((((((((((((((u431.fr e425 (hb420.djn m377.lt)).fr e445 (hb420.djn m377.lt)).fr e462 Dj.nil_l).ext e505).fr e511 (hb506.djn (m377.lt.le (ntr (ntr (ntr e419.next e425.next) e445.next) e462.next)))).fr e524 (i470.djn (m377.lt.le (ntr (ntr e419.next e425.next) e445.next)))).fr e541 Dj.nil_l).ext e584).fr e590 (hb585.djn (m377.lt.le (ntr (ntr (ntr (ntr (ntr (ntr (ntr e419.next e425.next) e445.next) e462.next) e505.next) e511.next) e524.next) e541.next)))).fr e603 (i549.djn (m377.lt.le (ntr (ntr (ntr (ntr (ntr (ntr e419.next e425.next) e445.next) e462.next) e505.next) e511.next) e524.next)))).fr e620 Dj.nil_l).ext e663).fr e669 (hb664.djn (m377.lt.le (ntr (ntr (ntr (ntr (ntr (ntr (ntr (ntr (ntr (ntr (ntr e419.next e425.next) e445.next) e462.next) e505.next) e511.next) e524.next) e541.next) e584.next) e590.next) e603.next) e620.next)))).fr e682 (i627.djn (m377.lt.le (ntr (ntr (ntr (ntr (ntr (ntr (ntr (ntr (ntr (ntr e419.next e425.next) e445.next) e462.next) e505.next) e511.next) e524.next) e541.next) e584.next) e590.next) e603.next)))).fr e699 Dj.nil_l).ext e742).fr e748 (hb743.djn (m377.lt.le (ntr n775 n776)))).fr e761 (i708.djn (m377.lt.le (ntr (ntr (ntr (ntr (ntr (ntr (ntr (ntr (ntr (ntr (ntr (ntr (ntr (ntr e419.next e425.next) e445.next) e462.next) e505.next) e511.next) e524.next) e541.next) e584.next) e590.next) e603.next) e620.next) e663.next) e669.next) e682.next)))).fr e785 Dj.nil_l).fr e802 Dj.nil_l).fr e814 Dj.nil_l).fr e831 Dj.nil_l).fr e843 Dj.nil_l).fr e860 Dj.nil_l).fr e869 Dj.nil_l).fr e877 Dj.nil_l).fr e894 Dj.nil_l)
       have u901 := ((((((((((((((((((((((((((hs437.fr e445 (hb420.djn m378.lt)).fr e462 Dj.nil_l).ext e505).fr e511 (hb506.djn (m378.lt.le (ntr (ntr (ntr e419.next e425.next) e445.next) e462.next)))).fr e524 (i470.djn (m378.lt.le (ntr (ntr e419.next e425.next) e445.next)))).fr e541 Dj.nil_l).ext e584).fr e590 (hb585.djn (m378.lt.le (ntr (ntr (ntr (ntr (ntr (ntr (ntr e419.next e425.next) e445.next) e462.next) e505.next) e511.next) e524.next) e541.next)))).fr e603 (i549.djn (m378.lt.le (ntr (ntr (ntr (ntr (ntr (ntr e419.next e425.next) e445.next) e462.next) e505.next) e511.next) e524.next)))).fr e620 Dj.nil_l).ext e663).fr e669 (hb664.djn (m378.lt.le (ntr (ntr (ntr (ntr (ntr (ntr (ntr (ntr (ntr (ntr (ntr e419.next e425.next) e445.next) e462.next) e505.next) e511.next) e524.next) e541.next) e584.next) e590.next) e603.next) e620.next)))).fr e682 (i627.djn (m378.lt.le (ntr (ntr (ntr (ntr (ntr (ntr (ntr (ntr (ntr (ntr e419.next e425.next) e445.next) e462.next) e505.next) e511.next) e524.next) e541.next) e584.next) e590.next) e603.next)))).fr e699 Dj.nil_l).ext e742).fr e748 (hb743.djn (m378.lt.le (ntr n775 n776)))).fr e761 (i708.djn (m378.lt.le (ntr (ntr (ntr (ntr (ntr (ntr (ntr (ntr (ntr (ntr (ntr (ntr (ntr (ntr e419.next e425.next) e445.next) e462.next) e505.next) e511.next) e524.next) e541.next) e584.next) e590.next) e603.next) e620.next) e663.next) e669.next) e682.next)))).fr e785 Dj.nil_l).fr e802 Dj.nil_l).fr e814 Dj.nil_l).fr e831 Dj.nil_l).fr e843 Dj.nil_l).fr e860 Dj.nil_l).fr e869 Dj.nil_l).fr e877 Dj.nil_l).fr e894 Dj.nil_l)
       have u902 := (((((((((((((((((((((((((((u429.fr e425 (hb420.djn m379.lt)).fr e445 (hb420.djn m379.lt)).fr e462 Dj.nil_l).ext e505).fr e511 (hb506.djn (m379.lt.le (ntr (ntr (ntr e419.next e425.next) e445.next) e462.next)))).fr e524 (i470.djn (m379.lt.le (ntr (ntr e419.next e425.next) e445.next)))).fr e541 Dj.nil_l).ext e584).fr e590 (hb585.djn (m379.lt.le (ntr (ntr (ntr (ntr (ntr (ntr (ntr e419.next e425.next) e445.next) e462.next) e505.next) e511.next) e524.next) e541.next)))).fr e603 (i549.djn (m379.lt.le (ntr (ntr (ntr (ntr (ntr (ntr e419.next e425.next) e445.next) e462.next) e505.next) e511.next) e524.next)))).fr e620 Dj.nil_l).ext e663).fr e669 (hb664.djn (m379.lt.le (ntr (ntr (ntr (ntr (ntr (ntr (ntr (ntr (ntr (ntr (ntr e419.next e425.next) e445.next) e462.next) e505.next) e511.next) e524.next) e541.next) e584.next) e590.next) e603.next) e620.next)))).fr e682 (i627.djn (m379.lt.le (ntr (ntr (ntr (ntr (ntr (ntr (ntr (ntr (ntr (ntr e419.next e425.next) e445.next) e462.next) e505.next) e511.next) e524.next) e541.next) e584.next) e590.next) e603.next)))).fr e699 Dj.nil_l).ext e742).fr e748 (hb743.djn (m379.lt.le (ntr n775 n776)))).fr e761 (i708.djn (m379.lt.le (ntr (ntr (ntr (ntr (ntr (ntr (ntr (ntr (ntr (ntr (ntr (ntr (ntr (ntr e419.next e425.next) e445.next) e462.next) e505.next) e511.next) e524.next) e541.next) e584.next) e590.next) e603.next) e620.next) e663.next) e669.next) e682.next)))).fr e785 Dj.nil_l).fr e802 Dj.nil_l).fr e814 Dj.nil_l).fr e831 Dj.nil_l).fr e843 Dj.nil_l).fr e860 Dj.nil_l).fr e869 Dj.nil_l).fr e877 Dj.nil_l).fr e894 Dj.nil_l)
       have u903 := (((((((((((((((((((((((((((u428.fr e425 (hb420.djn m380.lt)).fr e445 (hb420.djn m380.lt)).fr e462 Dj.nil_l).ext e505).fr e511 (hb506.djn (m380.lt.le (ntr (ntr (ntr e419.next e425.next) e445.next) e462.next)))).fr e524 (i470.djn (m380.lt.le (ntr (ntr e419.next e425.next) e445.next)))).fr e541 Dj.nil_l).ext e584).fr e590 (hb585.djn (m380.lt.le (ntr (ntr (ntr (ntr (ntr (ntr (ntr e419.next e425.next) e445.next) e462.next) e505.next) e511.next) e524.next) e541.next)))).fr e603 (i549.djn (m380.lt.le (ntr (ntr (ntr (ntr (ntr (ntr e419.next e425.next) e445.next) e462.next) e505.next) e511.next) e524.next)))).fr e620 Dj.nil_l).ext e663).fr e669 (hb664.djn (m380.lt.le (ntr (ntr (ntr (ntr (ntr (ntr (ntr (ntr (ntr (ntr (ntr e419.next e425.next) e445.next) e462.next) e505.next) e511.next) e524.next) e541.next) e584.next) e590.next) e603.next) e620.next)))).fr e682 (i627.djn (m380.lt.le (ntr (ntr (ntr (ntr (ntr (ntr (ntr (ntr (ntr (ntr e419.next e425.next) e445.next) e462.next) e505.next) e511.next) e524.next) e541.next) e584.next) e590.next) e603.next)))).fr e699 Dj.nil_l).ext e742).fr e748 (hb743.djn (m380.lt.le (ntr n775 n776)))).fr e761 (i708.djn (m380.lt.le (ntr (ntr (ntr (ntr (ntr (ntr (ntr (ntr (ntr (ntr (ntr (ntr (ntr (ntr e419.next e425.next) e445.next) e462.next) e505.next) e511.next) e524.next) e541.next) e584.next) e590.next) e603.next) e620.next) e663.next) e669.next) e682.next)))).fr e785 Dj.nil_l).fr e802 Dj.nil_l).fr e814 Dj.nil_l).fr e831 Dj.nil_l).fr e843 Dj.nil_l).fr e860 Dj.nil_l).fr e869 Dj.nil_l).fr e877 Dj.nil_l).fr e894 Dj.nil_l)
       have u904 := (((((((((((((((((((((((((((u427.fr e425 (hb420.djn m381.lt)).fr e445 (hb420.djn m381.lt)).fr e462 Dj.nil_l).ext e505).fr e511 (hb506.djn (m381.lt.le (ntr (ntr (ntr e419.next e425.next) e445.next) e462.next)))).fr e524 (i470.djn (m381.lt.le (ntr (ntr e419.next e425.next) e445.next)))).fr e541 Dj.nil_l).ext e584).fr e590 (hb585.djn (m381.lt.le (ntr (ntr (ntr (ntr (ntr (ntr (ntr e419.next e425.next) e445.next) e462.next) e505.next) e511.next) e524.next) e541.next)))).fr e603 (i549.djn (m381.lt.le (ntr (ntr (ntr (ntr (ntr (ntr e419.next e425.next) e445.next) e462.next) e505.next) e511.next) e524.next)))).fr e620 Dj.nil_l).ext e663).fr e669 (hb664.djn (m381.lt.le (ntr (ntr (ntr (ntr (ntr (ntr (ntr (ntr (ntr (ntr (ntr e419.next e425.next) e445.next) e462.next) e505.next) e511.next) e524.next) e541.next) e584.next) e590.next) e603.next) e620.next)))).fr e682 (i627.djn (m381.lt.le (ntr (ntr (ntr (ntr (ntr (ntr (ntr (ntr (ntr (ntr e419.next e425.next) e445.next) e462.next) e505.next) e511.next) e524.next) e541.next) e584.next) e590.next) e603.next)))).fr e699 Dj.nil_l).ext e742).fr e748 (hb743.djn (m381.lt.le (ntr n775 n776)))).fr e761 (i708.djn (m381.lt.le (ntr (ntr (ntr (ntr (ntr (ntr (ntr (ntr (ntr (ntr (ntr (ntr (ntr (ntr e419.next e425.next) e445.next) e462.next) e505.next) e511.next) e524.next) e541.next) e584.next) e590.next) e603.next) e620.next) e663.next) e669.next) e682.next)))).fr e785 Dj.nil_l).fr e802 Dj.nil_l).fr e814 Dj.nil_l).fr e831 Dj.nil_l).fr e843 Dj.nil_l).fr e860 Dj.nil_l).fr e869 Dj.nil_l).fr e877 Dj.nil_l).fr e894 Dj.nil_l)
       obtain ⟨y905, hy906, r907⟩ := bind_some r896
       refine d_ck 7 #[.agg #[.int .i64 y13, .slice none 0 0], .agg #[.slice a402 n403 c404, .slice a439 n440 c441, .slice a408 n409 c410, .slice a411 n412 c413, .slice a414 n415 c416]] (by kernel_rfl) (c_viaductlaw10_bad e894.wf (Sq.nil (enc := enc_i64_i64) (sz := 2) (by decide)) u900.sq u901.sq u902.sq u903.sq u904.sq hy906) ?_
       rintro _ H908 ⟨rfl, e909⟩
       refine ⟨st_anc (by kernel_rfl) (st_anc (by kernel_rfl) (st_anc (by kernel_rfl) (st_anc (by kernel_rfl) (st_nil)))), ?_⟩
       by_cases h910 : y905 = true
       ·have r911 := ite_t h910 r907
        rw [h910]
        refine d_qk (.bool false) (by kernel_rfl) ?_
        refine d_qk (.bool false) (by kernel_rfl) ?_
        refine d_qk (.bool false) (by kernel_rfl) ?_
        have u913 := (u898.frS e909 Dj.nil_l)
        refine d_ql (.agg #[.int .i64 y13, .slice none 0 0]) (x := aLoad Tryd.prog 25 (.pointer (some ⟨b23, 0, none⟩)) H908) (by kernel_rfl) (u913.ld (by kernel_rfl)) ?_
        have u914 := (((((((((((((((((((((((r512.frS e524 (Dj.symm (hb506.djn m465.lt))).frS e541 Dj.nil_l).ext e584).frS e590 (hb585.djn (r507.ltF.le (ntr (ntr e511.next e524.next) e541.next)))).frS e603 (i549.djn (r507.ltF.le (ntr e511.next e524.next)))).frS e620 Dj.nil_l).ext e663).frS e669 (hb664.djn (r507.ltF.le (ntr (ntr (ntr (ntr (ntr (ntr e511.next e524.next) e541.next) e584.next) e590.next) e603.next) e620.next)))).frS e682 (i627.djn (r507.ltF.le (ntr (ntr (ntr (ntr (ntr e511.next e524.next) e541.next) e584.next) e590.next) e603.next)))).frS e699 Dj.nil_l).ext e742).frS e748 (hb743.djn (r507.ltF.le (ntr (ntr (ntr (ntr (ntr (ntr (ntr (ntr (ntr (ntr e511.next e524.next) e541.next) e584.next) e590.next) e603.next) e620.next) e663.next) e669.next) e682.next) e699.next)))).frS e761 (i708.djn (r507.ltF.le (ntr (ntr (ntr (ntr (ntr (ntr (ntr (ntr (ntr e511.next e524.next) e541.next) e584.next) e590.next) e603.next) e620.next) e663.next) e669.next) e682.next)))).frS e785 Dj.nil_l).frS e802 Dj.nil_l).frS e814 Dj.nil_l).frS e831 Dj.nil_l).frS e843 Dj.nil_l).frS e860 Dj.nil_l).frS e869 Dj.nil_l).frS e877 Dj.nil_l).frS e894 Dj.nil_l).frS e909 Dj.nil_l)
        refine d_fl (.agg #[.slice a488 n489 c490, .slice a491 n492 c493, .slice a494 n495 c496, .slice a497 n498 c499, .slice a500 n501 c502]) (x := aLoad Tryd.prog 31 (.pointer (some ⟨b503, 0, none⟩)) H908) (by kernel_rfl) (u914.ld (by kernel_rfl)) ?_
        obtain ⟨y915, hy916, r917⟩ := bind_some r911
        refine d_ck 8 #[.int .i64 4, .int .i64 1, .agg #[.int .i64 y13, .slice none 0 0]] (by kernel_rfl) (c_viaductref01_At e909.wf (Sq.nil (enc := enc_i64_i64) (sz := 2) (by decide)) hy916) ?_
        rintro _ H920 ⟨s918, f919, rfl, e921, m922, i923⟩
        obtain ⟨a925, n926, c927, rfl⟩ := m922.form
        have u928 := (u914.frS e921 Dj.nil_l)
        refine ⟨st_ql (y := aLoad Tryd.prog 31 (.pointer (some ⟨b503, 0, none⟩)) H920) (by kernel_rfl) (u928.ld (by kernel_rfl)) (st_anc (by kernel_rfl) (st_anc (by kernel_rfl) (st_anc (by kernel_rfl) (st_anc (by kernel_rfl) (st_nil))))), ?_⟩
        have u929 := (((((((((((((((((((((((((u517.fr e511 (hb506.djn m463.lt)).fr e524 (Dj.symm d474)).fr e541 Dj.nil_l).ext e584).fr e590 (hb585.djn (m463.lt.le (ntr (ntr (ntr e505.next e511.next) e524.next) e541.next)))).fr e603 (i549.djn (m463.lt.le (ntr (ntr e505.next e511.next) e524.next)))).fr e620 Dj.nil_l).ext e663).fr e669 (hb664.djn (m463.lt.le (ntr (ntr (ntr (ntr (ntr (ntr (ntr e505.next e511.next) e524.next) e541.next) e584.next) e590.next) e603.next) e620.next)))).fr e682 (i627.djn (m463.lt.le (ntr (ntr (ntr (ntr (ntr (ntr e505.next e511.next) e524.next) e541.next) e584.next) e590.next) e603.next)))).fr e699 Dj.nil_l).ext e742).fr e748 (hb743.djn (m463.lt.le (ntr (ntr (ntr (ntr (ntr (ntr (ntr (ntr (ntr (ntr (ntr e505.next e511.next) e524.next) e541.next) e584.next) e590.next) e603.next) e620.next) e663.next) e669.next) e682.next) e699.next)))).fr e761 (i708.djn (m463.lt.le (ntr (ntr (ntr (ntr (ntr (ntr (ntr (ntr (ntr (ntr e505.next e511.next) e524.next) e541.next) e584.next) e590.next) e603.next) e620.next) e663.next) e669.next) e682.next)))).fr e785 Dj.nil_l).fr e802 Dj.nil_l).fr e814 Dj.nil_l).fr e831 Dj.nil_l).fr e843 Dj.nil_l).fr e860 Dj.nil_l).fr e869 Dj.nil_l).fr e877 Dj.nil_l).fr e894 Dj.nil_l).fr e909 Dj.nil_l).fr e921 Dj.nil_l)
        have u930 := (((((((((((((((((((((((((u516.fr e511 (hb506.djn m464.lt)).fr e524 (Dj.symm d475)).fr e541 Dj.nil_l).ext e584).fr e590 (hb585.djn (m464.lt.le (ntr (ntr (ntr e505.next e511.next) e524.next) e541.next)))).fr e603 (i549.djn (m464.lt.le (ntr (ntr e505.next e511.next) e524.next)))).fr e620 Dj.nil_l).ext e663).fr e669 (hb664.djn (m464.lt.le (ntr (ntr (ntr (ntr (ntr (ntr (ntr e505.next e511.next) e524.next) e541.next) e584.next) e590.next) e603.next) e620.next)))).fr e682 (i627.djn (m464.lt.le (ntr (ntr (ntr (ntr (ntr (ntr e505.next e511.next) e524.next) e541.next) e584.next) e590.next) e603.next)))).fr e699 Dj.nil_l).ext e742).fr e748 (hb743.djn (m464.lt.le (ntr (ntr (ntr (ntr (ntr (ntr (ntr (ntr (ntr (ntr (ntr e505.next e511.next) e524.next) e541.next) e584.next) e590.next) e603.next) e620.next) e663.next) e669.next) e682.next) e699.next)))).fr e761 (i708.djn (m464.lt.le (ntr (ntr (ntr (ntr (ntr (ntr (ntr (ntr (ntr (ntr e505.next e511.next) e524.next) e541.next) e584.next) e590.next) e603.next) e620.next) e663.next) e669.next) e682.next)))).fr e785 Dj.nil_l).fr e802 Dj.nil_l).fr e814 Dj.nil_l).fr e831 Dj.nil_l).fr e843 Dj.nil_l).fr e860 Dj.nil_l).fr e869 Dj.nil_l).fr e877 Dj.nil_l).fr e894 Dj.nil_l).fr e909 Dj.nil_l).fr e921 Dj.nil_l)
        have u931 := (((((((((((((((((((((((hm525.fr e541 Dj.nil_l).ext e584).fr e590 (hb585.djn (m465.lt.le (ntr (ntr (ntr e505.next e511.next) e524.next) e541.next)))).fr e603 (i549.djn (m465.lt.le (ntr (ntr e505.next e511.next) e524.next)))).fr e620 Dj.nil_l).ext e663).fr e669 (hb664.djn (m465.lt.le (ntr (ntr (ntr (ntr (ntr (ntr (ntr e505.next e511.next) e524.next) e541.next) e584.next) e590.next) e603.next) e620.next)))).fr e682 (i627.djn (m465.lt.le (ntr (ntr (ntr (ntr (ntr (ntr e505.next e511.next) e524.next) e541.next) e584.next) e590.next) e603.next)))).fr e699 Dj.nil_l).ext e742).fr e748 (hb743.djn (m465.lt.le (ntr (ntr (ntr (ntr (ntr (ntr (ntr (ntr (ntr (ntr (ntr e505.next e511.next) e524.next) e541.next) e584.next) e590.next) e603.next) e620.next) e663.next) e669.next) e682.next) e699.next)))).fr e761 (i708.djn (m465.lt.le (ntr (ntr (ntr (ntr (ntr (ntr (ntr (ntr (ntr (ntr e505.next e511.next) e524.next) e541.next) e584.next) e590.next) e603.next) e620.next) e663.next) e669.next) e682.next)))).fr e785 Dj.nil_l).fr e802 Dj.nil_l).fr e814 Dj.nil_l).fr e831 Dj.nil_l).fr e843 Dj.nil_l).fr e860 Dj.nil_l).fr e869 Dj.nil_l).fr e877 Dj.nil_l).fr e894 Dj.nil_l).fr e909 Dj.nil_l).fr e921 Dj.nil_l)
        have u932 := (((((((((((((((((((((((((u514.fr e511 (hb506.djn m466.lt)).fr e524 d478).fr e541 Dj.nil_l).ext e584).fr e590 (hb585.djn (m466.lt.le (ntr (ntr (ntr e505.next e511.next) e524.next) e541.next)))).fr e603 (i549.djn (m466.lt.le (ntr (ntr e505.next e511.next) e524.next)))).fr e620 Dj.nil_l).ext e663).fr e669 (hb664.djn (m466.lt.le (ntr (ntr (ntr (ntr (ntr (ntr (ntr e505.next e511.next) e524.next) e541.next) e584.next) e590.next) e603.next) e620.next)))).fr e682 (i627.djn (m466.lt.le (ntr (ntr (ntr (ntr (ntr (ntr e505.next e511.next) e524.next) e541.next) e584.next) e590.next) e603.next)))).fr e699 Dj.nil_l).ext e742).fr e748 (hb743.djn (m466.lt.le (ntr (ntr (ntr (ntr (ntr (ntr (ntr (ntr (ntr (ntr (ntr e505.next e511.next) e524.next) e541.next) e584.next) e590.next) e603.next) e620.next) e663.next) e669.next) e682.next) e699.next)))).fr e761 (i708.djn (m466.lt.le (ntr (ntr (ntr (ntr (ntr (ntr (ntr (ntr (ntr (ntr e505.next e511.next) e524.next) e541.next) e584.next) e590.next) e603.next) e620.next) e663.next) e669.next) e682.next)))).fr e785 Dj.nil_l).fr e802 Dj.nil_l).fr e814 Dj.nil_l).fr e831 Dj.nil_l).fr e843 Dj.nil_l).fr e860 Dj.nil_l).fr e869 Dj.nil_l).fr e877 Dj.nil_l).fr e894 Dj.nil_l).fr e909 Dj.nil_l).fr e921 Dj.nil_l)
        have u933 := (((((((((((((((((((((((((u513.fr e511 (hb506.djn m467.lt)).fr e524 d481).fr e541 Dj.nil_l).ext e584).fr e590 (hb585.djn (m467.lt.le (ntr (ntr (ntr e505.next e511.next) e524.next) e541.next)))).fr e603 (i549.djn (m467.lt.le (ntr (ntr e505.next e511.next) e524.next)))).fr e620 Dj.nil_l).ext e663).fr e669 (hb664.djn (m467.lt.le (ntr (ntr (ntr (ntr (ntr (ntr (ntr e505.next e511.next) e524.next) e541.next) e584.next) e590.next) e603.next) e620.next)))).fr e682 (i627.djn (m467.lt.le (ntr (ntr (ntr (ntr (ntr (ntr e505.next e511.next) e524.next) e541.next) e584.next) e590.next) e603.next)))).fr e699 Dj.nil_l).ext e742).fr e748 (hb743.djn (m467.lt.le (ntr (ntr (ntr (ntr (ntr (ntr (ntr (ntr (ntr (ntr (ntr e505.next e511.next) e524.next) e541.next) e584.next) e590.next) e603.next) e620.next) e663.next) e669.next) e682.next) e699.next)))).fr e761 (i708.djn (m467.lt.le (ntr (ntr (ntr (ntr (ntr (ntr (ntr (ntr (ntr (ntr e505.next e511.next) e524.next) e541.next) e584.next) e590.next) e603.next) e620.next) e663.next) e669.next) e682.next)))).fr e785 Dj.nil_l).fr e802 Dj.nil_l).fr e814 Dj.nil_l).fr e831 Dj.nil_l).fr e843 Dj.nil_l).fr e860 Dj.nil_l).fr e869 Dj.nil_l).fr e877 Dj.nil_l).fr e894 Dj.nil_l).fr e909 Dj.nil_l).fr e921 Dj.nil_l)
        obtain ⟨y934, hy935, r936⟩ := bind_some r917
        refine d_ck 7 #[.agg #[.int .i64 y915.1, .slice a925 n926 c927], .agg #[.slice a488 n489 c490, .slice a491 n492 c493, .slice a494 n495 c496, .slice a497 n498 c499, .slice a500 n501 c502]] (by kernel_rfl) (c_viaductlaw10_bad e921.wf m922.sq u929.sq u930.sq u931.sq u932.sq u933.sq hy935) ?_
        rintro _ H937 ⟨rfl, e938⟩
        refine ⟨st_anc (by kernel_rfl) (st_anc (by kernel_rfl) (st_anc (by kernel_rfl) (st_anc (by kernel_rfl) (st_anc (by kernel_rfl) (st_nil))))), ?_⟩
        by_cases h939 : y934 = true
        ·have r940 := ite_t h939 r936
         rw [h939]
         refine d_qk (.bool false) (by kernel_rfl) ?_
         refine d_qk (.bool false) (by kernel_rfl) ?_
         refine d_qk (.bool false) (by kernel_rfl) ?_
         have u942 := ((((((((((((u777.frS e785 Dj.nil_l).frS e802 Dj.nil_l).frS e814 Dj.nil_l).frS e831 Dj.nil_l).frS e843 Dj.nil_l).frS e860 Dj.nil_l).frS e869 Dj.nil_l).frS e877 Dj.nil_l).frS e894 Dj.nil_l).frS e909 Dj.nil_l).frS e921 Dj.nil_l).frS e938 Dj.nil_l)
         refine d_ql (.agg #[.int .i64 y18, .slice none 0 0]) (x := aLoad Tryd.prog 25 (.pointer (some ⟨b29, 0, none⟩)) H937) (by kernel_rfl) (u942.ld (by kernel_rfl)) ?_
         have u943 := (((((((((((((((((((((r591.frS e603 (Dj.symm (hb585.djn m544.lt))).frS e620 Dj.nil_l).ext e663).frS e669 (hb664.djn (r586.ltF.le (ntr (ntr e590.next e603.next) e620.next)))).frS e682 (i627.djn (r586.ltF.le (ntr e590.next e603.next)))).frS e699 Dj.nil_l).ext e742).frS e748 (hb743.djn (r586.ltF.le (ntr (ntr (ntr (ntr (ntr (ntr e590.next e603.next) e620.next) e663.next) e669.next) e682.next) e699.next)))).frS e761 (i708.djn (r586.ltF.le (ntr (ntr (ntr (ntr (ntr e590.next e603.next) e620.next) e663.next) e669.next) e682.next)))).frS e785 Dj.nil_l).frS e802 Dj.nil_l).frS e814 Dj.nil_l).frS e831 Dj.nil_l).frS e843 Dj.nil_l).frS e860 Dj.nil_l).frS e869 Dj.nil_l).frS e877 Dj.nil_l).frS e894 Dj.nil_l).frS e909 Dj.nil_l).frS e921 Dj.nil_l).frS e938 Dj.nil_l)
         refine d_fl (.agg #[.slice a567 n568 c569, .slice a570 n571 c572, .slice a573 n574 c575, .slice a576 n577 c578, .slice a579 n580 c581]) (x := aLoad Tryd.prog 31 (.pointer (some ⟨b582, 0, none⟩)) H937) (by kernel_rfl) (u943.ld (by kernel_rfl)) ?_
         obtain ⟨y944, hy945, r946⟩ := bind_some r940
         refine d_ck 8 #[.int .i64 4, .int .i64 0, .agg #[.int .i64 y18, .slice none 0 0]] (by kernel_rfl) (c_viaductref01_At e938.wf (Sq.nil (enc := enc_i64_i64) (sz := 2) (by decide)) hy945) ?_
         rintro _ H949 ⟨s947, f948, rfl, e950, m951, i952⟩
         obtain ⟨a954, n955, c956, rfl⟩ := m951.form
         have u957 := (u943.frS e950 Dj.nil_l)
         refine ⟨st_ql (y := aLoad Tryd.prog 31 (.pointer (some ⟨b582, 0, none⟩)) H949) (by kernel_rfl) (u957.ld (by kernel_rfl)) (st_anc (by kernel_rfl) (st_anc (by kernel_rfl) (st_anc (by kernel_rfl) (st_anc (by kernel_rfl) (st_anc (by kernel_rfl) (st_nil)))))), ?_⟩
         have u958 := (((((((((((((((((((((((u596.fr e590 (hb585.djn m542.lt)).fr e603 (Dj.symm d553)).fr e620 Dj.nil_l).ext e663).fr e669 (hb664.djn (m542.lt.le (ntr (ntr (ntr e584.next e590.next) e603.next) e620.next)))).fr e682 (i627.djn (m542.lt.le (ntr (ntr e584.next e590.next) e603.next)))).fr e699 Dj.nil_l).ext e742).fr e748 (hb743.djn (m542.lt.le (ntr (ntr (ntr (ntr (ntr (ntr (ntr e584.next e590.next) e603.next) e620.next) e663.next) e669.next) e682.next) e699.next)))).fr e761 (i708.djn (m542.lt.le (ntr (ntr (ntr (ntr (ntr (ntr e584.next e590.next) e603.next) e620.next) e663.next) e669.next) e682.next)))).fr e785 Dj.nil_l).fr e802 Dj.nil_l).fr e814 Dj.nil_l).fr e831 Dj.nil_l).fr e843 Dj.nil_l).fr e860 Dj.nil_l).fr e869 Dj.nil_l).fr e877 Dj.nil_l).fr e894 Dj.nil_l).fr e909 Dj.nil_l).fr e921 Dj.nil_l).fr e938 Dj.nil_l).fr e950 Dj.nil_l)
         have u959 := (((((((((((((((((((((((u595.fr e590 (hb585.djn m543.lt)).fr e603 (Dj.symm d554)).fr e620 Dj.nil_l).ext e663).fr e669 (hb664.djn (m543.lt.le (ntr (ntr (ntr e584.next e590.next) e603.next) e620.next)))).fr e682 (i627.djn (m543.lt.le (ntr (ntr e584.next e590.next) e603.next)))).fr e699 Dj.nil_l).ext e742).fr e748 (hb743.djn (m543.lt.le (ntr (ntr (ntr (ntr (ntr (ntr (ntr e584.next e590.next) e603.next) e620.next) e663.next) e669.next) e682.next) e699.next)))).fr e761 (i708.djn (m543.lt.le (ntr (ntr (ntr (ntr (ntr (ntr e584.next e590.next) e603.next) e620.next) e663.next) e669.next) e682.next)))).fr e785 Dj.nil_l).fr e802 Dj.nil_l).fr e814 Dj.nil_l).fr e831 Dj.nil_l).fr e843 Dj.nil_l).fr e860 Dj.nil_l).fr e869 Dj.nil_l).fr e877 Dj.nil_l).fr e894 Dj.nil_l).fr e909 Dj.nil_l).fr e921 Dj.nil_l).fr e938 Dj.nil_l).fr e950 Dj.nil_l)
         have u960 := (((((((((((((((((((((hm604.fr e620 Dj.nil_l).ext e663).fr e669 (hb664.djn (m544.lt.le (ntr (ntr (ntr e584.next e590.next) e603.next) e620.next)))).fr e682 (i627.djn (m544.lt.le (ntr (ntr e584.next e590.next) e603.next)))).fr e699 Dj.nil_l).ext e742).fr e748 (hb743.djn (m544.lt.le (ntr (ntr (ntr (ntr (ntr (ntr (ntr e584.next e590.next) e603.next) e620.next) e663.next) e669.next) e682.next) e699.next)))).fr e761 (i708.djn (m544.lt.le (ntr (ntr (ntr (ntr (ntr (ntr e584.next e590.next) e603.next) e620.next) e663.next) e669.next) e682.next)))).fr e785 Dj.nil_l).fr e802 Dj.nil_l).fr e814 Dj.nil_l).fr e831 Dj.nil_l).fr e843 Dj.nil_l).fr e860 Dj.nil_l).fr e869 Dj.nil_l).fr e877 Dj.nil_l).fr e894 Dj.nil_l).fr e909 Dj.nil_l).fr e921 Dj.nil_l).fr e938 Dj.nil_l).fr e950 Dj.nil_l)
         have u961 := (((((((((((((((((((((((u593.fr e590 (hb585.djn m545.lt)).fr e603 d557).fr e620 Dj.nil_l).ext e663).fr e669 (hb664.djn (m545.lt.le (ntr (ntr (ntr e584.next e590.next) e603.next) e620.next)))).fr e682 (i627.djn (m545.lt.le (ntr (ntr e584.next e590.next) e603.next)))).fr e699 Dj.nil_l).ext e742).fr e748 (hb743.djn (m545.lt.le (ntr (ntr (ntr (ntr (ntr (ntr (ntr e584.next e590.next) e603.next) e620.next) e663.next) e669.next) e682.next) e699.next)))).fr e761 (i708.djn (m545.lt.le (ntr (ntr (ntr (ntr (ntr (ntr e584.next e590.next) e603.next) e620.next) e663.next) e669.next) e682.next)))).fr e785 Dj.nil_l).fr e802 Dj.nil_l).fr e814 Dj.nil_l).fr e831 Dj.nil_l).fr e843 Dj.nil_l).fr e860 Dj.nil_l).fr e869 Dj.nil_l).fr e877 Dj.nil_l).fr e894 Dj.nil_l).fr e909 Dj.nil_l).fr e921 Dj.nil_l).fr e938 Dj.nil_l).fr e950 Dj.nil_l)
         have u962 := (((((((((((((((((((((((u592.fr e590 (hb585.djn m546.lt)).fr e603 d560).fr e620 Dj.nil_l).ext e663).fr e669 (hb664.djn (m546.lt.le (ntr (ntr (ntr e584.next e590.next) e603.next) e620.next)))).fr e682 (i627.djn (m546.lt.le (ntr (ntr e584.next e590.next) e603.next)))).fr e699 Dj.nil_l).ext e742).fr e748 (hb743.djn (m546.lt.le (ntr (ntr (ntr (ntr (ntr (ntr (ntr e584.next e590.next) e603.next) e620.next) e663.next) e669.next) e682.next) e699.next)))).fr e761 (i708.djn (m546.lt.le (ntr (ntr (ntr (ntr (ntr (ntr e584.next e590.next) e603.next) e620.next) e663.next) e669.next) e682.next)))).fr e785 Dj.nil_l).fr e802 Dj.nil_l).fr e814 Dj.nil_l).fr e831 Dj.nil_l).fr e843 Dj.nil_l).fr e860 Dj.nil_l).fr e869 Dj.nil_l).fr e877 Dj.nil_l).fr e894 Dj.nil_l).fr e909 Dj.nil_l).fr e921 Dj.nil_l).fr e938 Dj.nil_l).fr e950 Dj.nil_l)
         obtain ⟨y963, hy964, r965⟩ := bind_some r946
         refine d_ck 7 #[.agg #[.int .i64 y944.1, .slice a954 n955 c956], .agg #[.slice a567 n568 c569, .slice a570 n571 c572, .slice a573 n574 c575, .slice a576 n577 c578, .slice a579 n580 c581]] (by kernel_rfl) (c_viaductlaw10_bad e950.wf m951.sq u958.sq u959.sq u960.sq u961.sq u962.sq hy964) ?_
         rintro _ H966 ⟨rfl, e967⟩
         refine ⟨st_anc (by kernel_rfl) (st_anc (by kernel_rfl) (st_anc (by kernel_rfl) (st_anc (by kernel_rfl) (st_anc (by kernel_rfl) (st_anc (by kernel_rfl) (st_nil)))))), ?_⟩
         by_cases h968 : y963 = true
         ·have r969 := ite_t h968 r965
          rw [h968]
          refine d_qk (.bool false) (by kernel_rfl) ?_
          refine d_qk (.bool false) (by kernel_rfl) ?_
          refine d_qk (.bool false) (by kernel_rfl) ?_
          have u971 := ((((u913.frS e921 Dj.nil_l).frS e938 Dj.nil_l).frS e950 Dj.nil_l).frS e967 Dj.nil_l)
          refine d_ql (.agg #[.int .i64 y13, .slice none 0 0]) (x := aLoad Tryd.prog 25 (.pointer (some ⟨b23, 0, none⟩)) H966) (by kernel_rfl) (u971.ld (by kernel_rfl)) ?_
          have u972 := (((((((((((((((((((r670.frS e682 (Dj.symm (hb664.djn m622.lt))).frS e699 Dj.nil_l).ext e742).frS e748 (hb743.djn (r665.ltF.le (ntr (ntr e669.next e682.next) e699.next)))).frS e761 (i708.djn (r665.ltF.le (ntr e669.next e682.next)))).frS e785 Dj.nil_l).frS e802 Dj.nil_l).frS e814 Dj.nil_l).frS e831 Dj.nil_l).frS e843 Dj.nil_l).frS e860 Dj.nil_l).frS e869 Dj.nil_l).frS e877 Dj.nil_l).frS e894 Dj.nil_l).frS e909 Dj.nil_l).frS e921 Dj.nil_l).frS e938 Dj.nil_l).frS e950 Dj.nil_l).frS e967 Dj.nil_l)
          refine d_fl (.agg #[.slice a646 n647 c648, .slice a649 n650 c651, .slice a652 n653 c654, .slice a655 n656 c657, .slice a658 n659 c660]) (x := aLoad Tryd.prog 31 (.pointer (some ⟨b661, 0, none⟩)) H966) (by kernel_rfl) (u972.ld (by kernel_rfl)) ?_
          obtain ⟨y973, hy974, r975⟩ := bind_some r969
          refine d_ck 8 #[.int .i64 3, .int .i64 1, .agg #[.int .i64 y13, .slice none 0 0]] (by kernel_rfl) (c_viaductref01_At e967.wf (Sq.nil (enc := enc_i64_i64) (sz := 2) (by decide)) hy974) ?_
          rintro _ H978 ⟨s976, f977, rfl, e979, m980, i981⟩
          obtain ⟨a983, n984, c985, rfl⟩ := m980.form
          have u986 := (u972.frS e979 Dj.nil_l)
          refine ⟨st_ql (y := aLoad Tryd.prog 31 (.pointer (some ⟨b661, 0, none⟩)) H978) (by kernel_rfl) (u986.ld (by kernel_rfl)) (st_anc (by kernel_rfl) (st_anc (by kernel_rfl) (st_anc (by kernel_rfl) (st_anc (by kernel_rfl) (st_anc (by kernel_rfl) (st_anc (by kernel_rfl) (st_nil))))))), ?_⟩
          have u987 := (((((((((((((((((((((u675.fr e669 (hb664.djn m621.lt)).fr e682 (Dj.symm d631)).fr e699 Dj.nil_l).ext e742).fr e748 (hb743.djn (m621.lt.le (ntr (ntr (ntr e663.next e669.next) e682.next) e699.next)))).fr e761 (i708.djn (m621.lt.le (ntr (ntr e663.next e669.next) e682.next)))).fr e785 Dj.nil_l).fr e802 Dj.nil_l).fr e814 Dj.nil_l).fr e831 Dj.nil_l).fr e843 Dj.nil_l).fr e860 Dj.nil_l).fr e869 Dj.nil_l).fr e877 Dj.nil_l).fr e894 Dj.nil_l).fr e909 Dj.nil_l).fr e921 Dj.nil_l).fr e938 Dj.nil_l).fr e950 Dj.nil_l).fr e967 Dj.nil_l).fr e979 Dj.nil_l)
          have u988 := (((((((((((((((((((hm683.fr e699 Dj.nil_l).ext e742).fr e748 (hb743.djn (m622.lt.le (ntr (ntr (ntr e663.next e669.next) e682.next) e699.next)))).fr e761 (i708.djn (m622.lt.le (ntr (ntr e663.next e669.next) e682.next)))).fr e785 Dj.nil_l).fr e802 Dj.nil_l).fr e814 Dj.nil_l).fr e831 Dj.nil_l).fr e843 Dj.nil_l).fr e860 Dj.nil_l).fr e869 Dj.nil_l).fr e877 Dj.nil_l).fr e894 Dj.nil_l).fr e909 Dj.nil_l).fr e921 Dj.nil_l).fr e938 Dj.nil_l).fr e950 Dj.nil_l).fr e967 Dj.nil_l).fr e979 Dj.nil_l)
          have u989 := (((((((((((((((((((((u673.fr e669 (hb664.djn m623.lt)).fr e682 d633).fr e699 Dj.nil_l).ext e742).fr e748 (hb743.djn (m623.lt.le (ntr (ntr (ntr e663.next e669.next) e682.next) e699.next)))).fr e761 (i708.djn (m623.lt.le (ntr (ntr e663.next e669.next) e682.next)))).fr e785 Dj.nil_l).fr e802 Dj.nil_l).fr e814 Dj.nil_l).fr e831 Dj.nil_l).fr e843 Dj.nil_l).fr e860 Dj.nil_l).fr e869 Dj.nil_l).fr e877 Dj.nil_l).fr e894 Dj.nil_l).fr e909 Dj.nil_l).fr e921 Dj.nil_l).fr e938 Dj.nil_l).fr e950 Dj.nil_l).fr e967 Dj.nil_l).fr e979 Dj.nil_l)
          have u990 := (((((((((((((((((((((u672.fr e669 (hb664.djn m624.lt)).fr e682 d635).fr e699 Dj.nil_l).ext e742).fr e748 (hb743.djn (m624.lt.le (ntr (ntr (ntr e663.next e669.next) e682.next) e699.next)))).fr e761 (i708.djn (m624.lt.le (ntr (ntr e663.next e669.next) e682.next)))).fr e785 Dj.nil_l).fr e802 Dj.nil_l).fr e814 Dj.nil_l).fr e831 Dj.nil_l).fr e843 Dj.nil_l).fr e860 Dj.nil_l).fr e869 Dj.nil_l).fr e877 Dj.nil_l).fr e894 Dj.nil_l).fr e909 Dj.nil_l).fr e921 Dj.nil_l).fr e938 Dj.nil_l).fr e950 Dj.nil_l).fr e967 Dj.nil_l).fr e979 Dj.nil_l)
          have u991 := (((((((((((((((((((((u671.fr e669 (hb664.djn m625.lt)).fr e682 d638).fr e699 Dj.nil_l).ext e742).fr e748 (hb743.djn (m625.lt.le (ntr (ntr (ntr e663.next e669.next) e682.next) e699.next)))).fr e761 (i708.djn (m625.lt.le (ntr (ntr e663.next e669.next) e682.next)))).fr e785 Dj.nil_l).fr e802 Dj.nil_l).fr e814 Dj.nil_l).fr e831 Dj.nil_l).fr e843 Dj.nil_l).fr e860 Dj.nil_l).fr e869 Dj.nil_l).fr e877 Dj.nil_l).fr e894 Dj.nil_l).fr e909 Dj.nil_l).fr e921 Dj.nil_l).fr e938 Dj.nil_l).fr e950 Dj.nil_l).fr e967 Dj.nil_l).fr e979 Dj.nil_l)
          obtain ⟨y992, hy993, r994⟩ := bind_some r975
          refine d_ck 7 #[.agg #[.int .i64 y973.1, .slice a983 n984 c985], .agg #[.slice a646 n647 c648, .slice a649 n650 c651, .slice a652 n653 c654, .slice a655 n656 c657, .slice a658 n659 c660]] (by kernel_rfl) (c_viaductlaw10_bad e979.wf m980.sq u987.sq u988.sq u989.sq u990.sq u991.sq hy993) ?_
          rintro _ H995 ⟨rfl, e996⟩
          refine ⟨st_anc (by kernel_rfl) (st_anc (by kernel_rfl) (st_anc (by kernel_rfl) (st_anc (by kernel_rfl) (st_anc (by kernel_rfl) (st_anc (by kernel_rfl) (st_anc (by kernel_rfl) (st_nil))))))), ?_⟩
          by_cases h997 : y992 = true
          ·have r998 := ite_t h997 r994
           rw [h997]
           refine d_qk (.bool false) (by kernel_rfl) ?_
           refine d_qk (.bool false) (by kernel_rfl) ?_
           refine d_qk (.bool false) (by kernel_rfl) ?_
           have u1000 := ((u971.frS e979 Dj.nil_l).frS e996 Dj.nil_l)
           refine d_ql (.agg #[.int .i64 y13, .slice none 0 0]) (x := aLoad Tryd.prog 25 (.pointer (some ⟨b23, 0, none⟩)) H995) (by kernel_rfl) (u1000.ld (by kernel_rfl)) ?_
           have u1001 := (((((((((((((((((r749.frS e761 (Dj.symm (hb743.djn m703.lt))).frS e785 Dj.nil_l).frS e802 Dj.nil_l).frS e814 Dj.nil_l).frS e831 Dj.nil_l).frS e843 Dj.nil_l).frS e860 Dj.nil_l).frS e869 Dj.nil_l).frS e877 Dj.nil_l).frS e894 Dj.nil_l).frS e909 Dj.nil_l).frS e921 Dj.nil_l).frS e938 Dj.nil_l).frS e950 Dj.nil_l).frS e967 Dj.nil_l).frS e979 Dj.nil_l).frS e996 Dj.nil_l)
           refine d_ql (.agg #[.slice a725 n726 c727, .slice a728 n729 c730, .slice a731 n732 c733, .slice a734 n735 c736, .slice a737 n738 c739]) (x := aLoad Tryd.prog 31 (.pointer (some ⟨b740, 0, none⟩)) H995) (by kernel_rfl) (u1001.ld (by kernel_rfl)) ?_
           have u1002 := ((((((((((((((((((u754.fr e748 (hb743.djn m700.lt)).fr e761 (Dj.symm d713)).fr e785 Dj.nil_l).fr e802 Dj.nil_l).fr e814 Dj.nil_l).fr e831 Dj.nil_l).fr e843 Dj.nil_l).fr e860 Dj.nil_l).fr e869 Dj.nil_l).fr e877 Dj.nil_l).fr e894 Dj.nil_l).fr e909 Dj.nil_l).fr e921 Dj.nil_l).fr e938 Dj.nil_l).fr e950 Dj.nil_l).fr e967 Dj.nil_l).fr e979 Dj.nil_l).fr e996 Dj.nil_l)
           have u1003 := ((((((((((((((((((u753.fr e748 (hb743.djn m701.lt)).fr e761 (Dj.symm d714)).fr e785 Dj.nil_l).fr e802 Dj.nil_l).fr e814 Dj.nil_l).fr e831 Dj.nil_l).fr e843 Dj.nil_l).fr e860 Dj.nil_l).fr e869 Dj.nil_l).fr e877 Dj.nil_l).fr e894 Dj.nil_l).fr e909 Dj.nil_l).fr e921 Dj.nil_l).fr e938 Dj.nil_l).fr e950 Dj.nil_l).fr e967 Dj.nil_l).fr e979 Dj.nil_l).fr e996 Dj.nil_l)
           have u1004 := ((((((((((((((((((u752.fr e748 (hb743.djn m702.lt)).fr e761 (Dj.symm d715)).fr e785 Dj.nil_l).fr e802 Dj.nil_l).fr e814 Dj.nil_l).fr e831 Dj.nil_l).fr e843 Dj.nil_l).fr e860 Dj.nil_l).fr e869 Dj.nil_l).fr e877 Dj.nil_l).fr e894 Dj.nil_l).fr e909 Dj.nil_l).fr e921 Dj.nil_l).fr e938 Dj.nil_l).fr e950 Dj.nil_l).fr e967 Dj.nil_l).fr e979 Dj.nil_l).fr e996 Dj.nil_l)
           have u1005 := ((((((((((((((((hm762.fr e785 Dj.nil_l).fr e802 Dj.nil_l).fr e814 Dj.nil_l).fr e831 Dj.nil_l).fr e843 Dj.nil_l).fr e860 Dj.nil_l).fr e869 Dj.nil_l).fr e877 Dj.nil_l).fr e894 Dj.nil_l).fr e909 Dj.nil_l).fr e921 Dj.nil_l).fr e938 Dj.nil_l).fr e950 Dj.nil_l).fr e967 Dj.nil_l).fr e979 Dj.nil_l).fr e996 Dj.nil_l)
           have u1006 := ((((((((((((((((((u750.fr e748 (hb743.djn m704.lt)).fr e761 d719).fr e785 Dj.nil_l).fr e802 Dj.nil_l).fr e814 Dj.nil_l).fr e831 Dj.nil_l).fr e843 Dj.nil_l).fr e860 Dj.nil_l).fr e869 Dj.nil_l).fr e877 Dj.nil_l).fr e894 Dj.nil_l).fr e909 Dj.nil_l).fr e921 Dj.nil_l).fr e938 Dj.nil_l).fr e950 Dj.nil_l).fr e967 Dj.nil_l).fr e979 Dj.nil_l).fr e996 Dj.nil_l)
           obtain ⟨y1007, hy1008, r1009⟩ := bind_some r998
           refine d_ck 7 #[.agg #[.int .i64 y13, .slice none 0 0], .agg #[.slice a725 n726 c727, .slice a728 n729 c730, .slice a731 n732 c733, .slice a734 n735 c736, .slice a737 n738 c739]] (by kernel_rfl) (c_viaductlaw10_bad e996.wf (Sq.nil (enc := enc_i64_i64) (sz := 2) (by decide)) u1002.sq u1003.sq u1004.sq u1005.sq u1006.sq hy1008) ?_
           rintro _ H1010 ⟨rfl, e1011⟩
           refine ⟨st_anc (by kernel_rfl) (st_anc (by kernel_rfl) (st_anc (by kernel_rfl) (st_anc (by kernel_rfl) (st_anc (by kernel_rfl) (st_anc (by kernel_rfl) (st_anc (by kernel_rfl) (st_nil))))))), ?_⟩
           by_cases h1012 : y1007 = true
           ·have r1013 := ite_t h1012 r1009
            rw [h1012]
            refine d_qk (.bool false) (by kernel_rfl) ?_
            refine d_qk (.bool false) (by kernel_rfl) ?_
            refine d_qk (.bool false) (by kernel_rfl) ?_
            have u1015 := (u1000.frS e1011 Dj.nil_l)
            refine d_ql (.agg #[.int .i64 y13, .slice none 0 0]) (x := aLoad Tryd.prog 25 (.pointer (some ⟨b23, 0, none⟩)) H1010) (by kernel_rfl) (u1015.ld (by kernel_rfl)) ?_
            refine d_qk (.agg #[.slice none 0 0, .slice none 0 0, .slice none 0 0, .slice none 0 0, .slice none 0 0]) (by kernel_rfl) ?_
            obtain ⟨y1016, hy1017, r1018⟩ := bind_some r1013
            refine d_ck 7 #[.agg #[.int .i64 y13, .slice none 0 0], .agg #[.slice none 0 0, .slice none 0 0, .slice none 0 0, .slice none 0 0, .slice none 0 0]] (by kernel_rfl) (c_viaductlaw10_bad e1011.wf (Sq.nil (enc := enc_i64_i64) (sz := 2) (by decide)) (Sq.nil (enc := (encI .u32)) (sz := 1) (by decide)) (Sq.nil (enc := (encI .u32)) (sz := 1) (by decide)) (Sq.nil (enc := enc_u32_u64_u32_u32) (sz := 4) (by decide)) (Sq.nil (enc := (encI .u32)) (sz := 1) (by decide)) (Sq.nil (enc := enc_u32_u64_u32_u32) (sz := 4) (by decide)) hy1017) ?_
            rintro _ H1019 ⟨rfl, e1020⟩
            refine ⟨st_anc (by kernel_rfl) (st_anc (by kernel_rfl) (st_anc (by kernel_rfl) (st_anc (by kernel_rfl) (st_anc (by kernel_rfl) (st_anc (by kernel_rfl) (st_anc (by kernel_rfl) (st_nil))))))), ?_⟩
            refine d_qk (.bool (!y1016)) (by kernel_rfl) ?_
            refine d_qk (.bool (!y1016)) (by kernel_rfl) ?_
            refine d_nil ?_
            obtain rfl := Option.some.inj r1018
            exact k770 _ _ ⟨⟨by kernel_rfl, by kernel_rfl, by kernel_rfl, by kernel_rfl, trivial⟩, (FrS.step e761.wf (FrS.step e761.wf (FrS.step e761.wf (FrS.step e761.wf (FrS.step e761.wf (FrS.step e761.wf (FrS.step e761.wf (FrS.step e761.wf (FrS.step e761.wf (FrS.step e761.wf (FrS.step e761.wf (FrS.step e761.wf (FrS.step e761.wf (FrS.step e761.wf (FrS.step e761.wf (FrS.step e761.wf (FrS.step e761.wf (FrS.step e761.wf (FrS.refl (W := []) e761.wf) e785 Inn.nil) e802 Inn.nil) e814 Inn.nil) e831 Inn.nil) e843 Inn.nil) e860 Inn.nil) e869 Inn.nil) e877 Inn.nil) e894 Inn.nil) e909 Inn.nil) e921 Inn.nil) e938 Inn.nil) e950 Inn.nil) e967 Inn.nil) e979 Inn.nil) e996 Inn.nil) e1011 Inn.nil) e1020 Inn.nil)⟩
           ·have r1021 := ite_f h1012 r1009
            rw [nb h1012]
            refine d_qk (.bool true) (by kernel_rfl) ?_
            refine d_qk (.bool true) (by kernel_rfl) ?_
            refine d_qk (.bool true) (by kernel_rfl) ?_
            refine d_idle (by kernel_rfl) ?_
            refine d_idle (by kernel_rfl) ?_
            refine d_idle (by kernel_rfl) ?_
            refine d_idle (by kernel_rfl) ?_
            refine d_qk (.bool true) (by kernel_rfl) ?_
            refine d_nil ?_
            obtain rfl := Option.some.inj r1021
            exact k770 _ _ ⟨⟨by kernel_rfl, by kernel_rfl, by kernel_rfl, by kernel_rfl, trivial⟩, (FrS.step e761.wf (FrS.step e761.wf (FrS.step e761.wf (FrS.step e761.wf (FrS.step e761.wf (FrS.step e761.wf (FrS.step e761.wf (FrS.step e761.wf (FrS.step e761.wf (FrS.step e761.wf (FrS.step e761.wf (FrS.step e761.wf (FrS.step e761.wf (FrS.step e761.wf (FrS.step e761.wf (FrS.step e761.wf (FrS.step e761.wf (FrS.refl (W := []) e761.wf) e785 Inn.nil) e802 Inn.nil) e814 Inn.nil) e831 Inn.nil) e843 Inn.nil) e860 Inn.nil) e869 Inn.nil) e877 Inn.nil) e894 Inn.nil) e909 Inn.nil) e921 Inn.nil) e938 Inn.nil) e950 Inn.nil) e967 Inn.nil) e979 Inn.nil) e996 Inn.nil) e1011 Inn.nil)⟩
          ·have r1023 := ite_f h997 r994
           rw [nb h997]
           refine d_qk (.bool true) (by kernel_rfl) ?_
           refine d_qk (.bool true) (by kernel_rfl) ?_
           refine d_qk (.bool true) (by kernel_rfl) ?_
           refine d_idle (by kernel_rfl) ?_
           refine d_idle (by kernel_rfl) ?_
           refine d_idle (by kernel_rfl) ?_
           refine d_idle (by kernel_rfl) ?_
           refine d_qk (.bool true) (by kernel_rfl) ?_
           refine d_qk (.bool true) (by kernel_rfl) ?_
           refine d_idle (by kernel_rfl) ?_
           refine d_idle (by kernel_rfl) ?_
           refine d_idle (by kernel_rfl) ?_
           refine d_idle (by kernel_rfl) ?_
           refine d_qk (.bool true) (by kernel_rfl) ?_
           refine d_nil ?_
           obtain rfl := Option.some.inj r1023
           exact k770 _ _ ⟨⟨by kernel_rfl, by kernel_rfl, by kernel_rfl, by kernel_rfl, trivial⟩, (FrS.step e761.wf (FrS.step e761.wf (FrS.step e761.wf (FrS.step e761.wf (FrS.step e761.wf (FrS.step e761.wf (FrS.step e761.wf (FrS.step e761.wf (FrS.step e761.wf (FrS.step e761.wf (FrS.step e761.wf (FrS.step e761.wf (FrS.step e761.wf (FrS.step e761.wf (FrS.step e761.wf (FrS.step e761.wf (FrS.refl (W := []) e761.wf) e785 Inn.nil) e802 Inn.nil) e814 Inn.nil) e831 Inn.nil) e843 Inn.nil) e860 Inn.nil) e869 Inn.nil) e877 Inn.nil) e894 Inn.nil) e909 Inn.nil) e921 Inn.nil) e938 Inn.nil) e950 Inn.nil) e967 Inn.nil) e979 Inn.nil) e996 Inn.nil)⟩
         ·have r1025 := ite_f h968 r965
          rw [nb h968]
          refine d_qk (.bool true) (by kernel_rfl) ?_
          refine d_qk (.bool true) (by kernel_rfl) ?_
          refine d_qk (.bool true) (by kernel_rfl) ?_
          refine d_idle (by kernel_rfl) ?_
          refine d_idle (by kernel_rfl) ?_
          refine d_idle (by kernel_rfl) ?_
          refine d_idle (by kernel_rfl) ?_
          refine d_idle (by kernel_rfl) ?_
          refine d_qk (.bool true) (by kernel_rfl) ?_
          refine d_qk (.bool true) (by kernel_rfl) ?_
          refine d_idle (by kernel_rfl) ?_
          refine d_idle (by kernel_rfl) ?_
          refine d_idle (by kernel_rfl) ?_
          refine d_idle (by kernel_rfl) ?_
          refine d_qk (.bool true) (by kernel_rfl) ?_
          refine d_qk (.bool true) (by kernel_rfl) ?_
          refine d_idle (by kernel_rfl) ?_
          refine d_idle (by kernel_rfl) ?_
          refine d_idle (by kernel_rfl) ?_
          refine d_idle (by kernel_rfl) ?_
          refine d_qk (.bool true) (by kernel_rfl) ?_
          refine d_nil ?_
          obtain rfl := Option.some.inj r1025
          exact k770 _ _ ⟨⟨by kernel_rfl, by kernel_rfl, by kernel_rfl, by kernel_rfl, trivial⟩, (FrS.step e761.wf (FrS.step e761.wf (FrS.step e761.wf (FrS.step e761.wf (FrS.step e761.wf (FrS.step e761.wf (FrS.step e761.wf (FrS.step e761.wf (FrS.step e761.wf (FrS.step e761.wf (FrS.step e761.wf (FrS.step e761.wf (FrS.step e761.wf (FrS.step e761.wf (FrS.refl (W := []) e761.wf) e785 Inn.nil) e802 Inn.nil) e814 Inn.nil) e831 Inn.nil) e843 Inn.nil) e860 Inn.nil) e869 Inn.nil) e877 Inn.nil) e894 Inn.nil) e909 Inn.nil) e921 Inn.nil) e938 Inn.nil) e950 Inn.nil) e967 Inn.nil)⟩
        ·have r1027 := ite_f h939 r936
         rw [nb h939]
         refine d_qk (.bool true) (by kernel_rfl) ?_
         refine d_qk (.bool true) (by kernel_rfl) ?_
         refine d_qk (.bool true) (by kernel_rfl) ?_
         refine d_idle (by kernel_rfl) ?_
         refine d_idle (by kernel_rfl) ?_
         refine d_idle (by kernel_rfl) ?_
         refine d_idle (by kernel_rfl) ?_
         refine d_idle (by kernel_rfl) ?_
         refine d_qk (.bool true) (by kernel_rfl) ?_
         refine d_qk (.bool true) (by kernel_rfl) ?_
         refine d_idle (by kernel_rfl) ?_
         refine d_idle (by kernel_rfl) ?_
         refine d_idle (by kernel_rfl) ?_
         refine d_idle (by kernel_rfl) ?_
         refine d_idle (by kernel_rfl) ?_
         refine d_qk (.bool true) (by kernel_rfl) ?_
         refine d_qk (.bool true) (by kernel_rfl) ?_
         refine d_idle (by kernel_rfl) ?_
         refine d_idle (by kernel_rfl) ?_
         refine d_idle (by kernel_rfl) ?_
         refine d_idle (by kernel_rfl) ?_
         refine d_qk (.bool true) (by kernel_rfl) ?_
         refine d_qk (.bool true) (by kernel_rfl) ?_
         refine d_idle (by kernel_rfl) ?_
         refine d_idle (by kernel_rfl) ?_
         refine d_idle (by kernel_rfl) ?_
         refine d_idle (by kernel_rfl) ?_
         refine d_qk (.bool true) (by kernel_rfl) ?_
         refine d_nil ?_
         obtain rfl := Option.some.inj r1027
         exact k770 _ _ ⟨⟨by kernel_rfl, by kernel_rfl, by kernel_rfl, by kernel_rfl, trivial⟩, (FrS.step e761.wf (FrS.step e761.wf (FrS.step e761.wf (FrS.step e761.wf (FrS.step e761.wf (FrS.step e761.wf (FrS.step e761.wf (FrS.step e761.wf (FrS.step e761.wf (FrS.step e761.wf (FrS.step e761.wf (FrS.step e761.wf (FrS.refl (W := []) e761.wf) e785 Inn.nil) e802 Inn.nil) e814 Inn.nil) e831 Inn.nil) e843 Inn.nil) e860 Inn.nil) e869 Inn.nil) e877 Inn.nil) e894 Inn.nil) e909 Inn.nil) e921 Inn.nil) e938 Inn.nil)⟩
       ·have r1029 := ite_f h910 r907
        rw [nb h910]
        refine d_qk (.bool true) (by kernel_rfl) ?_
        refine d_qk (.bool true) (by kernel_rfl) ?_
        refine d_qk (.bool true) (by kernel_rfl) ?_
        refine d_idle (by kernel_rfl) ?_
        refine d_idle (by kernel_rfl) ?_
        refine d_idle (by kernel_rfl) ?_
        refine d_idle (by kernel_rfl) ?_
        refine d_idle (by kernel_rfl) ?_
        refine d_qk (.bool true) (by kernel_rfl) ?_
        refine d_qk (.bool true) (by kernel_rfl) ?_
        refine d_idle (by kernel_rfl) ?_
        refine d_idle (by kernel_rfl) ?_
        refine d_idle (by kernel_rfl) ?_
        refine d_idle (by kernel_rfl) ?_
        refine d_idle (by kernel_rfl) ?_
        refine d_qk (.bool true) (by kernel_rfl) ?_
        refine d_qk (.bool true) (by kernel_rfl) ?_
        refine d_idle (by kernel_rfl) ?_
        refine d_idle (by kernel_rfl) ?_
        refine d_idle (by kernel_rfl) ?_
        refine d_idle (by kernel_rfl) ?_
        refine d_idle (by kernel_rfl) ?_
        refine d_qk (.bool true) (by kernel_rfl) ?_
        refine d_qk (.bool true) (by kernel_rfl) ?_
        refine d_idle (by kernel_rfl) ?_
        refine d_idle (by kernel_rfl) ?_
        refine d_idle (by kernel_rfl) ?_
        refine d_idle (by kernel_rfl) ?_
        refine d_qk (.bool true) (by kernel_rfl) ?_
        refine d_qk (.bool true) (by kernel_rfl) ?_
        refine d_idle (by kernel_rfl) ?_
        refine d_idle (by kernel_rfl) ?_
        refine d_idle (by kernel_rfl) ?_
        refine d_idle (by kernel_rfl) ?_
        refine d_qk (.bool true) (by kernel_rfl) ?_
        refine d_nil ?_
        obtain rfl := Option.some.inj r1029
        exact k770 _ _ ⟨⟨by kernel_rfl, by kernel_rfl, by kernel_rfl, by kernel_rfl, trivial⟩, (FrS.step e761.wf (FrS.step e761.wf (FrS.step e761.wf (FrS.step e761.wf (FrS.step e761.wf (FrS.step e761.wf (FrS.step e761.wf (FrS.step e761.wf (FrS.step e761.wf (FrS.step e761.wf (FrS.refl (W := []) e761.wf) e785 Inn.nil) e802 Inn.nil) e814 Inn.nil) e831 Inn.nil) e843 Inn.nil) e860 Inn.nil) e869 Inn.nil) e877 Inn.nil) e894 Inn.nil) e909 Inn.nil)⟩
      ·have r1031 := ite_f h895 r892
       rw [nb h895]
       refine d_qk (.bool true) (by kernel_rfl) ?_
       refine d_qk (.bool true) (by kernel_rfl) ?_
       refine d_qk (.bool true) (by kernel_rfl) ?_
       refine d_idle (by kernel_rfl) ?_
       refine d_idle (by kernel_rfl) ?_
       refine d_idle (by kernel_rfl) ?_
       refine d_idle (by kernel_rfl) ?_
       refine d_qk (.bool true) (by kernel_rfl) ?_
       refine d_qk (.bool true) (by kernel_rfl) ?_
       refine d_idle (by kernel_rfl) ?_
       refine d_idle (by kernel_rfl) ?_
       refine d_idle (by kernel_rfl) ?_
       refine d_idle (by kernel_rfl) ?_
       refine d_idle (by kernel_rfl) ?_
       refine d_qk (.bool true) (by kernel_rfl) ?_
       refine d_qk (.bool true) (by kernel_rfl) ?_
       refine d_idle (by kernel_rfl) ?_
       refine d_idle (by kernel_rfl) ?_
       refine d_idle (by kernel_rfl) ?_
       refine d_idle (by kernel_rfl) ?_
       refine d_idle (by kernel_rfl) ?_
       refine d_qk (.bool true) (by kernel_rfl) ?_
       refine d_qk (.bool true) (by kernel_rfl) ?_
       refine d_idle (by kernel_rfl) ?_
       refine d_idle (by kernel_rfl) ?_
       refine d_idle (by kernel_rfl) ?_
       refine d_idle (by kernel_rfl) ?_
       refine d_idle (by kernel_rfl) ?_
       refine d_qk (.bool true) (by kernel_rfl) ?_
       refine d_qk (.bool true) (by kernel_rfl) ?_
       refine d_idle (by kernel_rfl) ?_
       refine d_idle (by kernel_rfl) ?_
       refine d_idle (by kernel_rfl) ?_
       refine d_idle (by kernel_rfl) ?_
       refine d_qk (.bool true) (by kernel_rfl) ?_
       refine d_qk (.bool true) (by kernel_rfl) ?_
       refine d_idle (by kernel_rfl) ?_
       refine d_idle (by kernel_rfl) ?_
       refine d_idle (by kernel_rfl) ?_
       refine d_idle (by kernel_rfl) ?_
       refine d_qk (.bool true) (by kernel_rfl) ?_
       refine d_nil ?_
       obtain rfl := Option.some.inj r1031
       exact k770 _ _ ⟨⟨by kernel_rfl, by kernel_rfl, by kernel_rfl, by kernel_rfl, trivial⟩, (FrS.step e761.wf (FrS.step e761.wf (FrS.step e761.wf (FrS.step e761.wf (FrS.step e761.wf (FrS.step e761.wf (FrS.step e761.wf (FrS.step e761.wf (FrS.step e761.wf (FrS.refl (W := []) e761.wf) e785 Inn.nil) e802 Inn.nil) e814 Inn.nil) e831 Inn.nil) e843 Inn.nil) e860 Inn.nil) e869 Inn.nil) e877 Inn.nil) e894 Inn.nil)⟩
     ·have r1033 := ite_f h861 r858
      rw [nb h861]
      refine d_qk (.bool true) (by kernel_rfl) ?_
      refine d_qk (.bool true) (by kernel_rfl) ?_
      refine d_qk (.bool true) (by kernel_rfl) ?_
      refine d_idle (by kernel_rfl) ?_
      refine d_idle (by kernel_rfl) ?_
      refine d_idle (by kernel_rfl) ?_
      refine d_idle (by kernel_rfl) ?_
      refine d_idle (by kernel_rfl) ?_
      refine d_qk (.bool true) (by kernel_rfl) ?_
      refine d_qk (.bool true) (by kernel_rfl) ?_
      refine d_idle (by kernel_rfl) ?_
      refine d_idle (by kernel_rfl) ?_
      refine d_idle (by kernel_rfl) ?_
      refine d_idle (by kernel_rfl) ?_
      refine d_qk (.bool true) (by kernel_rfl) ?_
      refine d_qk (.bool true) (by kernel_rfl) ?_
      refine d_idle (by kernel_rfl) ?_
      refine d_idle (by kernel_rfl) ?_
      refine d_idle (by kernel_rfl) ?_
      refine d_idle (by kernel_rfl) ?_
      refine d_idle (by kernel_rfl) ?_
      refine d_qk (.bool true) (by kernel_rfl) ?_
      refine d_qk (.bool true) (by kernel_rfl) ?_
      refine d_idle (by kernel_rfl) ?_
      refine d_idle (by kernel_rfl) ?_
      refine d_idle (by kernel_rfl) ?_
      refine d_idle (by kernel_rfl) ?_
      refine d_idle (by kernel_rfl) ?_
      refine d_qk (.bool true) (by kernel_rfl) ?_
      refine d_qk (.bool true) (by kernel_rfl) ?_
      refine d_idle (by kernel_rfl) ?_
      refine d_idle (by kernel_rfl) ?_
      refine d_idle (by kernel_rfl) ?_
      refine d_idle (by kernel_rfl) ?_
      refine d_idle (by kernel_rfl) ?_
      refine d_qk (.bool true) (by kernel_rfl) ?_
      refine d_qk (.bool true) (by kernel_rfl) ?_
      refine d_idle (by kernel_rfl) ?_
      refine d_idle (by kernel_rfl) ?_
      refine d_idle (by kernel_rfl) ?_
      refine d_idle (by kernel_rfl) ?_
      refine d_qk (.bool true) (by kernel_rfl) ?_
      refine d_qk (.bool true) (by kernel_rfl) ?_
      refine d_idle (by kernel_rfl) ?_
      refine d_idle (by kernel_rfl) ?_
      refine d_idle (by kernel_rfl) ?_
      refine d_idle (by kernel_rfl) ?_
      refine d_qk (.bool true) (by kernel_rfl) ?_
      refine d_nil ?_
      obtain rfl := Option.some.inj r1033
      exact k770 _ _ ⟨⟨by kernel_rfl, by kernel_rfl, by kernel_rfl, by kernel_rfl, trivial⟩, (FrS.step e761.wf (FrS.step e761.wf (FrS.step e761.wf (FrS.step e761.wf (FrS.step e761.wf (FrS.step e761.wf (FrS.refl (W := []) e761.wf) e785 Inn.nil) e802 Inn.nil) e814 Inn.nil) e831 Inn.nil) e843 Inn.nil) e860 Inn.nil)⟩
    ·have r1035 := ite_f h832 r829
     rw [nb h832]
     refine d_qk (.bool true) (by kernel_rfl) ?_
     refine d_qk (.bool true) (by kernel_rfl) ?_
     refine d_qk (.bool true) (by kernel_rfl) ?_
     refine d_idle (by kernel_rfl) ?_
     refine d_idle (by kernel_rfl) ?_
     refine d_idle (by kernel_rfl) ?_
     refine d_idle (by kernel_rfl) ?_
     refine d_idle (by kernel_rfl) ?_
     refine d_qk (.bool true) (by kernel_rfl) ?_
     refine d_qk (.bool true) (by kernel_rfl) ?_
     refine d_idle (by kernel_rfl) ?_
     refine d_idle (by kernel_rfl) ?_
     refine d_idle (by kernel_rfl) ?_
     refine d_idle (by kernel_rfl) ?_
     refine d_idle (by kernel_rfl) ?_
     refine d_qk (.bool true) (by kernel_rfl) ?_
     refine d_qk (.bool true) (by kernel_rfl) ?_
     refine d_idle (by kernel_rfl) ?_
     refine d_idle (by kernel_rfl) ?_
     refine d_idle (by kernel_rfl) ?_
     refine d_idle (by kernel_rfl) ?_
     refine d_qk (.bool true) (by kernel_rfl) ?_
     refine d_qk (.bool true) (by kernel_rfl) ?_
     refine d_idle (by kernel_rfl) ?_
     refine d_idle (by kernel_rfl) ?_
     refine d_idle (by kernel_rfl) ?_
     refine d_idle (by kernel_rfl) ?_
     refine d_idle (by kernel_rfl) ?_
     refine d_qk (.bool true) (by kernel_rfl) ?_
     refine d_qk (.bool true) (by kernel_rfl) ?_
     refine d_idle (by kernel_rfl) ?_
     refine d_idle (by kernel_rfl) ?_
     refine d_idle (by kernel_rfl) ?_
     refine d_idle (by kernel_rfl) ?_
     refine d_idle (by kernel_rfl) ?_
     refine d_qk (.bool true) (by kernel_rfl) ?_
     refine d_qk (.bool true) (by kernel_rfl) ?_
     refine d_idle (by kernel_rfl) ?_
     refine d_idle (by kernel_rfl) ?_
     refine d_idle (by kernel_rfl) ?_
     refine d_idle (by kernel_rfl) ?_
     refine d_idle (by kernel_rfl) ?_
     refine d_qk (.bool true) (by kernel_rfl) ?_
     refine d_qk (.bool true) (by kernel_rfl) ?_
     refine d_idle (by kernel_rfl) ?_
     refine d_idle (by kernel_rfl) ?_
     refine d_idle (by kernel_rfl) ?_
     refine d_idle (by kernel_rfl) ?_
     refine d_qk (.bool true) (by kernel_rfl) ?_
     refine d_qk (.bool true) (by kernel_rfl) ?_
     refine d_idle (by kernel_rfl) ?_
     refine d_idle (by kernel_rfl) ?_
     refine d_idle (by kernel_rfl) ?_
     refine d_idle (by kernel_rfl) ?_
     refine d_qk (.bool true) (by kernel_rfl) ?_
     refine d_nil ?_
     obtain rfl := Option.some.inj r1035
     exact k770 _ _ ⟨⟨by kernel_rfl, by kernel_rfl, by kernel_rfl, by kernel_rfl, trivial⟩, (FrS.step e761.wf (FrS.step e761.wf (FrS.step e761.wf (FrS.step e761.wf (FrS.refl (W := []) e761.wf) e785 Inn.nil) e802 Inn.nil) e814 Inn.nil) e831 Inn.nil)⟩
   ·have r1037 := ite_f h803 r800
    rw [nb h803]
    refine d_qk (.bool true) (by kernel_rfl) ?_
    refine d_qk (.bool true) (by kernel_rfl) ?_
    refine d_idle (by kernel_rfl) ?_
    refine d_idle (by kernel_rfl) ?_
    refine d_idle (by kernel_rfl) ?_
    refine d_idle (by kernel_rfl) ?_
    refine d_idle (by kernel_rfl) ?_
    refine d_qk (.bool true) (by kernel_rfl) ?_
    refine d_qk (.bool true) (by kernel_rfl) ?_
    refine d_idle (by kernel_rfl) ?_
    refine d_idle (by kernel_rfl) ?_
    refine d_idle (by kernel_rfl) ?_
    refine d_idle (by kernel_rfl) ?_
    refine d_idle (by kernel_rfl) ?_
    refine d_qk (.bool true) (by kernel_rfl) ?_
    refine d_qk (.bool true) (by kernel_rfl) ?_
    refine d_idle (by kernel_rfl) ?_
    refine d_idle (by kernel_rfl) ?_
    refine d_idle (by kernel_rfl) ?_
    refine d_idle (by kernel_rfl) ?_
    refine d_idle (by kernel_rfl) ?_
    refine d_qk (.bool true) (by kernel_rfl) ?_
    refine d_qk (.bool true) (by kernel_rfl) ?_
    refine d_idle (by kernel_rfl) ?_
    refine d_idle (by kernel_rfl) ?_
    refine d_idle (by kernel_rfl) ?_
    refine d_idle (by kernel_rfl) ?_
    refine d_qk (.bool true) (by kernel_rfl) ?_
    refine d_qk (.bool true) (by kernel_rfl) ?_
    refine d_idle (by kernel_rfl) ?_
    refine d_idle (by kernel_rfl) ?_
    refine d_idle (by kernel_rfl) ?_
    refine d_idle (by kernel_rfl) ?_
    refine d_idle (by kernel_rfl) ?_
    refine d_qk (.bool true) (by kernel_rfl) ?_
    refine d_qk (.bool true) (by kernel_rfl) ?_
    refine d_idle (by kernel_rfl) ?_
    refine d_idle (by kernel_rfl) ?_
    refine d_idle (by kernel_rfl) ?_
    refine d_idle (by kernel_rfl) ?_
    refine d_idle (by kernel_rfl) ?_
    refine d_qk (.bool true) (by kernel_rfl) ?_
    refine d_qk (.bool true) (by kernel_rfl) ?_
    refine d_idle (by kernel_rfl) ?_
    refine d_idle (by kernel_rfl) ?_
    refine d_idle (by kernel_rfl) ?_
    refine d_idle (by kernel_rfl) ?_
    refine d_idle (by kernel_rfl) ?_
    refine d_qk (.bool true) (by kernel_rfl) ?_
    refine d_qk (.bool true) (by kernel_rfl) ?_
    refine d_idle (by kernel_rfl) ?_
    refine d_idle (by kernel_rfl) ?_
    refine d_idle (by kernel_rfl) ?_
    refine d_idle (by kernel_rfl) ?_
    refine d_qk (.bool true) (by kernel_rfl) ?_
    refine d_qk (.bool true) (by kernel_rfl) ?_
    refine d_idle (by kernel_rfl) ?_
    refine d_idle (by kernel_rfl) ?_
    refine d_idle (by kernel_rfl) ?_
    refine d_idle (by kernel_rfl) ?_
    refine d_qk (.bool true) (by kernel_rfl) ?_
    refine d_nil ?_
    obtain rfl := Option.some.inj r1037
    exact k770 _ _ ⟨⟨by kernel_rfl, by kernel_rfl, by kernel_rfl, by kernel_rfl, trivial⟩, (FrS.step e761.wf (FrS.step e761.wf (FrS.refl (W := []) e761.wf) e785 Inn.nil) e802 Inn.nil)⟩
  ·obtain ⟨hh771, e769⟩ := hM
   obtain ⟨β, rfl⟩ := has_ex hh771
   clear hh771
   refine k764 _ _ ?_
   refine w_cond (o765) (by kernel_rfl) rfl (fun h1039 => ?_) (fun h1039 => ?_)
   ·have r1040 := ite_t h1039 r767
    refine w_seqk fun K1041 k1041 => ?_
    refine w_reg (by kernel_rfl) ?_
    refine s_qk (.bool false) (by kernel_rfl) ?_
    refine s_nil ?_
    refine k1041 _ _ ?_
    refine w_ret (th_ret ?_)
    refine b_ret (fn := Tryd.f3) (vs := [.bool false]) (aRes_tmp (by kernel_rfl) (rfl)) ?_
    have c1042 := (FrS.step wf (FrS.step wf (FrS.step wf (((FrS.step wf (FrS.step wf (FrS.step wf (FrS.refl (W := []) wf) e8 Inn.nil) e17 Inn.nil) e22 Inn.nil).extR e25).extR e31) e37 (hb26.fresh (ntr (ntr e8.next e17.next) e22.next))) e42 (hb32.fresh (ntr (ntr (ntr e8.next e17.next) e22.next) e25.next))) e60 Inn.nil)
    have n1043 := (ntr (ntr (ntr (ntr (ntr (ntr (ntr e8.next e17.next) e22.next) e25.next) e31.next) e37.next) e42.next) e60.next)
    have n1044 := (ntr (ntr (ntr (ntr (ntr (ntr (ntr e103.next e109.next) e122.next) e139.next) e182.next) e188.next) e201.next) e218.next)
    have c1045 := (FrS.step e376.wf (FrS.step e376.wf (FrS.step e376.wf ((FrS.step e376.wf (FrS.step e376.wf (FrS.step e376.wf ((FrS.refl (W := []) e376.wf).extR e419) e425 (hb420.fresh (Nat.le_refl _))) e445 (hb420.fresh (Nat.le_refl _))) e462 Inn.nil).extR e505) e511 (hb506.fresh (ntr (ntr (ntr e419.next e425.next) e445.next) e462.next))) e524 (i470.fresh (ntr (ntr e419.next e425.next) e445.next))) e541 Inn.nil)
    have n1046 := (ntr (ntr (ntr (ntr (ntr (ntr (ntr e261.next e267.next) e280.next) e297.next) e340.next) e346.next) e359.next) e376.next)
    have n1047 := (ntr (ntr (ntr (ntr (ntr (ntr (ntr e419.next e425.next) e445.next) e462.next) e505.next) e511.next) e524.next) e541.next)
    have n1048 := (ntr (ntr (ntr (ntr (ntr (ntr (ntr e584.next e590.next) e603.next) e620.next) e663.next) e669.next) e682.next) e699.next)
    obtain rfl := Option.some.inj r1040
    exact ⟨rfl, (FrS.step wf (FrS.step wf (FrS.step wf ((FrS.step wf (FrS.step wf (FrS.step wf ((FrS.step wf (FrS.step wf (FrS.step wf ((FrS.step wf (FrS.step wf (FrS.step wf (FrS.step wf ((FrS.step wf (FrS.step wf (FrS.step wf ((FrS.step wf (FrS.step wf (FrS.step wf ((FrS.step wf (FrS.step wf (FrS.step wf ((FrS.step wf (FrS.refl (W := []) wf) c1042 Inn.nil).extR e103) e109 (hb104.fresh (ntr (ntr (ntr (ntr (ntr (ntr (ntr e8.next e17.next) e22.next) e25.next) e31.next) e37.next) e42.next) e60.next))) e122 (i68.fresh (ntr (ntr (ntr (ntr (ntr (ntr e8.next e17.next) e22.next) e25.next) e31.next) e37.next) e42.next))) e139 Inn.nil).extR e182) e188 (hb183.fresh (ntr (ntr (ntr (ntr (ntr (ntr (ntr (ntr (ntr (ntr (ntr e8.next e17.next) e22.next) e25.next) e31.next) e37.next) e42.next) e60.next) e103.next) e109.next) e122.next) e139.next))) e201 (i147.fresh (ntr (ntr (ntr (ntr (ntr (ntr (ntr (ntr (ntr (ntr e8.next e17.next) e22.next) e25.next) e31.next) e37.next) e42.next) e60.next) e103.next) e109.next) e122.next))) e218 Inn.nil).extR e261) e267 (hb262.fresh (ntr n1043 n1044))) e280 (i226.fresh (ntr (ntr (ntr (ntr (ntr (ntr (ntr (ntr (ntr (ntr (ntr (ntr (ntr (ntr e8.next e17.next) e22.next) e25.next) e31.next) e37.next) e42.next) e60.next) e103.next) e109.next) e122.next) e139.next) e182.next) e188.next) e201.next))) e297 Inn.nil).extR e340) e346 (hb341.fresh (ntr (ntr (ntr (ntr (ntr n1043 n1044) e261.next) e267.next) e280.next) e297.next))) e359 (i303.fresh (ntr (ntr (ntr (ntr n1043 n1044) e261.next) e267.next) e280.next))) e376 Inn.nil) c1045 Inn.nil).extR e584) e590 (hb585.fresh (ntr (ntr (ntr n1043 n1044) n1046) n1047))) e603 (i549.fresh (ntr (ntr (ntr (ntr (ntr (ntr (ntr (ntr (ntr n1043 n1044) n1046) e419.next) e425.next) e445.next) e462.next) e505.next) e511.next) e524.next))) e620 Inn.nil).extR e663) e669 (hb664.fresh (ntr (ntr (ntr (ntr (ntr (ntr (ntr n1043 n1044) n1046) n1047) e584.next) e590.next) e603.next) e620.next))) e682 (i627.fresh (ntr (ntr (ntr (ntr (ntr (ntr n1043 n1044) n1046) n1047) e584.next) e590.next) e603.next))) e699 Inn.nil).extR e742) e748 (hb743.fresh (ntr (ntr (ntr (ntr n1043 n1044) n1046) n1047) n1048))) e761 (i708.fresh (ntr (ntr (ntr (ntr (ntr (ntr (ntr (ntr (ntr (ntr n1043 n1044) n1046) n1047) e584.next) e590.next) e603.next) e620.next) e663.next) e669.next) e682.next))) e769 Inn.nil)⟩
   ·have r1049 := ite_bf h1039 r767
    refine w_skip ?_
    refine k763 _ _ ?_
    refine w_seqk fun K1050 k1050 => ?_
    refine w_reg (by kernel_rfl) ?_
    refine s_owk (enc := (encI .u32)) (sz := 1) e769.wf [0] 1 (by decide) (fun _ _ => rfl) (fun _ _ => rfl) rfl (by kernel_rfl) fun s1051 f1052 H1053 e1054 hf1055 hm1056 => ?_
    obtain ⟨a1057, n1058, c1059, rfl⟩ := hm1056.form
    refine s_owk (enc := (encI .u32)) (sz := 1) e1054.wf [0] 1 (by decide) (fun _ _ => rfl) (fun _ _ => rfl) rfl (by kernel_rfl) fun s1061 f1062 H1063 e1064 hf1065 hm1066 => ?_
    obtain ⟨a1067, n1068, c1069, rfl⟩ := hm1066.form
    refine s_qk (.agg #[.slice none 0 0, .slice a1057 n1058 c1059, .slice none 0 0, .slice a1067 n1068 c1069, .slice none 0 0]) (by kernel_rfl) ?_
    refine s_rwk e1064.wf [.slice none 0 0, .slice none 0 0, .slice none 0 0, .slice none 0 0, .slice none 0 0] (by kernel_rfl) fun b1071 H1072 e1073 hb1074 r1075 => ?_
    have u1081 := (hm1066.ext e1073)
    have u1082 := ((hm1056.ext e1064).ext e1073)
    obtain ⟨H1077, q1078, e1079, r1080⟩ := Row.store (P := Tryd.prog) (t := 31) (p := 0) e1073.wf r1075 (.agg #[.slice none 0 0, .slice a1057 n1058 c1059, .slice none 0 0, .slice a1067 n1068 c1069, .slice none 0 0]) [.slice none 0 0, .slice a1057 n1058 c1059, .slice none 0 0, .slice a1067 n1068 c1069, .slice none 0 0] (by kernel_rfl) (by kernel_rfl) (one_cons (rfl) (one_cons (u1082.one1) (one_cons (rfl) (one_cons (u1081.one1) (one_cons (rfl) (one_nil)))))) (Nat.le_of_ble_eq_true (by kernel_rfl)) [.slice none 0 0, .slice a1057 n1058 c1059, .slice none 0 0, .slice a1067 n1068 c1069, .slice none 0 0] (by kernel_rfl)
    refine s_ek (undef) (by kernel_rfl) (map_ok q1078) ?_
    refine s_nil ?_
    refine k1050 _ _ ?_
    refine w_seqk fun K1083 k1083 => ?_
    refine w_seqk fun K1084 k1084 => ?_
    obtain ⟨o1085, hx1086, r1087⟩ := bind_some r1049
    refine w_mid (fun α H1088 => Has α [(2, .pointer (some ⟨b29, 0, none⟩)), (3, .pointer (some ⟨b101, 0, none⟩)), (175, .bool o1085)] ∧ FrS [] H1077 H1088) (fun K1090 k1090 => ?_) (fun α H1088 hM => ?_)
    ·refine w_draw [0, 1, 2, 3, 5, 6, 4, 7, 8, 9, 10, 12, 13, 14, 11, 15, 16, 17, 18, 19, 20, 21, 22, 23, 24, 25] (by kernel_rfl) ?_
     refine d_ql (.agg #[.slice none 0 0, .slice a1057 n1058 c1059, .slice none 0 0, .slice a1067 n1068 c1069, .slice none 0 0]) (x := aLoad Tryd.prog 31 (.pointer (some ⟨b1071, 0, none⟩)) H1077) (by kernel_rfl) (r1080.ld (by kernel_rfl)) ?_
     have u1092 := (u1082.fr e1079 (hb1074.djn (hm1056.lt.le e1064.next)))
     have u1093 := (u1081.fr e1079 (hb1074.djn hm1066.lt))
     obtain ⟨y1094, hy1095, r1096⟩ := bind_some hx1086
     refine d_ck 9 #[.agg #[.slice none 0 0, .slice a1057 n1058 c1059, .slice none 0 0, .slice a1067 n1068 c1069, .slice none 0 0]] (by kernel_rfl) (c_hier_Check e1079.wf (Sq.nil (enc := (encI .u32)) (sz := 1) (by decide)) u1092.sq (Sq.nil (enc := enc_u32_u64_u32_u32) (sz := 4) (by decide)) u1093.sq (Sq.nil (enc := enc_u32_u64_u32_u32) (sz := 4) (by decide)) hy1095) ?_
     rintro v1097 H1099 ⟨_, f1098, rfl, e1100, m1101, i1102⟩
     refine ⟨st_nil, ?_⟩
     rcases (m1101).cases with ⟨h1104, rfl⟩ | ⟨h1104, t1105, x1106, rfl⟩
     ·have r1107 := ite_t h1104 r1096
      refine d_qk (.bool false) (by kernel_rfl) ?_
      refine d_qk (.bool false) (by kernel_rfl) ?_
      refine d_mks (t := 28) (m := 4) (l := 65537) (c := 65537) (enc := (encI .u32)) (sz := 1) e1100.wf (0 : Int) (by kernel_rfl) (by decide) (by decide) (by decide) (by decide) (by decide) (by kernel_rfl) fun s1108 f1109 H1110 e1111 hf1112 hm1113 => ?_
      obtain ⟨a1114, n1115, c1116, rfl⟩ := hm1113.form
      have hm1113 : Ow (encI .u32) 1 H1110 (.slice a1114 n1115 c1116) (List.replicate (65537 : Int).toNat (0 : Int)) f1109 := hm1113
      refine d_qk (.agg #[.slice a1114 n1115 c1116, .slice none 0 0, .slice none 0 0, .slice none 0 0, .slice none 0 0]) (by kernel_rfl) ?_
      obtain ⟨y1118, hy1119, r1120⟩ := bind_some r1107
      refine d_ck 5 #[.int .i64 9] (by kernel_rfl) (c_viaductref01_E e1111.wf hy1119) ?_
      rintro _ H1121 ⟨rfl, e1122⟩
      refine ⟨st_nil, ?_⟩
      have u1123 := (hm1113.fr e1122 Dj.nil_l)
      obtain ⟨y1124, hy1125, r1126⟩ := bind_some r1120
      refine d_ck 7 #[.agg #[.int .i64 y1118, .slice none 0 0], .agg #[.slice a1114 n1115 c1116, .slice none 0 0, .slice none 0 0, .slice none 0 0, .slice none 0 0]] (by kernel_rfl) (c_viaductlaw10_bad e1122.wf (Sq.nil (enc := enc_i64_i64) (sz := 2) (by decide)) u1123.sq (Sq.nil (enc := (encI .u32)) (sz := 1) (by decide)) (Sq.nil (enc := enc_u32_u64_u32_u32) (sz := 4) (by decide)) (Sq.nil (enc := (encI .u32)) (sz := 1) (by decide)) (Sq.nil (enc := enc_u32_u64_u32_u32) (sz := 4) (by decide)) hy1125) ?_
      rintro _ H1127 ⟨rfl, e1128⟩
      refine ⟨st_nil, ?_⟩
      by_cases h1129 : y1124 = true
      ·have r1130 := ite_t h1129 r1126
       rw [h1129]
       refine d_qk (.bool false) (by kernel_rfl) ?_
       refine d_qk (.bool false) (by kernel_rfl) ?_
       refine d_qk (.bool false) (by kernel_rfl) ?_
       refine d_mks (t := 29) (m := 24) (l := 524288) (c := 524288) (enc := enc_u32_u64_u32_u32) (sz := 4) e1128.wf ((0, 0, 0, 0) : Int × Int × Int × Int) (by kernel_rfl) (by decide) (by decide) (by decide) (by decide) (by decide) (by kernel_rfl) fun s1132 f1133 H1134 e1135 hf1136 hm1137 => ?_
       obtain ⟨a1138, n1139, c1140, rfl⟩ := hm1137.form
       have hm1137 : Ow enc_u32_u64_u32_u32 4 H1134 (.slice a1138 n1139 c1140) (List.replicate (524288 : Int).toNat ((0, 0, 0, 0) : Int × Int × Int × Int)) f1133 := hm1137
       refine d_mks (t := 29) (m := 24) (l := 524289) (c := 524289) (enc := enc_u32_u64_u32_u32) (sz := 4) e1135.wf ((0, 0, 0, 0) : Int × Int × Int × Int) (by kernel_rfl) (by decide) (by decide) (by decide) (by decide) (by decide) (by kernel_rfl) fun s1142 f1143 H1144 e1145 hf1146 hm1147 => ?_
       obtain ⟨a1148, n1149, c1150, rfl⟩ := hm1147.form
       have hm1147 : Ow enc_u32_u64_u32_u32 4 H1144 (.slice a1148 n1149 c1150) (List.replicate (524289 : Int).toNat ((0, 0, 0, 0) : Int × Int × Int × Int)) f1143 := hm1147
       refine d_qk (.agg #[.slice none 0 0, .slice none 0 0, .slice a1138 n1139 c1140, .slice none 0 0, .slice a1148 n1149 c1150]) (by kernel_rfl) ?_
       obtain ⟨y1152, hy1153, r1154⟩ := bind_some r1130
       refine d_ck 5 #[.int .i64 9] (by kernel_rfl) (c_viaductref01_E e1145.wf hy1153) ?_
       rintro _ H1155 ⟨rfl, e1156⟩
       refine ⟨st_nil, ?_⟩
       have u1157 := ((hm1137.ext e1145).fr e1156 Dj.nil_l)
       have u1158 := (hm1147.fr e1156 Dj.nil_l)
       obtain ⟨y1159, hy1160, r1161⟩ := bind_some r1154
       refine d_ck 7 #[.agg #[.int .i64 y1152, .slice none 0 0], .agg #[.slice none 0 0, .slice none 0 0, .slice a1138 n1139 c1140, .slice none 0 0, .slice a1148 n1149 c1150]] (by kernel_rfl) (c_viaductlaw10_bad e1156.wf (Sq.nil (enc := enc_i64_i64) (sz := 2) (by decide)) (Sq.nil (enc := (encI .u32)) (sz := 1) (by decide)) (Sq.nil (enc := (encI .u32)) (sz := 1) (by decide)) u1157.sq (Sq.nil (enc := (encI .u32)) (sz := 1) (by decide)) u1158.sq hy1160) ?_
       rintro _ H1162 ⟨rfl, e1163⟩
       refine ⟨st_nil, ?_⟩
       by_cases h1164 : y1159 = true
       ·have r1165 := ite_t h1164 r1161
        rw [h1164]
        refine d_qk (.bool false) (by kernel_rfl) ?_
        refine d_qk (.bool false) (by kernel_rfl) ?_
        refine d_qk (.bool false) (by kernel_rfl) ?_
        have n1167 := (ntr (ntr (ntr (ntr (ntr (ntr (ntr e103.next e109.next) e122.next) e139.next) e182.next) e188.next) e201.next) e218.next)
        have c1168 := (FrS.step e376.wf (FrS.step e376.wf (FrS.step e376.wf ((FrS.step e376.wf (FrS.step e376.wf (FrS.step e376.wf ((FrS.refl (W := []) e376.wf).extR e419) e425 (hb420.fresh (Nat.le_refl _))) e445 (hb420.fresh (Nat.le_refl _))) e462 Inn.nil).extR e505) e511 (hb506.fresh (ntr (ntr (ntr e419.next e425.next) e445.next) e462.next))) e524 (i470.fresh (ntr (ntr e419.next e425.next) e445.next))) e541 Inn.nil)
        have n1169 := (ntr (ntr (ntr (ntr (ntr (ntr (ntr e261.next e267.next) e280.next) e297.next) e340.next) e346.next) e359.next) e376.next)
        have n1170 := (ntr (ntr (ntr (ntr (ntr (ntr (ntr e419.next e425.next) e445.next) e462.next) e505.next) e511.next) e524.next) e541.next)
        have n1171 := (ntr (ntr (ntr (ntr (ntr (ntr (ntr e584.next e590.next) e603.next) e620.next) e663.next) e669.next) e682.next) e699.next)
        have c1172 := (FrS.step e1079.wf (FrS.step e1079.wf (((FrS.step e1079.wf (FrS.step e1079.wf ((FrS.step e1079.wf (FrS.refl (W := []) e1079.wf) e1100 Inn.nil).extR e1111) e1122 Inn.nil) e1128 Inn.nil).extR e1135).extR e1145) e1156 Inn.nil) e1163 Inn.nil)
        have u1173 := ((((((((((((((((((((((((((((((((((((r38.frS e42 (hb32.djn r27.ltF)).frS e60 Dj.nil_l).ext e103).frS e109 (hb104.djn (r27.ltF.le (ntr (ntr (ntr e31.next e37.next) e42.next) e60.next)))).frS e122 (i68.djn (r27.ltF.le (ntr (ntr e31.next e37.next) e42.next)))).frS e139 Dj.nil_l).ext e182).frS e188 (hb183.djn (r27.ltF.le (ntr (ntr (ntr (ntr (ntr (ntr (ntr e31.next e37.next) e42.next) e60.next) e103.next) e109.next) e122.next) e139.next)))).frS e201 (i147.djn (r27.ltF.le (ntr (ntr (ntr (ntr (ntr (ntr e31.next e37.next) e42.next) e60.next) e103.next) e109.next) e122.next)))).frS e218 Dj.nil_l).ext e261).frS e267 (hb262.djn (r27.ltF.le (ntr (ntr (ntr (ntr (ntr (ntr (ntr (ntr (ntr (ntr (ntr e31.next e37.next) e42.next) e60.next) e103.next) e109.next) e122.next) e139.next) e182.next) e188.next) e201.next) e218.next)))).frS e280 (i226.djn (r27.ltF.le (ntr (ntr (ntr (ntr (ntr (ntr (ntr (ntr (ntr (ntr e31.next e37.next) e42.next) e60.next) e103.next) e109.next) e122.next) e139.next) e182.next) e188.next) e201.next)))).frS e297 Dj.nil_l).ext e340).frS e346 (hb341.djn (r27.ltF.le (ntr (ntr (ntr (ntr (ntr (ntr (ntr (ntr e31.next e37.next) e42.next) e60.next) n1167) e261.next) e267.next) e280.next) e297.next)))).frS e359 (i303.djn (r27.ltF.le (ntr (ntr (ntr (ntr (ntr (ntr (ntr (ntr (ntr (ntr (ntr (ntr (ntr (ntr e31.next e37.next) e42.next) e60.next) e103.next) e109.next) e122.next) e139.next) e182.next) e188.next) e201.next) e218.next) e261.next) e267.next) e280.next)))).frS e376 Dj.nil_l).frS c1168 Dj.nil_l).ext e584).frS e590 (hb585.djn (r27.ltF.le (ntr (ntr (ntr (ntr (ntr (ntr e31.next e37.next) e42.next) e60.next) n1167) n1169) n1170)))).frS e603 (i549.djn (r27.ltF.le (ntr (ntr (ntr (ntr (ntr (ntr (ntr (ntr (ntr (ntr (ntr (ntr e31.next e37.next) e42.next) e60.next) n1167) n1169) e419.next) e425.next) e445.next) e462.next) e505.next) e511.next) e524.next)))).frS e620 Dj.nil_l).ext e663).frS e669 (hb664.djn (r27.ltF.le (ntr (ntr (ntr (ntr (ntr (ntr (ntr (ntr (ntr (ntr e31.next e37.next) e42.next) e60.next) n1167) n1169) n1170) e584.next) e590.next) e603.next) e620.next)))).frS e682 (i627.djn (r27.ltF.le (ntr (ntr (ntr (ntr (ntr (ntr (ntr (ntr (ntr e31.next e37.next) e42.next) e60.next) n1167) n1169) n1170) e584.next) e590.next) e603.next)))).frS e699 Dj.nil_l).ext e742).frS e748 (hb743.djn (r27.ltF.le (ntr (ntr (ntr (ntr (ntr (ntr (ntr e31.next e37.next) e42.next) e60.next) n1167) n1169) n1170) n1171)))).frS e761 (i708.djn (r27.ltF.le (ntr (ntr (ntr (ntr (ntr (ntr (ntr (ntr (ntr (ntr (ntr (ntr (ntr e31.next e37.next) e42.next) e60.next) n1167) n1169) n1170) e584.next) e590.next) e603.next) e620.next) e663.next) e669.next) e682.next)))).frS e769 Dj.nil_l).ext e1054).ext e1064).ext e1073).frS e1079 (hb1074.djn (r27.ltF.le (ntr (ntr (ntr (ntr (ntr (ntr (ntr (ntr (ntr (ntr (ntr (ntr (ntr e31.next e37.next) e42.next) e60.next) n1167) n1169) n1170) n1171) e742.next) e748.next) e761.next) e769.next) e1054.next) e1064.next)))).frS c1172 Dj.nil_l)
        refine d_ql (.agg #[.int .i64 y13, .slice none 0 0]) (x := aLoad Tryd.prog 25 (.pointer (some ⟨b23, 0, none⟩)) H1162) (by kernel_rfl) (u1173.ld (by kernel_rfl)) ?_
        refine d_mks (t := 29) (m := 24) (l := 524288) (c := 524288) (enc := enc_u32_u64_u32_u32) (sz := 4) e1163.wf ((0, 0, 0, 0) : Int × Int × Int × Int) (by kernel_rfl) (by decide) (by decide) (by decide) (by decide) (by decide) (by kernel_rfl) fun s1174 f1175 H1176 e1177 hf1178 hm1179 => ?_
        obtain ⟨a1180, n1181, c1182, rfl⟩ := hm1179.form
        have hm1179 : Ow enc_u32_u64_u32_u32 4 H1176 (.slice a1180 n1181 c1182) (List.replicate (524288 : Int).toNat ((0, 0, 0, 0) : Int × Int × Int × Int)) f1175 := hm1179
        refine d_mks (t := 29) (m := 24) (l := 524288) (c := 524288) (enc := enc_u32_u64_u32_u32) (sz := 4) e1177.wf ((0, 0, 0, 0) : Int × Int × Int × Int) (by kernel_rfl) (by decide) (by decide) (by decide) (by decide) (by decide) (by kernel_rfl) fun s1184 f1185 H1186 e1187 hf1188 hm1189 => ?_
        obtain ⟨a1190, n1191, c1192, rfl⟩ := hm1189.form
        have hm1189 : Ow enc_u32_u64_u32_u32 4 H1186 (.slice a1190 n1191 c1192) (List.replicate (524288 : Int).toNat ((0, 0, 0, 0) : Int × Int × Int × Int)) f1185 := hm1189
        refine d_qk (.agg #[.slice none 0 0, .slice none 0 0, .slice a1180 n1181 c1182, .slice none 0 0, .slice a1190 n1191 c1192]) (by kernel_rfl) ?_
        have u1194 := (hm1179.ext e1187)
        obtain ⟨y1195, hy1196, r1197⟩ := bind_some r1165
        refine d_ck 7 #[.agg #[.int .i64 y13, .slice none 0 0], .agg #[.slice none 0 0, .slice none 0 0, .slice a1180 n1181 c1182, .slice none 0 0, .slice a1190 n1191 c1192]] (by kernel_rfl) (c_viaductlaw10_bad e1187.wf (Sq.nil (enc := enc_i64_i64) (sz := 2) (by decide)) (Sq.nil (enc := (encI .u32)) (sz := 1) (by decide)) (Sq.nil (enc := (encI .u32)) (sz := 1) (by decide)) u1194.sq (Sq.nil (enc := (encI .u32)) (sz := 1) (by decide)) hm1189.sq hy1196) ?_
        rintro _ H1198 ⟨rfl, e1199⟩
        refine ⟨st_nil, ?_⟩
        refine d_qk (.bool (!y1195)) (by kernel_rfl) ?_
        refine d_qk (.bool (!y1195)) (by kernel_rfl) ?_
        refine d_nil ?_
        obtain rfl := Option.some.inj r1197
        exact k1090 _ _ ⟨⟨by kernel_rfl, by kernel_rfl, by kernel_rfl, trivial⟩, (FrS.step e1079.wf (((FrS.step e1079.wf (FrS.step e1079.wf (((FrS.step e1079.wf (FrS.step e1079.wf ((FrS.step e1079.wf (FrS.refl (W := []) e1079.wf) e1100 Inn.nil).extR e1111) e1122 Inn.nil) e1128 Inn.nil).extR e1135).extR e1145) e1156 Inn.nil) e1163 Inn.nil).extR e1177).extR e1187) e1199 Inn.nil)⟩
       ·have r1200 := ite_f h1164 r1161
        rw [nb h1164]
        refine d_qk (.bool true) (by kernel_rfl) ?_
        refine d_qk (.bool true) (by kernel_rfl) ?_
        refine d_qk (.bool true) (by kernel_rfl) ?_
        refine d_idle (by kernel_rfl) ?_
        refine d_idle (by kernel_rfl) ?_
        refine d_idle (by kernel_rfl) ?_
        refine d_idle (by kernel_rfl) ?_
        refine d_idle (by kernel_rfl) ?_
        refine d_idle (by kernel_rfl) ?_
        refine d_qk (.bool true) (by kernel_rfl) ?_
        refine d_nil ?_
        obtain rfl := Option.some.inj r1200
        exact k1090 _ _ ⟨⟨by kernel_rfl, by kernel_rfl, by kernel_rfl, trivial⟩, (FrS.step e1079.wf (FrS.step e1079.wf (((FrS.step e1079.wf (FrS.step e1079.wf ((FrS.step e1079.wf (FrS.refl (W := []) e1079.wf) e1100 Inn.nil).extR e1111) e1122 Inn.nil) e1128 Inn.nil).extR e1135).extR e1145) e1156 Inn.nil) e1163 Inn.nil)⟩
      ·have r1202 := ite_f h1129 r1126
       rw [nb h1129]
       refine d_qk (.bool true) (by kernel_rfl) ?_
       refine d_qk (.bool true) (by kernel_rfl) ?_
       refine d_qk (.bool true) (by kernel_rfl) ?_
       refine d_idle (by kernel_rfl) ?_
       refine d_idle (by kernel_rfl) ?_
       refine d_idle (by kernel_rfl) ?_
       refine d_idle (by kernel_rfl) ?_
       refine d_idle (by kernel_rfl) ?_
       refine d_idle (by kernel_rfl) ?_
       refine d_qk (.bool true) (by kernel_rfl) ?_
       refine d_qk (.bool true) (by kernel_rfl) ?_
       refine d_idle (by kernel_rfl) ?_
       refine d_idle (by kernel_rfl) ?_
       refine d_idle (by kernel_rfl) ?_
       refine d_idle (by kernel_rfl) ?_
       refine d_idle (by kernel_rfl) ?_
       refine d_idle (by kernel_rfl) ?_
       refine d_qk (.bool true) (by kernel_rfl) ?_
       refine d_nil ?_
       obtain rfl := Option.some.inj r1202
       exact k1090 _ _ ⟨⟨by kernel_rfl, by kernel_rfl, by kernel_rfl, trivial⟩, (FrS.step e1079.wf (FrS.step e1079.wf ((FrS.step e1079.wf (FrS.refl (W := []) e1079.wf) e1100 Inn.nil).extR e1111) e1122 Inn.nil) e1128 Inn.nil)⟩
     ·have r1204 := ite_f h1104 r1096
      refine d_ql (.bool true) (x := aBin Tryd.prog .neq 41 (.tmp 151) (.const .nilIface) (.iface t1105 x1106) .nilIface) (by kernel_rfl) (aBin_nnil (by kernel_rfl)) ?_
      refine d_qk (.bool true) (by kernel_rfl) ?_
      refine d_idle (by kernel_rfl) ?_
      refine d_idle (by kernel_rfl) ?_
      refine d_idle (by kernel_rfl) ?_
      refine d_idle (by kernel_rfl) ?_
      refine d_idle (by kernel_rfl) ?_
      refine d_qk (.bool true) (by kernel_rfl) ?_
      refine d_qk (.bool true) (by kernel_rfl) ?_
      refine d_idle (by kernel_rfl) ?_
      refine d_idle (by kernel_rfl) ?_
      refine d_idle (by kernel_rfl) ?_
      refine d_idle (by kernel_rfl) ?_
      refine d_idle (by kernel_rfl) ?_
      refine d_idle (by kernel_rfl) ?_
      refine d_qk (.bool true) (by kernel_rfl) ?_
      refine d_qk (.bool true) (by kernel_rfl) ?_
      refine d_idle (by kernel_rfl) ?_
      refine d_idle (by kernel_rfl) ?_
      refine d_idle (by kernel_rfl) ?_
      refine d_idle (by kernel_rfl) ?_
      refine d_idle (by kernel_rfl) ?_
      refine d_idle (by kernel_rfl) ?_
      refine d_qk (.bool true) (by kernel_rfl) ?_
      refine d_nil ?_
      obtain rfl := Option.some.inj r1204
      exact k1090 _ _ ⟨⟨by kernel_rfl, by kernel_rfl, by kernel_rfl, trivial⟩, (FrS.step e1079.wf (FrS.refl (W := []) e1079.wf) e1100 Inn.nil)⟩
    ·obtain ⟨hh1091, e1089⟩ := hM
     obtain ⟨β, rfl⟩ := has_ex hh1091
     clear hh1091
     refine k1084 _ _ ?_
     refine w_cond (o1085) (by kernel_rfl) rfl (fun h1205 => ?_) (fun h1205 => ?_)
     ·have r1206 := ite_t h1205 r1087
      refine w_seqk fun K1207 k1207 => ?_
      refine w_reg (by kernel_rfl) ?_
      refine s_qk (.bool false) (by kernel_rfl) ?_
      refine s_nil ?_
      refine k1207 _ _ ?_
      refine w_ret (th_ret ?_)
      refine b_ret (fn := Tryd.f3) (vs := [.bool false]) (aRes_tmp (by kernel_rfl) (rfl)) ?_
      have c1208 := (FrS.step wf (FrS.step wf (FrS.step wf (((FrS.step wf (FrS.step wf (FrS.step wf (FrS.refl (W := []) wf) e8 Inn.nil) e17 Inn.nil) e22 Inn.nil).extR e25).extR e31) e37 (hb26.fresh (ntr (ntr e8.next e17.next) e22.next))) e42 (hb32.fresh (ntr (ntr (ntr e8.next e17.next) e22.next) e25.next))) e60 Inn.nil)
      have n1209 := (ntr (ntr (ntr (ntr (ntr (ntr (ntr e8.next e17.next) e22.next) e25.next) e31.next) e37.next) e42.next) e60.next)
      have n1210 := (ntr (ntr (ntr (ntr (ntr (ntr (ntr e103.next e109.next) e122.next) e139.next) e182.next) e188.next) e201.next) e218.next)
      have c1211 := (FrS.step e376.wf (FrS.step e376.wf (FrS.step e376.wf ((FrS.step e376.wf (FrS.step e376.wf (FrS.step e376.wf ((FrS.refl (W := []) e376.wf).extR e419) e425 (hb420.fresh (Nat.le_refl _))) e445 (hb420.fresh (Nat.le_refl _))) e462 Inn.nil).extR e505) e511 (hb506.fresh (ntr (ntr (ntr e419.next e425.next) e445.next) e462.next))) e524 (i470.fresh (ntr (ntr e419.next e425.next) e445.next))) e541 Inn.nil)
      have n1212 := (ntr (ntr (ntr (ntr (ntr (ntr (ntr e261.next e267.next) e280.next) e297.next) e340.next) e346.next) e359.next) e376.next)
      have n1213 := (ntr (ntr (ntr (ntr (ntr (ntr (ntr e419.next e425.next) e445.next) e462.next) e505.next) e511.next) e524.next) e541.next)
      have n1214 := (ntr (ntr (ntr (ntr (ntr (ntr (ntr e584.next e590.next) e603.next) e620.next) e663.next) e669.next) e682.next) e699.next)
      obtain rfl := Option.some.inj r1206
      exact ⟨rfl, (FrS.step wf (FrS.step wf ((((FrS.step wf (FrS.step wf (FrS.step wf ((FrS.step wf (FrS.step wf (FrS.step wf ((FrS.step wf (FrS.step wf (FrS.step wf ((FrS.step wf (FrS.step wf (FrS.step wf (FrS.step wf ((FrS.step wf (FrS.step wf (FrS.step wf ((FrS.step wf (FrS.step wf (FrS.step wf ((FrS.step wf (FrS.step wf (FrS.step wf ((FrS.step wf (FrS.refl (W := []) wf) c1208 Inn.nil).extR e103) e109 (hb104.fresh (ntr (ntr (ntr (ntr (ntr (ntr (ntr e8.next e17.next) e22.next) e25.next) e31.next) e37.next) e42.next) e60.next))) e122 (i68.fresh (ntr (ntr (ntr (ntr (ntr (ntr e8.next e17.next) e22.next) e25.next) e31.next) e37.next) e42.next))) e139 Inn.nil).extR e182) e188 (hb183.fresh (ntr (ntr (ntr (ntr (ntr (ntr (ntr (ntr (ntr (ntr (ntr e8.next e17.next) e22.next) e25.next) e31.next) e37.next) e42.next) e60.next) e103.next) e109.next) e122.next) e139.next))) e201 (i147.fresh (ntr (ntr (ntr (ntr (ntr (ntr (ntr (ntr (ntr (ntr e8.next e17.next) e22.next) e25.next) e31.next) e37.next) e42.next) e60.next) e103.next) e109.next) e122.next))) e218 Inn.nil).extR e261) e267 (hb262.fresh (ntr n1209 n1210))) e280 (i226.fresh (ntr (ntr (ntr (ntr (ntr (ntr (ntr (ntr (ntr (ntr (ntr (ntr (ntr (ntr e8.next e17.next) e22.next) e25.next) e31.next) e37.next) e42.next) e60.next) e103.next) e109.next) e122.next) e139.next) e182.next) e188.next) e201.next))) e297 Inn.nil).extR e340) e346 (hb341.fresh (ntr (ntr (ntr (ntr (ntr n1209 n1210) e261.next) e267.next) e280.next) e297.next))) e359 (i303.fresh (ntr (ntr (ntr (ntr n1209 n1210) e261.next) e267.next) e280.next))) e376 Inn.nil) c1211 Inn.nil).extR e584) e590 (hb585.fresh (ntr (ntr (ntr n1209 n1210) n1212) n1213))) e603 (i549.fresh (ntr (ntr (ntr (ntr (ntr (ntr (ntr (ntr (ntr n1209 n1210) n1212) e419.next) e425.next) e445.next) e462.next) e505.next) e511.next) e524.next))) e620 Inn.nil).extR e663) e669 (hb664.fresh (ntr (ntr (ntr (ntr (ntr (ntr (ntr n1209 n1210) n1212) n1213) e584.next) e590.next) e603.next) e620.next))) e682 (i627.fresh (ntr (ntr (ntr (ntr (ntr (ntr n1209 n1210) n1212) n1213) e584.next) e590.next) e603.next))) e699 Inn.nil).extR e742) e748 (hb743.fresh (ntr (ntr (ntr (ntr n1209 n1210) n1212) n1213) n1214))) e761 (i708.fresh (ntr (ntr (ntr (ntr (ntr (ntr (ntr (ntr (ntr (ntr n1209 n1210) n1212) n1213) e584.next) e590.next) e603.next) e620.next) e663.next) e669.next) e682.next))) e769 Inn.nil).extR e1054).extR e1064).extR e1073) e1079 (hb1074.fresh (ntr (ntr (ntr (ntr (ntr (ntr (ntr (ntr (ntr (ntr n1209 n1210) n1212) n1213) n1214) e742.next) e748.next) e761.next) e769.next) e1054.next) e1064.next))) e1089 Inn.nil)⟩
     ·have r1215 := ite_bf h1205 r1087
      refine w_skip ?_
      refine k1083 _ _ ?_
      refine w_seqk fun K1216 k1216 => ?_
      refine w_reg (by kernel_rfl) ?_
      obtain ⟨y1217, hy1218, r1219⟩ := bind_some r1215
      refine s_ck 6 #[] (by kernel_rfl) (c_viaductref10_Three e1089.wf hy1218) ?_
      rintro _ H1230 ⟨s1220, f1221, s1222, f1223, s1224, f1225, s1226, f1227, s1228, f1229, rfl, e1231, m1232, m1233, m1234, m1235, m1236, i1237, i1238, i1239, i1240, i1241, d1242, d1243, d1244, d1245, d1246, d1247, d1248, d1249, d1250, d1251⟩
      obtain ⟨a1257, n1258, c1259, rfl⟩ := m1232.form
      obtain ⟨a1260, n1261, c1262, rfl⟩ := m1233.form
      obtain ⟨a1263, n1264, c1265, rfl⟩ := m1234.form
      obtain ⟨a1266, n1267, c1268, rfl⟩ := m1235.form
      obtain ⟨a1269, n1270, c1271, rfl⟩ := m1236.form
      obtain ⟨y1272, hy1273, r1274⟩ := bind_some r1219
      refine s_ck 10 #[.agg #[.slice a1257 n1258 c1259, .slice a1260 n1261 c1262, .slice a1263 n1264 c1265, .slice a1266 n1267 c1268, .slice a1269 n1270 c1271], .int .i64 1] (by kernel_rfl) (c_hier_Ends e1231.wf m1232.sq m1233.sq m1234.sq m1235.sq m1236.sq hy1273) ?_
      rintro _ H1277 ⟨v1275, f1276, rfl, e1278, m1279, i1280⟩
      refine s_qk (.tuple #[.int .i64 y1272.1, .int .i64 y1272.2.1, v1275]) (by kernel_rfl) ?_
      refine s_qk (.int .i64 y1272.1) (by kernel_rfl) ?_
      refine s_qk (.int .i64 y1272.2.1) (by kernel_rfl) ?_
      refine s_qk (v1275) (by kernel_rfl) ?_
      refine s_qk (.int .i64 y1272.1) (by kernel_rfl) ?_
      refine s_qk (.int .i64 y1272.2.1) (by kernel_rfl) ?_
      refine s_qk (v1275) (by kernel_rfl) ?_
      refine s_nil ?_
      refine k1216 _ _ ?_
      refine w_seqk fun K1282 k1282 => ?_
      refine w_reg (by kernel_rfl) ?_
      obtain ⟨y1283, hy1284, r1285⟩ := bind_some r1274
      refine s_ck 6 #[] (by kernel_rfl) (c_viaductref10_Three e1278.wf hy1284) ?_
      rintro _ H1296 ⟨s1286, f1287, s1288, f1289, s1290, f1291, s1292, f1293, s1294, f1295, rfl, e1297, m1298, m1299, m1300, m1301, m1302, i1303, i1304, i1305, i1306, i1307, d1308, d1309, d1310, d1311, d1312, d1313, d1314, d1315, d1316, d1317⟩
      obtain ⟨a1323, n1324, c1325, rfl⟩ := m1298.form
      obtain ⟨a1326, n1327, c1328, rfl⟩ := m1299.form
      obtain ⟨a1329, n1330, c1331, rfl⟩ := m1300.form
      obtain ⟨a1332, n1333, c1334, rfl⟩ := m1301.form
      obtain ⟨a1335, n1336, c1337, rfl⟩ := m1302.form
      obtain ⟨y1338, hy1339, r1340⟩ := bind_some r1285
      refine s_ck 10 #[.agg #[.slice a1323 n1324 c1325, .slice a1326 n1327 c1328, .slice a1329 n1330 c1331, .slice a1332 n1333 c1334, .slice a1335 n1336 c1337], .int .i64 3] (by kernel_rfl) (c_hier_Ends e1297.wf m1298.sq m1299.sq m1300.sq m1301.sq m1302.sq hy1339) ?_
      rintro _ H1343 ⟨v1341, f1342, rfl, e1344, m1345, i1346⟩
      refine s_qk (.tuple #[.int .i64 y1338.1, .int .i64 y1338.2.1, v1341]) (by kernel_rfl) ?_
      refine s_qk (.int .i64 y1338.1) (by kernel_rfl) ?_
      refine s_qk (.int .i64 y1338.2.1) (by kernel_rfl) ?_
      refine s_qk (v1341) (by kernel_rfl) ?_
      refine s_qk (.int .i64 y1338.1) (by kernel_rfl) ?_
      refine s_qk (.int .i64 y1338.2.1) (by kernel_rfl) ?_
      refine s_qk (v1341) (by kernel_rfl) ?_
      refine s_nil ?_
      refine k1282 _ _ ?_
      refine w_seqk fun K1348 k1348 => ?_
      refine w_reg (by kernel_rfl) ?_
      obtain ⟨y1349, hy1350, r1351⟩ := bind_some r1340
      refine s_ck 6 #[] (by kernel_rfl) (c_viaductref10_Three e1344.wf hy1350) ?_
      rintro _ H1362 ⟨s1352, f1353, s1354, f1355, s1356, f1357, s1358, f1359, s1360, f1361, rfl, e1363, m1364, m1365, m1366, m1367, m1368, i1369, i1370, i1371, i1372, i1373, d1374, d1375, d1376, d1377, d1378, d1379, d1380, d1381, d1382, d1383⟩
      obtain ⟨a1389, n1390, c1391, rfl⟩ := m1364.form
      obtain ⟨a1392, n1393, c1394, rfl⟩ := m1365.form
      obtain ⟨a1395, n1396, c1397, rfl⟩ := m1366.form
      obtain ⟨a1398, n1399, c1400, rfl⟩ := m1367.form
      obtain ⟨a1401, n1402, c1403, rfl⟩ := m1368.form
      obtain ⟨y1404, hy1405, r1406⟩ := bind_some r1351
      refine s_ck 10 #[.agg #[.slice a1389 n1390 c1391, .slice a1392 n1393 c1394, .slice a1395 n1396 c1397, .slice a1398 n1399 c1400, .slice a1401 n1402 c1403], .int .i64 (-1)] (by kernel_rfl) (c_hier_Ends e1363.wf m1364.sq m1365.sq m1366.sq m1367.sq m1368.sq hy1405) ?_
      rintro _ H1409 ⟨v1407, f1408, rfl, e1410, m1411, i1412⟩
      refine s_qk (.tuple #[.int .i64 y1404.1, .int .i64 y1404.2.1, v1407]) (by kernel_rfl) ?_
      refine s_qk (.int .i64 y1404.1) (by kernel_rfl) ?_
      refine s_qk (.int .i64 y1404.2.1) (by kernel_rfl) ?_
      refine s_qk (v1407) (by kernel_rfl) ?_
      refine s_qk (.int .i64 y1404.1) (by kernel_rfl) ?_
      refine s_qk (.int .i64 y1404.2.1) (by kernel_rfl) ?_
      refine s_qk (v1407) (by kernel_rfl) ?_
      refine s_nil ?_
      refine k1348 _ _ ?_
      refine w_seqk fun K1414 k1414 => ?_
      refine w_reg (by kernel_rfl) ?_
      have c1415 := (FrS.step e376.wf (FrS.step e376.wf (FrS.step e376.wf ((FrS.step e376.wf (FrS.step e376.wf (FrS.step e376.wf ((FrS.refl (W := []) e376.wf).extR e419) e425 (hb420.fresh (Nat.le_refl _))) e445 (hb420.fresh (Nat.le_refl _))) e462 Inn.nil).extR e505) e511 (hb506.fresh (ntr (ntr (ntr e419.next e425.next) e445.next) e462.next))) e524 (i470.fresh (ntr (ntr e419.next e425.next) e445.next))) e541 Inn.nil)
      have n1416 := (ntr (ntr (ntr (ntr (ntr (ntr (ntr e261.next e267.next) e280.next) e297.next) e340.next) e346.next) e359.next) e376.next)
      have n1417 := (ntr (ntr (ntr (ntr (ntr (ntr (ntr e419.next e425.next) e445.next) e462.next) e505.next) e511.next) e524.next) e541.next)
      have n1418 := (ntr (ntr (ntr (ntr (ntr (ntr (ntr e584.next e590.next) e603.next) e620.next) e663.next) e669.next) e682.next) e699.next)
      have u1419 := ((((((((((((((((((((((((((((((((((((((r110.frS e122 (Dj.symm (hb104.djn m63.lt))).frS e139 Dj.nil_l).ext e182).frS e188 (hb183.djn (r105.ltF.le (ntr (ntr e109.next e122.next) e139.next)))).frS e201 (i147.djn (r105.ltF.le (ntr e109.next e122.next)))).frS e218 Dj.nil_l).ext e261).frS e267 (hb262.djn (r105.ltF.le (ntr (ntr (ntr (ntr (ntr (ntr e109.next e122.next) e139.next) e182.next) e188.next) e201.next) e218.next)))).frS e280 (i226.djn (r105.ltF.le (ntr (ntr (ntr (ntr (ntr e109.next e122.next) e139.next) e182.next) e188.next) e201.next)))).frS e297 Dj.nil_l).ext e340).frS e346 (hb341.djn (r105.ltF.le (ntr (ntr (ntr (ntr (ntr (ntr (ntr (ntr (ntr (ntr e109.next e122.next) e139.next) e182.next) e188.next) e201.next) e218.next) e261.next) e267.next) e280.next) e297.next)))).frS e359 (i303.djn (r105.ltF.le (ntr (ntr (ntr (ntr (ntr (ntr (ntr (ntr (ntr e109.next e122.next) e139.next) e182.next) e188.next) e201.next) e218.next) e261.next) e267.next) e280.next)))).frS e376 Dj.nil_l).frS c1415 Dj.nil_l).ext e584).frS e590 (hb585.djn (r105.ltF.le (ntr (ntr (ntr (ntr (ntr (ntr (ntr (ntr e109.next e122.next) e139.next) e182.next) e188.next) e201.next) e218.next) n1416) n1417)))).frS e603 (i549.djn (r105.ltF.le (ntr (ntr (ntr (ntr (ntr (ntr (ntr (ntr (ntr (ntr (ntr (ntr (ntr (ntr e109.next e122.next) e139.next) e182.next) e188.next) e201.next) e218.next) n1416) e419.next) e425.next) e445.next) e462.next) e505.next) e511.next) e524.next)))).frS e620 Dj.nil_l).ext e663).frS e669 (hb664.djn (r105.ltF.le (ntr (ntr (ntr (ntr (ntr (ntr (ntr (ntr (ntr (ntr (ntr (ntr e109.next e122.next) e139.next) e182.next) e188.next) e201.next) e218.next) n1416) n1417) e584.next) e590.next) e603.next) e620.next)))).frS e682 (i627.djn (r105.ltF.le (ntr (ntr (ntr (ntr (ntr (ntr (ntr (ntr (ntr (ntr (ntr e109.next e122.next) e139.next) e182.next) e188.next) e201.next) e218.next) n1416) n1417) e584.next) e590.next) e603.next)))).frS e699 Dj.nil_l).ext e742).frS e748 (hb743.djn (r105.ltF.le (ntr (ntr (ntr (ntr (ntr (ntr (ntr (ntr (ntr e109.next e122.next) e139.next) e182.next) e188.next) e201.next) e218.next) n1416) n1417) n1418)))).frS e761 (i708.djn (r105.ltF.le (ntr (ntr (ntr (ntr (ntr (ntr (ntr (ntr (ntr (ntr (ntr (ntr (ntr (ntr (ntr e109.next e122.next) e139.next) e182.next) e188.next) e201.next) e218.next) n1416) n1417) e584.next) e590.next) e603.next) e620.next) e663.next) e669.next) e682.next)))).frS e769 Dj.nil_l).ext e1054).ext e1064).ext e1073).frS e1079 (hb1074.djn (r105.ltF.le (ntr (ntr (ntr (ntr (ntr (ntr (ntr (ntr (ntr (ntr (ntr (ntr (ntr (ntr (ntr e109.next e122.next) e139.next) e182.next) e188.next) e201.next) e218.next) n1416) n1417) n1418) e742.next) e748.next) e761.next) e769.next) e1054.next) e1064.next)))).frS e1089 Dj.nil_l).frS e1231 Dj.nil_l).frS e1278 Dj.nil_l).frS e1297 Dj.nil_l).frS e1344 Dj.nil_l).frS e1363 Dj.nil_l).frS e1410 Dj.nil_l)
      refine s_ql (.agg #[.slice a86 n87 c88, .slice a89 n90 c91, .slice a92 n93 c94, .slice a95 n96 c97, .slice a98 n99 c100]) (x := aLoad Tryd.prog 31 (.pointer (some ⟨b101, 0, none⟩)) H1409) (by kernel_rfl) (u1419.ld (by kernel_rfl)) ?_
      have n1420 := (ntr (ntr (ntr (ntr (ntr (ntr (ntr e103.next e109.next) e122.next) e139.next) e182.next) e188.next) e201.next) e218.next)
      have u1421 := (((((((((((((((((((((((((((((((((((((((u115.fr e109 (hb104.djn m61.lt)).fr e122 (Dj.symm d72)).fr e139 Dj.nil_l).ext e182).fr e188 (hb183.djn (m61.lt.le (ntr (ntr (ntr e103.next e109.next) e122.next) e139.next)))).fr e201 (i147.djn (m61.lt.le (ntr (ntr e103.next e109.next) e122.next)))).fr e218 Dj.nil_l).ext e261).fr e267 (hb262.djn (m61.lt.le (ntr (ntr (ntr (ntr (ntr (ntr (ntr e103.next e109.next) e122.next) e139.next) e182.next) e188.next) e201.next) e218.next)))).fr e280 (i226.djn (m61.lt.le (ntr (ntr (ntr (ntr (ntr (ntr e103.next e109.next) e122.next) e139.next) e182.next) e188.next) e201.next)))).fr e297 Dj.nil_l).ext e340).fr e346 (hb341.djn (m61.lt.le (ntr (ntr (ntr (ntr (ntr (ntr (ntr (ntr (ntr (ntr (ntr e103.next e109.next) e122.next) e139.next) e182.next) e188.next) e201.next) e218.next) e261.next) e267.next) e280.next) e297.next)))).fr e359 (i303.djn (m61.lt.le (ntr (ntr (ntr (ntr (ntr (ntr (ntr (ntr (ntr (ntr e103.next e109.next) e122.next) e139.next) e182.next) e188.next) e201.next) e218.next) e261.next) e267.next) e280.next)))).fr e376 Dj.nil_l).fr c1415 Dj.nil_l).ext e584).fr e590 (hb585.djn (m61.lt.le (ntr (ntr n1420 n1416) n1417)))).fr e603 (i549.djn (m61.lt.le (ntr (ntr (ntr (ntr (ntr (ntr (ntr (ntr n1420 n1416) e419.next) e425.next) e445.next) e462.next) e505.next) e511.next) e524.next)))).fr e620 Dj.nil_l).ext e663).fr e669 (hb664.djn (m61.lt.le (ntr (ntr (ntr (ntr (ntr (ntr n1420 n1416) n1417) e584.next) e590.next) e603.next) e620.next)))).fr e682 (i627.djn (m61.lt.le (ntr (ntr (ntr (ntr (ntr n1420 n1416) n1417) e584.next) e590.next) e603.next)))).fr e699 Dj.nil_l).ext e742).fr e748 (hb743.djn (m61.lt.le (ntr (ntr (ntr n1420 n1416) n1417) n1418)))).fr e761 (i708.djn (m61.lt.le (ntr (ntr (ntr (ntr (ntr (ntr (ntr (ntr (ntr n1420 n1416) n1417) e584.next) e590.next) e603.next) e620.next) e663.next) e669.next) e682.next)))).fr e769 Dj.nil_l).ext e1054).ext e1064).ext e1073).fr e1079 (hb1074.djn (m61.lt.le (ntr (ntr (ntr (ntr (ntr (ntr (ntr (ntr (ntr n1420 n1416) n1417) n1418) e742.next) e748.next) e761.next) e769.next) e1054.next) e1064.next)))).fr e1089 Dj.nil_l).fr e1231 Dj.nil_l).fr e1278 Dj.nil_l).fr e1297 Dj.nil_l).fr e1344 Dj.nil_l).fr e1363 Dj.nil_l).fr e1410 Dj.nil_l)
      have u1422 := (((((((((((((((((((((((((((((((((((((((u114.fr e109 (hb104.djn m62.lt)).fr e122 (Dj.symm d73)).fr e139 Dj.nil_l).ext e182).fr e188 (hb183.djn (m62.lt.le (ntr (ntr (ntr e103.next e109.next) e122.next) e139.next)))).fr e201 (i147.djn (m62.lt.le (ntr (ntr e103.next e109.next) e122.next)))).fr e218 Dj.nil_l).ext e261).fr e267 (hb262.djn (m62.lt.le (ntr (ntr (ntr (ntr (ntr (ntr (ntr e103.next e109.next) e122.next) e139.next) e182.next) e188.next) e201.next) e218.next)))).fr e280 (i226.djn (m62.lt.le (ntr (ntr (ntr (ntr (ntr (ntr e103.next e109.next) e122.next) e139.next) e182.next) e188.next) e201.next)))).fr e297 Dj.nil_l).ext e340).fr e346 (hb341.djn (m62.lt.le (ntr (ntr (ntr (ntr (ntr (ntr (ntr (ntr (ntr (ntr (ntr e103.next e109.next) e122.next) e139.next) e182.next) e188.next) e201.next) e218.next) e261.next) e267.next) e280.next) e297.next)))).fr e359 (i303.djn (m62.lt.le (ntr (ntr (ntr (ntr (ntr (ntr (ntr (ntr (ntr (ntr e103.next e109.next) e122.next) e139.next) e182.next) e188.next) e201.next) e218.next) e261.next) e267.next) e280.next)))).fr e376 Dj.nil_l).fr c1415 Dj.nil_l).ext e584).fr e590 (hb585.djn (m62.lt.le (ntr (ntr n1420 n1416) n1417)))).fr e603 (i549.djn (m62.lt.le (ntr (ntr (ntr (ntr (ntr (ntr (ntr (ntr n1420 n1416) e419.next) e425.next) e445.next) e462.next) e505.next) e511.next) e524.next)))).fr e620 Dj.nil_l).ext e663).fr e669 (hb664.djn (m62.lt.le (ntr (ntr (ntr (ntr (ntr (ntr n1420 n1416) n1417) e584.next) e590.next) e603.next) e620.next)))).fr e682 (i627.djn (m62.lt.le (ntr (ntr (ntr (ntr (ntr n1420 n1416) n1417) e584.next) e590.next) e603.next)))).fr e699 Dj.nil_l).ext e742).fr e748 (hb743.djn (m62.lt.le (ntr (ntr (ntr n1420 n1416) n1417) n1418)))).fr e761 (i708.djn (m62.lt.le (ntr (ntr (ntr (ntr (ntr (ntr (ntr (ntr (ntr n1420 n1416) n1417) e584.next) e590.next) e603.next) e620.next) e663.next) e669.next) e682.next)))).fr e769 Dj.nil_l).ext e1054).ext e1064).ext e1073).fr e1079 (hb1074.djn (m62.lt.le (ntr (ntr (ntr (ntr (ntr (ntr (ntr (ntr (ntr n1420 n1416) n1417) n1418) e742.next) e748.next) e761.next) e769.next) e1054.next) e1064.next)))).fr e1089 Dj.nil_l).fr e1231 Dj.nil_l).fr e1278 Dj.nil_l).fr e1297 Dj.nil_l).fr e1344 Dj.nil_l).fr e1363 Dj.nil_l).fr e1410 Dj.nil_l)
      have u1423 := (((((((((((((((((((((((((((((((((((((hm123.fr e139 Dj.nil_l).ext e182).fr e188 (hb183.djn (m63.lt.le (ntr (ntr (ntr e103.next e109.next) e122.next) e139.next)))).fr e201 (i147.djn (m63.lt.le (ntr (ntr e103.next e109.next) e122.next)))).fr e218 Dj.nil_l).ext e261).fr e267 (hb262.djn (m63.lt.le (ntr (ntr (ntr (ntr (ntr (ntr (ntr e103.next e109.next) e122.next) e139.next) e182.next) e188.next) e201.next) e218.next)))).fr e280 (i226.djn (m63.lt.le (ntr (ntr (ntr (ntr (ntr (ntr e103.next e109.next) e122.next) e139.next) e182.next) e188.next) e201.next)))).fr e297 Dj.nil_l).ext e340).fr e346 (hb341.djn (m63.lt.le (ntr (ntr (ntr (ntr (ntr (ntr (ntr (ntr (ntr (ntr (ntr e103.next e109.next) e122.next) e139.next) e182.next) e188.next) e201.next) e218.next) e261.next) e267.next) e280.next) e297.next)))).fr e359 (i303.djn (m63.lt.le (ntr (ntr (ntr (ntr (ntr (ntr (ntr (ntr (ntr (ntr e103.next e109.next) e122.next) e139.next) e182.next) e188.next) e201.next) e218.next) e261.next) e267.next) e280.next)))).fr e376 Dj.nil_l).fr c1415 Dj.nil_l).ext e584).fr e590 (hb585.djn (m63.lt.le (ntr (ntr n1420 n1416) n1417)))).fr e603 (i549.djn (m63.lt.le (ntr (ntr (ntr (ntr (ntr (ntr (ntr (ntr n1420 n1416) e419.next) e425.next) e445.next) e462.next) e505.next) e511.next) e524.next)))).fr e620 Dj.nil_l).ext e663).fr e669 (hb664.djn (m63.lt.le (ntr (ntr (ntr (ntr (ntr (ntr n1420 n1416) n1417) e584.next) e590.next) e603.next) e620.next)))).fr e682 (i627.djn (m63.lt.le (ntr (ntr (ntr (ntr (ntr n1420 n1416) n1417) e584.next) e590.next) e603.next)))).fr e699 Dj.nil_l).ext e742).fr e748 (hb743.djn (m63.lt.le (ntr (ntr (ntr n1420 n1416) n1417) n1418)))).fr e761 (i708.djn (m63.lt.le (ntr (ntr (ntr (ntr (ntr (ntr (ntr (ntr (ntr n1420 n1416) n1417) e584.next) e590.next) e603.next) e620.next) e663.next) e669.next) e682.next)))).fr e769 Dj.nil_l).ext e1054).ext e1064).ext e1073).fr e1079 (hb1074.djn (m63.lt.le (ntr (ntr (ntr (ntr (ntr (ntr (ntr (ntr (ntr n1420 n1416) n1417) n1418) e742.next) e748.next) e761.next) e769.next) e1054.next) e1064.next)))).fr e1089 Dj.nil_l).fr e1231 Dj.nil_l).fr e1278 Dj.nil_l).fr e1297 Dj.nil_l).fr e1344 Dj.nil_l).fr e1363 Dj.nil_l).fr e1410 Dj.nil_l)
      have u1424 := (((((((((((((((((((((((((((((((((((((((u112.fr e109 (hb104.djn m64.lt)).fr e122 d76).fr e139 Dj.nil_l).ext e182).fr e188 (hb183.djn (m64.lt.le (ntr (ntr (ntr e103.next e109.next) e122.next) e139.next)))).fr e201 (i147.djn (m64.lt.le (ntr (ntr e103.next e109.next) e122.next)))).fr e218 Dj.nil_l).ext e261).fr e267 (hb262.djn (m64.lt.le (ntr (ntr (ntr (ntr (ntr (ntr (ntr e103.next e109.next) e122.next) e139.next) e182.next) e188.next) e201.next) e218.next)))).fr e280 (i226.djn (m64.lt.le (ntr (ntr (ntr (ntr (ntr (ntr e103.next e109.next) e122.next) e139.next) e182.next) e188.next) e201.next)))).fr e297 Dj.nil_l).ext e340).fr e346 (hb341.djn (m64.lt.le (ntr (ntr (ntr (ntr (ntr (ntr (ntr (ntr (ntr (ntr (ntr e103.next e109.next) e122.next) e139.next) e182.next) e188.next) e201.next) e218.next) e261.next) e267.next) e280.next) e297.next)))).fr e359 (i303.djn (m64.lt.le (ntr (ntr (ntr (ntr (ntr (ntr (ntr (ntr (ntr (ntr e103.next e109.next) e122.next) e139.next) e182.next) e188.next) e201.next) e218.next) e261.next) e267.next) e280.next)))).fr e376 Dj.nil_l).fr c1415 Dj.nil_l).ext e584).fr e590 (hb585.djn (m64.lt.le (ntr (ntr n1420 n1416) n1417)))).fr e603 (i549.djn (m64.lt.le (ntr (ntr (ntr (ntr (ntr (ntr (ntr (ntr n1420 n1416) e419.next) e425.next) e445.next) e462.next) e505.next) e511.next) e524.next)))).fr e620 Dj.nil_l).ext e663).fr e669 (hb664.djn (m64.lt.le (ntr (ntr (ntr (ntr (ntr (ntr n1420 n1416) n1417) e584.next) e590.next) e603.next) e620.next)))).fr e682 (i627.djn (m64.lt.le (ntr (ntr (ntr (ntr (ntr n1420 n1416) n1417) e584.next) e590.next) e603.next)))).fr e699 Dj.nil_l).ext e742).fr e748 (hb743.djn (m64.lt.le (ntr (ntr (ntr n1420 n1416) n1417) n1418)))).fr e761 (i708.djn (m64.lt.le (ntr (ntr (ntr (ntr (ntr (ntr (ntr (ntr (ntr n1420 n1416) n1417) e584.next) e590.next) e603.next) e620.next) e663.next) e669.next) e682.next)))).fr e769 Dj.nil_l).ext e1054).ext e1064).ext e1073).fr e1079 (hb1074.djn (m64.lt.le (ntr (ntr (ntr (ntr (ntr (ntr (ntr (ntr (ntr n1420 n1416) n1417) n1418) e742.next) e748.next) e761.next) e769.next) e1054.next) e1064.next)))).fr e1089 Dj.nil_l).fr e1231 Dj.nil_l).fr e1278 Dj.nil_l).fr e1297 Dj.nil_l).fr e1344 Dj.nil_l).fr e1363 Dj.nil_l).fr e1410 Dj.nil_l)
      have u1425 := (((((((((((((((((((((((((((((((((((((((u111.fr e109 (hb104.djn m65.lt)).fr e122 d79).fr e139 Dj.nil_l).ext e182).fr e188 (hb183.djn (m65.lt.le (ntr (ntr (ntr e103.next e109.next) e122.next) e139.next)))).fr e201 (i147.djn (m65.lt.le (ntr (ntr e103.next e109.next) e122.next)))).fr e218 Dj.nil_l).ext e261).fr e267 (hb262.djn (m65.lt.le (ntr (ntr (ntr (ntr (ntr (ntr (ntr e103.next e109.next) e122.next) e139.next) e182.next) e188.next) e201.next) e218.next)))).fr e280 (i226.djn (m65.lt.le (ntr (ntr (ntr (ntr (ntr (ntr e103.next e109.next) e122.next) e139.next) e182.next) e188.next) e201.next)))).fr e297 Dj.nil_l).ext e340).fr e346 (hb341.djn (m65.lt.le (ntr (ntr (ntr (ntr (ntr (ntr (ntr (ntr (ntr (ntr (ntr e103.next e109.next) e122.next) e139.next) e182.next) e188.next) e201.next) e218.next) e261.next) e267.next) e280.next) e297.next)))).fr e359 (i303.djn (m65.lt.le (ntr (ntr (ntr (ntr (ntr (ntr (ntr (ntr (ntr (ntr e103.next e109.next) e122.next) e139.next) e182.next) e188.next) e201.next) e218.next) e261.next) e267.next) e280.next)))).fr e376 Dj.nil_l).fr c1415 Dj.nil_l).ext e584).fr e590 (hb585.djn (m65.lt.le (ntr (ntr n1420 n1416) n1417)))).fr e603 (i549.djn (m65.lt.le (ntr (ntr (ntr (ntr (ntr (ntr (ntr (ntr n1420 n1416) e419.next) e425.next) e445.next) e462.next) e505.next) e511.next) e524.next)))).fr e620 Dj.nil_l).ext e663).fr e669 (hb664.djn (m65.lt.le (ntr (ntr (ntr (ntr (ntr (ntr n1420 n1416) n1417) e584.next) e590.next) e603.next) e620.next)))).fr e682 (i627.djn (m65.lt.le (ntr (ntr (ntr (ntr (ntr n1420 n1416) n1417) e584.next) e590.next) e603.next)))).fr e699 Dj.nil_l).ext e742).fr e748 (hb743.djn (m65.lt.le (ntr (ntr (ntr n1420 n1416) n1417) n1418)))).fr e761 (i708.djn (m65.lt.le (ntr (ntr (ntr (ntr (ntr (ntr (ntr (ntr (ntr n1420 n1416) n1417) e584.next) e590.next) e603.next) e620.next) e663.next) e669.next) e682.next)))).fr e769 Dj.nil_l).ext e1054).ext e1064).ext e1073).fr e1079 (hb1074.djn (m65.lt.le (ntr (ntr (ntr (ntr (ntr (ntr (ntr (ntr (ntr n1420 n1416) n1417) n1418) e742.next) e748.next) e761.next) e769.next) e1054.next) e1064.next)))).fr e1089 Dj.nil_l).fr e1231 Dj.nil_l).fr e1278 Dj.nil_l).fr e1297 Dj.nil_l).fr e1344 Dj.nil_l).fr e1363 Dj.nil_l).fr e1410 Dj.nil_l)
      obtain ⟨y1426, hy1427, r1428⟩ := bind_some r1406
      refine s_ck 10 #[.agg #[.slice a86 n87 c88, .slice a89 n90 c91, .slice a92 n93 c94, .slice a95 n96 c97, .slice a98 n99 c100], .int .i64 (-1)] (by kernel_rfl) (c_hier_Ends e1410.wf u1421.sq u1422.sq u1423.sq u1424.sq u1425.sq hy1427) ?_
      rintro _ H1431 ⟨v1429, f1430, rfl, e1432, m1433, i1434⟩
      refine s_qk (.tuple #[.int .i64 y1426.1, .int .i64 y1426.2.1, v1429]) (by kernel_rfl) ?_
      refine s_qk (.int .i64 y1426.1) (by kernel_rfl) ?_
      refine s_qk (.int .i64 y1426.2.1) (by kernel_rfl) ?_
      refine s_qk (v1429) (by kernel_rfl) ?_
      refine s_qk (.int .i64 y1426.1) (by kernel_rfl) ?_
      refine s_qk (.int .i64 y1426.2.1) (by kernel_rfl) ?_
      refine s_qk (v1429) (by kernel_rfl) ?_
      refine s_nil ?_
      refine k1414 _ _ ?_
      refine w_seqk fun K1436 k1436 => ?_
      refine w_reg (by kernel_rfl) ?_
      obtain ⟨y1437, hy1438, r1439⟩ := bind_some r1428
      refine s_ck 6 #[] (by kernel_rfl) (c_viaductref10_Three e1432.wf hy1438) ?_
      rintro _ H1450 ⟨s1440, f1441, s1442, f1443, s1444, f1445, s1446, f1447, s1448, f1449, rfl, e1451, m1452, m1453, m1454, m1455, m1456, i1457, i1458, i1459, i1460, i1461, d1462, d1463, d1464, d1465, d1466, d1467, d1468, d1469, d1470, d1471⟩
      obtain ⟨a1477, n1478, c1479, rfl⟩ := m1452.form
      obtain ⟨a1480, n1481, c1482, rfl⟩ := m1453.form
      obtain ⟨a1483, n1484, c1485, rfl⟩ := m1454.form
      obtain ⟨a1486, n1487, c1488, rfl⟩ := m1455.form
      obtain ⟨a1489, n1490, c1491, rfl⟩ := m1456.form
      obtain ⟨y1492, hy1493, r1494⟩ := bind_some r1439
      refine s_ck 11 #[.agg #[.slice a1477 n1478 c1479, .slice a1480 n1481 c1482, .slice a1483 n1484 c1485, .slice a1486 n1487 c1488, .slice a1489 n1490 c1491]] (by kernel_rfl) (c_hier_Ranks e1451.wf m1452.sq m1453.sq m1454.sq m1455.sq m1456.sq hy1493) ?_
      rintro _ H1499 ⟨s1495, f1496, v1497, f1498, rfl, e1500, m1501, m1502, i1503, i1504, d1505⟩
      obtain ⟨a1508, n1509, c1510, rfl⟩ := m1501.form
      refine s_qk (.tuple #[.slice a1508 n1509 c1510, v1497]) (by kernel_rfl) ?_
      refine s_qk (.slice a1508 n1509 c1510) (by kernel_rfl) ?_
      refine s_qk (v1497) (by kernel_rfl) ?_
      refine s_qk (.slice a1508 n1509 c1510) (by kernel_rfl) ?_
      refine s_qk (v1497) (by kernel_rfl) ?_
      refine s_nil ?_
      refine k1436 _ _ ?_
      refine w_seqk fun K1511 k1511 => ?_
      refine w_reg (by kernel_rfl) ?_
      obtain ⟨y1512, hy1513, r1514⟩ := bind_some r1494
      refine s_ck 6 #[] (by kernel_rfl) (c_viaductref10_Three e1500.wf hy1513) ?_
      rintro _ H1525 ⟨s1515, f1516, s1517, f1518, s1519, f1520, s1521, f1522, s1523, f1524, rfl, e1526, m1527, m1528, m1529, m1530, m1531, i1532, i1533, i1534, i1535, i1536, d1537, d1538, d1539, d1540, d1541, d1542, d1543, d1544, d1545, d1546⟩
      obtain ⟨a1552, n1553, c1554, rfl⟩ := m1527.form
      obtain ⟨a1555, n1556, c1557, rfl⟩ := m1528.form
      obtain ⟨a1558, n1559, c1560, rfl⟩ := m1529.form
      obtain ⟨a1561, n1562, c1563, rfl⟩ := m1530.form
      obtain ⟨a1564, n1565, c1566, rfl⟩ := m1531.form
      obtain ⟨y1567, hy1568, r1569⟩ := bind_some r1514
      refine s_ck 12 #[.agg #[.slice a1552 n1553 c1554, .slice a1555 n1556 c1557, .slice a1558 n1559 c1560, .slice a1561 n1562 c1563, .slice a1564 n1565 c1566]] (by kernel_rfl) (c_hier_Turn e1526.wf m1527.sq m1528.sq m1529.sq m1530.sq m1531.sq hy1568) ?_
      rintro _ H1582 ⟨s1570, f1571, s1572, f1573, s1574, f1575, s1576, f1577, s1578, f1579, v1580, f1581, rfl, e1583, m1584, m1585, m1586, m1587, m1588, m1589, i1590, i1591, i1592, i1593, i1594, i1595, d1596, d1597, d1598, d1599, d1600, d1601, d1602, d1603, d1604, d1605, d1606, d1607, d1608, d1609, d1610⟩
      obtain ⟨a1617, n1618, c1619, rfl⟩ := m1584.form
      obtain ⟨a1620, n1621, c1622, rfl⟩ := m1585.form
      obtain ⟨a1623, n1624, c1625, rfl⟩ := m1586.form
      obtain ⟨a1626, n1627, c1628, rfl⟩ := m1587.form
      obtain ⟨a1629, n1630, c1631, rfl⟩ := m1588.form
      refine s_qk (.tuple #[.agg #[.slice a1617 n1618 c1619, .slice a1620 n1621 c1622, .slice a1623 n1624 c1625, .slice a1626 n1627 c1628, .slice a1629 n1630 c1631], v1580]) (by kernel_rfl) ?_
      refine s_qk (.agg #[.slice a1617 n1618 c1619, .slice a1620 n1621 c1622, .slice a1623 n1624 c1625, .slice a1626 n1627 c1628, .slice a1629 n1630 c1631]) (by kernel_rfl) ?_
      refine s_qk (v1580) (by kernel_rfl) ?_
      refine s_rwk e1583.wf [.slice none 0 0, .slice none 0 0, .slice none 0 0, .slice none 0 0, .slice none 0 0] (by kernel_rfl) fun b1632 H1633 e1634 hb1635 r1636 => ?_
      have u1642 := (m1588.ext e1634)
      have u1643 := (m1587.ext e1634)
      have u1644 := (m1586.ext e1634)
      have u1645 := (m1585.ext e1634)
      have u1646 := (m1584.ext e1634)
      obtain ⟨H1638, q1639, e1640, r1641⟩ := Row.store (P := Tryd.prog) (t := 31) (p := 0) e1634.wf r1636 (.agg #[.slice a1617 n1618 c1619, .slice a1620 n1621 c1622, .slice a1623 n1624 c1625, .slice a1626 n1627 c1628, .slice a1629 n1630 c1631]) [.slice a1617 n1618 c1619, .slice a1620 n1621 c1622, .slice a1623 n1624 c1625, .slice a1626 n1627 c1628, .slice a1629 n1630 c1631] (by kernel_rfl) (by kernel_rfl) (one_cons (u1646.one1) (one_cons (u1645.one1) (one_cons (u1644.one1) (one_cons (u1643.one1) (one_cons (u1642.one1) (one_nil)))))) (Nat.le_of_ble_eq_true (by kernel_rfl)) [.slice a1617 n1618 c1619, .slice a1620 n1621 c1622, .slice a1623 n1624 c1625, .slice a1626 n1627 c1628, .slice a1629 n1630 c1631] (by kernel_rfl)
      refine s_ek (undef) (by kernel_rfl) (map_ok q1639) ?_
      refine s_qk (v1580) (by kernel_rfl) ?_
      refine s_nil ?_
      refine k1511 _ _ ?_
      refine w_seqk fun K1647 k1647 => ?_
      refine w_reg (by kernel_rfl) ?_
      refine s_owk (enc := (encI .u32)) (sz := 1) e1640.wf [1, 0, 2] 3 (by decide) (fun _ _ => rfl) (fun _ _ => rfl) rfl (by kernel_rfl) fun s1648 f1649 H1650 e1651 hf1652 hm1653 => ?_
      obtain ⟨a1654, n1655, c1656, rfl⟩ := hm1653.form
      refine s_owk (enc := (encI .u32)) (sz := 1) e1651.wf [0, 1, 1, 1] 4 (by decide) (fun _ _ => rfl) (fun _ _ => rfl) rfl (by kernel_rfl) fun s1658 f1659 H1660 e1661 hf1662 hm1663 => ?_
      obtain ⟨a1664, n1665, c1666, rfl⟩ := hm1663.form
      refine s_qk (.agg #[.int .u32 1, .int .u64 4, .int .u32 4294967295, .int .u32 4294967295]) (by kernel_rfl) ?_
      refine s_owk (enc := enc_u32_u64_u32_u32) (sz := 4) e1661.wf [(1, 4, 4294967295, 4294967295)] 1 (by decide) (fun _ _ => rfl) (fun _ _ => rfl) rfl (by kernel_rfl) fun s1668 f1669 H1670 e1671 hf1672 hm1673 => ?_
      obtain ⟨a1674, n1675, c1676, rfl⟩ := hm1673.form
      refine s_owk (enc := (encI .u32)) (sz := 1) e1671.wf [0, 1, 2, 2] 4 (by decide) (fun _ _ => rfl) (fun _ _ => rfl) rfl (by kernel_rfl) fun s1678 f1679 H1680 e1681 hf1682 hm1683 => ?_
      obtain ⟨a1684, n1685, c1686, rfl⟩ := hm1683.form
      refine s_qk (.agg #[.int .u32 2, .int .u64 1, .int .u32 4294967295, .int .u32 4294967295]) (by kernel_rfl) ?_
      refine s_qk (.agg #[.int .u32 2, .int .u64 5, .int .u32 1, .int .u32 0]) (by kernel_rfl) ?_
      refine s_owk (enc := enc_u32_u64_u32_u32) (sz := 4) e1681.wf [(2, 1, 4294967295, 4294967295), (2, 5, 1, 0)] 2 (by decide) (fun _ _ => rfl) (fun _ _ => rfl) rfl (by kernel_rfl) fun s1688 f1689 H1690 e1691 hf1692 hm1693 => ?_
      obtain ⟨a1694, n1695, c1696, rfl⟩ := hm1693.form
      refine s_qk (.agg #[.slice a1654 n1655 c1656, .slice a1664 n1665 c1666, .slice a1674 n1675 c1676, .slice a1684 n1685 c1686, .slice a1694 n1695 c1696]) (by kernel_rfl) ?_
      refine s_rwk e1691.wf [.slice none 0 0, .slice none 0 0, .slice none 0 0, .slice none 0 0, .slice none 0 0] (by kernel_rfl) fun b1698 H1699 e1700 hb1701 r1702 => ?_
      have u1708 := (hm1693.ext e1700)
      have u1709 := ((hm1683.ext e1691).ext e1700)
      have u1710 := (((hm1673.ext e1681).ext e1691).ext e1700)
      have u1711 := ((((hm1663.ext e1671).ext e1681).ext e1691).ext e1700)
      have u1712 := (((((hm1653.ext e1661).ext e1671).ext e1681).ext e1691).ext e1700)
      obtain ⟨H1704, q1705, e1706, r1707⟩ := Row.store (P := Tryd.prog) (t := 31) (p := 0) e1700.wf r1702 (.agg #[.slice a1654 n1655 c1656, .slice a1664 n1665 c1666, .slice a1674 n1675 c1676, .slice a1684 n1685 c1686, .slice a1694 n1695 c1696]) [.slice a1654 n1655 c1656, .slice a1664 n1665 c1666, .slice a1674 n1675 c1676, .slice a1684 n1685 c1686, .slice a1694 n1695 c1696] (by kernel_rfl) (by kernel_rfl) (one_cons (u1712.one1) (one_cons (u1711.one1) (one_cons (u1710.one1) (one_cons (u1709.one1) (one_cons (u1708.one1) (one_nil)))))) (Nat.le_of_ble_eq_true (by kernel_rfl)) [.slice a1654 n1655 c1656, .slice a1664 n1665 c1666, .slice a1674 n1675 c1676, .slice a1684 n1685 c1686, .slice a1694 n1695 c1696] (by kernel_rfl)
      refine s_ek (undef) (by kernel_rfl) (map_ok q1705) ?_
      refine s_nil ?_
      refine k1647 _ _ ?_
      refine w_seqk fun K1713 k1713 => ?_
      refine w_reg (by kernel_rfl) ?_
      refine s_qk (v1275) (by kernel_rfl) ?_
      have n1717 := (ntr (ntr (ntr (ntr (ntr (ntr (ntr e1451.next e1500.next) e1526.next) e1583.next) e1634.next) e1640.next) e1651.next) e1661.next)
      have u1718 := ((((((((((((((((((m1279.fr e1297 Dj.nil_l).fr e1344 Dj.nil_l).fr e1363 Dj.nil_l).fr e1410 Dj.nil_l).fr e1432 Dj.nil_l).fr e1451 Dj.nil_l).fr e1500 Dj.nil_l).fr e1526 Dj.nil_l).fr e1583 Dj.nil_l).ext e1634).fr e1640 (hb1635.djn (m1279.lt.le (ntr (ntr (ntr (ntr (ntr (ntr (ntr (ntr e1297.next e1344.next) e1363.next) e1410.next) e1432.next) e1451.next) e1500.next) e1526.next) e1583.next)))).ext e1651).ext e1661).ext e1671).ext e1681).ext e1691).ext e1700).fr e1706 (hb1701.djn (m1279.lt.le (ntr (ntr (ntr (ntr (ntr (ntr (ntr (ntr e1297.next e1344.next) e1363.next) e1410.next) e1432.next) n1717) e1671.next) e1681.next) e1691.next))))
      rcases (u1718).cases with ⟨h1714, rfl⟩ | ⟨h1714, t1715, x1716, rfl⟩
      ·have r1719 := ite_t h1714 r1569
       refine s_qk (.bool true) (by kernel_rfl) ?_
       refine s_qk (.bool true) (by kernel_rfl) ?_
       refine s_qk (.int .i64 y1272.1) (by kernel_rfl) ?_
       refine s_b (y1272.1 = 1) (by kernel_rfl) (fun h1720 => ?_) (fun h1720 => ?_)
       ·have r1721 := ite_t h1720 r1719
        refine s_qk (.bool true) (by kernel_rfl) ?_
        refine s_qk (.bool true) (by kernel_rfl) ?_
        refine s_qk (.int .i64 y1272.2.1) (by kernel_rfl) ?_
        refine s_b (y1272.2.1 = 2) (by kernel_rfl) (fun h1722 => ?_) (fun h1722 => ?_)
        ·have r1723 := ite_t h1722 r1721
         refine s_qk (.bool true) (by kernel_rfl) ?_
         refine s_qk (.bool true) (by kernel_rfl) ?_
         refine s_qk (v1341) (by kernel_rfl) ?_
         obtain ⟨y1724, hy1725, r1726⟩ := bind_some r1723
         refine s_ck 5 #[.int .i64 1] (by kernel_rfl) (c_viaductref01_E e1706.wf hy1725) ?_
         rintro _ H1727 ⟨rfl, e1728⟩
         have u1729 := (((((((((((((((((m1345.fr e1363 Dj.nil_l).fr e1410 Dj.nil_l).fr e1432 Dj.nil_l).fr e1451 Dj.nil_l).fr e1500 Dj.nil_l).fr e1526 Dj.nil_l).fr e1583 Dj.nil_l).ext e1634).fr e1640 (hb1635.djn (m1345.lt.le (ntr (ntr (ntr (ntr (ntr (ntr e1363.next e1410.next) e1432.next) e1451.next) e1500.next) e1526.next) e1583.next)))).ext e1651).ext e1661).ext e1671).ext e1681).ext e1691).ext e1700).fr e1706 (hb1701.djn (m1345.lt.le (ntr (ntr (ntr (ntr (ntr (ntr (ntr (ntr (ntr (ntr (ntr (ntr (ntr e1363.next e1410.next) e1432.next) e1451.next) e1500.next) e1526.next) e1583.next) e1634.next) e1640.next) e1651.next) e1661.next) e1671.next) e1681.next) e1691.next)))).fr e1728 Dj.nil_l)
         obtain ⟨y1730, hy1731, r1732⟩ := bind_some r1726
         refine s_ck 13 #[v1341, .agg #[.int .i64 y1724, .slice none 0 0]] (by kernel_rfl) (c_viaductseen_Same e1728.wf u1729 (Sq.nil (enc := enc_i64_i64) (sz := 2) (by decide)) hy1731) ?_
         rintro _ H1733 ⟨rfl, e1734⟩
         by_cases h1735 : y1730 = true
         ·have r1736 := ite_t h1735 r1732
          rw [h1735]
          refine s_qk (.bool true) (by kernel_rfl) ?_
          refine s_qk (.bool true) (by kernel_rfl) ?_
          refine s_qk (v1407) (by kernel_rfl) ?_
          obtain ⟨y1738, hy1739, r1740⟩ := bind_some r1736
          refine s_ck 5 #[.int .i64 1] (by kernel_rfl) (c_viaductref01_E e1734.wf hy1739) ?_
          rintro _ H1741 ⟨rfl, e1742⟩
          have u1743 := (((((((((((((((((m1411.fr e1432 Dj.nil_l).fr e1451 Dj.nil_l).fr e1500 Dj.nil_l).fr e1526 Dj.nil_l).fr e1583 Dj.nil_l).ext e1634).fr e1640 (hb1635.djn (m1411.lt.le (ntr (ntr (ntr (ntr e1432.next e1451.next) e1500.next) e1526.next) e1583.next)))).ext e1651).ext e1661).ext e1671).ext e1681).ext e1691).ext e1700).fr e1706 (hb1701.djn (m1411.lt.le (ntr (ntr (ntr (ntr (ntr (ntr (ntr (ntr (ntr (ntr (ntr e1432.next e1451.next) e1500.next) e1526.next) e1583.next) e1634.next) e1640.next) e1651.next) e1661.next) e1671.next) e1681.next) e1691.next)))).fr e1728 Dj.nil_l).fr e1734 Dj.nil_l).fr e1742 Dj.nil_l)
          obtain ⟨y1744, hy1745, r1746⟩ := bind_some r1740
          refine s_ck 13 #[v1407, .agg #[.int .i64 y1738, .slice none 0 0]] (by kernel_rfl) (c_viaductseen_Same e1742.wf u1743 (Sq.nil (enc := enc_i64_i64) (sz := 2) (by decide)) hy1745) ?_
          rintro _ H1747 ⟨rfl, e1748⟩
          by_cases h1749 : y1744 = true
          ·have r1750 := ite_t h1749 r1746
           rw [h1749]
           refine s_qk (.bool true) (by kernel_rfl) ?_
           refine s_qk (.bool true) (by kernel_rfl) ?_
           refine s_qk (v1429) (by kernel_rfl) ?_
           have c1752 := (FrS.step e1079.wf (FrS.step e1079.wf (FrS.step e1079.wf (FrS.step e1079.wf (FrS.step e1079.wf (FrS.step e1079.wf (FrS.step e1079.wf (FrS.step e1079.wf (FrS.refl (W := []) e1079.wf) e1089 Inn.nil) e1231 Inn.nil) e1278 Inn.nil) e1297 Inn.nil) e1344 Inn.nil) e1363 Inn.nil) e1410 Inn.nil) e1432 Inn.nil)
           have c1753 := (((FrS.step e1432.wf ((FrS.step e1432.wf (FrS.step e1432.wf (FrS.step e1432.wf (FrS.step e1432.wf (FrS.refl (W := []) e1432.wf) e1451 Inn.nil) e1500 Inn.nil) e1526 Inn.nil) e1583 Inn.nil).extR e1634) e1640 (hb1635.fresh (ntr (ntr (ntr e1451.next e1500.next) e1526.next) e1583.next))).extR e1651).extR e1661)
           have c1754 := (FrS.step e1661.wf (FrS.step e1661.wf (FrS.step e1661.wf (FrS.step e1661.wf (((((FrS.refl (W := []) e1661.wf).extR e1671).extR e1681).extR e1691).extR e1700) e1706 (hb1701.fresh (ntr (ntr e1671.next e1681.next) e1691.next))) e1728 Inn.nil) e1734 Inn.nil) e1742 Inn.nil)
           have u1755 := ((((((((((((((((((((((((((((((((((((((r43.frS e60 Dj.nil_l).ext e103).frS e109 (hb104.djn (r33.ltF.le (ntr (ntr e37.next e42.next) e60.next)))).frS e122 (i68.djn (r33.ltF.le (ntr e37.next e42.next)))).frS e139 Dj.nil_l).ext e182).frS e188 (hb183.djn (r33.ltF.le (ntr (ntr (ntr (ntr (ntr (ntr e37.next e42.next) e60.next) e103.next) e109.next) e122.next) e139.next)))).frS e201 (i147.djn (r33.ltF.le (ntr (ntr (ntr (ntr (ntr e37.next e42.next) e60.next) e103.next) e109.next) e122.next)))).frS e218 Dj.nil_l).ext e261).frS e267 (hb262.djn (r33.ltF.le (ntr (ntr (ntr (ntr (ntr (ntr (ntr (ntr (ntr (ntr e37.next e42.next) e60.next) e103.next) e109.next) e122.next) e139.next) e182.next) e188.next) e201.next) e218.next)))).frS e280 (i226.djn (r33.ltF.le (ntr (ntr (ntr (ntr (ntr (ntr (ntr (ntr (ntr e37.next e42.next) e60.next) e103.next) e109.next) e122.next) e139.next) e182.next) e188.next) e201.next)))).frS e297 Dj.nil_l).ext e340).frS e346 (hb341.djn (r33.ltF.le (ntr (ntr (ntr (ntr (ntr (ntr (ntr (ntr (ntr (ntr (ntr (ntr (ntr (ntr e37.next e42.next) e60.next) e103.next) e109.next) e122.next) e139.next) e182.next) e188.next) e201.next) e218.next) e261.next) e267.next) e280.next) e297.next)))).frS e359 (i303.djn (r33.ltF.le (ntr (ntr (ntr (ntr (ntr (ntr (ntr (ntr (ntr (ntr (ntr (ntr (ntr e37.next e42.next) e60.next) e103.next) e109.next) e122.next) e139.next) e182.next) e188.next) e201.next) e218.next) e261.next) e267.next) e280.next)))).frS e376 Dj.nil_l).frS c1415 Dj.nil_l).ext e584).frS e590 (hb585.djn (r33.ltF.le (ntr (ntr (ntr (ntr (ntr e37.next e42.next) e60.next) n1420) n1416) n1417)))).frS e603 (i549.djn (r33.ltF.le (ntr (ntr (ntr (ntr (ntr (ntr (ntr (ntr (ntr (ntr (ntr e37.next e42.next) e60.next) n1420) n1416) e419.next) e425.next) e445.next) e462.next) e505.next) e511.next) e524.next)))).frS e620 Dj.nil_l).ext e663).frS e669 (hb664.djn (r33.ltF.le (ntr (ntr (ntr (ntr (ntr (ntr (ntr (ntr (ntr e37.next e42.next) e60.next) n1420) n1416) n1417) e584.next) e590.next) e603.next) e620.next)))).frS e682 (i627.djn (r33.ltF.le (ntr (ntr (ntr (ntr (ntr (ntr (ntr (ntr e37.next e42.next) e60.next) n1420) n1416) n1417) e584.next) e590.next) e603.next)))).frS e699 Dj.nil_l).ext e742).frS e748 (hb743.djn (r33.ltF.le (ntr (ntr (ntr (ntr (ntr (ntr e37.next e42.next) e60.next) n1420) n1416) n1417) n1418)))).frS e761 (i708.djn (r33.ltF.le (ntr (ntr (ntr (ntr (ntr (ntr (ntr (ntr (ntr (ntr (ntr (ntr e37.next e42.next) e60.next) n1420) n1416) n1417) e584.next) e590.next) e603.next) e620.next) e663.next) e669.next) e682.next)))).frS e769 Dj.nil_l).ext e1054).ext e1064).ext e1073).frS e1079 (hb1074.djn (r33.ltF.le (ntr (ntr (ntr (ntr (ntr (ntr (ntr (ntr (ntr (ntr (ntr (ntr e37.next e42.next) e60.next) n1420) n1416) n1417) n1418) e742.next) e748.next) e761.next) e769.next) e1054.next) e1064.next)))).frS c1752 Dj.nil_l).frS c1753 Dj.nil_l).frS c1754 Dj.nil_l).frS e1748 Dj.nil_l)
           refine s_ql (.agg #[.int .i64 y18, .slice none 0 0]) (x := aLoad Tryd.prog 25 (.pointer (some ⟨b29, 0, none⟩)) H1747) (by kernel_rfl) (u1755.ld (by kernel_rfl)) ?_
           obtain ⟨y1756, hy1757, r1758⟩ := bind_some r1750
           refine s_ck 8 #[.int .i64 4, .int .i64 1, .agg #[.int .i64 y18, .slice none 0 0]] (by kernel_rfl) (c_viaductref01_At e1748.wf (Sq.nil (enc := enc_i64_i64) (sz := 2) (by decide)) hy1757) ?_
           rintro _ H1761 ⟨s1759, f1760, rfl, e1762, m1763, i1764⟩
           obtain ⟨a1766, n1767, c1768, rfl⟩ := m1763.form
           have u1769 := ((((((((((((((((((m1433.fr e1451 Dj.nil_l).fr e1500 Dj.nil_l).fr e1526 Dj.nil_l).fr e1583 Dj.nil_l).ext e1634).fr e1640 (hb1635.djn (m1433.lt.le (ntr (ntr (ntr e1451.next e1500.next) e1526.next) e1583.next)))).ext e1651).ext e1661).ext e1671).ext e1681).ext e1691).ext e1700).fr e1706 (hb1701.djn (m1433.lt.le (ntr (ntr (ntr (ntr (ntr (ntr (ntr (ntr (ntr (ntr e1451.next e1500.next) e1526.next) e1583.next) e1634.next) e1640.next) e1651.next) e1661.next) e1671.next) e1681.next) e1691.next)))).fr e1728 Dj.nil_l).fr e1734 Dj.nil_l).fr e1742 Dj.nil_l).fr e1748 Dj.nil_l).fr e1762 Dj.nil_l)
           obtain ⟨y1770, hy1771, r1772⟩ := bind_some r1758
           refine s_ck 13 #[v1429, .agg #[.int .i64 y1756.1, .slice a1766 n1767 c1768]] (by kernel_rfl) (c_viaductseen_Same e1762.wf u1769 m1763.sq hy1771) ?_
           rintro _ H1773 ⟨rfl, e1774⟩
           by_cases h1775 : y1770 = true
           ·have r1776 := ite_t h1775 r1772
            rw [h1775]
            refine s_qk (.bool true) (by kernel_rfl) ?_
            refine s_qk (.bool true) (by kernel_rfl) ?_
            refine s_qk (v1497) (by kernel_rfl) ?_
            have u1781 := (((((((((((((((((m1502.fr e1526 Dj.nil_l).fr e1583 Dj.nil_l).ext e1634).fr e1640 (hb1635.djn (m1502.lt.le (ntr e1526.next e1583.next)))).ext e1651).ext e1661).ext e1671).ext e1681).ext e1691).ext e1700).fr e1706 (hb1701.djn (m1502.lt.le (ntr (ntr (ntr (ntr (ntr (ntr (ntr (ntr e1526.next e1583.next) e1634.next) e1640.next) e1651.next) e1661.next) e1671.next) e1681.next) e1691.next)))).fr e1728 Dj.nil_l).fr e1734 Dj.nil_l).fr e1742 Dj.nil_l).fr e1748 Dj.nil_l).fr e1762 Dj.nil_l).fr e1774 Dj.nil_l)
            rcases (u1781).cases with ⟨h1778, rfl⟩ | ⟨h1778, t1779, x1780, rfl⟩
            ·have r1782 := ite_t h1778 r1776
             refine s_qk (.bool true) (by kernel_rfl) ?_
             refine s_qk (.bool true) (by kernel_rfl) ?_
             refine s_qk (.bool true) (by kernel_rfl) ?_
             refine s_qk (.slice a1508 n1509 c1510) (by kernel_rfl) ?_
             refine s_owk (enc := (encI .i64)) (sz := 1) e1774.wf [1, 0, 2] 3 (by decide) (fun _ _ => rfl) (fun _ _ => rfl) rfl (by kernel_rfl) fun s1783 f1784 H1785 e1786 hf1787 hm1788 => ?_
             obtain ⟨a1789, n1790, c1791, rfl⟩ := hm1788.form
             have u1793 := ((((((((((((((((((m1501.fr e1526 Dj.nil_l).fr e1583 Dj.nil_l).ext e1634).fr e1640 (hb1635.djn (m1501.lt.le (ntr e1526.next e1583.next)))).ext e1651).ext e1661).ext e1671).ext e1681).ext e1691).ext e1700).fr e1706 (hb1701.djn (m1501.lt.le (ntr (ntr (ntr (ntr (ntr (ntr (ntr (ntr e1526.next e1583.next) e1634.next) e1640.next) e1651.next) e1661.next) e1671.next) e1681.next) e1691.next)))).fr e1728 Dj.nil_l).fr e1734 Dj.nil_l).fr e1742 Dj.nil_l).fr e1748 Dj.nil_l).fr e1762 Dj.nil_l).fr e1774 Dj.nil_l).ext e1786)
             obtain ⟨y1794, hy1795, r1796⟩ := bind_some r1782
             refine s_ck 14 #[.slice a1508 n1509 c1510, .slice a1789 n1790 c1791] (by kernel_rfl) (c_viaductref02_SameInts e1786.wf u1793.sq hm1788.sq hy1795) ?_
             rintro _ _ ⟨rfl, rfl⟩
             by_cases h1799 : y1794 = true
             ·have r1800 := ite_t h1799 r1796
              rw [h1799]
              refine s_qk (.bool true) (by kernel_rfl) ?_
              refine s_qk (.bool true) (by kernel_rfl) ?_
              refine s_qk (v1580) (by kernel_rfl) ?_
              have u1805 := ((((((((((((((((m1589.ext e1634).fr e1640 (hb1635.djn m1589.lt)).ext e1651).ext e1661).ext e1671).ext e1681).ext e1691).ext e1700).fr e1706 (hb1701.djn (m1589.lt.le (ntr (ntr (ntr (ntr (ntr (ntr e1634.next e1640.next) e1651.next) e1661.next) e1671.next) e1681.next) e1691.next)))).fr e1728 Dj.nil_l).fr e1734 Dj.nil_l).fr e1742 Dj.nil_l).fr e1748 Dj.nil_l).fr e1762 Dj.nil_l).fr e1774 Dj.nil_l).ext e1786)
              rcases (u1805).cases with ⟨h1802, rfl⟩ | ⟨h1802, t1803, x1804, rfl⟩
              ·have r1806 := ite_t h1802 r1800
               refine s_qk (.bool true) (by kernel_rfl) ?_
               refine s_qk (.bool true) (by kernel_rfl) ?_
               refine s_qk (.bool true) (by kernel_rfl) ?_
               have u1807 := ((((((((((((((r1641.ext e1651).ext e1661).ext e1671).ext e1681).ext e1691).ext e1700).frS e1706 (hb1701.djn (r1636.ltF.le (ntr (ntr (ntr (ntr (ntr e1640.next e1651.next) e1661.next) e1671.next) e1681.next) e1691.next)))).frS e1728 Dj.nil_l).frS e1734 Dj.nil_l).frS e1742 Dj.nil_l).frS e1748 Dj.nil_l).frS e1762 Dj.nil_l).frS e1774 Dj.nil_l).ext e1786)
               refine s_ql (.agg #[.slice a1617 n1618 c1619, .slice a1620 n1621 c1622, .slice a1623 n1624 c1625, .slice a1626 n1627 c1628, .slice a1629 n1630 c1631]) (x := aLoad Tryd.prog 31 (.pointer (some ⟨b1632, 0, none⟩)) H1785) (by kernel_rfl) (u1807.ld (by kernel_rfl)) ?_
               have u1808 := (((((((r1707.frS e1728 Dj.nil_l).frS e1734 Dj.nil_l).frS e1742 Dj.nil_l).frS e1748 Dj.nil_l).frS e1762 Dj.nil_l).frS e1774 Dj.nil_l).ext e1786)
               refine s_ql (.agg #[.slice a1654 n1655 c1656, .slice a1664 n1665 c1666, .slice a1674 n1675 c1676, .slice a1684 n1685 c1686, .slice a1694 n1695 c1696]) (x := aLoad Tryd.prog 31 (.pointer (some ⟨b1698, 0, none⟩)) H1785) (by kernel_rfl) (u1808.ld (by kernel_rfl)) ?_
               have u1809 := (((((((((((((((u1646.fr e1640 (hb1635.djn m1584.lt)).ext e1651).ext e1661).ext e1671).ext e1681).ext e1691).ext e1700).fr e1706 (hb1701.djn (m1584.lt.le (ntr (ntr (ntr (ntr (ntr (ntr e1634.next e1640.next) e1651.next) e1661.next) e1671.next) e1681.next) e1691.next)))).fr e1728 Dj.nil_l).fr e1734 Dj.nil_l).fr e1742 Dj.nil_l).fr e1748 Dj.nil_l).fr e1762 Dj.nil_l).fr e1774 Dj.nil_l).ext e1786)
               have u1810 := (((((((((((((((u1645.fr e1640 (hb1635.djn m1585.lt)).ext e1651).ext e1661).ext e1671).ext e1681).ext e1691).ext e1700).fr e1706 (hb1701.djn (m1585.lt.le (ntr (ntr (ntr (ntr (ntr (ntr e1634.next e1640.next) e1651.next) e1661.next) e1671.next) e1681.next) e1691.next)))).fr e1728 Dj.nil_l).fr e1734 Dj.nil_l).fr e1742 Dj.nil_l).fr e1748 Dj.nil_l).fr e1762 Dj.nil_l).fr e1774 Dj.nil_l).ext e1786)
               have u1811 := (((((((((((((((u1644.fr e1640 (hb1635.djn m1586.lt)).ext e1651).ext e1661).ext e1671).ext e1681).ext e1691).ext e1700).fr e1706 (hb1701.djn (m1586.lt.le (ntr (ntr (ntr (ntr (ntr (ntr e1634.next e1640.next) e1651.next) e1661.next) e1671.next) e1681.next) e1691.next)))).fr e1728 Dj.nil_l).fr e1734 Dj.nil_l).fr e1742 Dj.nil_l).fr e1748 Dj.nil_l).fr e1762 Dj.nil_l).fr e1774 Dj.nil_l).ext e1786)
               have u1812 := (((((((((((((((u1643.fr e1640 (hb1635.djn m1587.lt)).ext e1651).ext e1661).ext e1671).ext e1681).ext e1691).ext e1700).fr e1706 (hb1701.djn (m1587.lt.le (ntr (ntr (ntr (ntr (ntr (ntr e1634.next e1640.next) e1651.next) e1661.next) e1671.next) e1681.next) e1691.next)))).fr e1728 Dj.nil_l).fr e1734 Dj.nil_l).fr e1742 Dj.nil_l).fr e1748 Dj.nil_l).fr e1762 Dj.nil_l).fr e1774 Dj.nil_l).ext e1786)
               have u1813 := (((((((((((((((u1642.fr e1640 (hb1635.djn m1588.lt)).ext e1651).ext e1661).ext e1671).ext e1681).ext e1691).ext e1700).fr e1706 (hb1701.djn (m1588.lt.le (ntr (ntr (ntr (ntr (ntr (ntr e1634.next e1640.next) e1651.next) e1661.next) e1671.next) e1681.next) e1691.next)))).fr e1728 Dj.nil_l).fr e1734 Dj.nil_l).fr e1742 Dj.nil_l).fr e1748 Dj.nil_l).fr e1762 Dj.nil_l).fr e1774 Dj.nil_l).ext e1786)
               have u1814 := ((((((((u1712.fr e1706 (hb1701.djn (hm1653.lt.le (ntr (ntr (ntr e1661.next e1671.next) e1681.next) e1691.next)))).fr e1728 Dj.nil_l).fr e1734 Dj.nil_l).fr e1742 Dj.nil_l).fr e1748 Dj.nil_l).fr e1762 Dj.nil_l).fr e1774 Dj.nil_l).ext e1786)
               have u1815 := ((((((((u1711.fr e1706 (hb1701.djn (hm1663.lt.le (ntr (ntr e1671.next e1681.next) e1691.next)))).fr e1728 Dj.nil_l).fr e1734 Dj.nil_l).fr e1742 Dj.nil_l).fr e1748 Dj.nil_l).fr e1762 Dj.nil_l).fr e1774 Dj.nil_l).ext e1786)
               have u1816 := ((((((((u1710.fr e1706 (hb1701.djn (hm1673.lt.le (ntr e1681.next e1691.next)))).fr e1728 Dj.nil_l).fr e1734 Dj.nil_l).fr e1742 Dj.nil_l).fr e1748 Dj.nil_l).fr e1762 Dj.nil_l).fr e1774 Dj.nil_l).ext e1786)
               have u1817 := ((((((((u1709.fr e1706 (hb1701.djn (hm1683.lt.le e1691.next))).fr e1728 Dj.nil_l).fr e1734 Dj.nil_l).fr e1742 Dj.nil_l).fr e1748 Dj.nil_l).fr e1762 Dj.nil_l).fr e1774 Dj.nil_l).ext e1786)
               have u1818 := ((((((((u1708.fr e1706 (hb1701.djn hm1693.lt)).fr e1728 Dj.nil_l).fr e1734 Dj.nil_l).fr e1742 Dj.nil_l).fr e1748 Dj.nil_l).fr e1762 Dj.nil_l).fr e1774 Dj.nil_l).ext e1786)
               obtain ⟨y1819, hy1820, r1821⟩ := bind_some r1806
               refine s_ck 15 #[.agg #[.slice a1617 n1618 c1619, .slice a1620 n1621 c1622, .slice a1623 n1624 c1625, .slice a1626 n1627 c1628, .slice a1629 n1630 c1631], .agg #[.slice a1654 n1655 c1656, .slice a1664 n1665 c1666, .slice a1674 n1675 c1676, .slice a1684 n1685 c1686, .slice a1694 n1695 c1696]] (by kernel_rfl) (c_viaductref10_Same e1786.wf u1809.sq u1810.sq u1811.sq u1812.sq u1813.sq u1814.sq u1815.sq u1816.sq u1817.sq u1818.sq hy1820) ?_
               rintro _ H1822 ⟨rfl, e1823⟩
               refine s_qk (.bool y1819) (by kernel_rfl) ?_
               refine s_qk (.bool y1819) (by kernel_rfl) ?_
               refine s_nil ?_
               refine k1713 _ _ ?_
               refine w_ret ?_
               refine b_ret (fn := Tryd.f3) (vs := [.bool y1819]) (aRes_tmp (by kernel_rfl) (rfl)) ?_
               have c1824 := (FrS.step wf (FrS.step wf (FrS.step wf (((FrS.step wf (FrS.step wf (FrS.step wf (FrS.refl (W := []) wf) e8 Inn.nil) e17 Inn.nil) e22 Inn.nil).extR e25).extR e31) e37 (hb26.fresh (ntr (ntr e8.next e17.next) e22.next))) e42 (hb32.fresh (ntr (ntr (ntr e8.next e17.next) e22.next) e25.next))) e60 Inn.nil)
               have n1825 := (ntr (ntr (ntr (ntr (ntr (ntr (ntr e8.next e17.next) e22.next) e25.next) e31.next) e37.next) e42.next) e60.next)
               obtain rfl := Option.some.inj r1821
               exact ⟨rfl, (FrS.step wf ((FrS.step wf (FrS.step wf (FrS.step wf (FrS.step wf (FrS.step wf (FrS.step wf (FrS.step wf ((((FrS.step wf (FrS.step wf (FrS.step wf ((FrS.step wf (FrS.step wf (FrS.step wf ((FrS.step wf (FrS.step wf (FrS.step wf ((FrS.step wf (FrS.step wf (FrS.step wf (FrS.step wf ((FrS.step wf (FrS.step wf (FrS.step wf ((FrS.step wf (FrS.step wf (FrS.step wf ((FrS.step wf (FrS.step wf (FrS.step wf ((FrS.step wf (FrS.refl (W := []) wf) c1824 Inn.nil).extR e103) e109 (hb104.fresh (ntr (ntr (ntr (ntr (ntr (ntr (ntr e8.next e17.next) e22.next) e25.next) e31.next) e37.next) e42.next) e60.next))) e122 (i68.fresh (ntr (ntr (ntr (ntr (ntr (ntr e8.next e17.next) e22.next) e25.next) e31.next) e37.next) e42.next))) e139 Inn.nil).extR e182) e188 (hb183.fresh (ntr (ntr (ntr (ntr (ntr (ntr (ntr (ntr (ntr (ntr (ntr e8.next e17.next) e22.next) e25.next) e31.next) e37.next) e42.next) e60.next) e103.next) e109.next) e122.next) e139.next))) e201 (i147.fresh (ntr (ntr (ntr (ntr (ntr (ntr (ntr (ntr (ntr (ntr e8.next e17.next) e22.next) e25.next) e31.next) e37.next) e42.next) e60.next) e103.next) e109.next) e122.next))) e218 Inn.nil).extR e261) e267 (hb262.fresh (ntr n1825 n1420))) e280 (i226.fresh (ntr (ntr (ntr (ntr (ntr (ntr (ntr (ntr (ntr (ntr (ntr (ntr (ntr (ntr e8.next e17.next) e22.next) e25.next) e31.next) e37.next) e42.next) e60.next) e103.next) e109.next) e122.next) e139.next) e182.next) e188.next) e201.next))) e297 Inn.nil).extR e340) e346 (hb341.fresh (ntr (ntr (ntr (ntr (ntr n1825 n1420) e261.next) e267.next) e280.next) e297.next))) e359 (i303.fresh (ntr (ntr (ntr (ntr n1825 n1420) e261.next) e267.next) e280.next))) e376 Inn.nil) c1415 Inn.nil).extR e584) e590 (hb585.fresh (ntr (ntr (ntr n1825 n1420) n1416) n1417))) e603 (i549.fresh (ntr (ntr (ntr (ntr (ntr (ntr (ntr (ntr (ntr n1825 n1420) n1416) e419.next) e425.next) e445.next) e462.next) e505.next) e511.next) e524.next))) e620 Inn.nil).extR e663) e669 (hb664.fresh (ntr (ntr (ntr (ntr (ntr (ntr (ntr n1825 n1420) n1416) n1417) e584.next) e590.next) e603.next) e620.next))) e682 (i627.fresh (ntr (ntr (ntr (ntr (ntr (ntr n1825 n1420) n1416) n1417) e584.next) e590.next) e603.next))) e699 Inn.nil).extR e742) e748 (hb743.fresh (ntr (ntr (ntr (ntr n1825 n1420) n1416) n1417) n1418))) e761 (i708.fresh (ntr (ntr (ntr (ntr (ntr (ntr (ntr (ntr (ntr (ntr n1825 n1420) n1416) n1417) e584.next) e590.next) e603.next) e620.next) e663.next) e669.next) e682.next))) e769 Inn.nil).extR e1054).extR e1064).extR e1073) e1079 (hb1074.fresh (ntr (ntr (ntr (ntr (ntr (ntr (ntr (ntr (ntr (ntr n1825 n1420) n1416) n1417) n1418) e742.next) e748.next) e761.next) e769.next) e1054.next) e1064.next))) c1752 Inn.nil) c1753 Inn.nil) c1754 Inn.nil) e1748 Inn.nil) e1762 Inn.nil) e1774 Inn.nil).extR e1786) e1823 Inn.nil)⟩
              ·have r1826 := ite_f h1802 r1800
               refine s_ql (.bool false) (x := aBin Tryd.prog .eql 41 (.tmp 255) (.const .nilIface) (.iface t1803 x1804) .nilIface) (by kernel_rfl) (aBin_nil (by kernel_rfl)) ?_
               refine s_qk (.bool false) (by kernel_rfl) ?_
               refine s_qk (.bool false) (by kernel_rfl) ?_
               refine s_no (by kernel_rfl) ?_
               refine s_no (by kernel_rfl) ?_
               refine s_no (by kernel_rfl) ?_
               refine s_qk (.bool false) (by kernel_rfl) ?_
               refine s_qk (.bool false) (by kernel_rfl) ?_
               refine s_nil ?_
               refine k1713 _ _ ?_
               refine w_ret ?_
               refine b_ret (fn := Tryd.f3) (vs := [.bool false]) (aRes_tmp (by kernel_rfl) (rfl)) ?_
               have c1827 := (FrS.step wf (FrS.step wf (FrS.step wf (((FrS.step wf (FrS.step wf (FrS.step wf (FrS.refl (W := []) wf) e8 Inn.nil) e17 Inn.nil) e22 Inn.nil).extR e25).extR e31) e37 (hb26.fresh (ntr (ntr e8.next e17.next) e22.next))) e42 (hb32.fresh (ntr (ntr (ntr e8.next e17.next) e22.next) e25.next))) e60 Inn.nil)
               have n1828 := (ntr (ntr (ntr (ntr (ntr (ntr (ntr e8.next e17.next) e22.next) e25.next) e31.next) e37.next) e42.next) e60.next)
               obtain rfl := Option.some.inj r1826
               exact ⟨rfl, ((FrS.step wf (FrS.step wf (FrS.step wf (FrS.step wf (FrS.step wf (FrS.step wf (FrS.step wf ((((FrS.step wf (FrS.step wf (FrS.step wf ((FrS.step wf (FrS.step wf (FrS.step wf ((FrS.step wf (FrS.step wf (FrS.step wf ((FrS.step wf (FrS.step wf (FrS.step wf (FrS.step wf ((FrS.step wf (FrS.step wf (FrS.step wf ((FrS.step wf (FrS.step wf (FrS.step wf ((FrS.step wf (FrS.step wf (FrS.step wf ((FrS.step wf (FrS.refl (W := []) wf) c1827 Inn.nil).extR e103) e109 (hb104.fresh (ntr (ntr (ntr (ntr (ntr (ntr (ntr e8.next e17.next) e22.next) e25.next) e31.next) e37.next) e42.next) e60.next))) e122 (i68.fresh (ntr (ntr (ntr (ntr (ntr (ntr e8.next e17.next) e22.next) e25.next) e31.next) e37.next) e42.next))) e139 Inn.nil).extR e182) e188 (hb183.fresh (ntr (ntr (ntr (ntr (ntr (ntr (ntr (ntr (ntr (ntr (ntr e8.next e17.next) e22.next) e25.next) e31.next) e37.next) e42.next) e60.next) e103.next) e109.next) e122.next) e139.next))) e201 (i147.fresh (ntr (ntr (ntr (ntr (ntr (ntr (ntr (ntr (ntr (ntr e8.next e17.next) e22.next) e25.next) e31.next) e37.next) e42.next) e60.next) e103.next) e109.next) e122.next))) e218 Inn.nil).extR e261) e267 (hb262.fresh (ntr n1828 n1420))) e280 (i226.fresh (ntr (ntr (ntr (ntr (ntr (ntr (ntr (ntr (ntr (ntr (ntr (ntr (ntr (ntr e8.next e17.next) e22.next) e25.next) e31.next) e37.next) e42.next) e60.next) e103.next) e109.next) e122.next) e139.next) e182.next) e188.next) e201.next))) e297 Inn.nil).extR e340) e346 (hb341.fresh (ntr (ntr (ntr (ntr (ntr n1828 n1420) e261.next) e267.next) e280.next) e297.next))) e359 (i303.fresh (ntr (ntr (ntr (ntr n1828 n1420) e261.next) e267.next) e280.next))) e376 Inn.nil) c1415 Inn.nil).extR e584) e590 (hb585.fresh (ntr (ntr (ntr n1828 n1420) n1416) n1417))) e603 (i549.fresh (ntr (ntr (ntr (ntr (ntr (ntr (ntr (ntr (ntr n1828 n1420) n1416) e419.next) e425.next) e445.next) e462.next) e505.next) e511.next) e524.next))) e620 Inn.nil).extR e663) e669 (hb664.fresh (ntr (ntr (ntr (ntr (ntr (ntr (ntr n1828 n1420) n1416) n1417) e584.next) e590.next) e603.next) e620.next))) e682 (i627.fresh (ntr (ntr (ntr (ntr (ntr (ntr n1828 n1420) n1416) n1417) e584.next) e590.next) e603.next))) e699 Inn.nil).extR e742) e748 (hb743.fresh (ntr (ntr (ntr (ntr n1828 n1420) n1416) n1417) n1418))) e761 (i708.fresh (ntr (ntr (ntr (ntr (ntr (ntr (ntr (ntr (ntr (ntr n1828 n1420) n1416) n1417) e584.next) e590.next) e603.next) e620.next) e663.next) e669.next) e682.next))) e769 Inn.nil).extR e1054).extR e1064).extR e1073) e1079 (hb1074.fresh (ntr (ntr (ntr (ntr (ntr (ntr (ntr (ntr (ntr (ntr n1828 n1420) n1416) n1417) n1418) e742.next) e748.next) e761.next) e769.next) e1054.next) e1064.next))) c1752 Inn.nil) c1753 Inn.nil) c1754 Inn.nil) e1748 Inn.nil) e1762 Inn.nil) e1774 Inn.nil).extR e1786)⟩
             ·have r1829 := ite_f h1799 r1796
              rw [nb h1799]
              refine s_qk (.bool false) (by kernel_rfl) ?_
              refine s_qk (.bool false) (by kernel_rfl) ?_
              refine s_no (by kernel_rfl) ?_
              refine s_no (by kernel_rfl) ?_
              refine s_qk (.bool false) (by kernel_rfl) ?_
              refine s_qk (.bool false) (by kernel_rfl) ?_
              refine s_no (by kernel_rfl) ?_
              refine s_no (by kernel_rfl) ?_
              refine s_no (by kernel_rfl) ?_
              refine s_qk (.bool false) (by kernel_rfl) ?_
              refine s_qk (.bool false) (by kernel_rfl) ?_
              refine s_nil ?_
              refine k1713 _ _ ?_
              refine w_ret ?_
              refine b_ret (fn := Tryd.f3) (vs := [.bool false]) (aRes_tmp (by kernel_rfl) (rfl)) ?_
              have c1831 := (FrS.step wf (FrS.step wf (FrS.step wf (((FrS.step wf (FrS.step wf (FrS.step wf (FrS.refl (W := []) wf) e8 Inn.nil) e17 Inn.nil) e22 Inn.nil).extR e25).extR e31) e37 (hb26.fresh (ntr (ntr e8.next e17.next) e22.next))) e42 (hb32.fresh (ntr (ntr (ntr e8.next e17.next) e22.next) e25.next))) e60 Inn.nil)
              have n1832 := (ntr (ntr (ntr (ntr (ntr (ntr (ntr e8.next e17.next) e22.next) e25.next) e31.next) e37.next) e42.next) e60.next)
              obtain rfl := Option.some.inj r1829
              exact ⟨rfl, ((FrS.step wf (FrS.step wf (FrS.step wf (FrS.step wf (FrS.step wf (FrS.step wf (FrS.step wf ((((FrS.step wf (FrS.step wf (FrS.step wf ((FrS.step wf (FrS.step wf (FrS.step wf ((FrS.step wf (FrS.step wf (FrS.step wf ((FrS.step wf (FrS.step wf (FrS.step wf (FrS.step wf ((FrS.step wf (FrS.step wf (FrS.step wf ((FrS.step wf (FrS.step wf (FrS.step wf ((FrS.step wf (FrS.step wf (FrS.step wf ((FrS.step wf (FrS.refl (W := []) wf) c1831 Inn.nil).extR e103) e109 (hb104.fresh (ntr (ntr (ntr (ntr (ntr (ntr (ntr e8.next e17.next) e22.next) e25.next) e31.next) e37.next) e42.next) e60.next))) e122 (i68.fresh (ntr (ntr (ntr (ntr (ntr (ntr e8.next e17.next) e22.next) e25.next) e31.next) e37.next) e42.next))) e139 Inn.nil).extR e182) e188 (hb183.fresh (ntr (ntr (ntr (ntr (ntr (ntr (ntr (ntr (ntr (ntr (ntr e8.next e17.next) e22.next) e25.next) e31.next) e37.next) e42.next) e60.next) e103.next) e109.next) e122.next) e139.next))) e201 (i147.fresh (ntr (ntr (ntr (ntr (ntr (ntr (ntr (ntr (ntr (ntr e8.next e17.next) e22.next) e25.next) e31.next) e37.next) e42.next) e60.next) e103.next) e109.next) e122.next))) e218 Inn.nil).extR e261) e267 (hb262.fresh (ntr n1832 n1420))) e280 (i226.fresh (ntr (ntr (ntr (ntr (ntr (ntr (ntr (ntr (ntr (ntr (ntr (ntr (ntr (ntr e8.next e17.next) e22.next) e25.next) e31.next) e37.next) e42.next) e60.next) e103.next) e109.next) e122.next) e139.next) e182.next) e188.next) e201.next))) e297 Inn.nil).extR e340) e346 (hb341.fresh (ntr (ntr (ntr (ntr (ntr n1832 n1420) e261.next) e267.next) e280.next) e297.next))) e359 (i303.fresh (ntr (ntr (ntr (ntr n1832 n1420) e261.next) e267.next) e280.next))) e376 Inn.nil) c1415 Inn.nil).extR e584) e590 (hb585.fresh (ntr (ntr (ntr n1832 n1420) n1416) n1417))) e603 (i549.fresh (ntr (ntr (ntr (ntr (ntr (ntr (ntr (ntr (ntr n1832 n1420) n1416) e419.next) e425.next) e445.next) e462.next) e505.next) e511.next) e524.next))) e620 Inn.nil).extR e663) e669 (hb664.fresh (ntr (ntr (ntr (ntr (ntr (ntr (ntr n1832 n1420) n1416) n1417) e584.next) e590.next) e603.next) e620.next))) e682 (i627.fresh (ntr (ntr (ntr (ntr (ntr (ntr n1832 n1420) n1416) n1417) e584.next) e590.next) e603.next))) e699 Inn.nil).extR e742) e748 (hb743.fresh (ntr (ntr (ntr (ntr n1832 n1420) n1416) n1417) n1418))) e761 (i708.fresh (ntr (ntr (ntr (ntr (ntr (ntr (ntr (ntr (ntr (ntr n1832 n1420) n1416) n1417) e584.next) e590.next) e603.next) e620.next) e663.next) e669.next) e682.next))) e769 Inn.nil).extR e1054).extR e1064).extR e1073) e1079 (hb1074.fresh (ntr (ntr (ntr (ntr (ntr (ntr (ntr (ntr (ntr (ntr n1832 n1420) n1416) n1417) n1418) e742.next) e748.next) e761.next) e769.next) e1054.next) e1064.next))) c1752 Inn.nil) c1753 Inn.nil) c1754 Inn.nil) e1748 Inn.nil) e1762 Inn.nil) e1774 Inn.nil).extR e1786)⟩
            ·have r1833 := ite_f h1778 r1776
             refine s_ql (.bool false) (x := aBin Tryd.prog .eql 41 (.tmp 246) (.const .nilIface) (.iface t1779 x1780) .nilIface) (by kernel_rfl) (aBin_nil (by kernel_rfl)) ?_
             refine s_qk (.bool false) (by kernel_rfl) ?_
             refine s_qk (.bool false) (by kernel_rfl) ?_
             refine s_no (by kernel_rfl) ?_
             refine s_no (by kernel_rfl) ?_
             refine s_no (by kernel_rfl) ?_
             refine s_qk (.bool false) (by kernel_rfl) ?_
             refine s_qk (.bool false) (by kernel_rfl) ?_
             refine s_no (by kernel_rfl) ?_
             refine s_no (by kernel_rfl) ?_
             refine s_qk (.bool false) (by kernel_rfl) ?_
             refine s_qk (.bool false) (by kernel_rfl) ?_
             refine s_no (by kernel_rfl) ?_
             refine s_no (by kernel_rfl) ?_
             refine s_no (by kernel_rfl) ?_
             refine s_qk (.bool false) (by kernel_rfl) ?_
             refine s_qk (.bool false) (by kernel_rfl) ?_
             refine s_nil ?_
             refine k1713 _ _ ?_
             refine w_ret ?_
             refine b_ret (fn := Tryd.f3) (vs := [.bool false]) (aRes_tmp (by kernel_rfl) (rfl)) ?_
             have c1834 := (FrS.step wf (FrS.step wf (FrS.step wf (((FrS.step wf (FrS.step wf (FrS.step wf (FrS.refl (W := []) wf) e8 Inn.nil) e17 Inn.nil) e22 Inn.nil).extR e25).extR e31) e37 (hb26.fresh (ntr (ntr e8.next e17.next) e22.next))) e42 (hb32.fresh (ntr (ntr (ntr e8.next e17.next) e22.next) e25.next))) e60 Inn.nil)
             have n1835 := (ntr (ntr (ntr (ntr (ntr (ntr (ntr e8.next e17.next) e22.next) e25.next) e31.next) e37.next) e42.next) e60.next)
             obtain rfl := Option.some.inj r1833
             exact ⟨rfl, (FrS.step wf (FrS.step wf (FrS.step wf (FrS.step wf (FrS.step wf (FrS.step wf (FrS.step wf ((((FrS.step wf (FrS.step wf (FrS.step wf ((FrS.step wf (FrS.step wf (FrS.step wf ((FrS.step wf (FrS.step wf (FrS.step wf ((FrS.step wf (FrS.step wf (FrS.step wf (FrS.step wf ((FrS.step wf (FrS.step wf (FrS.step wf ((FrS.step wf (FrS.step wf (FrS.step wf ((FrS.step wf (FrS.step wf (FrS.step wf ((FrS.step wf (FrS.refl (W := []) wf) c1834 Inn.nil).extR e103) e109 (hb104.fresh (ntr (ntr (ntr (ntr (ntr (ntr (ntr e8.next e17.next) e22.next) e25.next) e31.next) e37.next) e42.next) e60.next))) e122 (i68.fresh (ntr (ntr (ntr (ntr (ntr (ntr e8.next e17.next) e22.next) e25.next) e31.next) e37.next) e42.next))) e139 Inn.nil).extR e182) e188 (hb183.fresh (ntr (ntr (ntr (ntr (ntr (ntr (ntr (ntr (ntr (ntr (ntr e8.next e17.next) e22.next) e25.next) e31.next) e37.next) e42.next) e60.next) e103.next) e109.next) e122.next) e139.next))) e201 (i147.fresh (ntr (ntr (ntr (ntr (ntr (ntr (ntr (ntr (ntr (ntr e8.next e17.next) e22.next) e25.next) e31.next) e37.next) e42.next) e60.next) e103.next) e109.next) e122.next))) e218 Inn.nil).extR e261) e267 (hb262.fresh (ntr n1835 n1420))) e280 (i226.fresh (ntr (ntr (ntr (ntr (ntr (ntr (ntr (ntr (ntr (ntr (ntr (ntr (ntr (ntr e8.next e17.next) e22.next) e25.next) e31.next) e37.next) e42.next) e60.next) e103.next) e109.next) e122.next) e139.next) e182.next) e188.next) e201.next))) e297 Inn.nil).extR e340) e346 (hb341.fresh (ntr (ntr (ntr (ntr (ntr n1835 n1420) e261.next) e267.next) e280.next) e297.next))) e359 (i303.fresh (ntr (ntr (ntr (ntr n1835 n1420) e261.next) e267.next) e280.next))) e376 Inn.nil) c1415 Inn.nil).extR e584) e590 (hb585.fresh (ntr (ntr (ntr n1835 n1420) n1416) n1417))) e603 (i549.fresh (ntr (ntr (ntr (ntr (ntr (ntr (ntr (ntr (ntr n1835 n1420) n1416) e419.next) e425.next) e445.next) e462.next) e505.next) e511.next) e524.next))) e620 Inn.nil).extR e663) e669 (hb664.fresh (ntr (ntr (ntr (ntr (ntr (ntr (ntr n1835 n1420) n1416) n1417) e584.next) e590.next) e603.next) e620.next))) e682 (i627.fresh (ntr (ntr (ntr (ntr (ntr (ntr n1835 n1420) n1416) n1417) e584.next) e590.next) e603.next))) e699 Inn.nil).extR e742) e748 (hb743.fresh (ntr (ntr (ntr (ntr n1835 n1420) n1416) n1417) n1418))) e761 (i708.fresh (ntr (ntr (ntr (ntr (ntr (ntr (ntr (ntr (ntr (ntr n1835 n1420) n1416) n1417) e584.next) e590.next) e603.next) e620.next) e663.next) e669.next) e682.next))) e769 Inn.nil).extR e1054).extR e1064).extR e1073) e1079 (hb1074.fresh (ntr (ntr (ntr (ntr (ntr (ntr (ntr (ntr (ntr (ntr n1835 n1420) n1416) n1417) n1418) e742.next) e748.next) e761.next) e769.next) e1054.next) e1064.next))) c1752 Inn.nil) c1753 Inn.nil) c1754 Inn.nil) e1748 Inn.nil) e1762 Inn.nil) e1774 Inn.nil)⟩
           ·have r1836 := ite_f h1775 r1772
            rw [nb h1775]
            refine s_qk (.bool false) (by kernel_rfl) ?_
            refine s_qk (.bool false) (by kernel_rfl) ?_
            refine s_no (by kernel_rfl) ?_
            refine s_no (by kernel_rfl) ?_
            refine s_qk (.bool false) (by kernel_rfl) ?_
            refine s_qk (.bool false) (by kernel_rfl) ?_
            refine s_no (by kernel_rfl) ?_
            refine s_no (by kernel_rfl) ?_
            refine s_no (by kernel_rfl) ?_
            refine s_qk (.bool false) (by kernel_rfl) ?_
            refine s_qk (.bool false) (by kernel_rfl) ?_
            refine s_no (by kernel_rfl) ?_
            refine s_no (by kernel_rfl) ?_
            refine s_qk (.bool false) (by kernel_rfl) ?_
            refine s_qk (.bool false) (by kernel_rfl) ?_
            refine s_no (by kernel_rfl) ?_
            refine s_no (by kernel_rfl) ?_
            refine s_no (by kernel_rfl) ?_
            refine s_qk (.bool false) (by kernel_rfl) ?_
            refine s_qk (.bool false) (by kernel_rfl) ?_
            refine s_nil ?_
            refine k1713 _ _ ?_
            refine w_ret ?_
            refine b_ret (fn := Tryd.f3) (vs := [.bool false]) (aRes_tmp (by kernel_rfl) (rfl)) ?_
            have c1838 := (FrS.step wf (FrS.step wf (FrS.step wf (((FrS.step wf (FrS.step wf (FrS.step wf (FrS.refl (W := []) wf) e8 Inn.nil) e17 Inn.nil) e22 Inn.nil).extR e25).extR e31) e37 (hb26.fresh (ntr (ntr e8.next e17.next) e22.next))) e42 (hb32.fresh (ntr (ntr (ntr e8.next e17.next) e22.next) e25.next))) e60 Inn.nil)
            have n1839 := (ntr (ntr (ntr (ntr (ntr (ntr (ntr e8.next e17.next) e22.next) e25.next) e31.next) e37.next) e42.next) e60.next)
            obtain rfl := Option.some.inj r1836
            exact ⟨rfl, (FrS.step wf (FrS.step wf (FrS.step wf (FrS.step wf (FrS.step wf (FrS.step wf (FrS.step wf ((((FrS.step wf (FrS.step wf (FrS.step wf ((FrS.step wf (FrS.step wf (FrS.step wf ((FrS.step wf (FrS.step wf (FrS.step wf ((FrS.step wf (FrS.step wf (FrS.step wf (FrS.step wf ((FrS.step wf (FrS.step wf (FrS.step wf ((FrS.step wf (FrS.step wf (FrS.step wf ((FrS.step wf (FrS.step wf (FrS.step wf ((FrS.step wf (FrS.refl (W := []) wf) c1838 Inn.nil).extR e103) e109 (hb104.fresh (ntr (ntr (ntr (ntr (ntr (ntr (ntr e8.next e17.next) e22.next) e25.next) e31.next) e37.next) e42.next) e60.next))) e122 (i68.fresh (ntr (ntr (ntr (ntr (ntr (ntr e8.next e17.next) e22.next) e25.next) e31.next) e37.next) e42.next))) e139 Inn.nil).extR e182) e188 (hb183.fresh (ntr (ntr (ntr (ntr (ntr (ntr (ntr (ntr (ntr (ntr (ntr e8.next e17.next) e22.next) e25.next) e31.next) e37.next) e42.next) e60.next) e103.next) e109.next) e122.next) e139.next))) e201 (i147.fresh (ntr (ntr (ntr (ntr (ntr (ntr (ntr (ntr (ntr (ntr e8.next e17.next) e22.next) e25.next) e31.next) e37.next) e42.next) e60.next) e103.next) e109.next) e122.next))) e218 Inn.nil).extR e261) e267 (hb262.fresh (ntr n1839 n1420))) e280 (i226.fresh (ntr (ntr (ntr (ntr (ntr (ntr (ntr (ntr (ntr (ntr (ntr (ntr (ntr (ntr e8.next e17.next) e22.next) e25.next) e31.next) e37.next) e42.next) e60.next) e103.next) e109.next) e122.next) e139.next) e182.next) e188.next) e201.next))) e297 Inn.nil).extR e340) e346 (hb341.fresh (ntr (ntr (ntr (ntr (ntr n1839 n1420) e261.next) e267.next) e280.next) e297.next))) e359 (i303.fresh (ntr (ntr (ntr (ntr n1839 n1420) e261.next) e267.next) e280.next))) e376 Inn.nil) c1415 Inn.nil).extR e584) e590 (hb585.fresh (ntr (ntr (ntr n1839 n1420) n1416) n1417))) e603 (i549.fresh (ntr (ntr (ntr (ntr (ntr (ntr (ntr (ntr (ntr n1839 n1420) n1416) e419.next) e425.next) e445.next) e462.next) e505.next) e511.next) e524.next))) e620 Inn.nil).extR e663) e669 (hb664.fresh (ntr (ntr (ntr (ntr (ntr (ntr (ntr n1839 n1420) n1416) n1417) e584.next) e590.next) e603.next) e620.next))) e682 (i627.fresh (ntr (ntr (ntr (ntr (ntr (ntr n1839 n1420) n1416) n1417) e584.next) e590.next) e603.next))) e699 Inn.nil).extR e742) e748 (hb743.fresh (ntr (ntr (ntr (ntr n1839 n1420) n1416) n1417) n1418))) e761 (i708.fresh (ntr (ntr (ntr (ntr (ntr (ntr (ntr (ntr (ntr (ntr n1839 n1420) n1416) n1417) e584.next) e590.next) e603.next) e620.next) e663.next) e669.next) e682.next))) e769 Inn.nil).extR e1054).extR e1064).extR e1073) e1079 (hb1074.fresh (ntr (ntr (ntr (ntr (ntr (ntr (ntr (ntr (ntr (ntr n1839 n1420) n1416) n1417) n1418) e742.next) e748.next) e761.next) e769.next) e1054.next) e1064.next))) c1752 Inn.nil) c1753 Inn.nil) c1754 Inn.nil) e1748 Inn.nil) e1762 Inn.nil) e1774 Inn.nil)⟩
          ·have r1840 := ite_f h1749 r1746
           rw [nb h1749]
           refine s_qk (.bool false) (by kernel_rfl) ?_
           refine s_qk (.bool false) (by kernel_rfl) ?_
           refine s_no (by kernel_rfl) ?_
           refine s_no (by kernel_rfl) ?_
           refine s_no (by kernel_rfl) ?_
           refine s_no (by kernel_rfl) ?_
           refine s_qk (.bool false) (by kernel_rfl) ?_
           refine s_qk (.bool false) (by kernel_rfl) ?_
           refine s_no (by kernel_rfl) ?_
           refine s_no (by kernel_rfl) ?_
           refine s_qk (.bool false) (by kernel_rfl) ?_
           refine s_qk (.bool false) (by kernel_rfl) ?_
           refine s_no (by kernel_rfl) ?_
           refine s_no (by kernel_rfl) ?_
           refine s_no (by kernel_rfl) ?_
           refine s_qk (.bool false) (by kernel_rfl) ?_
           refine s_qk (.bool false) (by kernel_rfl) ?_
           refine s_no (by kernel_rfl) ?_
           refine s_no (by kernel_rfl) ?_
           refine s_qk (.bool false) (by kernel_rfl) ?_
           refine s_qk (.bool false) (by kernel_rfl) ?_
           refine s_no (by kernel_rfl) ?_
           refine s_no (by kernel_rfl) ?_
           refine s_no (by kernel_rfl) ?_
           refine s_qk (.bool false) (by kernel_rfl) ?_
           refine s_qk (.bool false) (by kernel_rfl) ?_
           refine s_nil ?_
           refine k1713 _ _ ?_
           refine w_ret ?_
           refine b_ret (fn := Tryd.f3) (vs := [.bool false]) (aRes_tmp (by kernel_rfl) (rfl)) ?_
           have c1842 := (FrS.step wf (FrS.step wf (FrS.step wf (((FrS.step wf (FrS.step wf (FrS.step wf (FrS.refl (W := []) wf) e8 Inn.nil) e17 Inn.nil) e22 Inn.nil).extR e25).extR e31) e37 (hb26.fresh (ntr (ntr e8.next e17.next) e22.next))) e42 (hb32.fresh (ntr (ntr (ntr e8.next e17.next) e22.next) e25.next))) e60 Inn.nil)
           have n1843 := (ntr (ntr (ntr (ntr (ntr (ntr (ntr e8.next e17.next) e22.next) e25.next) e31.next) e37.next) e42.next) e60.next)
           have c1844 := (FrS.step e1079.wf (FrS.step e1079.wf (FrS.step e1079.wf (FrS.step e1079.wf (FrS.step e1079.wf (FrS.step e1079.wf (FrS.step e1079.wf (FrS.step e1079.wf (FrS.refl (W := []) e1079.wf) e1089 Inn.nil) e1231 Inn.nil) e1278 Inn.nil) e1297 Inn.nil) e1344 Inn.nil) e1363 Inn.nil) e1410 Inn.nil) e1432 Inn.nil)
           have c1845 := (((FrS.step e1432.wf ((FrS.step e1432.wf (FrS.step e1432.wf (FrS.step e1432.wf (FrS.step e1432.wf (FrS.refl (W := []) e1432.wf) e1451 Inn.nil) e1500 Inn.nil) e1526 Inn.nil) e1583 Inn.nil).extR e1634) e1640 (hb1635.fresh (ntr (ntr (ntr e1451.next e1500.next) e1526.next) e1583.next))).extR e1651).extR e1661)
           have c1846 := (FrS.step e1661.wf (FrS.step e1661.wf (FrS.step e1661.wf (FrS.step e1661.wf (((((FrS.refl (W := []) e1661.wf).extR e1671).extR e1681).extR e1691).extR e1700) e1706 (hb1701.fresh (ntr (ntr e1671.next e1681.next) e1691.next))) e1728 Inn.nil) e1734 Inn.nil) e1742 Inn.nil)
           obtain rfl := Option.some.inj r1840
           exact ⟨rfl, (FrS.step wf (FrS.step wf (FrS.step wf (FrS.step wf (FrS.step wf ((((FrS.step wf (FrS.step wf (FrS.step wf ((FrS.step wf (FrS.step wf (FrS.step wf ((FrS.step wf (FrS.step wf (FrS.step wf ((FrS.step wf (FrS.step wf (FrS.step wf (FrS.step wf ((FrS.step wf (FrS.step wf (FrS.step wf ((FrS.step wf (FrS.step wf (FrS.step wf ((FrS.step wf (FrS.step wf (FrS.step wf ((FrS.step wf (FrS.refl (W := []) wf) c1842 Inn.nil).extR e103) e109 (hb104.fresh (ntr (ntr (ntr (ntr (ntr (ntr (ntr e8.next e17.next) e22.next) e25.next) e31.next) e37.next) e42.next) e60.next))) e122 (i68.fresh (ntr (ntr (ntr (ntr (ntr (ntr e8.next e17.next) e22.next) e25.next) e31.next) e37.next) e42.next))) e139 Inn.nil).extR e182) e188 (hb183.fresh (ntr (ntr (ntr (ntr (ntr (ntr (ntr (ntr (ntr (ntr (ntr e8.next e17.next) e22.next) e25.next) e31.next) e37.next) e42.next) e60.next) e103.next) e109.next) e122.next) e139.next))) e201 (i147.fresh (ntr (ntr (ntr (ntr (ntr (ntr (ntr (ntr (ntr (ntr e8.next e17.next) e22.next) e25.next) e31.next) e37.next) e42.next) e60.next) e103.next) e109.next) e122.next))) e218 Inn.nil).extR e261) e267 (hb262.fresh (ntr n1843 n1420))) e280 (i226.fresh (ntr (ntr (ntr (ntr (ntr (ntr (ntr (ntr (ntr (ntr (ntr (ntr (ntr (ntr e8.next e17.next) e22.next) e25.next) e31.next) e37.next) e42.next) e60.next) e103.next) e109.next) e122.next) e139.next) e182.next) e188.next) e201.next))) e297 Inn.nil).extR e340) e346 (hb341.fresh (ntr (ntr (ntr (ntr (ntr n1843 n1420) e261.next) e267.next) e280.next) e297.next))) e359 (i303.fresh (ntr (ntr (ntr (ntr n1843 n1420) e261.next) e267.next) e280.next))) e376 Inn.nil) c1415 Inn.nil).extR e584) e590 (hb585.fresh (ntr (ntr (ntr n1843 n1420) n1416) n1417))) e603 (i549.fresh (ntr (ntr (ntr (ntr (ntr (ntr (ntr (ntr (ntr n1843 n1420) n1416) e419.next) e425.next) e445.next) e462.next) e505.next) e511.next) e524.next))) e620 Inn.nil).extR e663) e669 (hb664.fresh (ntr (ntr (ntr (ntr (ntr (ntr (ntr n1843 n1420) n1416) n1417) e584.next) e590.next) e603.next) e620.next))) e682 (i627.fresh (ntr (ntr (ntr (ntr (ntr (ntr n1843 n1420) n1416) n1417) e584.next) e590.next) e603.next))) e699 Inn.nil).extR e742) e748 (hb743.fresh (ntr (ntr (ntr (ntr n1843 n1420) n1416) n1417) n1418))) e761 (i708.fresh (ntr (ntr (ntr (ntr (ntr (ntr (ntr (ntr (ntr (ntr n1843 n1420) n1416) n1417) e584.next) e590.next) e603.next) e620.next) e663.next) e669.next) e682.next))) e769 Inn.nil).extR e1054).extR e1064).extR e1073) e1079 (hb1074.fresh (ntr (ntr (ntr (ntr (ntr (ntr (ntr (ntr (ntr (ntr n1843 n1420) n1416) n1417) n1418) e742.next) e748.next) e761.next) e769.next) e1054.next) e1064.next))) c1844 Inn.nil) c1845 Inn.nil) c1846 Inn.nil) e1748 Inn.nil)⟩
         ·have r1847 := ite_f h1735 r1732
          rw [nb h1735]
          refine s_qk (.bool false) (by kernel_rfl) ?_
          refine s_qk (.bool false) (by kernel_rfl) ?_
          refine s_no (by kernel_rfl) ?_
          refine s_no (by kernel_rfl) ?_
          refine s_no (by kernel_rfl) ?_
          refine s_qk (.bool false) (by kernel_rfl) ?_
          refine s_qk (.bool false) (by kernel_rfl) ?_
          refine s_no (by kernel_rfl) ?_
          refine s_no (by kernel_rfl) ?_
          refine s_no (by kernel_rfl) ?_
          refine s_no (by kernel_rfl) ?_
          refine s_qk (.bool false) (by kernel_rfl) ?_
          refine s_qk (.bool false) (by kernel_rfl) ?_
          refine s_no (by kernel_rfl) ?_
          refine s_no (by kernel_rfl) ?_
          refine s_qk (.bool false) (by kernel_rfl) ?_
          refine s_qk (.bool false) (by kernel_rfl) ?_
          refine s_no (by kernel_rfl) ?_
          refine s_no (by kernel_rfl) ?_
          refine s_no (by kernel_rfl) ?_
          refine s_qk (.bool false) (by kernel_rfl) ?_
          refine s_qk (.bool false) (by kernel_rfl) ?_
          refine s_no (by kernel_rfl) ?_
          refine s_no (by kernel_rfl) ?_
          refine s_qk (.bool false) (by kernel_rfl) ?_
          refine s_qk (.bool false) (by kernel_rfl) ?_
          refine s_no (by kernel_rfl) ?_
          refine s_no (by kernel_rfl) ?_
          refine s_no (by kernel_rfl) ?_
          refine s_qk (.bool false) (by kernel_rfl) ?_
          refine s_qk (.bool false) (by kernel_rfl) ?_
          refine s_nil ?_
          refine k1713 _ _ ?_
          refine w_ret ?_
          refine b_ret (fn := Tryd.f3) (vs := [.bool false]) (aRes_tmp (by kernel_rfl) (rfl)) ?_
          have c1849 := (FrS.step wf (FrS.step wf (FrS.step wf (((FrS.step wf (FrS.step wf (FrS.step wf (FrS.refl (W := []) wf) e8 Inn.nil) e17 Inn.nil) e22 Inn.nil).extR e25).extR e31) e37 (hb26.fresh (ntr (ntr e8.next e17.next) e22.next))) e42 (hb32.fresh (ntr (ntr (ntr e8.next e17.next) e22.next) e25.next))) e60 Inn.nil)
          have n1850 := (ntr (ntr (ntr (ntr (ntr (ntr (ntr e8.next e17.next) e22.next) e25.next) e31.next) e37.next) e42.next) e60.next)
          have c1851 := (FrS.step e1079.wf (FrS.step e1079.wf (FrS.step e1079.wf (FrS.step e1079.wf (FrS.step e1079.wf (FrS.step e1079.wf (FrS.step e1079.wf (FrS.step e1079.wf (FrS.refl (W := []) e1079.wf) e1089 Inn.nil) e1231 Inn.nil) e1278 Inn.nil) e1297 Inn.nil) e1344 Inn.nil) e1363 Inn.nil) e1410 Inn.nil) e1432 Inn.nil)
          have c1852 := (((FrS.step e1432.wf ((FrS.step e1432.wf (FrS.step e1432.wf (FrS.step e1432.wf (FrS.step e1432.wf (FrS.refl (W := []) e1432.wf) e1451 Inn.nil) e1500 Inn.nil) e1526 Inn.nil) e1583 Inn.nil).extR e1634) e1640 (hb1635.fresh (ntr (ntr (ntr e1451.next e1500.next) e1526.next) e1583.next))).extR e1651).extR e1661)
          have n1853 := (ntr (ntr (ntr (ntr (ntr (ntr (ntr e742.next e748.next) e761.next) e769.next) e1054.next) e1064.next) e1073.next) e1079.next)
          have n1854 := (ntr (ntr (ntr (ntr (ntr (ntr (ntr e1089.next e1231.next) e1278.next) e1297.next) e1344.next) e1363.next) e1410.next) e1432.next)
          obtain rfl := Option.some.inj r1847
          exact ⟨rfl, (FrS.step wf (FrS.step wf (FrS.step wf (((((FrS.step wf (FrS.step wf (FrS.step wf ((((FrS.step wf (FrS.step wf (FrS.step wf ((FrS.step wf (FrS.step wf (FrS.step wf ((FrS.step wf (FrS.step wf (FrS.step wf ((FrS.step wf (FrS.step wf (FrS.step wf (FrS.step wf ((FrS.step wf (FrS.step wf (FrS.step wf ((FrS.step wf (FrS.step wf (FrS.step wf ((FrS.step wf (FrS.step wf (FrS.step wf ((FrS.step wf (FrS.refl (W := []) wf) c1849 Inn.nil).extR e103) e109 (hb104.fresh (ntr (ntr (ntr (ntr (ntr (ntr (ntr e8.next e17.next) e22.next) e25.next) e31.next) e37.next) e42.next) e60.next))) e122 (i68.fresh (ntr (ntr (ntr (ntr (ntr (ntr e8.next e17.next) e22.next) e25.next) e31.next) e37.next) e42.next))) e139 Inn.nil).extR e182) e188 (hb183.fresh (ntr (ntr (ntr (ntr (ntr (ntr (ntr (ntr (ntr (ntr (ntr e8.next e17.next) e22.next) e25.next) e31.next) e37.next) e42.next) e60.next) e103.next) e109.next) e122.next) e139.next))) e201 (i147.fresh (ntr (ntr (ntr (ntr (ntr (ntr (ntr (ntr (ntr (ntr e8.next e17.next) e22.next) e25.next) e31.next) e37.next) e42.next) e60.next) e103.next) e109.next) e122.next))) e218 Inn.nil).extR e261) e267 (hb262.fresh (ntr n1850 n1420))) e280 (i226.fresh (ntr (ntr (ntr (ntr (ntr (ntr (ntr (ntr (ntr (ntr (ntr (ntr (ntr (ntr e8.next e17.next) e22.next) e25.next) e31.next) e37.next) e42.next) e60.next) e103.next) e109.next) e122.next) e139.next) e182.next) e188.next) e201.next))) e297 Inn.nil).extR e340) e346 (hb341.fresh (ntr (ntr (ntr (ntr (ntr n1850 n1420) e261.next) e267.next) e280.next) e297.next))) e359 (i303.fresh (ntr (ntr (ntr (ntr n1850 n1420) e261.next) e267.next) e280.next))) e376 Inn.nil) c1415 Inn.nil).extR e584) e590 (hb585.fresh (ntr (ntr (ntr n1850 n1420) n1416) n1417))) e603 (i549.fresh (ntr (ntr (ntr (ntr (ntr (ntr (ntr (ntr (ntr n1850 n1420) n1416) e419.next) e425.next) e445.next) e462.next) e505.next) e511.next) e524.next))) e620 Inn.nil).extR e663) e669 (hb664.fresh (ntr (ntr (ntr (ntr (ntr (ntr (ntr n1850 n1420) n1416) n1417) e584.next) e590.next) e603.next) e620.next))) e682 (i627.fresh (ntr (ntr (ntr (ntr (ntr (ntr n1850 n1420) n1416) n1417) e584.next) e590.next) e603.next))) e699 Inn.nil).extR e742) e748 (hb743.fresh (ntr (ntr (ntr (ntr n1850 n1420) n1416) n1417) n1418))) e761 (i708.fresh (ntr (ntr (ntr (ntr (ntr (ntr (ntr (ntr (ntr (ntr n1850 n1420) n1416) n1417) e584.next) e590.next) e603.next) e620.next) e663.next) e669.next) e682.next))) e769 Inn.nil).extR e1054).extR e1064).extR e1073) e1079 (hb1074.fresh (ntr (ntr (ntr (ntr (ntr (ntr (ntr (ntr (ntr (ntr n1850 n1420) n1416) n1417) n1418) e742.next) e748.next) e761.next) e769.next) e1054.next) e1064.next))) c1851 Inn.nil) c1852 Inn.nil).extR e1671).extR e1681).extR e1691).extR e1700) e1706 (hb1701.fresh (ntr (ntr (ntr (ntr (ntr (ntr (ntr (ntr (ntr (ntr n1850 n1420) n1416) n1417) n1418) n1853) n1854) n1717) e1671.next) e1681.next) e1691.next))) e1728 Inn.nil) e1734 Inn.nil)⟩
        ·have r1855 := ite_f h1722 r1721
         refine s_qk (.bool false) (by kernel_rfl) ?_
         refine s_qk (.bool false) (by kernel_rfl) ?_
         refine s_no (by kernel_rfl) ?_
         refine s_no (by kernel_rfl) ?_
         refine s_no (by kernel_rfl) ?_
         refine s_qk (.bool false) (by kernel_rfl) ?_
         refine s_qk (.bool false) (by kernel_rfl) ?_
         refine s_no (by kernel_rfl) ?_
         refine s_no (by kernel_rfl) ?_
         refine s_no (by kernel_rfl) ?_
         refine s_qk (.bool false) (by kernel_rfl) ?_
         refine s_qk (.bool false) (by kernel_rfl) ?_
         refine s_no (by kernel_rfl) ?_
         refine s_no (by kernel_rfl) ?_
         refine s_no (by kernel_rfl) ?_
         refine s_no (by kernel_rfl) ?_
         refine s_qk (.bool false) (by kernel_rfl) ?_
         refine s_qk (.bool false) (by kernel_rfl) ?_
         refine s_no (by kernel_rfl) ?_
         refine s_no (by kernel_rfl) ?_
         refine s_qk (.bool false) (by kernel_rfl) ?_
         refine s_qk (.bool false) (by kernel_rfl) ?_
         refine s_no (by kernel_rfl) ?_
         refine s_no (by kernel_rfl) ?_
         refine s_no (by kernel_rfl) ?_
         refine s_qk (.bool false) (by kernel_rfl) ?_
         refine s_qk (.bool false) (by kernel_rfl) ?_
         refine s_no (by kernel_rfl) ?_
         refine s_no (by kernel_rfl) ?_
         refine s_qk (.bool false) (by kernel_rfl) ?_
         refine s_qk (.bool false) (by kernel_rfl) ?_
         refine s_no (by kernel_rfl) ?_
         refine s_no (by kernel_rfl) ?_
         refine s_no (by kernel_rfl) ?_
         refine s_qk (.bool false) (by kernel_rfl) ?_
         refine s_qk (.bool false) (by kernel_rfl) ?_
         refine s_nil ?_
         refine k1713 _ _ ?_
         refine w_ret ?_
         refine b_ret (fn := Tryd.f3) (vs := [.bool false]) (aRes_tmp (by kernel_rfl) (rfl)) ?_
         have c1856 := (FrS.step wf (FrS.step wf (FrS.step wf (((FrS.step wf (FrS.step wf (FrS.step wf (FrS.refl (W := []) wf) e8 Inn.nil) e17 Inn.nil) e22 Inn.nil).extR e25).extR e31) e37 (hb26.fresh (ntr (ntr e8.next e17.next) e22.next))) e42 (hb32.fresh (ntr (ntr (ntr e8.next e17.next) e22.next) e25.next))) e60 Inn.nil)
         have n1857 := (ntr (ntr (ntr (ntr (ntr (ntr (ntr e8.next e17.next) e22.next) e25.next) e31.next) e37.next) e42.next) e60.next)
         have c1858 := (FrS.step e1079.wf (FrS.step e1079.wf (FrS.step e1079.wf (FrS.step e1079.wf (FrS.step e1079.wf (FrS.step e1079.wf (FrS.step e1079.wf (FrS.step e1079.wf (FrS.refl (W := []) e1079.wf) e1089 Inn.nil) e1231 Inn.nil) e1278 Inn.nil) e1297 Inn.nil) e1344 Inn.nil) e1363 Inn.nil) e1410 Inn.nil) e1432 Inn.nil)
         have c1859 := (((FrS.step e1432.wf ((FrS.step e1432.wf (FrS.step e1432.wf (FrS.step e1432.wf (FrS.step e1432.wf (FrS.refl (W := []) e1432.wf) e1451 Inn.nil) e1500 Inn.nil) e1526 Inn.nil) e1583 Inn.nil).extR e1634) e1640 (hb1635.fresh (ntr (ntr (ntr e1451.next e1500.next) e1526.next) e1583.next))).extR e1651).extR e1661)
         have n1860 := (ntr (ntr (ntr (ntr (ntr (ntr (ntr e742.next e748.next) e761.next) e769.next) e1054.next) e1064.next) e1073.next) e1079.next)
         have n1861 := (ntr (ntr (ntr (ntr (ntr (ntr (ntr e1089.next e1231.next) e1278.next) e1297.next) e1344.next) e1363.next) e1410.next) e1432.next)
         obtain rfl := Option.some.inj r1855
         exact ⟨rfl, (FrS.step wf (((((FrS.step wf (FrS.step wf (FrS.step wf ((((FrS.step wf (FrS.step wf (FrS.step wf ((FrS.step wf (FrS.step wf (FrS.step wf ((FrS.step wf (FrS.step wf (FrS.step wf ((FrS.step wf (FrS.step wf (FrS.step wf (FrS.step wf ((FrS.step wf (FrS.step wf (FrS.step wf ((FrS.step wf (FrS.step wf (FrS.step wf ((FrS.step wf (FrS.step wf (FrS.step wf ((FrS.step wf (FrS.refl (W := []) wf) c1856 Inn.nil).extR e103) e109 (hb104.fresh (ntr (ntr (ntr (ntr (ntr (ntr (ntr e8.next e17.next) e22.next) e25.next) e31.next) e37.next) e42.next) e60.next))) e122 (i68.fresh (ntr (ntr (ntr (ntr (ntr (ntr e8.next e17.next) e22.next) e25.next) e31.next) e37.next) e42.next))) e139 Inn.nil).extR e182) e188 (hb183.fresh (ntr (ntr (ntr (ntr (ntr (ntr (ntr (ntr (ntr (ntr (ntr e8.next e17.next) e22.next) e25.next) e31.next) e37.next) e42.next) e60.next) e103.next) e109.next) e122.next) e139.next))) e201 (i147.fresh (ntr (ntr (ntr (ntr (ntr (ntr (ntr (ntr (ntr (ntr e8.next e17.next) e22.next) e25.next) e31.next) e37.next) e42.next) e60.next) e103.next) e109.next) e122.next))) e218 Inn.nil).extR e261) e267 (hb262.fresh (ntr n1857 n1420))) e280 (i226.fresh (ntr (ntr (ntr (ntr (ntr (ntr (ntr (ntr (ntr (ntr (ntr (ntr (ntr (ntr e8.next e17.next) e22.next) e25.next) e31.next) e37.next) e42.next) e60.next) e103.next) e109.next) e122.next) e139.next) e182.next) e188.next) e201.next))) e297 Inn.nil).extR e340) e346 (hb341.fresh (ntr (ntr (ntr (ntr (ntr n1857 n1420) e261.next) e267.next) e280.next) e297.next))) e359 (i303.fresh (ntr (ntr (ntr (ntr n1857 n1420) e261.next) e267.next) e280.next))) e376 Inn.nil) c1415 Inn.nil).extR e584) e590 (hb585.fresh (ntr (ntr (ntr n1857 n1420) n1416) n1417))) e603 (i549.fresh (ntr (ntr (ntr (ntr (ntr (ntr (ntr (ntr (ntr n1857 n1420) n1416) e419.next) e425.next) e445.next) e462.next) e505.next) e511.next) e524.next))) e620 Inn.nil).extR e663) e669 (hb664.fresh (ntr (ntr (ntr (ntr (ntr (ntr (ntr n1857 n1420) n1416) n1417) e584.next) e590.next) e603.next) e620.next))) e682 (i627.fresh (ntr (ntr (ntr (ntr (ntr (ntr n1857 n1420) n1416) n1417) e584.next) e590.next) e603.next))) e699 Inn.nil).extR e742) e748 (hb743.fresh (ntr (ntr (ntr (ntr n1857 n1420) n1416) n1417) n1418))) e761 (i708.fresh (ntr (ntr (ntr (ntr (ntr (ntr (ntr (ntr (ntr (ntr n1857 n1420) n1416) n1417) e584.next) e590.next) e603.next) e620.next) e663.next) e669.next) e682.next))) e769 Inn.nil).extR e1054).extR e1064).extR e1073) e1079 (hb1074.fresh (ntr (ntr (ntr (ntr (ntr (ntr (ntr (ntr (ntr (ntr n1857 n1420) n1416) n1417) n1418) e742.next) e748.next) e761.next) e769.next) e1054.next) e1064.next))) c1858 Inn.nil) c1859 Inn.nil).extR e1671).extR e1681).extR e1691).extR e1700) e1706 (hb1701.fresh (ntr (ntr (ntr (ntr (ntr (ntr (ntr (ntr (ntr (ntr n1857 n1420) n1416) n1417) n1418) n1860) n1861) n1717) e1671.next) e1681.next) e1691.next)))⟩
       ·have r1862 := ite_f h1720 r1719
        refine s_qk (.bool false) (by kernel_rfl) ?_
        refine s_qk (.bool false) (by kernel_rfl) ?_
        refine s_no (by kernel_rfl) ?_
        refine s_no (by kernel_rfl) ?_
        refine s_qk (.bool false) (by kernel_rfl) ?_
        refine s_qk (.bool false) (by kernel_rfl) ?_
        refine s_no (by kernel_rfl) ?_
        refine s_no (by kernel_rfl) ?_
        refine s_no (by kernel_rfl) ?_
        refine s_qk (.bool false) (by kernel_rfl) ?_
        refine s_qk (.bool false) (by kernel_rfl) ?_
        refine s_no (by kernel_rfl) ?_
        refine s_no (by kernel_rfl) ?_
        refine s_no (by kernel_rfl) ?_
        refine s_qk (.bool false) (by kernel_rfl) ?_
        refine s_qk (.bool false) (by kernel_rfl) ?_
        refine s_no (by kernel_rfl) ?_
        refine s_no (by kernel_rfl) ?_
        refine s_no (by kernel_rfl) ?_
        refine s_no (by kernel_rfl) ?_
        refine s_qk (.bool false) (by kernel_rfl) ?_
        refine s_qk (.bool false) (by kernel_rfl) ?_
        refine s_no (by kernel_rfl) ?_
        refine s_no (by kernel_rfl) ?_
        refine s_qk (.bool false) (by kernel_rfl) ?_
        refine s_qk (.bool false) (by kernel_rfl) ?_
        refine s_no (by kernel_rfl) ?_
        refine s_no (by kernel_rfl) ?_
        refine s_no (by kernel_rfl) ?_
        refine s_qk (.bool false) (by kernel_rfl) ?_
        refine s_qk (.bool false) (by kernel_rfl) ?_
        refine s_no (by kernel_rfl) ?_
        refine s_no (by kernel_rfl) ?_
        refine s_qk (.bool false) (by kernel_rfl) ?_
        refine s_qk (.bool false) (by kernel_rfl) ?_
        refine s_no (by kernel_rfl) ?_
        refine s_no (by kernel_rfl) ?_
        refine s_no (by kernel_rfl) ?_
        refine s_qk (.bool false) (by kernel_rfl) ?_
        refine s_qk (.bool false) (by kernel_rfl) ?_
        refine s_nil ?_
        refine k1713 _ _ ?_
        refine w_ret ?_
        refine b_ret (fn := Tryd.f3) (vs := [.bool false]) (aRes_tmp (by kernel_rfl) (rfl)) ?_
        have c1863 := (FrS.step wf (FrS.step wf (FrS.step wf (((FrS.step wf (FrS.step wf (FrS.step wf (FrS.refl (W := []) wf) e8 Inn.nil) e17 Inn.nil) e22 Inn.nil).extR e25).extR e31) e37 (hb26.fresh (ntr (ntr e8.next e17.next) e22.next))) e42 (hb32.fresh (ntr (ntr (ntr e8.next e17.next) e22.next) e25.next))) e60 Inn.nil)
        have n1864 := (ntr (ntr (ntr (ntr (ntr (ntr (ntr e8.next e17.next) e22.next) e25.next) e31.next) e37.next) e42.next) e60.next)
        have c1865 := (FrS.step e1079.wf (FrS.step e1079.wf (FrS.step e1079.wf (FrS.step e1079.wf (FrS.step e1079.wf (FrS.step e1079.wf (FrS.step e1079.wf (FrS.step e1079.wf (FrS.refl (W := []) e1079.wf) e1089 Inn.nil) e1231 Inn.nil) e1278 Inn.nil) e1297 Inn.nil) e1344 Inn.nil) e1363 Inn.nil) e1410 Inn.nil) e1432 Inn.nil)
        have c1866 := (((FrS.step e1432.wf ((FrS.step e1432.wf (FrS.step e1432.wf (FrS.step e1432.wf (FrS.step e1432.wf (FrS.refl (W := []) e1432.wf) e1451 Inn.nil) e1500 Inn.nil) e1526 Inn.nil) e1583 Inn.nil).extR e1634) e1640 (hb1635.fresh (ntr (ntr (ntr e1451.next e1500.next) e1526.next) e1583.next))).extR e1651).extR e1661)
        have n1867 := (ntr (ntr (ntr (ntr (ntr (ntr (ntr e742.next e748.next) e761.next) e769.next) e1054.next) e1064.next) e1073.next) e1079.next)
        have n1868 := (ntr (ntr (ntr (ntr (ntr (ntr (ntr e1089.next e1231.next) e1278.next) e1297.next) e1344.next) e1363.next) e1410.next) e1432.next)
        obtain rfl := Option.some.inj r1862
        exact ⟨rfl, (FrS.step wf (((((FrS.step wf (FrS.step wf (FrS.step wf ((((FrS.step wf (FrS.step wf (FrS.step wf ((FrS.step wf (FrS.step wf (FrS.step wf ((FrS.step wf (FrS.step wf (FrS.step wf ((FrS.step wf (FrS.step wf (FrS.step wf (FrS.step wf ((FrS.step wf (FrS.step wf (FrS.step wf ((FrS.step wf (FrS.step wf (FrS.step wf ((FrS.step wf (FrS.step wf (FrS.step wf ((FrS.step wf (FrS.refl (W := []) wf) c1863 Inn.nil).extR e103) e109 (hb104.fresh (ntr (ntr (ntr (ntr (ntr (ntr (ntr e8.next e17.next) e22.next) e25.next) e31.next) e37.next) e42.next) e60.next))) e122 (i68.fresh (ntr (ntr (ntr (ntr (ntr (ntr e8.next e17.next) e22.next) e25.next) e31.next) e37.next) e42.next))) e139 Inn.nil).extR e182) e188 (hb183.fresh (ntr (ntr (ntr (ntr (ntr (ntr (ntr (ntr (ntr (ntr (ntr e8.next e17.next) e22.next) e25.next) e31.next) e37.next) e42.next) e60.next) e103.next) e109.next) e122.next) e139.next))) e201 (i147.fresh (ntr (ntr (ntr (ntr (ntr (ntr (ntr (ntr (ntr (ntr e8.next e17.next) e22.next) e25.next) e31.next) e37.next) e42.next) e60.next) e103.next) e109.next) e122.next))) e218 Inn.nil).extR e261) e267 (hb262.fresh (ntr n1864 n1420))) e280 (i226.fresh (ntr (ntr (ntr (ntr (ntr (ntr (ntr (ntr (ntr (ntr (ntr (ntr (ntr (ntr e8.next e17.next) e22.next) e25.next) e31.next) e37.next) e42.next) e60.next) e103.next) e109.next) e122.next) e139.next) e182.next) e188.next) e201.next))) e297 Inn.nil).extR e340) e346 (hb341.fresh (ntr (ntr (ntr (ntr (ntr n1864 n1420) e261.next) e267.next) e280.next) e297.next))) e359 (i303.fresh (ntr (ntr (ntr (ntr n1864 n1420) e261.next) e267.next) e280.next))) e376 Inn.nil) c1415 Inn.nil).extR e584) e590 (hb585.fresh (ntr (ntr (ntr n1864 n1420) n1416) n1417))) e603 (i549.fresh (ntr (ntr (ntr (ntr (ntr (ntr (ntr (ntr (ntr n1864 n1420) n1416) e419.next) e425.next) e445.next) e462.next) e505.next) e511.next) e524.next))) e620 Inn.nil).extR e663) e669 (hb664.fresh (ntr (ntr (ntr (ntr (ntr (ntr (ntr n1864 n1420) n1416) n1417) e584.next) e590.next) e603.next) e620.next))) e682 (i627.fresh (ntr (ntr (ntr (ntr (ntr (ntr n1864 n1420) n1416) n1417) e584.next) e590.next) e603.next))) e699 Inn.nil).extR e742) e748 (hb743.fresh (ntr (ntr (ntr (ntr n1864 n1420) n1416) n1417) n1418))) e761 (i708.fresh (ntr (ntr (ntr (ntr (ntr (ntr (ntr (ntr (ntr (ntr n1864 n1420) n1416) n1417) e584.next) e590.next) e603.next) e620.next) e663.next) e669.next) e682.next))) e769 Inn.nil).extR e1054).extR e1064).extR e1073) e1079 (hb1074.fresh (ntr (ntr (ntr (ntr (ntr (ntr (ntr (ntr (ntr (ntr n1864 n1420) n1416) n1417) n1418) e742.next) e748.next) e761.next) e769.next) e1054.next) e1064.next))) c1865 Inn.nil) c1866 Inn.nil).extR e1671).extR e1681).extR e1691).extR e1700) e1706 (hb1701.fresh (ntr (ntr (ntr (ntr (ntr (ntr (ntr (ntr (ntr (ntr n1864 n1420) n1416) n1417) n1418) n1867) n1868) n1717) e1671.next) e1681.next) e1691.next)))⟩
      ·have r1869 := ite_f h1714 r1569
       refine s_ql (.bool false) (x := aBin Tryd.prog .eql 41 (.tmp 219) (.const .nilIface) (.iface t1715 x1716) .nilIface) (by kernel_rfl) (aBin_nil (by kernel_rfl)) ?_
       refine s_qk (.bool false) (by kernel_rfl) ?_
       refine s_no (by kernel_rfl) ?_
       refine s_no (by kernel_rfl) ?_
       refine s_qk (.bool false) (by kernel_rfl) ?_
       refine s_qk (.bool false) (by kernel_rfl) ?_
       refine s_no (by kernel_rfl) ?_
       refine s_no (by kernel_rfl) ?_
       refine s_qk (.bool false) (by kernel_rfl) ?_
       refine s_qk (.bool false) (by kernel_rfl) ?_
       refine s_no (by kernel_rfl) ?_
       refine s_no (by kernel_rfl) ?_
       refine s_no (by kernel_rfl) ?_
       refine s_qk (.bool false) (by kernel_rfl) ?_
       refine s_qk (.bool false) (by kernel_rfl) ?_
       refine s_no (by kernel_rfl) ?_
       refine s_no (by kernel_rfl) ?_
       refine s_no (by kernel_rfl) ?_
       refine s_qk (.bool false) (by kernel_rfl) ?_
       refine s_qk (.bool false) (by kernel_rfl) ?_
       refine s_no (by kernel_rfl) ?_
       refine s_no (by kernel_rfl) ?_
       refine s_no (by kernel_rfl) ?_
       refine s_no (by kernel_rfl) ?_
       refine s_qk (.bool false) (by kernel_rfl) ?_
       refine s_qk (.bool false) (by kernel_rfl) ?_
       refine s_no (by kernel_rfl) ?_
       refine s_no (by kernel_rfl) ?_
       refine s_qk (.bool false) (by kernel_rfl) ?_
       refine s_qk (.bool false) (by kernel_rfl) ?_
       refine s_no (by kernel_rfl) ?_
       refine s_no (by kernel_rfl) ?_
       refine s_no (by kernel_rfl) ?_
       refine s_qk (.bool false) (by kernel_rfl) ?_
       refine s_qk (.bool false) (by kernel_rfl) ?_
       refine s_no (by kernel_rfl) ?_
       refine s_no (by kernel_rfl) ?_
       refine s_qk (.bool false) (by kernel_rfl) ?_
       refine s_qk (.bool false) (by kernel_rfl) ?_
       refine s_no (by kernel_rfl) ?_
       refine s_no (by kernel_rfl) ?_
       refine s_no (by kernel_rfl) ?_
       refine s_qk (.bool false) (by kernel_rfl) ?_
       refine s_qk (.bool false) (by kernel_rfl) ?_
       refine s_nil ?_
       refine k1713 _ _ ?_
       refine w_ret ?_
       refine b_ret (fn := Tryd.f3) (vs := [.bool false]) (aRes_tmp (by kernel_rfl) (rfl)) ?_
       have c1870 := (FrS.step wf (FrS.step wf (FrS.step wf (((FrS.step wf (FrS.step wf (FrS.step wf (FrS.refl (W := []) wf) e8 Inn.nil) e17 Inn.nil) e22 Inn.nil).extR e25).extR e31) e37 (hb26.fresh (ntr (ntr e8.next e17.next) e22.next))) e42 (hb32.fresh (ntr (ntr (ntr e8.next e17.next) e22.next) e25.next))) e60 Inn.nil)
       have n1871 := (ntr (ntr (ntr (ntr (ntr (ntr (ntr e8.next e17.next) e22.next) e25.next) e31.next) e37.next) e42.next) e60.next)
       have c1872 := (FrS.step e1079.wf (FrS.step e1079.wf (FrS.step e1079.wf (FrS.step e1079.wf (FrS.step e1079.wf (FrS.step e1079.wf (FrS.step e1079.wf (FrS.step e1079.wf (FrS.refl (W := []) e1079.wf) e1089 Inn.nil) e1231 Inn.nil) e1278 Inn.nil) e1297 Inn.nil) e1344 Inn.nil) e1363 Inn.nil) e1410 Inn.nil) e1432 Inn.nil)
       have c1873 := (((FrS.step e1432.wf ((FrS.step e1432.wf (FrS.step e1432.wf (FrS.step e1432.wf (FrS.step e1432.wf (FrS.refl (W := []) e1432.wf) e1451 Inn.nil) e1500 Inn.nil) e1526 Inn.nil) e1583 Inn.nil).extR e1634) e1640 (hb1635.fresh (ntr (ntr (ntr e1451.next e1500.next) e1526.next) e1583.next))).extR e1651).extR e1661)
       have n1874 := (ntr (ntr (ntr (ntr (ntr (ntr (ntr e742.next e748.next) e761.next) e769.next) e1054.next) e1064.next) e1073.next) e1079.next)
       have n1875 := (ntr (ntr (ntr (ntr (ntr (ntr (ntr e1089.next e1231.next) e1278.next) e1297.next) e1344.next) e1363.next) e1410.next) e1432.next)
       obtain rfl := Option.some.inj r1869
       exact ⟨rfl, (FrS.step wf (((((FrS.step wf (FrS.step wf (FrS.step wf ((((FrS.step wf (FrS.step wf (FrS.step wf ((FrS.step wf (FrS.step wf (FrS.step wf ((FrS.step wf (FrS.step wf (FrS.step wf ((FrS.step wf (FrS.step wf (FrS.step wf (FrS.step wf ((FrS.step wf (FrS.step wf (FrS.step wf ((FrS.step wf (FrS.step wf (FrS.step wf ((FrS.step wf (FrS.step wf (FrS.step wf ((FrS.step wf (FrS.refl (W := []) wf) c1870 Inn.nil).extR e103) e109 (hb104.fresh (ntr (ntr (ntr (ntr (ntr (ntr (ntr e8.next e17.next) e22.next) e25.next) e31.next) e37.next) e42.next) e60.next))) e122 (i68.fresh (ntr (ntr (ntr (ntr (ntr (ntr e8.next e17.next) e22.next) e25.next) e31.next) e37.next) e42.next))) e139 Inn.nil).extR e182) e188 (hb183.fresh (ntr (ntr (ntr (ntr (ntr (ntr (ntr (ntr (ntr (ntr (ntr e8.next e17.next) e22.next) e25.next) e31.next) e37.next) e42.next) e60.next) e103.next) e109.next) e122.next) e139.next))) e201 (i147.fresh (ntr (ntr (ntr (ntr (ntr (ntr (ntr (ntr (ntr (ntr e8.next e17.next) e22.next) e25.next) e31.next) e37.next) e42.next) e60.next) e103.next) e109.next) e122.next))) e218 Inn.nil).extR e261) e267 (hb262.fresh (ntr n1871 n1420))) e280 (i226.fresh (ntr (ntr (ntr (ntr (ntr (ntr (ntr (ntr (ntr (ntr (ntr (ntr (ntr (ntr e8.next e17.next) e22.next) e25.next) e31.next) e37.next) e42.next) e60.next) e103.next) e109.next) e122.next) e139.next) e182.next) e188.next) e201.next))) e297 Inn.nil).extR e340) e346 (hb341.fresh (ntr (ntr (ntr (ntr (ntr n1871 n1420) e261.next) e267.next) e280.next) e297.next))) e359 (i303.fresh (ntr (ntr (ntr (ntr n1871 n1420) e261.next) e267.next) e280.next))) e376 Inn.nil) c1415 Inn.nil).extR e584) e590 (hb585.fresh (ntr (ntr (ntr n1871 n1420) n1416) n1417))) e603 (i549.fresh (ntr (ntr (ntr (ntr (ntr (ntr (ntr (ntr (ntr n1871 n1420) n1416) e419.next) e425.next) e445.next) e462.next) e505.next) e511.next) e524.next))) e620 Inn.nil).extR e663) e669 (hb664.fresh (ntr (ntr (ntr (ntr (ntr (ntr (ntr n1871 n1420) n1416) n1417) e584.next) e590.next) e603.next) e620.next))) e682 (i627.fresh (ntr (ntr (ntr (ntr (ntr (ntr n1871 n1420) n1416) n1417) e584.next) e590.next) e603.next))) e699 Inn.nil).extR e742) e748 (hb743.fresh (ntr (ntr (ntr (ntr n1871 n1420) n1416) n1417) n1418))) e761 (i708.fresh (ntr (ntr (ntr (ntr (ntr (ntr (ntr (ntr (ntr (ntr n1871 n1420) n1416) n1417) e584.next) e590.next) e603.next) e620.next) e663.next) e669.next) e682.next))) e769 Inn.nil).extR e1054).extR e1064).extR e1073) e1079 (hb1074.fresh (ntr (ntr (ntr (ntr (ntr (ntr (ntr (ntr (ntr (ntr n1871 n1420) n1416) n1417) n1418) e742.next) e748.next) e761.next) e769.next) e1054.next) e1064.next))) c1872 Inn.nil) c1873 Inn.nil).extR e1671).extR e1681).extR e1691).extR e1700) e1706 (hb1701.fresh (ntr (ntr (ntr (ntr (ntr (ntr (ntr (ntr (ntr (ntr n1871 n1420) n1416) n1417) n1418) n1874) n1875) n1717) e1671.next) e1681.next) e1691.next)))⟩
 ·have r1876 := ite_f h9 r6
  rw [nb h9]
  refine s_qk (.bool true) (by kernel_rfl) ?_
  refine s_qk (.bool true) (by kernel_rfl) ?_
  refine s_qk (.bool true) (by kernel_rfl) ?_
  refine s_qk (.bool true) (by kernel_rfl) ?_
  refine s_qk (.bool true) (by kernel_rfl) ?_
  refine s_qk (.bool true) (by kernel_rfl) ?_
  refine s_qk (.bool true) (by kernel_rfl) ?_
  refine s_nil ?_
  refine k3 _ _ ?_
  refine w_cond true (by kernel_rfl) rfl (fun _ => ?_) (fun h => by cases h)
  refine w_seqk fun K1878 k1878 => ?_
  refine w_reg (by kernel_rfl) ?_
  refine s_qk (.bool false) (by kernel_rfl) ?_
  refine s_nil ?_
  refine k1878 _ _ ?_
  refine w_ret (th_ret ?_)
  refine b_ret (fn := Tryd.f3) (vs := [.bool false]) (aRes_tmp (by kernel_rfl) (rfl)) ?_
  obtain rfl := Option.some.inj r1876
  exact ⟨rfl, (FrS.step wf (FrS.refl (W := []) wf) e8 Inn.nil)⟩


end Go.Vd
