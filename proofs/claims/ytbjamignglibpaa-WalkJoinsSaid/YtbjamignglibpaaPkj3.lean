/- The walks of the functions (printed by a program of ours). -/
import Derived.Test.YtbjamignglibpaaPkj2
import Derived.Test.YtbjamignglibpaaVeC
import Derived.Test.YtbjamignglibpaaIWj
import Derived.Test.YtbjamignglibpaaVeN
import Derived.Test.YtbjamignglibpaaSoA
import Derived.Test.YtbjamignglibpaaVeV
set_option linter.unusedVariables false
set_option linter.unusedSimpArgs false
set_option linter.unusedSectionVars false
/-! (KWj6) -/

set_option maxRecDepth 100000
set_option maxHeartbeats 4000000
set_option linter.unusedVariables false
namespace Go.Vd
open Go.Proofs
attribute [local irreducible] wpSeq wpOrd aWp
theorem c_search_From {H : AH} {hd_First : Value} {fp_First : Fp} {hd_To : Value} {fp_To : Fp} {hd_Weight : Value} {fp_Weight : Fp} {First : List (Int)} {To : List (Int)} {Weight : List (Int)} {s : Int} {r : List (Int) × Er}
  (wf : WF H) (h_First : Sq (encI .i64) 1 H hd_First First fp_First) (h_To : Sq (encI .i64) 1 H hd_To To fp_To) (h_Weight : Sq (encI .i64) 1 H hd_Weight Weight fp_Weight) (hr : z_search_From First To Weight s = some r) :
  ACalls Try.prog 23 #[.agg #[hd_First, hd_To, hd_Weight], .int .i64 s] H fun v H' => ∃ (s3 : Value) (f4 : Fp) (v7 : Value) (f8 : Fp), v = .tuple #[s3, v7] ∧ FrS [] H H' ∧ Ow (encI .u64) 1 H' s3 r.1 f4 ∧ Ev 82 123 H' v7 r.2 f8 ∧ Inn [] H f4 ∧ Inn [] H f8 ∧ Dj f4 f8 := by
 refine acalls_of_body mixed Try.func23 rfl (Nat.le_of_ble_eq_true rfl) ?_
 unfold z_search_From at hr
 refine w_seqk fun K12 k12 => ?_
 refine w_reg (by kernel_rfl) ?_
 refine s_rwl wf [hd_First, hd_To, hd_Weight] (one_cons (h_First.one1) (one_cons (h_To.one1) (one_cons (h_Weight.one1) (one_nil)))) (by kernel_rfl) fun b13 H14 e15 hb16 r17 => ?_
 refine s_qk (.slice none 0 0) (by kernel_rfl) ?_
 refine s_qk (.nilIface) (by kernel_rfl) ?_
 refine s_nil ?_
 refine k12 _ _ ?_
 refine w_seqk fun K19 k19 => ?_
 refine w_seqk fun K20 k20 => ?_
 refine w_reg (by kernel_rfl) ?_
 refine s_ql (.agg #[hd_First, hd_To, hd_Weight]) (x := aLoad Try.prog 34 (.pointer (some ⟨b13, 0, none⟩)) H14) (by kernel_rfl) (r17.ld (by kernel_rfl)) ?_
 refine s_qk (.int .i64 s) (by kernel_rfl) ?_
 refine s_owk (enc := (encI .i64)) (sz := 1) e15.wf [s] 1 (by decide) (fun _ _ => rfl) (fun _ _ => rfl) rfl (by kernel_rfl) fun s21 f22 H23 e24 hf25 hm26 => ?_
 obtain ⟨a27, n28, c29, rfl⟩ := hm26.form
 have u31 := ((h_First.ext e15).ext e24)
 have u32 := ((h_To.ext e15).ext e24)
 have u33 := ((h_Weight.ext e15).ext e24)
 obtain ⟨y34, hy35, r36⟩ := bind_some hr
 refine s_ck 49 #[.agg #[hd_First, hd_To, hd_Weight], .slice a27 n28 c29] (by kernel_rfl) (c_search_node e24.wf u31 u32 u33 hm26.sq hy35) ?_
 rintro v37 H39 ⟨_, f38, rfl, e40, m41, i42⟩
 refine s_qk (v37) (by kernel_rfl) ?_
 refine s_nil ?_
 refine k20 _ _ ?_
 refine w_seqk fun K44 k44 => ?_
 refine w_reg (by kernel_rfl) ?_
 refine s_qk (v37) (by kernel_rfl) ?_
 rcases (m41).cases with ⟨h45, rfl⟩ | ⟨h45, t46, x47, rfl⟩
 ·have r48 := ite_t h45 r36
  refine s_qk (.bool false) (by kernel_rfl) ?_
  refine s_nil ?_
  refine k44 _ _ ?_
  refine w_cond false (by kernel_rfl) rfl (fun h => by cases h) (fun _ => ?_)
  refine w_skip ?_
  refine k19 _ _ ?_
  refine w_seqk fun K49 k49 => ?_
  refine w_draw [0, 1, 2, 3, 4, 5, 6] (by kernel_rfl) ?_
  have u50 := ((r17.ext e24).frS e40 Dj.nil_l)
  refine d_fl (.agg #[hd_First, hd_To, hd_Weight]) (x := aLoad Try.prog 34 (.pointer (some ⟨b13, 0, none⟩)) H39) (by kernel_rfl) (u50.ld (by kernel_rfl)) ?_
  refine d_qk (.int .i64 s) (by kernel_rfl) ?_
  obtain ⟨y51, hy52, r53⟩ := bind_some r48
  refine d_ck 51 #[] (by kernel_rfl) (c_search_free e40.wf hy52) ?_
  rintro _ H54 ⟨rfl, e55⟩
  have u56 := (u50.frS e55 Dj.nil_l)
  refine ⟨st_ql (y := aLoad Try.prog 34 (.pointer (some ⟨b13, 0, none⟩)) H54) (by kernel_rfl) (u56.ld (by kernel_rfl)) (st_nil), ?_⟩
  have u57 := ((u31.fr e40 Dj.nil_l).fr e55 Dj.nil_l)
  have u58 := ((u32.fr e40 Dj.nil_l).fr e55 Dj.nil_l)
  have u59 := ((u33.fr e40 Dj.nil_l).fr e55 Dj.nil_l)
  obtain ⟨y60, hy61, r62⟩ := bind_some r53
  refine d_ck 50 #[.agg #[hd_First, hd_To, hd_Weight], .int .i64 s, .agg #[.int .i64 4611686018427387904, .int .i64 4611686018427387904, .int .u64 18446744073709551615]] (by kernel_rfl) (c_search_run e55.wf u57 u58 u59 hy61) ?_
  rintro _ H76 ⟨s63, f64, s65, f66, b67, s68, f69, b70, s71, f72, s73, f74, b75, rfl, e77, m78, m79, m80, m81, m82, m83, m84, m85, i86, i87, i88, i89, i90, i91, i92, i93, d94, d95, d96, d97, d98, d99, d100, d101, d102, d103, d104, d105, d106, d107, d108, d109, d110, d111, d112, d113, d114, d115, d116, d117, d118, d119, d120, d121⟩
  obtain ⟨a130, n131, c132, rfl⟩ := m78.form
  obtain ⟨a133, n134, c135, rfl⟩ := m79.form
  obtain ⟨a136, n137, c138, rfl⟩ := m81.form
  obtain ⟨a139, n140, c141, rfl⟩ := m83.form
  obtain ⟨a142, n143, c144, rfl⟩ := m84.form
  refine ⟨st_anc (by kernel_rfl) (st_nil), ?_⟩
  have u145 := (u57.fr e77 Dj.nil_l)
  have u146 := (u58.fr e77 Dj.nil_l)
  have u147 := (u59.fr e77 Dj.nil_l)
  obtain ⟨y148, hy149, r150⟩ := bind_some r62
  refine d_ck 52 #[.pointer (some ⟨b75, 0, none⟩)] (by kernel_rfl) (c_search_state_all e77.wf u145 u146 u147 m78.sq m79.sq m80 m81.sq m82 m83.sq m84.sq m85 hy149) ?_
  rintro s151 H153 ⟨_, f152, rfl, e154, m155, i156⟩
  obtain ⟨a158, n159, c160, rfl⟩ := m155.form
  refine ⟨st_anc (by kernel_rfl) (st_nil), ?_⟩
  refine d_qk (.slice a158 n159 c160) (by kernel_rfl) ?_
  refine d_qk (.nilIface) (by kernel_rfl) ?_
  refine d_nil ?_
  refine k49 _ _ ?_
  refine w_ret ?_
  refine b_ret (fn := Try.f23) (vs := [.slice a158 n159 c160, .nilIface]) (aRes_tmp (by kernel_rfl) (aRes_tmp (by kernel_rfl) (rfl))) ?_
  obtain rfl := Option.some.inj r150
  exact ⟨(.slice a158 n159 c160), f152, (.nilIface), [], rfl, (FrS.step wf (FrS.step wf (FrS.step wf (FrS.step wf (((FrS.refl (W := []) wf).extR e15).extR e24) e40 Inn.nil) e55 Inn.nil) e77 Inn.nil) e154 Inn.nil), m155, Ev.nil, (i156.fresh (ntr (ntr (ntr (ntr e15.next e24.next) e40.next) e55.next) e77.next)), Inn.nil, Dj.nil_r⟩
 ·have r161 := ite_f h45 r36
  refine s_ql (.bool true) (x := aBin Try.prog .neq 31 (.tmp 11) (.const .nilIface) (.iface t46 x47) .nilIface) (by kernel_rfl) (aBin_nnil (by kernel_rfl)) ?_
  refine s_nil ?_
  refine k44 _ _ ?_
  refine w_cond true (by kernel_rfl) rfl (fun _ => ?_) (fun h => by cases h)
  refine w_seqk fun K162 k162 => ?_
  refine w_reg (by kernel_rfl) ?_
  refine s_qk (.iface t46 x47) (by kernel_rfl) ?_
  refine s_qk (.slice none 0 0) (by kernel_rfl) ?_
  refine s_qk (.iface t46 x47) (by kernel_rfl) ?_
  refine s_nil ?_
  refine k162 _ _ ?_
  refine w_ret (th_ret ?_)
  refine b_ret (fn := Try.f23) (vs := [.slice none 0 0, .iface t46 x47]) (aRes_tmp (by kernel_rfl) (aRes_tmp (by kernel_rfl) (rfl))) ?_
  obtain rfl := Option.some.inj r161
  exact ⟨(.slice none 0 0), [], (.iface t46 x47), f38, rfl, (FrS.step wf (((FrS.refl (W := []) wf).extR e15).extR e24) e40 Inn.nil), (Ow.nil (by decide)), m41, Inn.nil, (i42.fresh (ntr e15.next e24.next)), Dj.nil_l⟩

theorem c_walk_Shortest {H : AH} {hd_First : Value} {fp_First : Fp} {hd_To : Value} {fp_To : Fp} {hd_Weight : Value} {fp_Weight : Fp} {hd_list : Value} {fp_list : Fp} {First : List (Int)} {To : List (Int)} {Weight : List (Int)} {list : List (Int)} {r : Bool × Er}
  (wf : WF H) (h_First : Sq (encI .i64) 1 H hd_First First fp_First) (h_To : Sq (encI .i64) 1 H hd_To To fp_To) (h_Weight : Sq (encI .i64) 1 H hd_Weight Weight fp_Weight) (h_list : Sq (encI .i64) 1 H hd_list list fp_list) (hr : z_walk_Shortest First To Weight list = some r) :
  ACalls Try.prog 37 #[.agg #[hd_First, hd_To, hd_Weight], hd_list] H fun v H' => ∃ (v3 : Value) (f4 : Fp), v = .tuple #[.bool r.1, v3] ∧ FrS [] H H' ∧ Ev 82 123 H' v3 r.2 f4 ∧ Inn [] H f4 := by
 refine acalls_of_body mixed Try.func37 rfl (Nat.le_of_ble_eq_true rfl) ?_
 unfold z_walk_Shortest at hr
 refine w_seqk fun K6 k6 => ?_
 refine w_reg (by kernel_rfl) ?_
 refine s_rwl wf [hd_First, hd_To, hd_Weight] (one_cons (h_First.one1) (one_cons (h_To.one1) (one_cons (h_Weight.one1) (one_nil)))) (by kernel_rfl) fun b7 H8 e9 hb10 r11 => ?_
 refine s_qk (.bool false) (by kernel_rfl) ?_
 refine s_qk (.nilIface) (by kernel_rfl) ?_
 refine s_nil ?_
 refine k6 _ _ ?_
 refine w_seqk fun K13 k13 => ?_
 refine w_reg (by kernel_rfl) ?_
 refine s_ql (.agg #[hd_First, hd_To, hd_Weight]) (x := aLoad Try.prog 34 (.pointer (some ⟨b7, 0, none⟩)) H8) (by kernel_rfl) (r11.ld (by kernel_rfl)) ?_
 refine s_qk (hd_list) (by kernel_rfl) ?_
 have u14 := (h_First.ext e9)
 have u15 := (h_To.ext e9)
 have u16 := (h_Weight.ext e9)
 have u17 := (h_list.ext e9)
 obtain ⟨y18, hy19, r20⟩ := bind_some hr
 refine s_ck 13 #[.agg #[hd_First, hd_To, hd_Weight], hd_list] (by kernel_rfl) (c_walk_Length e9.wf u14 u15 u16 u17 hy19) ?_
 rintro _ H23 ⟨v21, f22, rfl, e24, m25, i26⟩
 refine s_qk (.tuple #[.int .u64 y18.1, v21]) (by kernel_rfl) ?_
 refine s_qk (.int .u64 y18.1) (by kernel_rfl) ?_
 refine s_qk (v21) (by kernel_rfl) ?_
 refine s_qk (.int .u64 y18.1) (by kernel_rfl) ?_
 refine s_qk (v21) (by kernel_rfl) ?_
 refine s_nil ?_
 refine k13 _ _ ?_
 refine w_seqk fun K28 k28 => ?_
 refine w_seqk fun K29 k29 => ?_
 refine w_reg (by kernel_rfl) ?_
 refine s_qk (v21) (by kernel_rfl) ?_
 rcases (m25).cases with ⟨h30, rfl⟩ | ⟨h30, t31, x32, rfl⟩
 ·have r33 := ite_t h30 r20
  refine s_qk (.bool false) (by kernel_rfl) ?_
  refine s_nil ?_
  refine k29 _ _ ?_
  refine w_cond false (by kernel_rfl) rfl (fun h => by cases h) (fun _ => ?_)
  refine w_skip ?_
  refine k28 _ _ ?_
  refine w_seqk fun K34 k34 => ?_
  refine w_draw [0, 1, 2, 3, 4, 5, 6, 7, 8, 9] (by kernel_rfl) ?_
  have u35 := (r11.frS e24 Dj.nil_l)
  refine d_ql (.agg #[hd_First, hd_To, hd_Weight]) (x := aLoad Try.prog 34 (.pointer (some ⟨b7, 0, none⟩)) H23) (by kernel_rfl) (u35.ld (by kernel_rfl)) ?_
  refine d_qk (hd_list) (by kernel_rfl) ?_
  obtain ⟨g36, r37⟩ := G_some r33
  have u38 := (u17.fr e24 Dj.nil_l)
  refine d_ql (elp hd_list 1 (0 : Int).toNat 0) (x := aIndexAddr Try.prog 22 hd_list (.int .i64 0)) (by kernel_rfl) (u38.idxb (by kernel_rfl) (by decide) g36) ?_
  refine d_ql (.int .i64 (gt list 0)) (x := aLoad Try.prog 3 (elp hd_list 1 (0 : Int).toNat 0) H23) (by kernel_rfl) (u38.ld (by decide) g36 (by kernel_rfl)) ?_
  have u39 := (u14.fr e24 Dj.nil_l)
  have u40 := (u15.fr e24 Dj.nil_l)
  have u41 := (u16.fr e24 Dj.nil_l)
  obtain ⟨y42, hy43, r44⟩ := bind_some r37
  refine d_ck 23 #[.agg #[hd_First, hd_To, hd_Weight], .int .i64 (gt list 0)] (by kernel_rfl) (c_search_From e24.wf u39 u40 u41 hy43) ?_
  rintro _ H49 ⟨s45, f46, v47, f48, rfl, e50, m51, m52, i53, i54, d55⟩
  obtain ⟨a58, n59, c60, rfl⟩ := m51.form
  refine ⟨st_nil, ?_⟩
  refine d_qk (.tuple #[.slice a58 n59 c60, v47]) (by kernel_rfl) ?_
  refine d_qk (.slice a58 n59 c60) (by kernel_rfl) ?_
  refine d_qk (v47) (by kernel_rfl) ?_
  refine d_qk (.slice a58 n59 c60) (by kernel_rfl) ?_
  refine d_qk (v47) (by kernel_rfl) ?_
  refine d_nil ?_
  refine k34 _ _ ?_
  refine w_seqk fun K61 k61 => ?_
  refine w_seqk fun K62 k62 => ?_
  refine w_reg (by kernel_rfl) ?_
  refine s_qk (v47) (by kernel_rfl) ?_
  rcases (m52).cases with ⟨h63, rfl⟩ | ⟨h63, t64, x65, rfl⟩
  ·have r66 := ite_t h63 r44
   refine s_qk (.bool false) (by kernel_rfl) ?_
   refine s_nil ?_
   refine k62 _ _ ?_
   refine w_cond false (by kernel_rfl) rfl (fun h => by cases h) (fun _ => ?_)
   refine w_skip ?_
   refine k61 _ _ ?_
   refine w_seqk fun K67 k67 => ?_
   refine w_reg (by kernel_rfl) ?_
   refine s_qk (.slice a58 n59 c60) (by kernel_rfl) ?_
   refine s_qk (hd_list) (by kernel_rfl) ?_
   refine s_qk (hd_list) (by kernel_rfl) ?_
   have u68 := (u38.fr e50 Dj.nil_l)
   refine s_ql (.int .i64 (list.length : Int)) (x := aLen Try.prog 22 hd_list H49) (by kernel_rfl) (u68.lenb (by kernel_rfl)) ?_
   obtain ⟨g69, r70⟩ := G_some r66
   refine s_w (((list.length : Int) - 1)) (k := .i64) (x := ((list.length : Int) - 1)) (by kernel_rfl) (wrap64 g69) ?_
   obtain ⟨g71, r72⟩ := G_some r70
   refine s_ql (elp hd_list 1 ((list.length : Int) - 1).toNat 0) (x := aIndexAddr Try.prog 22 hd_list (.int .i64 ((list.length : Int) - 1))) (by kernel_rfl) (u68.idxb (by kernel_rfl) g71.1 g71.2) ?_
   refine s_ql (.int .i64 (gt list ((list.length : Int) - 1))) (x := aLoad Try.prog 3 (elp hd_list 1 ((list.length : Int) - 1).toNat 0) H49) (by kernel_rfl) (u68.ld g71.1 g71.2 (by kernel_rfl)) ?_
   obtain ⟨g73, r74⟩ := G_some r72
   refine s_ql (elp (.slice a58 n59 c60) 1 (gt list ((list.length : Int) - 1)).toNat 0) (x := aIndexAddr Try.prog 45 (.slice a58 n59 c60) (.int .i64 (gt list ((list.length : Int) - 1)))) (by kernel_rfl) (m51.sq.idxb (by kernel_rfl) g73.1 g73.2) ?_
   refine s_ql (.int .u64 (gt y42.1 (gt list ((list.length : Int) - 1)))) (x := aLoad Try.prog 29 (elp (.slice a58 n59 c60) 1 (gt list ((list.length : Int) - 1)).toNat 0) H49) (by kernel_rfl) (m51.sq.ld g73.1 g73.2 (by kernel_rfl)) ?_
   refine s_qk (.int .u64 y18.1) (by kernel_rfl) ?_
   refine s_qk (.bool (decide ((gt y42.1 (gt list ((list.length : Int) - 1))) = y18.1))) (by kernel_rfl) ?_
   refine s_qk (.bool (decide ((gt y42.1 (gt list ((list.length : Int) - 1))) = y18.1))) (by kernel_rfl) ?_
   refine s_qk (.nilIface) (by kernel_rfl) ?_
   refine s_nil ?_
   refine k67 _ _ ?_
   refine w_ret ?_
   refine b_ret (fn := Try.f37) (vs := [.bool (decide ((gt y42.1 (gt list ((list.length : Int) - 1))) = y18.1)), .nilIface]) (aRes_tmp (by kernel_rfl) (aRes_tmp (by kernel_rfl) (rfl))) ?_
   obtain rfl := Option.some.inj r74
   exact ⟨(.nilIface), [], rfl, (FrS.step wf (FrS.step wf ((FrS.refl (W := []) wf).extR e9) e24 Inn.nil) e50 Inn.nil), Ev.nil, Inn.nil⟩
  ·have r75 := ite_f h63 r44
   refine s_ql (.bool true) (x := aBin Try.prog .neq 31 (.tmp 26) (.const .nilIface) (.iface t64 x65) .nilIface) (by kernel_rfl) (aBin_nnil (by kernel_rfl)) ?_
   refine s_nil ?_
   refine k62 _ _ ?_
   refine w_cond true (by kernel_rfl) rfl (fun _ => ?_) (fun h => by cases h)
   refine w_seqk fun K76 k76 => ?_
   refine w_reg (by kernel_rfl) ?_
   refine s_qk (.iface t64 x65) (by kernel_rfl) ?_
   refine s_qk (.bool false) (by kernel_rfl) ?_
   refine s_qk (.iface t64 x65) (by kernel_rfl) ?_
   refine s_nil ?_
   refine k76 _ _ ?_
   refine w_ret (th_ret ?_)
   refine b_ret (fn := Try.f37) (vs := [.bool false, .iface t64 x65]) (aRes_tmp (by kernel_rfl) (aRes_tmp (by kernel_rfl) (rfl))) ?_
   obtain rfl := Option.some.inj r75
   exact ⟨(.iface t64 x65), f48, rfl, (FrS.step wf (FrS.step wf ((FrS.refl (W := []) wf).extR e9) e24 Inn.nil) e50 Inn.nil), m52, (i54.fresh (ntr e9.next e24.next))⟩
 ·have r77 := ite_f h30 r20
  refine s_ql (.bool true) (x := aBin Try.prog .neq 31 (.tmp 15) (.const .nilIface) (.iface t31 x32) .nilIface) (by kernel_rfl) (aBin_nnil (by kernel_rfl)) ?_
  refine s_nil ?_
  refine k29 _ _ ?_
  refine w_cond true (by kernel_rfl) rfl (fun _ => ?_) (fun h => by cases h)
  refine w_seqk fun K78 k78 => ?_
  refine w_reg (by kernel_rfl) ?_
  refine s_qk (.iface t31 x32) (by kernel_rfl) ?_
  refine s_qk (.bool false) (by kernel_rfl) ?_
  refine s_qk (.iface t31 x32) (by kernel_rfl) ?_
  refine s_nil ?_
  refine k78 _ _ ?_
  refine w_ret (th_ret ?_)
  refine b_ret (fn := Try.f37) (vs := [.bool false, .iface t31 x32]) (aRes_tmp (by kernel_rfl) (aRes_tmp (by kernel_rfl) (rfl))) ?_
  obtain rfl := Option.some.inj r77
  exact ⟨(.iface t31 x32), f22, rfl, (FrS.step wf ((FrS.refl (W := []) wf).extR e9) e24 Inn.nil), m25, (i26.fresh e9.next)⟩

theorem c_viaductref02_SameInts {H : AH} {hd_a : Value} {fp_a : Fp} {hd_b : Value} {fp_b : Fp} {a : List (Int)} {b : List (Int)} {r : Bool}
  (wf : WF H) (h_a : Sq (encI .i64) 1 H hd_a a fp_a) (h_b : Sq (encI .i64) 1 H hd_b b fp_b) (hr : z_viaductref02_SameInts a b = some r) :
  ACalls Try.prog 12 #[hd_a, hd_b] H fun v H' => v = .bool r ∧ H = H' := by
 refine acalls_of_body mixed Try.func12 rfl (Nat.le_of_ble_eq_true rfl) ?_
 unfold z_viaductref02_SameInts at hr
 refine w_seqk fun K1 k1 => ?_
 refine w_reg (by kernel_rfl) ?_
 refine s_qk (.bool false) (by kernel_rfl) ?_
 refine s_nil ?_
 refine k1 _ _ ?_
 refine w_seqk fun K2 k2 => ?_
 refine w_seqk fun K3 k3 => ?_
 refine w_reg (by kernel_rfl) ?_
 refine s_qk (hd_a) (by kernel_rfl) ?_
 refine s_ql (.int .i64 (a.length : Int)) (x := aLen Try.prog 22 hd_a H) (by kernel_rfl) (h_a.lenb (by kernel_rfl)) ?_
 refine s_qk (hd_b) (by kernel_rfl) ?_
 refine s_ql (.int .i64 (b.length : Int)) (x := aLen Try.prog 22 hd_b H) (by kernel_rfl) (h_b.lenb (by kernel_rfl)) ?_
 refine s_qk (.bool (!decide ((a.length : Int) = (b.length : Int)))) (by kernel_rfl) ?_
 refine s_nil ?_
 refine k3 _ _ ?_
 refine w_condn ((a.length : Int) = (b.length : Int)) (by kernel_rfl) rfl (fun h4 => ?_) (fun h4 => ?_)
 ·have r5 := ite_f h4 hr
  refine w_seqk fun K6 k6 => ?_
  refine w_reg (by kernel_rfl) ?_
  refine s_qk (.bool false) (by kernel_rfl) ?_
  refine s_nil ?_
  refine k6 _ _ ?_
  refine w_ret (th_ret ?_)
  refine b_ret (fn := Try.f12) (vs := [.bool false]) (aRes_tmp (by kernel_rfl) (rfl)) ?_
  obtain rfl := Option.some.inj r5
  exact ⟨rfl, rfl⟩
 ·have r7 := ite_t h4 hr
  refine w_skip ?_
  refine k2 _ _ ?_
  refine w_seqk fun K8 k8 => ?_
  refine w_seqk fun K9 k9 => ?_
  refine w_reg (by kernel_rfl) ?_
  refine s_qk (hd_a) (by kernel_rfl) ?_
  refine s_ql (.int .i64 (a.length : Int)) (x := aLen Try.prog 22 hd_a H) (by kernel_rfl) (h_a.lenb (by kernel_rfl)) ?_
  refine s_qk (.int .i64 0) (by kernel_rfl) ?_
  refine s_nil ?_
  refine k9 _ _ ?_
  obtain ⟨z13, hx11, r12⟩ := bind_some r7
  refine w_mid (fun α H14 => ∃ o10, z13 = Sum.inr o10 ∧ Has α [] ∧ H = H14) (fun K16 k16 => ?_) (fun α H14 hM => ?_)
  ·refine w_block ?_
   obtain ⟨n18, hn19⟩ := loopO_iff.1 hx11
   refine w_loopn (fun n α H20 => ∃ (i0 : Int), iterO (fun zz_ => z_viaductref02_SameInts_l0 a b zz_) n i0 = some z13 ∧ Has α [(0, hd_a), (1, hd_b), (12, .int .i64 (a.length : Int)), (13, .int .i64 i0)] ∧ H = H20) n18 ⟨0, hn19, ⟨by kernel_rfl, by kernel_rfl, by kernel_rfl, by kernel_rfl, trivial⟩, rfl⟩ ?_
   rintro n18 α H20 ⟨i0, hi23, hh22, rfl⟩ K28 k28
   obtain ⟨n24, z25, rfl, hz26, hn27⟩ := iter_succ hi23
   obtain ⟨β, rfl⟩ := has_ex hh22
   clear hh22
   replace hz26 : z_viaductref02_SameInts_l0 a b i0 = some z25 := hz26
   unfold z_viaductref02_SameInts_l0 at hz26
   refine w_seqk fun K29 k29 => ?_
   refine w_reg (by kernel_rfl) ?_
   refine s_qk (.bool (decide (i0 < (a.length : Int)))) (by kernel_rfl) ?_
   refine s_nil ?_
   refine k29 _ _ ?_
   refine w_seqk fun K30 k30 => ?_
   refine w_condp (i0 < (a.length : Int)) (by kernel_rfl) rfl (fun h31 => ?_) (fun h31 => ?_)
   ·have r32 := ite_t h31 hz26
    refine w_skip ?_
    refine k30 _ _ ?_
    refine w_seqk fun K33 k33 => ?_
    refine w_block ?_
    refine w_seqk fun K34 k34 => ?_
    refine w_reg (by kernel_rfl) ?_
    refine s_qk (.int .i64 i0) (by kernel_rfl) ?_
    refine s_qk (.int .i64 i0) (by kernel_rfl) ?_
    refine s_nil ?_
    refine k34 _ _ ?_
    refine w_seqk fun K35 k35 => ?_
    refine w_draw [0, 1, 2, 3, 4, 5, 6, 7, 8] (by kernel_rfl) ?_
    refine d_qk (hd_a) (by kernel_rfl) ?_
    refine d_qk (.int .i64 i0) (by kernel_rfl) ?_
    obtain ⟨g36, r37⟩ := G_some r32
    refine d_ql (elp hd_a 1 i0.toNat 0) (x := aIndexAddr Try.prog 22 hd_a (.int .i64 i0)) (by kernel_rfl) (h_a.idxb (by kernel_rfl) g36 h31) ?_
    refine d_ql (.int .i64 (gt a i0)) (x := aLoad Try.prog 3 (elp hd_a 1 i0.toNat 0) H) (by kernel_rfl) (h_a.ld g36 h31 (by kernel_rfl)) ?_
    refine d_qk (hd_b) (by kernel_rfl) ?_
    refine d_qk (.int .i64 i0) (by kernel_rfl) ?_
    obtain ⟨g38, r39⟩ := G_some r37
    refine d_ql (elp hd_b 1 i0.toNat 0) (x := aIndexAddr Try.prog 22 hd_b (.int .i64 i0)) (by kernel_rfl) (h_b.idxb (by kernel_rfl) g36 g38) ?_
    refine d_ql (.int .i64 (gt b i0)) (x := aLoad Try.prog 3 (elp hd_b 1 i0.toNat 0) H) (by kernel_rfl) (h_b.ld g36 g38 (by kernel_rfl)) ?_
    refine d_qk (.bool (!decide ((gt a i0) = (gt b i0)))) (by kernel_rfl) ?_
    refine d_nil ?_
    refine k35 _ _ ?_
    refine w_condn ((gt a i0) = (gt b i0)) (by kernel_rfl) rfl (fun h40 => ?_) (fun h40 => ?_)
    ·have r41 := ite_f h40 r39
     refine w_seqk fun K42 k42 => ?_
     refine w_reg (by kernel_rfl) ?_
     refine s_qk (.bool false) (by kernel_rfl) ?_
     refine s_nil ?_
     refine k42 _ _ ?_
     refine w_ret (bl_ret (th_ret (th_ret (bl_ret (th_ret (th_ret ?_))))))
     obtain ⟨v43, hv44, hz45⟩ := map_some r41
     subst hz45
     obtain rfl := it_inr hn27
     have hq46 := elim_inl r12
     rw [hq46] at hv44
     refine b_ret (fn := Try.f12) (vs := [.bool false]) (aRes_tmp (by kernel_rfl) (rfl)) ?_
     obtain rfl := Option.some.inj hv44
     exact ⟨rfl, rfl⟩
    ·have r47 := ite_t h40 r39
     refine w_skip ?_
     refine k33 _ _ ?_
     refine w_reg (by kernel_rfl) ?_
     obtain ⟨g48, r49⟩ := G_some r47
     refine s_w ((i0 + 1)) (k := .i64) (x := (i0 + 1)) (by kernel_rfl) (wrap64 (by have := g48; omega)) ?_
     refine s_qk (.int .i64 (i0 + 1)) (by kernel_rfl) ?_
     refine s_nil ?_
     obtain rfl := Option.some.inj r49
     exact k28 n24 _ _ (Nat.lt_succ_self _) ⟨(i0 + 1), hn27, ⟨by kernel_rfl, by kernel_rfl, by kernel_rfl, by kernel_rfl, trivial⟩, rfl⟩
   ·have r50 := ite_f h31 hz26
    refine w_exit (th_exit (th_exit (bl_eq ?_)))
    obtain rfl := Option.some.inj r50
    obtain rfl := it_inr hn27
    exact k16 _ _ ⟨_, rfl, trivial, rfl⟩
  ·obtain ⟨o10, rfl, hh17, rfl⟩ := hM
   have r51 := elim_inr r12
   obtain ⟨β, rfl⟩ := has_ex hh17
   clear hh17
   refine k8 _ _ ?_
   refine w_seqk fun K52 k52 => ?_
   refine w_reg (by kernel_rfl) ?_
   refine s_qk (.bool true) (by kernel_rfl) ?_
   refine s_nil ?_
   refine k52 _ _ ?_
   refine w_ret ?_
   refine b_ret (fn := Try.f12) (vs := [.bool true]) (aRes_tmp (by kernel_rfl) (rfl)) ?_
   obtain rfl := Option.some.inj r51
   exact ⟨rfl, rfl⟩

theorem c_viaductlaw09_WalkJoins {H : AH} {hd_Arcs : Value} {fp_Arcs : Fp} {hd_l : Value} {fp_l : Fp} {N_ : Int} {Arcs : List (Int × Int × Int)} {l : List (Int)} {k : Int} {r : Bool}
  (wf : WF H) (h_Arcs : Sq enc_i64_i64_i64 3 H hd_Arcs Arcs fp_Arcs) (h_l : Sq (encI .i64) 1 H hd_l l fp_l) (hr : z_viaductlaw09_WalkJoins N_ Arcs l k = some r) :
  ACalls Try.prog 7 #[.agg #[.int .i64 N_, hd_Arcs], hd_l, .int .i64 k] H fun v H' => v = .bool r ∧ FrS [] H H' := by
 refine acalls_of_body mixed Try.func7 rfl (Nat.le_of_ble_eq_true rfl) ?_
 unfold z_viaductlaw09_WalkJoins at hr
 refine w_seqk fun K1 k1 => ?_
 refine w_reg (by kernel_rfl) ?_
 refine s_rwl wf [.int .i64 N_, hd_Arcs] (one_cons (rfl) (one_cons (h_Arcs.one1) (one_nil))) (by kernel_rfl) fun b2 H3 e4 hb5 r6 => ?_
 refine s_qk (.bool false) (by kernel_rfl) ?_
 refine s_nil ?_
 refine k1 _ _ ?_
 refine w_seqk fun K8 k8 => ?_
 refine w_seqk fun K9 k9 => ?_
 refine w_reg (by kernel_rfl) ?_
 refine s_ck 8 #[] (by kernel_rfl) c_viaductlaw09_awake ?_
 rintro _ _ ⟨rfl, rfl⟩
 refine s_qk (.bool false) (by kernel_rfl) ?_
 refine s_nil ?_
 refine k9 _ _ ?_
 refine w_cond false (by kernel_rfl) rfl (fun h => by cases h) (fun _ => ?_)
 refine w_skip ?_
 refine k8 _ _ ?_
 refine w_seqk fun K10 k10 => ?_
 refine w_seqk fun K11 k11 => ?_
 obtain ⟨o12, hx13, r14⟩ := bind_some hr
 refine w_mid (fun α H15 => Has α [(1, hd_l), (2, .int .i64 k), (3, .pointer (some ⟨b2, 0, none⟩)), (44, .bool o12)] ∧ FrS [] H3 H15) (fun K17 k17 => ?_) (fun α H15 hM => ?_)
 ·refine w_reg (by kernel_rfl) ?_
  refine s_ql (.agg #[.int .i64 N_, hd_Arcs]) (x := aLoad Try.prog 68 (.pointer (some ⟨b2, 0, none⟩)) H3) (by kernel_rfl) (r6.ld (by kernel_rfl)) ?_
  have u19 := (h_Arcs.ext e4)
  obtain ⟨y20, hy21, r22⟩ := bind_some hx13
  refine s_ck 34 #[.agg #[.int .i64 N_, hd_Arcs], .int .i64 25] (by kernel_rfl) (c_viaductref04_Few e4.wf u19 hy21) ?_
  rintro _ H23 ⟨rfl, e24⟩
  by_cases h25 : y20 = true
  ·have r26 := ite_t h25 r22
   rw [h25]
   refine s_qk (.bool false) (by kernel_rfl) ?_
   refine s_qk (.bool false) (by kernel_rfl) ?_
   refine s_qk (hd_l) (by kernel_rfl) ?_
   have u28 := ((h_l.ext e4).fr e24 Dj.nil_l)
   refine s_ql (.int .i64 (l.length : Int)) (x := aLen Try.prog 22 hd_l H23) (by kernel_rfl) (u28.lenb (by kernel_rfl)) ?_
   refine s_b ((l.length : Int) > 200) (by kernel_rfl) (fun h29 => ?_) (fun h29 => ?_)
   ·have r30 := ite_t h29 r26
    refine s_qk (.bool true) (by kernel_rfl) ?_
    refine s_qk (.bool true) (by kernel_rfl) ?_
    refine s_no (by kernel_rfl) ?_
    refine s_no (by kernel_rfl) ?_
    refine s_qk (.bool true) (by kernel_rfl) ?_
    refine s_qk (.bool true) (by kernel_rfl) ?_
    refine s_no (by kernel_rfl) ?_
    refine s_no (by kernel_rfl) ?_
    refine s_no (by kernel_rfl) ?_
    refine s_no (by kernel_rfl) ?_
    refine s_qk (.bool true) (by kernel_rfl) ?_
    refine s_nil ?_
    obtain rfl := Option.some.inj r30
    exact k17 _ _ ⟨⟨by kernel_rfl, by kernel_rfl, by kernel_rfl, by kernel_rfl, trivial⟩, (FrS.step e4.wf (FrS.refl (W := []) e4.wf) e24 Inn.nil)⟩
   ·have r31 := ite_f h29 r26
    refine s_qk (.bool false) (by kernel_rfl) ?_
    refine s_qk (.bool false) (by kernel_rfl) ?_
    refine s_qk (.int .i64 k) (by kernel_rfl) ?_
    refine s_b (k < 0) (by kernel_rfl) (fun h32 => ?_) (fun h32 => ?_)
    ·have r33 := ite_t h32 r31
     refine s_qk (.bool true) (by kernel_rfl) ?_
     refine s_qk (.bool true) (by kernel_rfl) ?_
     refine s_no (by kernel_rfl) ?_
     refine s_no (by kernel_rfl) ?_
     refine s_no (by kernel_rfl) ?_
     refine s_no (by kernel_rfl) ?_
     refine s_qk (.bool true) (by kernel_rfl) ?_
     refine s_nil ?_
     obtain rfl := Option.some.inj r33
     exact k17 _ _ ⟨⟨by kernel_rfl, by kernel_rfl, by kernel_rfl, by kernel_rfl, trivial⟩, (FrS.step e4.wf (FrS.refl (W := []) e4.wf) e24 Inn.nil)⟩
    ·have r34 := ite_f h32 r31
     refine s_qk (.bool false) (by kernel_rfl) ?_
     refine s_qk (.bool false) (by kernel_rfl) ?_
     refine s_qk (.int .i64 k) (by kernel_rfl) ?_
     refine s_qk (hd_l) (by kernel_rfl) ?_
     refine s_ql (.int .i64 (l.length : Int)) (x := aLen Try.prog 22 hd_l H23) (by kernel_rfl) (u28.lenb (by kernel_rfl)) ?_
     refine s_qk (.bool (decide (k ≥ (l.length : Int)))) (by kernel_rfl) ?_
     refine s_qk (.bool (decide (k ≥ (l.length : Int)))) (by kernel_rfl) ?_
     refine s_nil ?_
     obtain rfl := Option.some.inj r34
     exact k17 _ _ ⟨⟨by kernel_rfl, by kernel_rfl, by kernel_rfl, by kernel_rfl, trivial⟩, (FrS.step e4.wf (FrS.refl (W := []) e4.wf) e24 Inn.nil)⟩
  ·have r35 := ite_f h25 r22
   rw [nb h25]
   refine s_qk (.bool true) (by kernel_rfl) ?_
   refine s_qk (.bool true) (by kernel_rfl) ?_
   refine s_no (by kernel_rfl) ?_
   refine s_no (by kernel_rfl) ?_
   refine s_no (by kernel_rfl) ?_
   refine s_qk (.bool true) (by kernel_rfl) ?_
   refine s_qk (.bool true) (by kernel_rfl) ?_
   refine s_no (by kernel_rfl) ?_
   refine s_no (by kernel_rfl) ?_
   refine s_qk (.bool true) (by kernel_rfl) ?_
   refine s_qk (.bool true) (by kernel_rfl) ?_
   refine s_no (by kernel_rfl) ?_
   refine s_no (by kernel_rfl) ?_
   refine s_no (by kernel_rfl) ?_
   refine s_no (by kernel_rfl) ?_
   refine s_qk (.bool true) (by kernel_rfl) ?_
   refine s_nil ?_
   obtain rfl := Option.some.inj r35
   exact k17 _ _ ⟨⟨by kernel_rfl, by kernel_rfl, by kernel_rfl, by kernel_rfl, trivial⟩, (FrS.step e4.wf (FrS.refl (W := []) e4.wf) e24 Inn.nil)⟩
 ·obtain ⟨hh18, e16⟩ := hM
  obtain ⟨β, rfl⟩ := has_ex hh18
  clear hh18
  refine k11 _ _ ?_
  refine w_cond (o12) (by kernel_rfl) rfl (fun h37 => ?_) (fun h37 => ?_)
  ·have r38 := ite_t h37 r14
   refine w_seqk fun K39 k39 => ?_
   refine w_reg (by kernel_rfl) ?_
   refine s_qk (.bool true) (by kernel_rfl) ?_
   refine s_nil ?_
   refine k39 _ _ ?_
   refine w_ret (th_ret ?_)
   refine b_ret (fn := Try.f7) (vs := [.bool true]) (aRes_tmp (by kernel_rfl) (rfl)) ?_
   obtain rfl := Option.some.inj r38
   exact ⟨rfl, (FrS.step wf ((FrS.refl (W := []) wf).extR e4) e16 Inn.nil)⟩
  ·have r40 := ite_bf h37 r14
   refine w_skip ?_
   refine k10 _ _ ?_
   refine w_seqk fun K41 k41 => ?_
   refine w_reg (by kernel_rfl) ?_
   have u42 := (r6.frS e16 Dj.nil_l)
   refine s_ql (.agg #[.int .i64 N_, hd_Arcs]) (x := aLoad Try.prog 68 (.pointer (some ⟨b2, 0, none⟩)) H15) (by kernel_rfl) (u42.ld (by kernel_rfl)) ?_
   have u43 := ((h_Arcs.ext e4).fr e16 Dj.nil_l)
   obtain ⟨y44, hy45, r46⟩ := bind_some r40
   refine s_ck 35 #[.agg #[.int .i64 N_, hd_Arcs]] (by kernel_rfl) (c_csr_Build e16.wf u43 hy45) ?_
   rintro _ H55 ⟨s47, f48, s49, f50, s51, f52, v53, f54, rfl, e56, m57, m58, m59, m60, i61, i62, i63, i64, d65, d66, d67, d68, d69, d70⟩
   obtain ⟨a75, n76, c77, rfl⟩ := m57.form
   obtain ⟨a78, n79, c80, rfl⟩ := m58.form
   obtain ⟨a81, n82, c83, rfl⟩ := m59.form
   refine s_qk (.tuple #[.agg #[.slice a75 n76 c77, .slice a78 n79 c80, .slice a81 n82 c83], v53]) (by kernel_rfl) ?_
   refine s_qk (.agg #[.slice a75 n76 c77, .slice a78 n79 c80, .slice a81 n82 c83]) (by kernel_rfl) ?_
   refine s_qk (v53) (by kernel_rfl) ?_
   refine s_rwk e56.wf [.slice none 0 0, .slice none 0 0, .slice none 0 0] (by kernel_rfl) fun b84 H85 e86 hb87 r88 => ?_
   have u94 := (m59.ext e86)
   have u95 := (m58.ext e86)
   have u96 := (m57.ext e86)
   obtain ⟨H90, q91, e92, r93⟩ := Row.store (P := Try.prog) (t := 34) (p := 0) e86.wf r88 (.agg #[.slice a75 n76 c77, .slice a78 n79 c80, .slice a81 n82 c83]) [.slice a75 n76 c77, .slice a78 n79 c80, .slice a81 n82 c83] (by kernel_rfl) (by kernel_rfl) (one_cons (u96.one1) (one_cons (u95.one1) (one_cons (u94.one1) (one_nil)))) (Nat.le_of_ble_eq_true (by kernel_rfl)) [.slice a75 n76 c77, .slice a78 n79 c80, .slice a81 n82 c83] (by kernel_rfl)
   refine s_ek (undef) (by kernel_rfl) (map_ok q91) ?_
   refine s_qk (v53) (by kernel_rfl) ?_
   refine s_nil ?_
   refine k41 _ _ ?_
   refine w_seqk fun K97 k97 => ?_
   refine w_reg (by kernel_rfl) ?_
   have u98 := (((u42.frS e56 Dj.nil_l).ext e86).frS e92 (hb87.djn (r6.ltF.le (ntr e16.next e56.next))))
   refine s_ql (.agg #[.int .i64 N_, hd_Arcs]) (x := aLoad Try.prog 68 (.pointer (some ⟨b2, 0, none⟩)) H90) (by kernel_rfl) (u98.ld (by kernel_rfl)) ?_
   have u99 := (((u43.fr e56 Dj.nil_l).ext e86).fr e92 (hb87.djn (h_Arcs.lt.le (ntr (ntr e4.next e16.next) e56.next))))
   obtain ⟨y100, hy101, r102⟩ := bind_some r46
   refine s_ck 36 #[.agg #[.int .i64 N_, hd_Arcs]] (by kernel_rfl) (c_csr_Back e92.wf u99 hy101) ?_
   rintro _ H111 ⟨s103, f104, s105, f106, s107, f108, v109, f110, rfl, e112, m113, m114, m115, m116, i117, i118, i119, i120, d121, d122, d123, d124, d125, d126⟩
   obtain ⟨a131, n132, c133, rfl⟩ := m113.form
   obtain ⟨a134, n135, c136, rfl⟩ := m114.form
   obtain ⟨a137, n138, c139, rfl⟩ := m115.form
   refine s_qk (.tuple #[.agg #[.slice a131 n132 c133, .slice a134 n135 c136, .slice a137 n138 c139], v109]) (by kernel_rfl) ?_
   refine s_qk (.agg #[.slice a131 n132 c133, .slice a134 n135 c136, .slice a137 n138 c139]) (by kernel_rfl) ?_
   refine s_qk (v109) (by kernel_rfl) ?_
   refine s_rwk e112.wf [.slice none 0 0, .slice none 0 0, .slice none 0 0] (by kernel_rfl) fun b140 H141 e142 hb143 r144 => ?_
   have u150 := (m115.ext e142)
   have u151 := (m114.ext e142)
   have u152 := (m113.ext e142)
   obtain ⟨H146, q147, e148, r149⟩ := Row.store (P := Try.prog) (t := 34) (p := 0) e142.wf r144 (.agg #[.slice a131 n132 c133, .slice a134 n135 c136, .slice a137 n138 c139]) [.slice a131 n132 c133, .slice a134 n135 c136, .slice a137 n138 c139] (by kernel_rfl) (by kernel_rfl) (one_cons (u152.one1) (one_cons (u151.one1) (one_cons (u150.one1) (one_nil)))) (Nat.le_of_ble_eq_true (by kernel_rfl)) [.slice a131 n132 c133, .slice a134 n135 c136, .slice a137 n138 c139] (by kernel_rfl)
   refine s_ek (undef) (by kernel_rfl) (map_ok q147) ?_
   refine s_qk (v109) (by kernel_rfl) ?_
   refine s_nil ?_
   refine k97 _ _ ?_
   refine w_seqk fun K153 k153 => ?_
   refine w_seqk fun K154 k154 => ?_
   obtain ⟨o155, hx156, r157⟩ := bind_some r102
   refine w_mid (fun α H158 => Has α [(1, hd_l), (2, .int .i64 k), (7, .pointer (some ⟨b84, 0, none⟩)), (9, .pointer (some ⟨b140, 0, none⟩)), (60, .bool o155)] ∧ H146 = H158) (fun K160 k160 => ?_) (fun α H158 hM => ?_)
   ·refine w_reg (by kernel_rfl) ?_
    refine s_qk (v53) (by kernel_rfl) ?_
    have u165 := (((((m60.ext e86).fr e92 (hb87.djn m60.lt)).fr e112 Dj.nil_l).ext e142).fr e148 (hb143.djn (m60.lt.le (ntr (ntr e86.next e92.next) e112.next))))
    rcases (u165).cases with ⟨h162, rfl⟩ | ⟨h162, t163, x164, rfl⟩
    ·have r166 := ite_t h162 hx156
     refine s_qk (.bool false) (by kernel_rfl) ?_
     refine s_qk (.bool false) (by kernel_rfl) ?_
     refine s_qk (v109) (by kernel_rfl) ?_
     have u170 := ((m116.ext e142).fr e148 (hb143.djn m116.lt))
     rcases (u170).cases with ⟨h167, rfl⟩ | ⟨h167, t168, x169, rfl⟩
     ·have r171 := ite_t h167 r166
      refine s_qk (.bool false) (by kernel_rfl) ?_
      refine s_qk (.bool false) (by kernel_rfl) ?_
      refine s_nil ?_
      obtain rfl := Option.some.inj r171
      exact k160 _ _ ⟨⟨by kernel_rfl, by kernel_rfl, by kernel_rfl, by kernel_rfl, by kernel_rfl, trivial⟩, rfl⟩
     ·have r172 := ite_f h167 r166
      refine s_ql (.bool true) (x := aBin Try.prog .neq 31 (.tmp 58) (.const .nilIface) (.iface t168 x169) .nilIface) (by kernel_rfl) (aBin_nnil (by kernel_rfl)) ?_
      refine s_qk (.bool true) (by kernel_rfl) ?_
      refine s_nil ?_
      obtain rfl := Option.some.inj r172
      exact k160 _ _ ⟨⟨by kernel_rfl, by kernel_rfl, by kernel_rfl, by kernel_rfl, by kernel_rfl, trivial⟩, rfl⟩
    ·have r173 := ite_f h162 hx156
     refine s_ql (.bool true) (x := aBin Try.prog .neq 31 (.tmp 55) (.const .nilIface) (.iface t163 x164) .nilIface) (by kernel_rfl) (aBin_nnil (by kernel_rfl)) ?_
     refine s_qk (.bool true) (by kernel_rfl) ?_
     refine s_no (by kernel_rfl) ?_
     refine s_no (by kernel_rfl) ?_
     refine s_qk (.bool true) (by kernel_rfl) ?_
     refine s_nil ?_
     obtain rfl := Option.some.inj r173
     exact k160 _ _ ⟨⟨by kernel_rfl, by kernel_rfl, by kernel_rfl, by kernel_rfl, by kernel_rfl, trivial⟩, rfl⟩
   ·obtain ⟨hh161, rfl⟩ := hM
    obtain ⟨β, rfl⟩ := has_ex hh161
    clear hh161
    refine k154 _ _ ?_
    refine w_cond (o155) (by kernel_rfl) rfl (fun h174 => ?_) (fun h174 => ?_)
    ·have r175 := ite_t h174 r157
     refine w_seqk fun K176 k176 => ?_
     refine w_reg (by kernel_rfl) ?_
     refine s_qk (.bool false) (by kernel_rfl) ?_
     refine s_nil ?_
     refine k176 _ _ ?_
     refine w_ret (th_ret ?_)
     refine b_ret (fn := Try.f7) (vs := [.bool false]) (aRes_tmp (by kernel_rfl) (rfl)) ?_
     obtain rfl := Option.some.inj r175
     exact ⟨rfl, (FrS.step wf ((FrS.step wf (FrS.step wf ((FrS.step wf (FrS.step wf ((FrS.refl (W := []) wf).extR e4) e16 Inn.nil) e56 Inn.nil).extR e86) e92 (hb87.fresh (ntr (ntr e4.next e16.next) e56.next))) e112 Inn.nil).extR e142) e148 (hb143.fresh (ntr (ntr (ntr (ntr (ntr e4.next e16.next) e56.next) e86.next) e92.next) e112.next)))⟩
    ·have r177 := ite_bf h174 r157
     refine w_skip ?_
     refine k153 _ _ ?_
     refine w_seqk fun K178 k178 => ?_
     refine w_draw [0, 1, 2, 3, 4, 5, 6, 7, 8] (by kernel_rfl) ?_
     have u179 := (((r93.frS e112 Dj.nil_l).ext e142).frS e148 (hb143.djn (r88.ltF.le (ntr e92.next e112.next))))
     refine d_fl (.agg #[.slice a75 n76 c77, .slice a78 n79 c80, .slice a81 n82 c83]) (x := aLoad Try.prog 34 (.pointer (some ⟨b84, 0, none⟩)) H146) (by kernel_rfl) (u179.ld (by kernel_rfl)) ?_
     refine d_qk (hd_l) (by kernel_rfl) ?_
     have u180 := ((((((((h_l.ext e4).fr e16 Dj.nil_l).fr e56 Dj.nil_l).ext e86).fr e92 (hb87.djn (h_l.lt.le (ntr (ntr e4.next e16.next) e56.next)))).fr e112 Dj.nil_l).ext e142).fr e148 (hb143.djn (h_l.lt.le (ntr (ntr (ntr (ntr (ntr e4.next e16.next) e56.next) e86.next) e92.next) e112.next))))
     obtain ⟨y181, hy182, r183⟩ := bind_some r177
     refine d_ck 11 #[hd_l] (by kernel_rfl) (c_viaductref02_TwinInts e148.wf u180 hy182) ?_
     rintro s184 H186 ⟨_, f185, rfl, e187, m188, i189⟩
     obtain ⟨a191, n192, c193, rfl⟩ := m188.form
     have u194 := (u179.frS e187 Dj.nil_l)
     refine ⟨st_ql (y := aLoad Try.prog 34 (.pointer (some ⟨b84, 0, none⟩)) H186) (by kernel_rfl) (u194.ld (by kernel_rfl)) (st_nil), ?_⟩
     have u195 := (((((u96.fr e92 (hb87.djn m57.lt)).fr e112 Dj.nil_l).ext e142).fr e148 (hb143.djn (m57.lt.le (ntr (ntr e86.next e92.next) e112.next)))).fr e187 Dj.nil_l)
     have u196 := (((((u95.fr e92 (hb87.djn m58.lt)).fr e112 Dj.nil_l).ext e142).fr e148 (hb143.djn (m58.lt.le (ntr (ntr e86.next e92.next) e112.next)))).fr e187 Dj.nil_l)
     have u197 := (((((u94.fr e92 (hb87.djn m59.lt)).fr e112 Dj.nil_l).ext e142).fr e148 (hb143.djn (m59.lt.le (ntr (ntr e86.next e92.next) e112.next)))).fr e187 Dj.nil_l)
     obtain ⟨y198, hy199, r200⟩ := bind_some r183
     refine d_ck 13 #[.agg #[.slice a75 n76 c77, .slice a78 n79 c80, .slice a81 n82 c83], .slice a191 n192 c193] (by kernel_rfl) (c_walk_Length e187.wf u195.sq u196.sq u197.sq m188.sq hy199) ?_
     rintro _ H203 ⟨v201, f202, rfl, e204, m205, i206⟩
     refine ⟨st_anc (by kernel_rfl) (st_nil), ?_⟩
     refine d_qk (.tuple #[.int .u64 y198.1, v201]) (by kernel_rfl) ?_
     refine d_qk (.int .u64 y198.1) (by kernel_rfl) ?_
     refine d_qk (v201) (by kernel_rfl) ?_
     refine d_qk (.int .u64 y198.1) (by kernel_rfl) ?_
     refine d_qk (v201) (by kernel_rfl) ?_
     refine d_nil ?_
     refine k178 _ _ ?_
     refine w_seqk fun K208 k208 => ?_
     refine w_seqk fun K209 k209 => ?_
     refine w_reg (by kernel_rfl) ?_
     refine s_qk (v201) (by kernel_rfl) ?_
     rcases (m205).cases with ⟨h210, rfl⟩ | ⟨h210, t211, x212, rfl⟩
     ·have r213 := ite_t h210 r200
      refine s_qk (.bool false) (by kernel_rfl) ?_
      refine s_nil ?_
      refine k209 _ _ ?_
      refine w_cond false (by kernel_rfl) rfl (fun h => by cases h) (fun _ => ?_)
      refine w_skip ?_
      refine k208 _ _ ?_
      refine w_seqk fun K214 k214 => ?_
      refine w_draw [0, 1, 2, 3, 5, 6, 7, 4, 8, 9, 10] (by kernel_rfl) ?_
      refine d_qk (hd_l) (by kernel_rfl) ?_
      refine d_qk (.int .i64 k) (by kernel_rfl) ?_
      obtain ⟨g215, r216⟩ := G_some r213
      refine d_w ((k + 1)) (k := .i64) (x := (k + 1)) (by kernel_rfl) (wrap64 g215) ?_
      obtain ⟨g217, r218⟩ := G_some r216
      have u222 := ((u180.fr e187 Dj.nil_l).fr e204 Dj.nil_l)
      obtain ⟨s219, q220, hs221⟩ := Sq.cut (P := Try.prog) u222 (t := 22) (by kernel_rfl) (lo := none) (hi := (some (.int .i64 (k + 1)))) (l := 0) (r := (k + 1).toNat) (rfl) (aBound_int _ (by have := g217; omega)) (by have := g217; omega) (by have := g217; omega)
      obtain ⟨a223, n224, c225, rfl⟩ := hs221.form
      refine d_ql (.slice a223 n224 c225) (by kernel_rfl) q220 ?_
      refine d_qk (hd_l) (by kernel_rfl) ?_
      refine d_qk (.int .i64 k) (by kernel_rfl) ?_
      obtain ⟨g227, r228⟩ := G_some r218
      obtain ⟨s229, q230, hs231⟩ := Sq.cut (P := Try.prog) u222 (t := 22) (by kernel_rfl) (lo := (some (.int .i64 k))) (hi := none) (l := k.toNat) (r := l.length) (aBound_int _ (by have := g227; omega)) (rfl) (by have := g227; omega) (by have := g227; omega)
      obtain ⟨a232, n233, c234, rfl⟩ := hs231.form
      have sa236 : SlAt Try.prog 22 hd_l (some (.int .i64 k)) none H203 (.slice a232 n233 c234) fp_l := ⟨q230, u222.tok⟩
      refine d_fl (.slice a232 n233 c234) (x := aSlice Try.prog 22 hd_l (some (.int .i64 k)) none none H203) (by kernel_rfl) (sa236.eq) ?_
      obtain ⟨y238, hy239, r240⟩ := bind_some r228
      refine d_ck 11 #[.slice a223 n224 c225] (by kernel_rfl) (c_viaductref02_TwinInts e204.wf hs221 hy239) ?_
      rintro s241 H243 ⟨_, f242, rfl, e244, m245, i246⟩
      obtain ⟨a248, n249, c250, rfl⟩ := m245.form
      have u251 := (sa236.fr e244 Dj.nil_l)
      refine ⟨st_ql (y := aSlice Try.prog 22 hd_l (some (.int .i64 k)) none none H243) (by kernel_rfl) (u251.eq) (st_nil), ?_⟩
      have u252 := (hs231.fr e244 Dj.nil_l)
      obtain ⟨y253, hy254, r255⟩ := bind_some r240
      refine d_ck 11 #[.slice a232 n233 c234] (by kernel_rfl) (c_viaductref02_TwinInts e244.wf u252 hy254) ?_
      rintro s256 H258 ⟨_, f257, rfl, e259, m260, i261⟩
      obtain ⟨a263, n264, c265, rfl⟩ := m260.form
      refine ⟨st_anc (by kernel_rfl) (st_nil), ?_⟩
      refine d_qk (.slice a248 n249 c250) (by kernel_rfl) ?_
      refine d_qk (.slice a263 n264 c265) (by kernel_rfl) ?_
      refine d_nil ?_
      refine k214 _ _ ?_
      refine w_seqk fun K266 k266 => ?_
      refine w_reg (by kernel_rfl) ?_
      have u267 := (((u194.frS e204 Dj.nil_l).frS e244 Dj.nil_l).frS e259 Dj.nil_l)
      refine s_ql (.agg #[.slice a75 n76 c77, .slice a78 n79 c80, .slice a81 n82 c83]) (x := aLoad Try.prog 34 (.pointer (some ⟨b84, 0, none⟩)) H258) (by kernel_rfl) (u267.ld (by kernel_rfl)) ?_
      refine s_qk (.slice a248 n249 c250) (by kernel_rfl) ?_
      have u268 := (((u195.fr e204 Dj.nil_l).fr e244 Dj.nil_l).fr e259 Dj.nil_l)
      have u269 := (((u196.fr e204 Dj.nil_l).fr e244 Dj.nil_l).fr e259 Dj.nil_l)
      have u270 := (((u197.fr e204 Dj.nil_l).fr e244 Dj.nil_l).fr e259 Dj.nil_l)
      have u271 := (m245.fr e259 Dj.nil_l)
      obtain ⟨y272, hy273, r274⟩ := bind_some r255
      refine s_ck 13 #[.agg #[.slice a75 n76 c77, .slice a78 n79 c80, .slice a81 n82 c83], .slice a248 n249 c250] (by kernel_rfl) (c_walk_Length e259.wf u268.sq u269.sq u270.sq u271.sq hy273) ?_
      rintro _ H277 ⟨v275, f276, rfl, e278, m279, i280⟩
      refine s_qk (.tuple #[.int .u64 y272.1, v275]) (by kernel_rfl) ?_
      refine s_qk (.int .u64 y272.1) (by kernel_rfl) ?_
      refine s_qk (v275) (by kernel_rfl) ?_
      refine s_qk (.int .u64 y272.1) (by kernel_rfl) ?_
      refine s_qk (v275) (by kernel_rfl) ?_
      refine s_nil ?_
      refine k266 _ _ ?_
      refine w_seqk fun K282 k282 => ?_
      refine w_reg (by kernel_rfl) ?_
      have u283 := (u267.frS e278 Dj.nil_l)
      refine s_ql (.agg #[.slice a75 n76 c77, .slice a78 n79 c80, .slice a81 n82 c83]) (x := aLoad Try.prog 34 (.pointer (some ⟨b84, 0, none⟩)) H277) (by kernel_rfl) (u283.ld (by kernel_rfl)) ?_
      refine s_qk (.slice a263 n264 c265) (by kernel_rfl) ?_
      have u284 := (u268.fr e278 Dj.nil_l)
      have u285 := (u269.fr e278 Dj.nil_l)
      have u286 := (u270.fr e278 Dj.nil_l)
      have u287 := (m260.fr e278 Dj.nil_l)
      obtain ⟨y288, hy289, r290⟩ := bind_some r274
      refine s_ck 13 #[.agg #[.slice a75 n76 c77, .slice a78 n79 c80, .slice a81 n82 c83], .slice a263 n264 c265] (by kernel_rfl) (c_walk_Length e278.wf u284.sq u285.sq u286.sq u287.sq hy289) ?_
      rintro _ H293 ⟨v291, f292, rfl, e294, m295, i296⟩
      refine s_qk (.tuple #[.int .u64 y288.1, v291]) (by kernel_rfl) ?_
      refine s_qk (.int .u64 y288.1) (by kernel_rfl) ?_
      refine s_qk (v291) (by kernel_rfl) ?_
      refine s_qk (.int .u64 y288.1) (by kernel_rfl) ?_
      refine s_qk (v291) (by kernel_rfl) ?_
      refine s_nil ?_
      refine k282 _ _ ?_
      refine w_seqk fun K298 k298 => ?_
      refine w_reg (by kernel_rfl) ?_
      refine s_qk (.slice a248 n249 c250) (by kernel_rfl) ?_
      refine s_qk (.slice a263 n264 c265) (by kernel_rfl) ?_
      have u299 := ((u271.fr e278 Dj.nil_l).fr e294 Dj.nil_l)
      have u300 := (u287.fr e294 Dj.nil_l)
      obtain ⟨y301, hy302, r303⟩ := bind_some r290
      refine s_ck 16 #[.slice a248 n249 c250, .slice a263 n264 c265] (by kernel_rfl) (c_walk_Join e294.wf u299.sq u300.sq hy302) ?_
      rintro _ H308 ⟨s304, f305, v306, f307, rfl, e309, m310, m311, i312, i313, d314⟩
      obtain ⟨a317, n318, c319, rfl⟩ := m310.form
      refine s_qk (.tuple #[.slice a317 n318 c319, v306]) (by kernel_rfl) ?_
      refine s_qk (.slice a317 n318 c319) (by kernel_rfl) ?_
      refine s_qk (v306) (by kernel_rfl) ?_
      refine s_qk (.slice a317 n318 c319) (by kernel_rfl) ?_
      refine s_qk (v306) (by kernel_rfl) ?_
      refine s_nil ?_
      refine k298 _ _ ?_
      refine w_seqk fun K320 k320 => ?_
      refine w_draw [0, 1, 2, 3, 4, 5, 6, 7, 8, 9] (by kernel_rfl) ?_
      have u321 := (((((((r149.frS e187 Dj.nil_l).frS e204 Dj.nil_l).frS e244 Dj.nil_l).frS e259 Dj.nil_l).frS e278 Dj.nil_l).frS e294 Dj.nil_l).frS e309 Dj.nil_l)
      refine d_fl (.agg #[.slice a131 n132 c133, .slice a134 n135 c136, .slice a137 n138 c139]) (x := aLoad Try.prog 34 (.pointer (some ⟨b140, 0, none⟩)) H308) (by kernel_rfl) (u321.ld (by kernel_rfl)) ?_
      refine d_qk (hd_l) (by kernel_rfl) ?_
      have u322 := (((((u222.fr e244 Dj.nil_l).fr e259 Dj.nil_l).fr e278 Dj.nil_l).fr e294 Dj.nil_l).fr e309 Dj.nil_l)
      obtain ⟨y323, hy324, r325⟩ := bind_some r303
      refine d_ck 11 #[hd_l] (by kernel_rfl) (c_viaductref02_TwinInts e309.wf u322 hy324) ?_
      rintro s326 H328 ⟨_, f327, rfl, e329, m330, i331⟩
      obtain ⟨a333, n334, c335, rfl⟩ := m330.form
      have u336 := (u321.frS e329 Dj.nil_l)
      refine ⟨st_ql (y := aLoad Try.prog 34 (.pointer (some ⟨b140, 0, none⟩)) H328) (by kernel_rfl) (u336.ld (by kernel_rfl)) (st_nil), ?_⟩
      obtain ⟨y337, hy338, r339⟩ := bind_some r325
      refine d_ck 15 #[.slice a333 n334 c335] (by kernel_rfl) (c_walk_Back e329.wf m330.sq hy338) ?_
      rintro s340 H342 ⟨_, f341, rfl, e343, m344, i345⟩
      obtain ⟨a347, n348, c349, rfl⟩ := m344.form
      have u350 := (u336.frS e343 Dj.nil_l)
      refine ⟨st_ql (y := aLoad Try.prog 34 (.pointer (some ⟨b140, 0, none⟩)) H342) (by kernel_rfl) (u350.ld (by kernel_rfl)) (st_nil), ?_⟩
      have u351 := ((((((((((u152.fr e148 (hb143.djn m113.lt)).fr e187 Dj.nil_l).fr e204 Dj.nil_l).fr e244 Dj.nil_l).fr e259 Dj.nil_l).fr e278 Dj.nil_l).fr e294 Dj.nil_l).fr e309 Dj.nil_l).fr e329 Dj.nil_l).fr e343 Dj.nil_l)
      have u352 := ((((((((((u151.fr e148 (hb143.djn m114.lt)).fr e187 Dj.nil_l).fr e204 Dj.nil_l).fr e244 Dj.nil_l).fr e259 Dj.nil_l).fr e278 Dj.nil_l).fr e294 Dj.nil_l).fr e309 Dj.nil_l).fr e329 Dj.nil_l).fr e343 Dj.nil_l)
      have u353 := ((((((((((u150.fr e148 (hb143.djn m115.lt)).fr e187 Dj.nil_l).fr e204 Dj.nil_l).fr e244 Dj.nil_l).fr e259 Dj.nil_l).fr e278 Dj.nil_l).fr e294 Dj.nil_l).fr e309 Dj.nil_l).fr e329 Dj.nil_l).fr e343 Dj.nil_l)
      obtain ⟨y354, hy355, r356⟩ := bind_some r339
      refine d_ck 13 #[.agg #[.slice a131 n132 c133, .slice a134 n135 c136, .slice a137 n138 c139], .slice a347 n348 c349] (by kernel_rfl) (c_walk_Length e343.wf u351.sq u352.sq u353.sq m344.sq hy355) ?_
      rintro _ H359 ⟨v357, f358, rfl, e360, m361, i362⟩
      refine ⟨st_anc (by kernel_rfl) (st_nil), ?_⟩
      refine d_qk (.tuple #[.int .u64 y354.1, v357]) (by kernel_rfl) ?_
      refine d_qk (.int .u64 y354.1) (by kernel_rfl) ?_
      refine d_qk (v357) (by kernel_rfl) ?_
      refine d_qk (.int .u64 y354.1) (by kernel_rfl) ?_
      refine d_qk (v357) (by kernel_rfl) ?_
      refine d_nil ?_
      refine k320 _ _ ?_
      refine w_seqk fun K364 k364 => ?_
      refine w_draw [0, 1, 2, 3, 4, 5, 6, 7, 8] (by kernel_rfl) ?_
      have u365 := (((((u283.frS e294 Dj.nil_l).frS e309 Dj.nil_l).frS e329 Dj.nil_l).frS e343 Dj.nil_l).frS e360 Dj.nil_l)
      refine d_fl (.agg #[.slice a75 n76 c77, .slice a78 n79 c80, .slice a81 n82 c83]) (x := aLoad Try.prog 34 (.pointer (some ⟨b84, 0, none⟩)) H359) (by kernel_rfl) (u365.ld (by kernel_rfl)) ?_
      refine d_qk (hd_l) (by kernel_rfl) ?_
      have u366 := (((u322.fr e329 Dj.nil_l).fr e343 Dj.nil_l).fr e360 Dj.nil_l)
      obtain ⟨y367, hy368, r369⟩ := bind_some r356
      refine d_ck 11 #[hd_l] (by kernel_rfl) (c_viaductref02_TwinInts e360.wf u366 hy368) ?_
      rintro s370 H372 ⟨_, f371, rfl, e373, m374, i375⟩
      obtain ⟨a377, n378, c379, rfl⟩ := m374.form
      have u380 := (u365.frS e373 Dj.nil_l)
      refine ⟨st_ql (y := aLoad Try.prog 34 (.pointer (some ⟨b84, 0, none⟩)) H372) (by kernel_rfl) (u380.ld (by kernel_rfl)) (st_nil), ?_⟩
      have u381 := ((((((u284.fr e294 Dj.nil_l).fr e309 Dj.nil_l).fr e329 Dj.nil_l).fr e343 Dj.nil_l).fr e360 Dj.nil_l).fr e373 Dj.nil_l)
      have u382 := ((((((u285.fr e294 Dj.nil_l).fr e309 Dj.nil_l).fr e329 Dj.nil_l).fr e343 Dj.nil_l).fr e360 Dj.nil_l).fr e373 Dj.nil_l)
      have u383 := ((((((u286.fr e294 Dj.nil_l).fr e309 Dj.nil_l).fr e329 Dj.nil_l).fr e343 Dj.nil_l).fr e360 Dj.nil_l).fr e373 Dj.nil_l)
      obtain ⟨y384, hy385, r386⟩ := bind_some r369
      refine d_ck 37 #[.agg #[.slice a75 n76 c77, .slice a78 n79 c80, .slice a81 n82 c83], .slice a377 n378 c379] (by kernel_rfl) (c_walk_Shortest e373.wf u381.sq u382.sq u383.sq m374.sq hy385) ?_
      rintro _ H389 ⟨v387, f388, rfl, e390, m391, i392⟩
      refine ⟨st_anc (by kernel_rfl) (st_nil), ?_⟩
      refine d_qk (.tuple #[.bool y384.1, v387]) (by kernel_rfl) ?_
      refine d_qk (.bool y384.1) (by kernel_rfl) ?_
      refine d_qk (v387) (by kernel_rfl) ?_
      refine d_qk (.bool y384.1) (by kernel_rfl) ?_
      refine d_qk (v387) (by kernel_rfl) ?_
      refine d_nil ?_
      refine k364 _ _ ?_
      refine w_seqk fun K394 k394 => ?_
      refine w_reg (by kernel_rfl) ?_
      have u395 := (u380.frS e390 Dj.nil_l)
      refine s_ql (.agg #[.slice a75 n76 c77, .slice a78 n79 c80, .slice a81 n82 c83]) (x := aLoad Try.prog 34 (.pointer (some ⟨b84, 0, none⟩)) H389) (by kernel_rfl) (u395.ld (by kernel_rfl)) ?_
      refine s_qk (.slice a248 n249 c250) (by kernel_rfl) ?_
      have u396 := (u381.fr e390 Dj.nil_l)
      have u397 := (u382.fr e390 Dj.nil_l)
      have u398 := (u383.fr e390 Dj.nil_l)
      have u399 := ((((((u299.fr e309 Dj.nil_l).fr e329 Dj.nil_l).fr e343 Dj.nil_l).fr e360 Dj.nil_l).fr e373 Dj.nil_l).fr e390 Dj.nil_l)
      obtain ⟨y400, hy401, r402⟩ := bind_some r386
      refine s_ck 37 #[.agg #[.slice a75 n76 c77, .slice a78 n79 c80, .slice a81 n82 c83], .slice a248 n249 c250] (by kernel_rfl) (c_walk_Shortest e390.wf u396.sq u397.sq u398.sq u399.sq hy401) ?_
      rintro _ H405 ⟨v403, f404, rfl, e406, m407, i408⟩
      refine s_qk (.tuple #[.bool y400.1, v403]) (by kernel_rfl) ?_
      refine s_qk (.bool y400.1) (by kernel_rfl) ?_
      refine s_qk (v403) (by kernel_rfl) ?_
      refine s_qk (.bool y400.1) (by kernel_rfl) ?_
      refine s_qk (v403) (by kernel_rfl) ?_
      refine s_nil ?_
      refine k394 _ _ ?_
      refine w_seqk fun K410 k410 => ?_
      refine w_seqk fun K411 k411 => ?_
      obtain ⟨o412, hx413, r414⟩ := bind_some r402
      refine w_mid (fun α H415 => Has α [(1, hd_l), (11, .int .u64 y198.1), (15, .int .u64 y272.1), (16, .int .u64 y288.1), (17, .slice a317 n318 c319), (19, .int .u64 y354.1), (21, .bool y384.1), (23, .bool y400.1), (141, .bool o412)] ∧ H405 = H415) (fun K417 k417 => ?_) (fun α H415 hM => ?_)
      ·refine w_reg (by kernel_rfl) ?_
       refine s_qk (v275) (by kernel_rfl) ?_
       have u422 := ((((((((m279.fr e294 Dj.nil_l).fr e309 Dj.nil_l).fr e329 Dj.nil_l).fr e343 Dj.nil_l).fr e360 Dj.nil_l).fr e373 Dj.nil_l).fr e390 Dj.nil_l).fr e406 Dj.nil_l)
       rcases (u422).cases with ⟨h419, rfl⟩ | ⟨h419, t420, x421, rfl⟩
       ·have r423 := ite_t h419 hx413
        refine s_qk (.bool false) (by kernel_rfl) ?_
        refine s_qk (.bool false) (by kernel_rfl) ?_
        refine s_qk (v291) (by kernel_rfl) ?_
        have u427 := (((((((m295.fr e309 Dj.nil_l).fr e329 Dj.nil_l).fr e343 Dj.nil_l).fr e360 Dj.nil_l).fr e373 Dj.nil_l).fr e390 Dj.nil_l).fr e406 Dj.nil_l)
        rcases (u427).cases with ⟨h424, rfl⟩ | ⟨h424, t425, x426, rfl⟩
        ·have r428 := ite_t h424 r423
         refine s_qk (.bool false) (by kernel_rfl) ?_
         refine s_qk (.bool false) (by kernel_rfl) ?_
         refine s_qk (.bool false) (by kernel_rfl) ?_
         refine s_qk (v306) (by kernel_rfl) ?_
         have u432 := ((((((m311.fr e329 Dj.nil_l).fr e343 Dj.nil_l).fr e360 Dj.nil_l).fr e373 Dj.nil_l).fr e390 Dj.nil_l).fr e406 Dj.nil_l)
         rcases (u432).cases with ⟨h429, rfl⟩ | ⟨h429, t430, x431, rfl⟩
         ·have r433 := ite_t h429 r428
          refine s_qk (.bool false) (by kernel_rfl) ?_
          refine s_qk (.bool false) (by kernel_rfl) ?_
          refine s_qk (.bool false) (by kernel_rfl) ?_
          refine s_qk (v357) (by kernel_rfl) ?_
          have u437 := (((m361.fr e373 Dj.nil_l).fr e390 Dj.nil_l).fr e406 Dj.nil_l)
          rcases (u437).cases with ⟨h434, rfl⟩ | ⟨h434, t435, x436, rfl⟩
          ·have r438 := ite_t h434 r433
           refine s_qk (.bool false) (by kernel_rfl) ?_
           refine s_qk (.bool false) (by kernel_rfl) ?_
           refine s_qk (.bool false) (by kernel_rfl) ?_
           refine s_qk (v387) (by kernel_rfl) ?_
           have u442 := (m391.fr e406 Dj.nil_l)
           rcases (u442).cases with ⟨h439, rfl⟩ | ⟨h439, t440, x441, rfl⟩
           ·have r443 := ite_t h439 r438
            refine s_qk (.bool false) (by kernel_rfl) ?_
            refine s_qk (.bool false) (by kernel_rfl) ?_
            refine s_qk (.bool false) (by kernel_rfl) ?_
            refine s_qk (v403) (by kernel_rfl) ?_
            rcases (m407).cases with ⟨h444, rfl⟩ | ⟨h444, t445, x446, rfl⟩
            ·have r447 := ite_t h444 r443
             refine s_qk (.bool false) (by kernel_rfl) ?_
             refine s_qk (.bool false) (by kernel_rfl) ?_
             refine s_nil ?_
             obtain rfl := Option.some.inj r447
             exact k417 _ _ ⟨⟨by kernel_rfl, by kernel_rfl, by kernel_rfl, by kernel_rfl, by kernel_rfl, by kernel_rfl, by kernel_rfl, by kernel_rfl, by kernel_rfl, trivial⟩, rfl⟩
            ·have r448 := ite_f h444 r443
             refine s_ql (.bool true) (x := aBin Try.prog .neq 31 (.tmp 139) (.const .nilIface) (.iface t445 x446) .nilIface) (by kernel_rfl) (aBin_nnil (by kernel_rfl)) ?_
             refine s_qk (.bool true) (by kernel_rfl) ?_
             refine s_nil ?_
             obtain rfl := Option.some.inj r448
             exact k417 _ _ ⟨⟨by kernel_rfl, by kernel_rfl, by kernel_rfl, by kernel_rfl, by kernel_rfl, by kernel_rfl, by kernel_rfl, by kernel_rfl, by kernel_rfl, trivial⟩, rfl⟩
           ·have r449 := ite_f h439 r438
            refine s_ql (.bool true) (x := aBin Try.prog .neq 31 (.tmp 135) (.const .nilIface) (.iface t440 x441) .nilIface) (by kernel_rfl) (aBin_nnil (by kernel_rfl)) ?_
            refine s_qk (.bool true) (by kernel_rfl) ?_
            refine s_qk (.bool true) (by kernel_rfl) ?_
            refine s_no (by kernel_rfl) ?_
            refine s_no (by kernel_rfl) ?_
            refine s_qk (.bool true) (by kernel_rfl) ?_
            refine s_nil ?_
            obtain rfl := Option.some.inj r449
            exact k417 _ _ ⟨⟨by kernel_rfl, by kernel_rfl, by kernel_rfl, by kernel_rfl, by kernel_rfl, by kernel_rfl, by kernel_rfl, by kernel_rfl, by kernel_rfl, trivial⟩, rfl⟩
          ·have r450 := ite_f h434 r433
           refine s_ql (.bool true) (x := aBin Try.prog .neq 31 (.tmp 131) (.const .nilIface) (.iface t435 x436) .nilIface) (by kernel_rfl) (aBin_nnil (by kernel_rfl)) ?_
           refine s_qk (.bool true) (by kernel_rfl) ?_
           refine s_qk (.bool true) (by kernel_rfl) ?_
           refine s_no (by kernel_rfl) ?_
           refine s_no (by kernel_rfl) ?_
           refine s_qk (.bool true) (by kernel_rfl) ?_
           refine s_qk (.bool true) (by kernel_rfl) ?_
           refine s_no (by kernel_rfl) ?_
           refine s_no (by kernel_rfl) ?_
           refine s_qk (.bool true) (by kernel_rfl) ?_
           refine s_nil ?_
           obtain rfl := Option.some.inj r450
           exact k417 _ _ ⟨⟨by kernel_rfl, by kernel_rfl, by kernel_rfl, by kernel_rfl, by kernel_rfl, by kernel_rfl, by kernel_rfl, by kernel_rfl, by kernel_rfl, trivial⟩, rfl⟩
         ·have r451 := ite_f h429 r428
          refine s_ql (.bool true) (x := aBin Try.prog .neq 31 (.tmp 127) (.const .nilIface) (.iface t430 x431) .nilIface) (by kernel_rfl) (aBin_nnil (by kernel_rfl)) ?_
          refine s_qk (.bool true) (by kernel_rfl) ?_
          refine s_qk (.bool true) (by kernel_rfl) ?_
          refine s_no (by kernel_rfl) ?_
          refine s_no (by kernel_rfl) ?_
          refine s_qk (.bool true) (by kernel_rfl) ?_
          refine s_qk (.bool true) (by kernel_rfl) ?_
          refine s_no (by kernel_rfl) ?_
          refine s_no (by kernel_rfl) ?_
          refine s_qk (.bool true) (by kernel_rfl) ?_
          refine s_qk (.bool true) (by kernel_rfl) ?_
          refine s_no (by kernel_rfl) ?_
          refine s_no (by kernel_rfl) ?_
          refine s_qk (.bool true) (by kernel_rfl) ?_
          refine s_nil ?_
          obtain rfl := Option.some.inj r451
          exact k417 _ _ ⟨⟨by kernel_rfl, by kernel_rfl, by kernel_rfl, by kernel_rfl, by kernel_rfl, by kernel_rfl, by kernel_rfl, by kernel_rfl, by kernel_rfl, trivial⟩, rfl⟩
        ·have r452 := ite_f h424 r423
         refine s_ql (.bool true) (x := aBin Try.prog .neq 31 (.tmp 123) (.const .nilIface) (.iface t425 x426) .nilIface) (by kernel_rfl) (aBin_nnil (by kernel_rfl)) ?_
         refine s_qk (.bool true) (by kernel_rfl) ?_
         refine s_qk (.bool true) (by kernel_rfl) ?_
         refine s_no (by kernel_rfl) ?_
         refine s_no (by kernel_rfl) ?_
         refine s_qk (.bool true) (by kernel_rfl) ?_
         refine s_qk (.bool true) (by kernel_rfl) ?_
         refine s_no (by kernel_rfl) ?_
         refine s_no (by kernel_rfl) ?_
         refine s_qk (.bool true) (by kernel_rfl) ?_
         refine s_qk (.bool true) (by kernel_rfl) ?_
         refine s_no (by kernel_rfl) ?_
         refine s_no (by kernel_rfl) ?_
         refine s_qk (.bool true) (by kernel_rfl) ?_
         refine s_qk (.bool true) (by kernel_rfl) ?_
         refine s_no (by kernel_rfl) ?_
         refine s_no (by kernel_rfl) ?_
         refine s_qk (.bool true) (by kernel_rfl) ?_
         refine s_nil ?_
         obtain rfl := Option.some.inj r452
         exact k417 _ _ ⟨⟨by kernel_rfl, by kernel_rfl, by kernel_rfl, by kernel_rfl, by kernel_rfl, by kernel_rfl, by kernel_rfl, by kernel_rfl, by kernel_rfl, trivial⟩, rfl⟩
       ·have r453 := ite_f h419 hx413
        refine s_ql (.bool true) (x := aBin Try.prog .neq 31 (.tmp 120) (.const .nilIface) (.iface t420 x421) .nilIface) (by kernel_rfl) (aBin_nnil (by kernel_rfl)) ?_
        refine s_qk (.bool true) (by kernel_rfl) ?_
        refine s_no (by kernel_rfl) ?_
        refine s_no (by kernel_rfl) ?_
        refine s_qk (.bool true) (by kernel_rfl) ?_
        refine s_qk (.bool true) (by kernel_rfl) ?_
        refine s_no (by kernel_rfl) ?_
        refine s_no (by kernel_rfl) ?_
        refine s_qk (.bool true) (by kernel_rfl) ?_
        refine s_qk (.bool true) (by kernel_rfl) ?_
        refine s_no (by kernel_rfl) ?_
        refine s_no (by kernel_rfl) ?_
        refine s_qk (.bool true) (by kernel_rfl) ?_
        refine s_qk (.bool true) (by kernel_rfl) ?_
        refine s_no (by kernel_rfl) ?_
        refine s_no (by kernel_rfl) ?_
        refine s_qk (.bool true) (by kernel_rfl) ?_
        refine s_qk (.bool true) (by kernel_rfl) ?_
        refine s_no (by kernel_rfl) ?_
        refine s_no (by kernel_rfl) ?_
        refine s_qk (.bool true) (by kernel_rfl) ?_
        refine s_nil ?_
        obtain rfl := Option.some.inj r453
        exact k417 _ _ ⟨⟨by kernel_rfl, by kernel_rfl, by kernel_rfl, by kernel_rfl, by kernel_rfl, by kernel_rfl, by kernel_rfl, by kernel_rfl, by kernel_rfl, trivial⟩, rfl⟩
      ·obtain ⟨hh418, rfl⟩ := hM
       obtain ⟨β, rfl⟩ := has_ex hh418
       clear hh418
       refine k411 _ _ ?_
       refine w_cond (o412) (by kernel_rfl) rfl (fun h454 => ?_) (fun h454 => ?_)
       ·have r455 := ite_t h454 r414
        refine w_seqk fun K456 k456 => ?_
        refine w_reg (by kernel_rfl) ?_
        refine s_qk (.bool false) (by kernel_rfl) ?_
        refine s_nil ?_
        refine k456 _ _ ?_
        refine w_ret (th_ret ?_)
        refine b_ret (fn := Try.f7) (vs := [.bool false]) (aRes_tmp (by kernel_rfl) (rfl)) ?_
        obtain rfl := Option.some.inj r455
        exact ⟨rfl, (FrS.step wf (FrS.step wf (FrS.step wf (FrS.step wf (FrS.step wf (FrS.step wf (FrS.step wf (FrS.step wf (FrS.step wf (FrS.step wf (FrS.step wf (FrS.step wf (FrS.step wf (FrS.step wf ((FrS.step wf (FrS.step wf ((FrS.step wf (FrS.step wf ((FrS.refl (W := []) wf).extR e4) e16 Inn.nil) e56 Inn.nil).extR e86) e92 (hb87.fresh (ntr (ntr e4.next e16.next) e56.next))) e112 Inn.nil).extR e142) e148 (hb143.fresh (ntr (ntr (ntr (ntr (ntr e4.next e16.next) e56.next) e86.next) e92.next) e112.next))) e187 Inn.nil) e204 Inn.nil) e244 Inn.nil) e259 Inn.nil) e278 Inn.nil) e294 Inn.nil) e309 Inn.nil) e329 Inn.nil) e343 Inn.nil) e360 Inn.nil) e373 Inn.nil) e390 Inn.nil) e406 Inn.nil)⟩
       ·have r457 := ite_bf h454 r414
        refine w_skip ?_
        refine k410 _ _ ?_
        refine w_seqk fun K458 k458 => ?_
        refine w_reg (by kernel_rfl) ?_
        refine s_qk (.int .u64 y272.1) (by kernel_rfl) ?_
        refine s_qk (.int .u64 y288.1) (by kernel_rfl) ?_
        obtain ⟨g459, r460⟩ := G_some r457
        refine s_w ((y272.1 + y288.1)) (k := .u64) (x := (y272.1 + y288.1)) (by kernel_rfl) (wrapu64 g459) ?_
        refine s_qk (.int .u64 y198.1) (by kernel_rfl) ?_
        refine s_b ((y272.1 + y288.1) = y198.1) (by kernel_rfl) (fun h461 => ?_) (fun h461 => ?_)
        ·have r462 := ite_t h461 r460
         refine s_qk (.bool true) (by kernel_rfl) ?_
         refine s_qk (.int .u64 y354.1) (by kernel_rfl) ?_
         refine s_qk (.int .u64 y198.1) (by kernel_rfl) ?_
         refine s_b (y354.1 = y198.1) (by kernel_rfl) (fun h463 => ?_) (fun h463 => ?_)
         ·have r464 := ite_t h463 r462
          refine s_qk (.bool true) (by kernel_rfl) ?_
          refine s_qk (.bool true) (by kernel_rfl) ?_
          refine s_qk (.slice a317 n318 c319) (by kernel_rfl) ?_
          refine s_qk (hd_l) (by kernel_rfl) ?_
          have u465 := ((((((m310.fr e329 Dj.nil_l).fr e343 Dj.nil_l).fr e360 Dj.nil_l).fr e373 Dj.nil_l).fr e390 Dj.nil_l).fr e406 Dj.nil_l)
          have u466 := (((u366.fr e373 Dj.nil_l).fr e390 Dj.nil_l).fr e406 Dj.nil_l)
          obtain ⟨y467, hy468, r469⟩ := bind_some r464
          refine s_ck 12 #[.slice a317 n318 c319, hd_l] (by kernel_rfl) (c_viaductref02_SameInts e406.wf u465.sq u466 hy468) ?_
          rintro _ _ ⟨rfl, rfl⟩
          by_cases h472 : y467 = true
          ·have r473 := ite_t h472 r469
           rw [h472]
           refine s_qk (.bool true) (by kernel_rfl) ?_
           refine s_qk (.bool true) (by kernel_rfl) ?_
           refine s_qk (.bool y384.1) (by kernel_rfl) ?_
           refine s_qk (.bool (!y384.1)) (by kernel_rfl) ?_
           refine s_qk (.bool (!y384.1)) (by kernel_rfl) ?_
           by_cases h475 : (!y384.1) = true
           ·have r476 := ite_t h475 r473
            rw [h475]
            refine s_no (by kernel_rfl) ?_
            refine s_qk (.bool true) (by kernel_rfl) ?_
            refine s_qk (.bool true) (by kernel_rfl) ?_
            refine s_qk (.bool true) (by kernel_rfl) ?_
            refine s_nil ?_
            refine k458 _ _ ?_
            refine w_ret ?_
            refine b_ret (fn := Try.f7) (vs := [.bool true]) (aRes_tmp (by kernel_rfl) (rfl)) ?_
            obtain rfl := Option.some.inj r476
            exact ⟨rfl, (FrS.step wf (FrS.step wf (FrS.step wf (FrS.step wf (FrS.step wf (FrS.step wf (FrS.step wf (FrS.step wf (FrS.step wf (FrS.step wf (FrS.step wf (FrS.step wf (FrS.step wf (FrS.step wf ((FrS.step wf (FrS.step wf ((FrS.step wf (FrS.step wf ((FrS.refl (W := []) wf).extR e4) e16 Inn.nil) e56 Inn.nil).extR e86) e92 (hb87.fresh (ntr (ntr e4.next e16.next) e56.next))) e112 Inn.nil).extR e142) e148 (hb143.fresh (ntr (ntr (ntr (ntr (ntr e4.next e16.next) e56.next) e86.next) e92.next) e112.next))) e187 Inn.nil) e204 Inn.nil) e244 Inn.nil) e259 Inn.nil) e278 Inn.nil) e294 Inn.nil) e309 Inn.nil) e329 Inn.nil) e343 Inn.nil) e360 Inn.nil) e373 Inn.nil) e390 Inn.nil) e406 Inn.nil)⟩
           ·have r477 := ite_f h475 r473
            rw [nb h475]
            refine s_qk (.bool y400.1) (by kernel_rfl) ?_
            refine s_qk (.bool y400.1) (by kernel_rfl) ?_
            refine s_qk (.bool y400.1) (by kernel_rfl) ?_
            refine s_qk (.bool y400.1) (by kernel_rfl) ?_
            refine s_nil ?_
            refine k458 _ _ ?_
            refine w_ret ?_
            refine b_ret (fn := Try.f7) (vs := [.bool y400.1]) (aRes_tmp (by kernel_rfl) (rfl)) ?_
            obtain rfl := Option.some.inj r477
            exact ⟨rfl, (FrS.step wf (FrS.step wf (FrS.step wf (FrS.step wf (FrS.step wf (FrS.step wf (FrS.step wf (FrS.step wf (FrS.step wf (FrS.step wf (FrS.step wf (FrS.step wf (FrS.step wf (FrS.step wf ((FrS.step wf (FrS.step wf ((FrS.step wf (FrS.step wf ((FrS.refl (W := []) wf).extR e4) e16 Inn.nil) e56 Inn.nil).extR e86) e92 (hb87.fresh (ntr (ntr e4.next e16.next) e56.next))) e112 Inn.nil).extR e142) e148 (hb143.fresh (ntr (ntr (ntr (ntr (ntr e4.next e16.next) e56.next) e86.next) e92.next) e112.next))) e187 Inn.nil) e204 Inn.nil) e244 Inn.nil) e259 Inn.nil) e278 Inn.nil) e294 Inn.nil) e309 Inn.nil) e329 Inn.nil) e343 Inn.nil) e360 Inn.nil) e373 Inn.nil) e390 Inn.nil) e406 Inn.nil)⟩
          ·have r478 := ite_f h472 r469
           rw [nb h472]
           refine s_qk (.bool false) (by kernel_rfl) ?_
           refine s_qk (.bool false) (by kernel_rfl) ?_
           refine s_no (by kernel_rfl) ?_
           refine s_no (by kernel_rfl) ?_
           refine s_no (by kernel_rfl) ?_
           refine s_no (by kernel_rfl) ?_
           refine s_no (by kernel_rfl) ?_
           refine s_qk (.bool false) (by kernel_rfl) ?_
           refine s_qk (.bool false) (by kernel_rfl) ?_
           refine s_nil ?_
           refine k458 _ _ ?_
           refine w_ret ?_
           refine b_ret (fn := Try.f7) (vs := [.bool false]) (aRes_tmp (by kernel_rfl) (rfl)) ?_
           obtain rfl := Option.some.inj r478
           exact ⟨rfl, (FrS.step wf (FrS.step wf (FrS.step wf (FrS.step wf (FrS.step wf (FrS.step wf (FrS.step wf (FrS.step wf (FrS.step wf (FrS.step wf (FrS.step wf (FrS.step wf (FrS.step wf (FrS.step wf ((FrS.step wf (FrS.step wf ((FrS.step wf (FrS.step wf ((FrS.refl (W := []) wf).extR e4) e16 Inn.nil) e56 Inn.nil).extR e86) e92 (hb87.fresh (ntr (ntr e4.next e16.next) e56.next))) e112 Inn.nil).extR e142) e148 (hb143.fresh (ntr (ntr (ntr (ntr (ntr e4.next e16.next) e56.next) e86.next) e92.next) e112.next))) e187 Inn.nil) e204 Inn.nil) e244 Inn.nil) e259 Inn.nil) e278 Inn.nil) e294 Inn.nil) e309 Inn.nil) e329 Inn.nil) e343 Inn.nil) e360 Inn.nil) e373 Inn.nil) e390 Inn.nil) e406 Inn.nil)⟩
         ·have r480 := ite_f h463 r462
          refine s_qk (.bool false) (by kernel_rfl) ?_
          refine s_qk (.bool false) (by kernel_rfl) ?_
          refine s_no (by kernel_rfl) ?_
          refine s_no (by kernel_rfl) ?_
          refine s_no (by kernel_rfl) ?_
          refine s_qk (.bool false) (by kernel_rfl) ?_
          refine s_qk (.bool false) (by kernel_rfl) ?_
          refine s_no (by kernel_rfl) ?_
          refine s_no (by kernel_rfl) ?_
          refine s_no (by kernel_rfl) ?_
          refine s_no (by kernel_rfl) ?_
          refine s_no (by kernel_rfl) ?_
          refine s_qk (.bool false) (by kernel_rfl) ?_
          refine s_qk (.bool false) (by kernel_rfl) ?_
          refine s_nil ?_
          refine k458 _ _ ?_
          refine w_ret ?_
          refine b_ret (fn := Try.f7) (vs := [.bool false]) (aRes_tmp (by kernel_rfl) (rfl)) ?_
          obtain rfl := Option.some.inj r480
          exact ⟨rfl, (FrS.step wf (FrS.step wf (FrS.step wf (FrS.step wf (FrS.step wf (FrS.step wf (FrS.step wf (FrS.step wf (FrS.step wf (FrS.step wf (FrS.step wf (FrS.step wf (FrS.step wf (FrS.step wf ((FrS.step wf (FrS.step wf ((FrS.step wf (FrS.step wf ((FrS.refl (W := []) wf).extR e4) e16 Inn.nil) e56 Inn.nil).extR e86) e92 (hb87.fresh (ntr (ntr e4.next e16.next) e56.next))) e112 Inn.nil).extR e142) e148 (hb143.fresh (ntr (ntr (ntr (ntr (ntr e4.next e16.next) e56.next) e86.next) e92.next) e112.next))) e187 Inn.nil) e204 Inn.nil) e244 Inn.nil) e259 Inn.nil) e278 Inn.nil) e294 Inn.nil) e309 Inn.nil) e329 Inn.nil) e343 Inn.nil) e360 Inn.nil) e373 Inn.nil) e390 Inn.nil) e406 Inn.nil)⟩
        ·have r481 := ite_f h461 r460
         refine s_qk (.bool false) (by kernel_rfl) ?_
         refine s_no (by kernel_rfl) ?_
         refine s_no (by kernel_rfl) ?_
         refine s_no (by kernel_rfl) ?_
         refine s_qk (.bool false) (by kernel_rfl) ?_
         refine s_qk (.bool false) (by kernel_rfl) ?_
         refine s_no (by kernel_rfl) ?_
         refine s_no (by kernel_rfl) ?_
         refine s_no (by kernel_rfl) ?_
         refine s_qk (.bool false) (by kernel_rfl) ?_
         refine s_qk (.bool false) (by kernel_rfl) ?_
         refine s_no (by kernel_rfl) ?_
         refine s_no (by kernel_rfl) ?_
         refine s_no (by kernel_rfl) ?_
         refine s_no (by kernel_rfl) ?_
         refine s_no (by kernel_rfl) ?_
         refine s_qk (.bool false) (by kernel_rfl) ?_
         refine s_qk (.bool false) (by kernel_rfl) ?_
         refine s_nil ?_
         refine k458 _ _ ?_
         refine w_ret ?_
         refine b_ret (fn := Try.f7) (vs := [.bool false]) (aRes_tmp (by kernel_rfl) (rfl)) ?_
         obtain rfl := Option.some.inj r481
         exact ⟨rfl, (FrS.step wf (FrS.step wf (FrS.step wf (FrS.step wf (FrS.step wf (FrS.step wf (FrS.step wf (FrS.step wf (FrS.step wf (FrS.step wf (FrS.step wf (FrS.step wf (FrS.step wf (FrS.step wf ((FrS.step wf (FrS.step wf ((FrS.step wf (FrS.step wf ((FrS.refl (W := []) wf).extR e4) e16 Inn.nil) e56 Inn.nil).extR e86) e92 (hb87.fresh (ntr (ntr e4.next e16.next) e56.next))) e112 Inn.nil).extR e142) e148 (hb143.fresh (ntr (ntr (ntr (ntr (ntr e4.next e16.next) e56.next) e86.next) e92.next) e112.next))) e187 Inn.nil) e204 Inn.nil) e244 Inn.nil) e259 Inn.nil) e278 Inn.nil) e294 Inn.nil) e309 Inn.nil) e329 Inn.nil) e343 Inn.nil) e360 Inn.nil) e373 Inn.nil) e390 Inn.nil) e406 Inn.nil)⟩
     ·have r482 := ite_f h210 r200
      refine s_ql (.bool true) (x := aBin Try.prog .neq 31 (.tmp 68) (.const .nilIface) (.iface t211 x212) .nilIface) (by kernel_rfl) (aBin_nnil (by kernel_rfl)) ?_
      refine s_nil ?_
      refine k209 _ _ ?_
      refine w_cond true (by kernel_rfl) rfl (fun _ => ?_) (fun h => by cases h)
      refine w_seqk fun K483 k483 => ?_
      refine w_reg (by kernel_rfl) ?_
      refine s_qk (.int .u64 y198.1) (by kernel_rfl) ?_
      refine s_qk (.bool (decide (y198.1 = 0))) (by kernel_rfl) ?_
      refine s_qk (.bool (decide (y198.1 = 0))) (by kernel_rfl) ?_
      refine s_nil ?_
      refine k483 _ _ ?_
      refine w_ret (th_ret ?_)
      refine b_ret (fn := Try.f7) (vs := [.bool (decide (y198.1 = 0))]) (aRes_tmp (by kernel_rfl) (rfl)) ?_
      obtain rfl := Option.some.inj r482
      exact ⟨rfl, (FrS.step wf (FrS.step wf (FrS.step wf ((FrS.step wf (FrS.step wf ((FrS.step wf (FrS.step wf ((FrS.refl (W := []) wf).extR e4) e16 Inn.nil) e56 Inn.nil).extR e86) e92 (hb87.fresh (ntr (ntr e4.next e16.next) e56.next))) e112 Inn.nil).extR e142) e148 (hb143.fresh (ntr (ntr (ntr (ntr (ntr e4.next e16.next) e56.next) e86.next) e92.next) e112.next))) e187 Inn.nil) e204 Inn.nil)⟩


end Go.Vd
