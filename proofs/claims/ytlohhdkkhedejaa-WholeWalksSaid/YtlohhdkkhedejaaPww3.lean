/- The walks of the functions (printed by a program of ours). -/
import Derived.Test.YtlohhdkkhedejaaPww2
import Derived.Test.YtlohhdkkhedejaaPwwVeC
import Derived.Test.YtlohhdkkhedejaaPwwIWw
import Derived.Test.YtlohhdkkhedejaaPwwVeN
import Derived.Test.YtlohhdkkhedejaaPwwSoA
import Derived.Test.YtlohhdkkhedejaaPwwVeV
set_option linter.unusedVariables false
set_option linter.unusedSimpArgs false
set_option linter.unusedSectionVars false
/-! (KWw9) -/

set_option maxRecDepth 100000
set_option maxHeartbeats 4000000
set_option linter.unusedVariables false
namespace Go.Vd
open Go.Proofs
attribute [local irreducible] wpSeq wpOrd aWp
theorem c_viaducttop_WholeWalks {H : AH} {hd_Arcs : Value} {fp_Arcs : Fp} {hd_list : Value} {fp_list : Fp} {N_ : Int} {Arcs : List (Int × Int × Int)} {list : List (Int)} {s : Int} {m : Int} {t : Int} {r : Bool}
    (wf : WF H) (h_Arcs : Sq enc_i64_i64_i64 3 H hd_Arcs Arcs fp_Arcs) (h_list : Sq (encI .i64) 1 H hd_list list fp_list) (hr : z_viaducttop_WholeWalks N_ Arcs list s m t = some r) :
    ACalls Try.prog 3 #[.agg #[i_ N_, hd_Arcs], hd_list, i_ s, i_ m, i_ t] H fun v H' => v = .bool r ∧ FrS [] H H' := by
 refine acalls_of_body mixed Try.func3 rfl (Nat.le_of_ble_eq_true rfl) ?_
 unfold z_viaducttop_WholeWalks at hr
 refine w_seqk fun _ k1 => ?_
 refine g_' ?_
 refine s_rwl wf [i_ N_, hd_Arcs] (one_cons (rfl) (one_cons (h_Arcs.one1) (one_nil))) (by kernel_rfl) fun b2 H3 e4 hb5 r6 => ?_
 refine q_ (.bool false) ?_
 refine s_nil (k1 _ _ ?_)
 refine w_seqk fun _ k8 => ?_
 refine g_' ?_
 refine q_ (.agg #[i_ 0, i_ 1, i_ 6]) ?_
 refine s_owk (enc := enc_i64_i64_i64) (sz := 3) e4.wf [(0, 1, 6)] 1 (by decide) (fun _ _ => rfl) (fun _ _ => rfl) rfl (by kernel_rfl) fun s9 f10 H11 e12 hf13 hm14 => ?_
 obtain ⟨a15, n16, c17, rfl⟩ := hm14.form
 refine q_ (.agg #[i_ 2, .slice a15 n16 c17]) ?_
 obtain ⟨y19, hy20, r21⟩ := bind_some hr
 refine s_ck 8 #[.agg #[i_ 2, .slice a15 n16 c17]] (by kernel_rfl) (c_csr_Build e12.wf hm14.sq hy20) ?_
 rintro _ H30 ⟨s22, f23, s24, f25, s26, f27, v28, f29, rfl, e31, m32, m33, m34, m35, i36, i37, i38, i39, d40, d41, d42, d43, d44, d45⟩
 obtain ⟨a50, n51, c52, rfl⟩ := m32.form
 obtain ⟨a53, n54, c55, rfl⟩ := m33.form
 obtain ⟨a56, n57, c58, rfl⟩ := m34.form
 refine q_ (.tuple #[.agg #[.slice a50 n51 c52, .slice a53 n54 c55, .slice a56 n57 c58], v28]) ?_
 refine q_ (.agg #[.slice a50 n51 c52, .slice a53 n54 c55, .slice a56 n57 c58]) ?_
 refine q_ (v28) ?_
 refine s_rwk e31.wf [.slice none 0 0, .slice none 0 0, .slice none 0 0] (by kernel_rfl) fun b59 H60 e61 hb62 r63 => ?_
 have u69 := (m34.ext e61)
 have u70 := (m33.ext e61)
 have u71 := (m32.ext e61)
 obtain ⟨H65, q66, e67, r68⟩ := Row.store (P := Try.prog) (t := 27) (p := 0) e61.wf r63 (.agg #[.slice a50 n51 c52, .slice a53 n54 c55, .slice a56 n57 c58]) [.slice a50 n51 c52, .slice a53 n54 c55, .slice a56 n57 c58] (by kernel_rfl) (by kernel_rfl) (one_cons (u71.one1) (one_cons (u70.one1) (one_cons (u69.one1) (one_nil)))) (Nat.le_of_ble_eq_true (by kernel_rfl)) [.slice a50 n51 c52, .slice a53 n54 c55, .slice a56 n57 c58] (by kernel_rfl)
 refine s_ek (undef) (by kernel_rfl) (map_ok q66) ?_
 refine q_ (v28) ?_
 refine s_nil (k8 _ _ ?_)
 refine w_seqk fun _ k72 => ?_
 refine w_seqk fun _ k73 => ?_
 refine g_' ?_
 refine l_' (.agg #[.slice a50 n51 c52, .slice a53 n54 c55, .slice a56 n57 c58]) (aLoad Try.prog 27 (pt_ b59 0) H65) (r68.ld (by kernel_rfl)) ?_
 refine s_owk (enc := (encI .i64)) (sz := 1) e67.wf [0, 1] 2 (by decide) (fun _ _ => rfl) (fun _ _ => rfl) rfl (by kernel_rfl) fun s74 f75 H76 e77 hf78 hm79 => ?_
 obtain ⟨a80, n81, c82, rfl⟩ := hm79.form
 have u84 := ((u71.fr e67 (hb62.djn m32.lt)).ext e77)
 have u85 := ((u70.fr e67 (hb62.djn m33.lt)).ext e77)
 have u86 := ((u69.fr e67 (hb62.djn m34.lt)).ext e77)
 obtain ⟨y87, hy88, r89⟩ := bind_some r21
 refine s_ck 9 #[.agg #[.slice a50 n51 c52, .slice a53 n54 c55, .slice a56 n57 c58], .slice a80 n81 c82] (by kernel_rfl) (c_walk_Length e77.wf u84.sq u85.sq u86.sq hm79.sq hy88) ?_
 rintro _ H92 ⟨v90, f91, rfl, e93, m94, i95⟩
 refine q_ (.tuple #[.int .u64 y87.1, v90]) ?_
 refine q_ (.int .u64 y87.1) ?_
 refine q_ (v90) ?_
 refine q_ (.int .u64 y87.1) ?_
 refine q_ (v90) ?_
 refine s_nil (k73 _ _ ?_)
 refine w_seqk fun _ k97 => ?_
 obtain ⟨o98, hx99, r100⟩ := bind_some r89
 refine w_mid (fun α H101 => Has α [(1, hd_list), (2, i_ s), (3, i_ m), (4, i_ t), (5, pt_ b2 0), (59, .bool o98)] ∧ H92 = H101) (fun _ k103 => ?_) (fun α H101 hM => ?_)
 ·refine g_' ?_
  refine q_ (v28) ?_
  have u108 := ((((m35.ext e61).fr e67 (hb62.djn m35.lt)).ext e77).fr e93 Dj.nil_l)
  rcases (u108).cases with ⟨h105, rfl⟩ | ⟨h105, t106, x107, rfl⟩
  ·have r109 := ite_t h105 hx99
   refine q_ (.bool false) ?_
   refine q_ (.bool false) ?_
   refine q_ (v90) ?_
   rcases (m94).cases with ⟨h110, rfl⟩ | ⟨h110, t111, x112, rfl⟩
   ·have r113 := ite_t h110 r109
    refine q_ (.bool false) ?_
    refine q_ (.bool false) ?_
    refine q_ (.bool false) ?_
    refine q_ (.int .u64 y87.1) ?_
    refine q_ (.bool (!decide (y87.1 = 6))) ?_
    refine q_ (.bool (!decide (y87.1 = 6))) ?_
    refine s_nil ?_
    obtain rfl := Option.some.inj r113
    exact k103 _ _ ⟨ha_, rfl⟩
   have r114 := ite_f h110 r109
   refine l_' (.bool true) (aBin Try.prog .neq 29 (.tmp 53) (.const .nilIface) (.iface t111 x112) .nilIface) (aBin_nnil (by kernel_rfl)) ?_
   refine q_ (.bool true) ?_
   refine q_ (.bool true) ?_
   refine n_' ?_
   refine n_' ?_
   refine q_ (.bool true) ?_
   refine s_nil ?_
   obtain rfl := Option.some.inj r114
   exact k103 _ _ ⟨ha_, rfl⟩
  have r115 := ite_f h105 hx99
  refine l_' (.bool true) (aBin Try.prog .neq 29 (.tmp 50) (.const .nilIface) (.iface t106 x107) .nilIface) (aBin_nnil (by kernel_rfl)) ?_
  refine q_ (.bool true) ?_
  refine n_' ?_
  refine n_' ?_
  refine q_ (.bool true) ?_
  refine q_ (.bool true) ?_
  refine n_' ?_
  refine n_' ?_
  refine q_ (.bool true) ?_
  refine s_nil ?_
  obtain rfl := Option.some.inj r115
  exact k103 _ _ ⟨ha_, rfl⟩
 obtain ⟨hh104, rfl⟩ := hM
 obtain ⟨β, rfl⟩ := has_ex hh104
 clear hh104
 refine k97 _ _ ?_
 refine w_cond (o98) (by kernel_rfl) rfl (fun h116 => ?_) (fun h116 => ?_)
 ·have r117 := ite_t h116 r100
  refine w_seqk fun _ k118 => ?_
  refine g_' ?_
  refine q_ (.bool false) ?_
  refine s_nil (k118 _ _ ?_)
  refine w_ret (th_ret ?_)
  refine b_ret (fn := Try.f3) (vs := [.bool false]) (aRes_tmp (by kernel_rfl) (rfl)) ?_
  obtain rfl := Option.some.inj r117
  exact ⟨rfl, (FrS.step wf ((FrS.step wf ((FrS.step wf (((FrS.refl (W := []) wf).extR e4).extR e12) e31 Inn.nil).extR e61) e67 (hb62.fresh (ntr (ntr e4.next e12.next) e31.next))).extR e77) e93 Inn.nil)⟩
 have r119 := ite_bf h116 r100
 refine w_skip ?_
 refine k72 _ _ ?_
 refine w_seqk fun _ k120 => ?_
 refine w_seqk fun _ k121 => ?_
 obtain ⟨o122, hx123, r124⟩ := bind_some r119
 refine w_mid (fun α H125 => Has α [(1, hd_list), (2, i_ s), (3, i_ m), (4, i_ t), (5, pt_ b2 0), (67, .bool o122)] ∧ FrS [] H92 H125) (fun _ k127 => ?_) (fun α H125 hM => ?_)
 ·refine g_' ?_
  have u129 := ((((((r6.ext e12).frS e31 Dj.nil_l).ext e61).frS e67 (hb62.djn (r6.ltF.le (ntr e12.next e31.next)))).ext e77).frS e93 Dj.nil_l)
  refine l_' (.agg #[i_ N_, hd_Arcs]) (aLoad Try.prog 24 (pt_ b2 0) H92) (u129.ld (by kernel_rfl)) ?_
  have u130 := (((((((h_Arcs.ext e4).ext e12).fr e31 Dj.nil_l).ext e61).fr e67 (hb62.djn (h_Arcs.lt.le (ntr (ntr e4.next e12.next) e31.next)))).ext e77).fr e93 Dj.nil_l)
  obtain ⟨y131, hy132, r133⟩ := bind_some hx123
  refine s_ck 10 #[.agg #[i_ N_, hd_Arcs], i_ 10] (by kernel_rfl) (c_viaducttop_small e93.wf u130 hy132) ?_
  rintro _ H134 ⟨rfl, e135⟩
  by_cases h136 : y131 = true
  ·have r137 := ite_t h136 r133
   rw [h136]
   refine q_ (.bool false) ?_
   refine q_ (.bool false) ?_
   refine q_ (hd_list) ?_
   have u139 := ((((((((h_list.ext e4).ext e12).fr e31 Dj.nil_l).ext e61).fr e67 (hb62.djn (h_list.lt.le (ntr (ntr e4.next e12.next) e31.next)))).ext e77).fr e93 Dj.nil_l).fr e135 Dj.nil_l)
   refine l_' (i_ (list.length : Int)) (aLen Try.prog 25 hd_list H134) (u139.lenb (by kernel_rfl)) ?_
   refine q_ (.bool (decide ((list.length : Int) > 60))) ?_
   refine q_ (.bool (decide ((list.length : Int) > 60))) ?_
   refine s_nil ?_
   obtain rfl := Option.some.inj r137
   exact k127 _ _ ⟨ha_, (FrS.step e93.wf (FrS.refl (W := []) e93.wf) e135 Inn.nil)⟩
  have r140 := ite_f h136 r133
  rw [nb h136]
  refine q_ (.bool true) ?_
  refine q_ (.bool true) ?_
  refine n_' ?_
  refine n_' ?_
  refine n_' ?_
  refine q_ (.bool true) ?_
  refine s_nil ?_
  obtain rfl := Option.some.inj r140
  exact k127 _ _ ⟨ha_, (FrS.step e93.wf (FrS.refl (W := []) e93.wf) e135 Inn.nil)⟩
 obtain ⟨hh128, e126⟩ := hM
 obtain ⟨β, rfl⟩ := has_ex hh128
 clear hh128
 refine k121 _ _ ?_
 refine w_cond (o122) (by kernel_rfl) rfl (fun h142 => ?_) (fun h142 => ?_)
 ·have r143 := ite_t h142 r124
  refine w_seqk fun _ k144 => ?_
  refine g_' ?_
  refine q_ (.bool true) ?_
  refine s_nil (k144 _ _ ?_)
  refine w_ret (th_ret ?_)
  refine b_ret (fn := Try.f3) (vs := [.bool true]) (aRes_tmp (by kernel_rfl) (rfl)) ?_
  obtain rfl := Option.some.inj r143
  exact ⟨rfl, (FrS.step wf (FrS.step wf ((FrS.step wf ((FrS.step wf (((FrS.refl (W := []) wf).extR e4).extR e12) e31 Inn.nil).extR e61) e67 (hb62.fresh (ntr (ntr e4.next e12.next) e31.next))).extR e77) e93 Inn.nil) e126 Inn.nil)⟩
 have r145 := ite_bf h142 r124
 refine w_skip ?_
 refine k120 _ _ ?_
 refine w_seqk fun _ k146 => ?_
 refine g_' ?_
 have u147 := (((((((r6.ext e12).frS e31 Dj.nil_l).ext e61).frS e67 (hb62.djn (r6.ltF.le (ntr e12.next e31.next)))).ext e77).frS e93 Dj.nil_l).frS e126 Dj.nil_l)
 refine l_' (.agg #[i_ N_, hd_Arcs]) (aLoad Try.prog 24 (pt_ b2 0) H125) (u147.ld (by kernel_rfl)) ?_
 have u148 := ((((((((h_Arcs.ext e4).ext e12).fr e31 Dj.nil_l).ext e61).fr e67 (hb62.djn (h_Arcs.lt.le (ntr (ntr e4.next e12.next) e31.next)))).ext e77).fr e93 Dj.nil_l).fr e126 Dj.nil_l)
 obtain ⟨y149, hy150, r151⟩ := bind_some r145
 refine s_ck 8 #[.agg #[i_ N_, hd_Arcs]] (by kernel_rfl) (c_csr_Build e126.wf u148 hy150) ?_
 rintro _ H160 ⟨s152, f153, s154, f155, s156, f157, v158, f159, rfl, e161, m162, m163, m164, m165, i166, i167, i168, i169, d170, d171, d172, d173, d174, d175⟩
 obtain ⟨a180, n181, c182, rfl⟩ := m162.form
 obtain ⟨a183, n184, c185, rfl⟩ := m163.form
 obtain ⟨a186, n187, c188, rfl⟩ := m164.form
 refine q_ (.tuple #[.agg #[.slice a180 n181 c182, .slice a183 n184 c185, .slice a186 n187 c188], v158]) ?_
 refine q_ (.agg #[.slice a180 n181 c182, .slice a183 n184 c185, .slice a186 n187 c188]) ?_
 refine q_ (v158) ?_
 refine s_rwk e161.wf [.slice none 0 0, .slice none 0 0, .slice none 0 0] (by kernel_rfl) fun b189 H190 e191 hb192 r193 => ?_
 have u199 := (m164.ext e191)
 have u200 := (m163.ext e191)
 have u201 := (m162.ext e191)
 obtain ⟨H195, q196, e197, r198⟩ := Row.store (P := Try.prog) (t := 27) (p := 0) e191.wf r193 (.agg #[.slice a180 n181 c182, .slice a183 n184 c185, .slice a186 n187 c188]) [.slice a180 n181 c182, .slice a183 n184 c185, .slice a186 n187 c188] (by kernel_rfl) (by kernel_rfl) (one_cons (u201.one1) (one_cons (u200.one1) (one_cons (u199.one1) (one_nil)))) (Nat.le_of_ble_eq_true (by kernel_rfl)) [.slice a180 n181 c182, .slice a183 n184 c185, .slice a186 n187 c188] (by kernel_rfl)
 refine s_ek (undef) (by kernel_rfl) (map_ok q196) ?_
 refine q_ (v158) ?_
 refine s_nil (k146 _ _ ?_)
 refine w_seqk fun _ k202 => ?_
 refine g_' ?_
 refine l_' (.agg #[.slice a180 n181 c182, .slice a183 n184 c185, .slice a186 n187 c188]) (aLoad Try.prog 27 (pt_ b189 0) H195) (r198.ld (by kernel_rfl)) ?_
 have u203 := (u201.fr e197 (hb192.djn m162.lt))
 have u204 := (u200.fr e197 (hb192.djn m163.lt))
 have u205 := (u199.fr e197 (hb192.djn m164.lt))
 obtain ⟨y206, hy207, r208⟩ := bind_some r151
 refine s_ck 11 #[.agg #[.slice a180 n181 c182, .slice a183 n184 c185, .slice a186 n187 c188]] (by kernel_rfl) (c_search_Matrix e197.wf u203.sq u204.sq u205.sq hy207) ?_
 rintro _ H213 ⟨s209, f210, v211, f212, rfl, e214, m215, m216, i217, i218, d219⟩
 obtain ⟨a222, n223, c224, rfl⟩ := m215.form
 refine q_ (.tuple #[.slice a222 n223 c224, v211]) ?_
 refine q_ (.slice a222 n223 c224) ?_
 refine q_ (v211) ?_
 refine q_ (.slice a222 n223 c224) ?_
 refine q_ (v211) ?_
 refine s_nil (k202 _ _ ?_)
 refine w_seqk fun _ k225 => ?_
 refine w_seqk fun _ k226 => ?_
 obtain ⟨o227, hx228, r229⟩ := bind_some r208
 refine w_mid (fun α H230 => Has α [(1, hd_list), (2, i_ s), (3, i_ m), (4, i_ t), (5, pt_ b2 0), (15, pt_ b189 0), (16, .slice a222 n223 c224), (90, .bool o227)] ∧ FrS [] H213 H230) (fun _ k232 => ?_) (fun α H230 hM => ?_)
 ·refine g_' ?_
  refine q_ (v158) ?_
  have u237 := (((m165.ext e191).fr e197 (hb192.djn m165.lt)).fr e214 Dj.nil_l)
  rcases (u237).cases with ⟨h234, rfl⟩ | ⟨h234, t235, x236, rfl⟩
  ·have r238 := ite_t h234 hx228
   refine q_ (.bool false) ?_
   refine q_ (.bool false) ?_
   refine q_ (v211) ?_
   rcases (m216).cases with ⟨h239, rfl⟩ | ⟨h239, t240, x241, rfl⟩
   ·have r242 := ite_t h239 r238
    refine q_ (.bool false) ?_
    refine q_ (.bool false) ?_
    refine q_ (.bool false) ?_
    refine q_ (.slice a222 n223 c224) ?_
    have u243 := ((((u147.frS e161 Dj.nil_l).ext e191).frS e197 (hb192.djn (r6.ltF.le (ntr (ntr (ntr (ntr (ntr (ntr (ntr e12.next e31.next) e61.next) e67.next) e77.next) e93.next) e126.next) e161.next)))).frS e214 Dj.nil_l)
    refine l_' (.agg #[i_ N_, hd_Arcs]) (aLoad Try.prog 24 (pt_ b2 0) H213) (u243.ld (by kernel_rfl)) ?_
    have u244 := ((((u148.fr e161 Dj.nil_l).ext e191).fr e197 (hb192.djn (h_Arcs.lt.le (ntr (ntr (ntr (ntr (ntr (ntr (ntr (ntr e4.next e12.next) e31.next) e61.next) e67.next) e77.next) e93.next) e126.next) e161.next)))).fr e214 Dj.nil_l)
    obtain ⟨y245, hy246, r247⟩ := bind_some r242
    refine s_ck 13 #[.agg #[i_ N_, hd_Arcs]] (by kernel_rfl) (c_viaductref04_Distances e214.wf u244 hy246) ?_
    rintro s248 H250 ⟨_, f249, rfl, e251, m252, i253⟩
    obtain ⟨a255, n256, c257, rfl⟩ := m252.form
    have u258 := (m215.fr e251 Dj.nil_l)
    obtain ⟨y259, hy260, r261⟩ := bind_some r247
    refine s_ck 12 #[.slice a222 n223 c224, .slice a255 n256 c257] (by kernel_rfl) (c_viaductref04_SameMatrix e251.wf u258 m252 hy260) ?_
    rintro _ _ ⟨rfl, rfl⟩
    refine q_ (.bool (!y259)) ?_
    refine q_ (.bool (!y259)) ?_
    refine s_nil ?_
    obtain rfl := Option.some.inj r261
    exact k232 _ _ ⟨ha_, (FrS.step e214.wf (FrS.refl (W := []) e214.wf) e251 Inn.nil)⟩
   have r264 := ite_f h239 r238
   refine l_' (.bool true) (aBin Try.prog .neq 29 (.tmp 81) (.const .nilIface) (.iface t240 x241) .nilIface) (aBin_nnil (by kernel_rfl)) ?_
   refine q_ (.bool true) ?_
   refine q_ (.bool true) ?_
   refine n_' ?_
   refine n_' ?_
   refine n_' ?_
   refine n_' ?_
   refine n_' ?_
   refine q_ (.bool true) ?_
   refine s_nil ?_
   obtain rfl := Option.some.inj r264
   exact k232 _ _ ⟨ha_, (FrS.refl (W := []) e214.wf)⟩
  have r265 := ite_f h234 hx228
  refine l_' (.bool true) (aBin Try.prog .neq 29 (.tmp 78) (.const .nilIface) (.iface t235 x236) .nilIface) (aBin_nnil (by kernel_rfl)) ?_
  refine q_ (.bool true) ?_
  refine n_' ?_
  refine n_' ?_
  refine q_ (.bool true) ?_
  refine q_ (.bool true) ?_
  refine n_' ?_
  refine n_' ?_
  refine n_' ?_
  refine n_' ?_
  refine n_' ?_
  refine q_ (.bool true) ?_
  refine s_nil ?_
  obtain rfl := Option.some.inj r265
  exact k232 _ _ ⟨ha_, (FrS.refl (W := []) e214.wf)⟩
 obtain ⟨hh233, e231⟩ := hM
 obtain ⟨β, rfl⟩ := has_ex hh233
 clear hh233
 refine k226 _ _ ?_
 refine w_cond (o227) (by kernel_rfl) rfl (fun h266 => ?_) (fun h266 => ?_)
 ·have r267 := ite_t h266 r229
  refine w_seqk fun _ k268 => ?_
  refine g_' ?_
  refine q_ (.bool false) ?_
  refine s_nil (k268 _ _ ?_)
  refine w_ret (th_ret ?_)
  refine b_ret (fn := Try.f3) (vs := [.bool false]) (aRes_tmp (by kernel_rfl) (rfl)) ?_
  obtain rfl := Option.some.inj r267
  exact ⟨rfl, (FrS.step wf (FrS.step wf (FrS.step wf ((FrS.step wf (FrS.step wf (FrS.step wf ((FrS.step wf ((FrS.step wf (((FrS.refl (W := []) wf).extR e4).extR e12) e31 Inn.nil).extR e61) e67 (hb62.fresh (ntr (ntr e4.next e12.next) e31.next))).extR e77) e93 Inn.nil) e126 Inn.nil) e161 Inn.nil).extR e191) e197 (hb192.fresh (ntr (ntr (ntr (ntr (ntr (ntr (ntr (ntr e4.next e12.next) e31.next) e61.next) e67.next) e77.next) e93.next) e126.next) e161.next))) e214 Inn.nil) e231 Inn.nil)⟩
 have r269 := ite_bf h266 r229
 refine w_skip ?_
 refine k225 _ _ ?_
 refine w_seqk fun _ k270 => ?_
 refine w_seqk fun _ k271 => ?_
 refine g_' ?_
 refine q_ (i_ s) ?_
 refine q_ (i_ m) ?_
 refine q_ (i_ t) ?_
 refine s_owk (enc := (encI .i64)) (sz := 1) e231.wf [s, m, t] 3 (by decide) (fun _ _ => rfl) (fun _ _ => rfl) rfl (by kernel_rfl) fun s272 f273 H274 e275 hf276 hm277 => ?_
 obtain ⟨a278, n279, c280, rfl⟩ := hm277.form
 refine q_ (hd_list) ?_
 obtain ⟨g282, r283⟩ := G_some r269
 have u291 := ((((((((((((((h_list.ext e4).ext e12).fr e31 Dj.nil_l).ext e61).fr e67 (hb62.djn (h_list.lt.le (ntr (ntr e4.next e12.next) e31.next)))).ext e77).fr e93 Dj.nil_l).fr e126 Dj.nil_l).fr e161 Dj.nil_l).ext e191).fr e197 (hb192.djn (h_list.lt.le (ntr (ntr (ntr (ntr (ntr (ntr (ntr (ntr e4.next e12.next) e31.next) e61.next) e67.next) e77.next) e93.next) e126.next) e161.next)))).fr e214 Dj.nil_l).fr e231 Dj.nil_l).ext e275)
 obtain ⟨s284, H285, f286, q290, e287, hm288, hf289⟩ := Ow.append (P := Try.prog) 8 e275.wf hm277 u291 (fun _ _ => rfl) (at_ := #[25, 25]) rfl rfl (by kernel_rfl) (by kernel_rfl) (by decide) (by have := g282; first | omega | (simp only [List.length_cons, List.length_nil] at this ⊢; omega) | (simp at this ⊢; omega))
 obtain ⟨a292, n293, c294, rfl⟩ := hm288.form
 refine s_ek (.slice a292 n293 c294) (by kernel_rfl) (q290) ?_
 refine l_' (i_ (([s, m, t] ++ list).length : Int)) (aLen Try.prog 25 (.slice a292 n293 c294) H285) (hm288.sq.lenb (by kernel_rfl)) ?_
 refine q_ (i_ 0) ?_
 refine s_nil (k271 _ _ ?_)
 obtain ⟨z299, hx297, r298⟩ := bind_some r283
 refine w_mid (fun α H300 => ∃ o296, z299 = Sum.inr o296 ∧ Has α [(1, hd_list), (2, i_ s), (3, i_ m), (4, i_ t), (15, pt_ b189 0), (16, .slice a222 n223 c224)] ∧ H285 = H300) (fun _ k302 => ?_) (fun α H300 hM => ?_)
 ·refine w_block ?_
  obtain ⟨n304, hn305⟩ := loopO_iff.1 hx297
  refine w_loopn (fun n α H306 => ∃ (i0 : Int), iterO (fun zz_ => z_viaducttop_WholeWalks_l0 N_ list s m t zz_) n i0 = some z299 ∧ Has α [(1, hd_list), (2, i_ s), (3, i_ m), (4, i_ t), (5, pt_ b2 0), (15, pt_ b189 0), (16, .slice a222 n223 c224), (96, .slice a292 n293 c294), (97, i_ (([s, m, t] ++ list).length : Int)), (98, i_ i0)] ∧ H285 = H306) n304 ⟨0, hn305, ha_, rfl⟩ ?_
  rintro n304 α H306 ⟨i0, hi309, hh308, rfl⟩ K314 k314
  obtain ⟨n310, z311, rfl, hz312, hn313⟩ := iter_succ hi309
  obtain ⟨β, rfl⟩ := has_ex hh308
  clear hh308
  replace hz312 : z_viaducttop_WholeWalks_l0 N_ list s m t i0 = some z311 := hz312
  unfold z_viaducttop_WholeWalks_l0 at hz312
  refine w_seqk fun _ k315 => ?_
  refine g_' ?_
  refine q_ (.bool (decide (i0 < (([s, m, t] ++ list).length : Int)))) ?_
  refine s_nil (k315 _ _ ?_)
  refine w_seqk fun _ k316 => ?_
  refine w_condp (i0 < (([s, m, t] ++ list).length : Int)) (by kernel_rfl) rfl (fun h317 => ?_) (fun h317 => ?_)
  ·have r318 := ite_t h317 hz312
   refine w_skip ?_
   refine k316 _ _ ?_
   refine w_seqk fun _ k319 => ?_
   refine w_block ?_
   refine w_seqk fun _ k320 => ?_
   refine g_' ?_
   obtain ⟨g321, r322⟩ := G_some r318
   refine l_' (elp (.slice a292 n293 c294) 1 i0.toNat 0) (aIndexAddr Try.prog 25 (.slice a292 n293 c294) (i_ i0)) (hm288.sq.idxb (by kernel_rfl) g321 h317) ?_
   refine l_' (i_ (gt ([s, m, t] ++ list) i0)) (aLoad Try.prog 3 (elp (.slice a292 n293 c294) 1 i0.toNat 0) H285) (hm288.sq.ld g321 h317 (by kernel_rfl)) ?_
   refine q_ (i_ (gt ([s, m, t] ++ list) i0)) ?_
   refine s_nil (k320 _ _ ?_)
   refine w_seqk fun _ k323 => ?_
   refine g_' ?_
   refine q_ (i_ (gt ([s, m, t] ++ list) i0)) ?_
   refine s_b ((gt ([s, m, t] ++ list) i0) < 0) (by kernel_rfl) (fun h324 => ?_) (fun h324 => ?_)
   ·have r325 := ite_t h324 r322
    refine q_ (.bool true) ?_
    refine n_' ?_
    refine n_' ?_
    refine n_' ?_
    refine n_' ?_
    refine q_ (.bool true) ?_
    refine s_nil (k323 _ _ ?_)
    refine w_cond true (by kernel_rfl) rfl (fun _ => ?_) (fun h => by cases h)
    refine w_seqk fun _ k326 => ?_
    refine g_' ?_
    refine q_ (.bool true) ?_
    refine s_nil (k326 _ _ ?_)
    refine w_ret (bl_ret (th_ret (th_ret (bl_ret (th_ret (th_ret ?_))))))
    obtain ⟨v327, hv328, hz329⟩ := map_some r325
    subst hz329
    obtain rfl := it_inr hn313
    have hq330 := elim_inl r298
    rw [hq330] at hv328
    refine b_ret (fn := Try.f3) (vs := [.bool true]) (aRes_tmp (by kernel_rfl) (rfl)) ?_
    obtain rfl := Option.some.inj hv328
    exact ⟨rfl, (FrS.step wf ((FrS.step wf (FrS.step wf (FrS.step wf ((FrS.step wf (FrS.step wf (FrS.step wf ((FrS.step wf ((FrS.step wf (((FrS.refl (W := []) wf).extR e4).extR e12) e31 Inn.nil).extR e61) e67 (hb62.fresh (ntr (ntr e4.next e12.next) e31.next))).extR e77) e93 Inn.nil) e126 Inn.nil) e161 Inn.nil).extR e191) e197 (hb192.fresh (ntr (ntr (ntr (ntr (ntr (ntr (ntr (ntr e4.next e12.next) e31.next) e61.next) e67.next) e77.next) e93.next) e126.next) e161.next))) e214 Inn.nil) e231 Inn.nil).extR e275) e287 (hf276.fresh (ntr (ntr (ntr (ntr (ntr (ntr (ntr (ntr (ntr (ntr (ntr (ntr e4.next e12.next) e31.next) e61.next) e67.next) e77.next) e93.next) e126.next) e161.next) e191.next) e197.next) e214.next) e231.next)))⟩
   have r331 := ite_f h324 r322
   refine q_ (.bool false) ?_
   refine q_ (i_ (gt ([s, m, t] ++ list) i0)) ?_
   refine q_ (pt_ b2 0) ?_
   have u332 := (((((((u147.frS e161 Dj.nil_l).ext e191).frS e197 (hb192.djn (r6.ltF.le (ntr (ntr (ntr (ntr (ntr (ntr (ntr e12.next e31.next) e61.next) e67.next) e77.next) e93.next) e126.next) e161.next)))).frS e214 Dj.nil_l).frS e231 Dj.nil_l).ext e275).frS e287 (hf276.djn (r6.ltF.le (ntr (ntr (ntr (ntr (ntr (ntr (ntr (ntr (ntr (ntr (ntr e12.next e31.next) e61.next) e67.next) e77.next) e93.next) e126.next) e161.next) e191.next) e197.next) e214.next) e231.next))))
   refine l_' (i_ N_) (aLoad Try.prog 3 (pt_ b2 0) H285) (u332.ld (by kernel_rfl)) ?_
   refine q_ (.bool (decide ((gt ([s, m, t] ++ list) i0) ≥ N_))) ?_
   refine q_ (.bool (decide ((gt ([s, m, t] ++ list) i0) ≥ N_))) ?_
   refine s_nil (k323 _ _ ?_)
   refine w_condp ((gt ([s, m, t] ++ list) i0) ≥ N_) (by kernel_rfl) rfl (fun h333 => ?_) (fun h333 => ?_)
   ·have r334 := ite_t h333 r331
    refine w_seqk fun _ k335 => ?_
    refine g_' ?_
    refine q_ (.bool true) ?_
    refine s_nil (k335 _ _ ?_)
    refine w_ret (bl_ret (th_ret (th_ret (bl_ret (th_ret (th_ret ?_))))))
    obtain ⟨v336, hv337, hz338⟩ := map_some r334
    subst hz338
    obtain rfl := it_inr hn313
    have hq339 := elim_inl r298
    rw [hq339] at hv337
    refine b_ret (fn := Try.f3) (vs := [.bool true]) (aRes_tmp (by kernel_rfl) (rfl)) ?_
    obtain rfl := Option.some.inj hv337
    exact ⟨rfl, (FrS.step wf ((FrS.step wf (FrS.step wf (FrS.step wf ((FrS.step wf (FrS.step wf (FrS.step wf ((FrS.step wf ((FrS.step wf (((FrS.refl (W := []) wf).extR e4).extR e12) e31 Inn.nil).extR e61) e67 (hb62.fresh (ntr (ntr e4.next e12.next) e31.next))).extR e77) e93 Inn.nil) e126 Inn.nil) e161 Inn.nil).extR e191) e197 (hb192.fresh (ntr (ntr (ntr (ntr (ntr (ntr (ntr (ntr e4.next e12.next) e31.next) e61.next) e67.next) e77.next) e93.next) e126.next) e161.next))) e214 Inn.nil) e231 Inn.nil).extR e275) e287 (hf276.fresh (ntr (ntr (ntr (ntr (ntr (ntr (ntr (ntr (ntr (ntr (ntr (ntr e4.next e12.next) e31.next) e61.next) e67.next) e77.next) e93.next) e126.next) e161.next) e191.next) e197.next) e214.next) e231.next)))⟩
   have r340 := ite_f h333 r331
   refine w_skip ?_
   refine k319 _ _ ?_
   refine g_' ?_
   obtain ⟨g341, r342⟩ := G_some r340
   refine s_w ((i0 + 1)) (k := .i64) (x := (i0 + 1)) (by kernel_rfl) (wrap64 (by have := g341; omega)) ?_
   refine q_ (i_ (i0 + 1)) ?_
   refine s_nil ?_
   obtain rfl := Option.some.inj r342
   exact k314 n310 _ _ (Nat.lt_succ_self _) ⟨(i0 + 1), hn313, ha_, rfl⟩
  have r343 := ite_f h317 hz312
  refine w_exit (th_exit (th_exit (bl_eq ?_)))
  obtain rfl := Option.some.inj r343
  obtain rfl := it_inr hn313
  exact k302 _ _ ⟨_, rfl, ha_, rfl⟩
 obtain ⟨o296, rfl, hh303, rfl⟩ := hM
 have r344 := elim_inr r298
 obtain ⟨β, rfl⟩ := has_ex hh303
 clear hh303
 refine k270 _ _ ?_
 refine w_seqk fun _ k345 => ?_
 refine w_seqk fun _ k346 => ?_
 refine w_draw [0, 1, 2, 3, 4, 5, 6, 7, 8] (by kernel_rfl) ?_
 have u347 := ((((r198.frS e214 Dj.nil_l).frS e231 Dj.nil_l).ext e275).frS e287 (hf276.djn (r193.ltF.le (ntr (ntr e197.next e214.next) e231.next))))
 refine d_fl (.agg #[.slice a180 n181 c182, .slice a183 n184 c185, .slice a186 n187 c188]) (x := aLoad Try.prog 27 (pt_ b189 0) H285) (by kernel_rfl) (u347.ld (by kernel_rfl)) ?_
 refine e_' (hd_list) ?_
 have u348 := (u291.fr e287 (hf276.djn (h_list.lt.le (ntr (ntr (ntr (ntr (ntr (ntr (ntr (ntr (ntr (ntr (ntr (ntr e4.next e12.next) e31.next) e61.next) e67.next) e77.next) e93.next) e126.next) e161.next) e191.next) e197.next) e214.next) e231.next))))
 obtain ⟨y349, hy350, r351⟩ := bind_some r344
 refine d_ck 14 #[hd_list] (by kernel_rfl) (c_viaductref02_TwinInts e287.wf u348 hy350) ?_
 rintro s352 H354 ⟨_, f353, rfl, e355, m356, i357⟩
 obtain ⟨a359, n360, c361, rfl⟩ := m356.form
 have u362 := (u347.frS e355 Dj.nil_l)
 refine ⟨st_ql (y := aLoad Try.prog 27 (pt_ b189 0) H354) (by kernel_rfl) (u362.ld (by kernel_rfl)) (st_nil), ?_⟩
 have u363 := (((((u203.fr e214 Dj.nil_l).fr e231 Dj.nil_l).ext e275).fr e287 (hf276.djn (m162.lt.le (ntr (ntr (ntr e191.next e197.next) e214.next) e231.next)))).fr e355 Dj.nil_l)
 have u364 := (((((u204.fr e214 Dj.nil_l).fr e231 Dj.nil_l).ext e275).fr e287 (hf276.djn (m163.lt.le (ntr (ntr (ntr e191.next e197.next) e214.next) e231.next)))).fr e355 Dj.nil_l)
 have u365 := (((((u205.fr e214 Dj.nil_l).fr e231 Dj.nil_l).ext e275).fr e287 (hf276.djn (m164.lt.le (ntr (ntr (ntr e191.next e197.next) e214.next) e231.next)))).fr e355 Dj.nil_l)
 obtain ⟨y366, hy367, r368⟩ := bind_some r351
 refine d_ck 9 #[.agg #[.slice a180 n181 c182, .slice a183 n184 c185, .slice a186 n187 c188], .slice a359 n360 c361] (by kernel_rfl) (c_walk_Length e355.wf u363.sq u364.sq u365.sq m356.sq hy367) ?_
 rintro _ H371 ⟨v369, f370, rfl, e372, m373, i374⟩
 refine ⟨st_anc (by kernel_rfl) (st_nil), ?_⟩
 refine e_' (.tuple #[.int .u64 y366.1, v369]) ?_
 refine e_' (.int .u64 y366.1) ?_
 refine e_' (v369) ?_
 refine e_' (.int .u64 y366.1) ?_
 refine e_' (v369) ?_
 refine d_nil ?_
 refine k346 _ _ ?_
 refine w_seqk fun _ k376 => ?_
 obtain ⟨o377, hx378, r379⟩ := bind_some r368
 refine w_mid (fun α H380 => Has α [(2, i_ s), (3, i_ m), (4, i_ t), (15, pt_ b189 0), (16, .slice a222 n223 c224), (142, .bool o377)] ∧ H371 = H380) (fun _ k382 => ?_) (fun α H380 hM => ?_)
 ·refine w_draw [0, 1, 2, 3, 4, 5, 6, 7, 8, 9, 10, 11, 12, 13, 14, 15, 16, 17, 18, 19, 20, 21, 22, 23, 24] (by kernel_rfl) ?_
  refine e_' (v369) ?_
  rcases (m373).cases with ⟨h384, rfl⟩ | ⟨h384, t385, x386, rfl⟩
  ·have r387 := ite_t h384 hx378
   refine e_' (.bool true) ?_
   refine e_' (.bool true) ?_
   refine e_' (hd_list) ?_
   have u388 := ((u348.fr e355 Dj.nil_l).fr e372 Dj.nil_l)
   refine m_' (i_ (list.length : Int)) (aLen Try.prog 25 hd_list H371) (u388.lenb (by kernel_rfl)) ?_
   refine d_b ((list.length : Int) = 0) (by kernel_rfl) (fun h389 => ?_) (fun h389 => ?_)
   ·have r390 := ite_t h389 r387
    refine e_' (.bool true) ?_
    refine j_' ?_
    refine j_' ?_
    refine j_' ?_
    refine j_' ?_
    refine j_' ?_
    refine j_' ?_
    refine j_' ?_
    refine j_' ?_
    refine j_' ?_
    refine j_' ?_
    refine j_' ?_
    refine j_' ?_
    refine j_' ?_
    refine j_' ?_
    refine j_' ?_
    refine j_' ?_
    refine e_' (.bool true) ?_
    refine e_' (.bool true) ?_
    refine d_nil ?_
    obtain rfl := Option.some.inj r390
    exact k382 _ _ ⟨ha_, rfl⟩
   have r391 := ite_f h389 r387
   refine e_' (.bool false) ?_
   refine e_' (.int .u64 y366.1) ?_
   refine e_' (.slice a222 n223 c224) ?_
   refine e_' (hd_list) ?_
   obtain ⟨g392, r393⟩ := G_some r391
   refine m_' (elp hd_list 1 (0 : Int).toNat 0) (aIndexAddr Try.prog 25 hd_list (i_ 0)) (u388.idxb (by kernel_rfl) (by decide) g392) ?_
   refine m_' (i_ (gt list 0)) (aLoad Try.prog 3 (elp hd_list 1 (0 : Int).toNat 0) H371) (u388.ld (by decide) g392 (by kernel_rfl)) ?_
   obtain ⟨g394, r395⟩ := G_some r393
   have u396 := (((((m215.fr e231 Dj.nil_l).ext e275).fr e287 (hf276.djn (m215.lt.le e231.next))).fr e355 Dj.nil_l).fr e372 Dj.nil_l)
   refine m_' (elp (.slice a222 n223 c224) 1 (gt list 0).toNat 0) (aIndexAddr Try.prog 38 (.slice a222 n223 c224) (i_ (gt list 0))) (u396.idxb (by kernel_rfl) g394.1 g394.2) ?_
   obtain ⟨cs397, f398, hk399, hs400, hl401, hq402⟩ := u396.kid g394.1 g394.2
   obtain ⟨s403, rfl, ho405⟩ := cr_sl_open hk399
   have kd406 : KdS (encI .u64) 1 H371 s403 (gt y206.1 (gt list 0)) f210 (.slice a222 n223 c224) 1 (gt list 0).toNat 0 := ⟨ho405.sq.up hs400 u396.lt, hq402 0 _ rfl (by decide)⟩
   obtain ⟨a407, n408, c409, rfl⟩ := kd406.sq.form
   refine m_' (.slice a407 n408 c409) (aLoad Try.prog 44 (elp (.slice a222 n223 c224) 1 (gt list 0).toNat 0) H371) (hl401 _ _ _ _ (by kernel_rfl)) ?_
   refine e_' (hd_list) ?_
   refine e_' (hd_list) ?_
   refine m_' (i_ (list.length : Int)) (aLen Try.prog 25 hd_list H371) (u388.lenb (by kernel_rfl)) ?_
   obtain ⟨g411, r412⟩ := G_some r395
   refine d_w (((list.length : Int) - 1)) (k := .i64) (x := ((list.length : Int) - 1)) (by kernel_rfl) (wrap64 g411) ?_
   obtain ⟨g413, r414⟩ := G_some r412
   refine m_' (elp hd_list 1 ((list.length : Int) - 1).toNat 0) (aIndexAddr Try.prog 25 hd_list (i_ ((list.length : Int) - 1))) (u388.idxb (by kernel_rfl) g413.1 g413.2) ?_
   refine m_' (i_ (gt list ((list.length : Int) - 1))) (aLoad Try.prog 3 (elp hd_list 1 ((list.length : Int) - 1).toNat 0) H371) (u388.ld g413.1 g413.2 (by kernel_rfl)) ?_
   obtain ⟨g415, r416⟩ := G_some r414
   refine m_' (elp (.slice a407 n408 c409) 1 (gt list ((list.length : Int) - 1)).toNat 0) (aIndexAddr Try.prog 44 (.slice a407 n408 c409) (i_ (gt list ((list.length : Int) - 1)))) (kd406.sq.idxb (by kernel_rfl) g415.1 g415.2) ?_
   refine m_' (.int .u64 (gt (gt y206.1 (gt list 0)) (gt list ((list.length : Int) - 1)))) (aLoad Try.prog 34 (elp (.slice a407 n408 c409) 1 (gt list ((list.length : Int) - 1)).toNat 0) H371) (kd406.sq.ld g415.1 g415.2 (by kernel_rfl)) ?_
   refine e_' (.bool (decide (y366.1 < (gt (gt y206.1 (gt list 0)) (gt list ((list.length : Int) - 1)))))) ?_
   refine e_' (.bool (decide (y366.1 < (gt (gt y206.1 (gt list 0)) (gt list ((list.length : Int) - 1)))))) ?_
   refine e_' (.bool (decide (y366.1 < (gt (gt y206.1 (gt list 0)) (gt list ((list.length : Int) - 1)))))) ?_
   refine d_nil ?_
   obtain rfl := Option.some.inj r416
   exact k382 _ _ ⟨ha_, rfl⟩
  have r417 := ite_f h384 hx378
  refine m_' (.bool false) (aBin Try.prog .eql 29 (.tmp 118) (.const .nilIface) (.iface t385 x386) .nilIface) (aBin_nil (by kernel_rfl)) ?_
  refine e_' (.bool false) ?_
  refine j_' ?_
  refine j_' ?_
  refine j_' ?_
  refine j_' ?_
  refine j_' ?_
  refine j_' ?_
  refine j_' ?_
  refine j_' ?_
  refine j_' ?_
  refine j_' ?_
  refine j_' ?_
  refine j_' ?_
  refine j_' ?_
  refine j_' ?_
  refine j_' ?_
  refine j_' ?_
  refine j_' ?_
  refine j_' ?_
  refine j_' ?_
  refine j_' ?_
  refine j_' ?_
  refine e_' (.bool false) ?_
  refine d_nil ?_
  obtain rfl := Option.some.inj r417
  exact k382 _ _ ⟨ha_, rfl⟩
 obtain ⟨hh383, rfl⟩ := hM
 obtain ⟨β, rfl⟩ := has_ex hh383
 clear hh383
 refine k376 _ _ ?_
 refine w_cond (o377) (by kernel_rfl) rfl (fun h418 => ?_) (fun h418 => ?_)
 ·have r419 := ite_t h418 r379
  refine w_seqk fun _ k420 => ?_
  refine g_' ?_
  refine q_ (.bool false) ?_
  refine s_nil (k420 _ _ ?_)
  refine w_ret (th_ret ?_)
  refine b_ret (fn := Try.f3) (vs := [.bool false]) (aRes_tmp (by kernel_rfl) (rfl)) ?_
  obtain rfl := Option.some.inj r419
  exact ⟨rfl, (FrS.step wf (FrS.step wf (FrS.step wf ((FrS.step wf (FrS.step wf (FrS.step wf ((FrS.step wf (FrS.step wf (FrS.step wf ((FrS.step wf ((FrS.step wf (((FrS.refl (W := []) wf).extR e4).extR e12) e31 Inn.nil).extR e61) e67 (hb62.fresh (ntr (ntr e4.next e12.next) e31.next))).extR e77) e93 Inn.nil) e126 Inn.nil) e161 Inn.nil).extR e191) e197 (hb192.fresh (ntr (ntr (ntr (ntr (ntr (ntr (ntr (ntr e4.next e12.next) e31.next) e61.next) e67.next) e77.next) e93.next) e126.next) e161.next))) e214 Inn.nil) e231 Inn.nil).extR e275) e287 (hf276.fresh (ntr (ntr (ntr (ntr (ntr (ntr (ntr (ntr (ntr (ntr (ntr (ntr e4.next e12.next) e31.next) e61.next) e67.next) e77.next) e93.next) e126.next) e161.next) e191.next) e197.next) e214.next) e231.next))) e355 Inn.nil) e372 Inn.nil)⟩
 have r421 := ite_bf h418 r379
 refine w_skip ?_
 refine k345 _ _ ?_
 refine w_seqk fun _ k422 => ?_
 refine w_seqk fun _ k423 => ?_
 obtain ⟨o424, hx425, r426⟩ := bind_some r421
 refine w_mid (fun α H427 => Has α [(2, i_ s), (3, i_ m), (4, i_ t), (15, pt_ b189 0), (16, .slice a222 n223 c224), (160, .bool o424)] ∧ H371 = H427) (fun _ k429 => ?_) (fun α H427 hM => ?_)
 ·refine g_' ?_
  refine q_ (.slice a222 n223 c224) ?_
  refine q_ (i_ s) ?_
  obtain ⟨g431, r432⟩ := G_some hx425
  have u433 := (((((m215.fr e231 Dj.nil_l).ext e275).fr e287 (hf276.djn (m215.lt.le e231.next))).fr e355 Dj.nil_l).fr e372 Dj.nil_l)
  refine l_' (elp (.slice a222 n223 c224) 1 s.toNat 0) (aIndexAddr Try.prog 38 (.slice a222 n223 c224) (i_ s)) (u433.idxb (by kernel_rfl) g431.1 g431.2) ?_
  obtain ⟨cs434, f435, hk436, hs437, hl438, hq439⟩ := u433.kid g431.1 g431.2
  obtain ⟨s440, rfl, ho442⟩ := cr_sl_open hk436
  have kd443 : KdS (encI .u64) 1 H371 s440 (gt y206.1 s) f210 (.slice a222 n223 c224) 1 s.toNat 0 := ⟨ho442.sq.up hs437 u433.lt, hq439 0 _ rfl (by decide)⟩
  obtain ⟨a444, n445, c446, rfl⟩ := kd443.sq.form
  refine l_' (.slice a444 n445 c446) (aLoad Try.prog 44 (elp (.slice a222 n223 c224) 1 s.toNat 0) H371) (hl438 _ _ _ _ (by kernel_rfl)) ?_
  refine q_ (i_ m) ?_
  obtain ⟨g448, r449⟩ := G_some r432
  refine l_' (elp (.slice a444 n445 c446) 1 m.toNat 0) (aIndexAddr Try.prog 44 (.slice a444 n445 c446) (i_ m)) (kd443.sq.idxb (by kernel_rfl) g448.1 g448.2) ?_
  refine l_' (.int .u64 (gt (gt y206.1 s) m)) (aLoad Try.prog 34 (elp (.slice a444 n445 c446) 1 m.toNat 0) H371) (kd443.sq.ld g448.1 g448.2 (by kernel_rfl)) ?_
  refine s_b ((gt (gt y206.1 s) m) = 18446744073709551615) (by kernel_rfl) (fun h450 => ?_) (fun h450 => ?_)
  ·have r451 := ite_t h450 r449
   refine q_ (.bool true) ?_
   refine n_' ?_
   refine n_' ?_
   refine n_' ?_
   refine n_' ?_
   refine n_' ?_
   refine n_' ?_
   refine n_' ?_
   refine n_' ?_
   refine q_ (.bool true) ?_
   refine s_nil ?_
   obtain rfl := Option.some.inj r451
   exact k429 _ _ ⟨ha_, rfl⟩
  have r452 := ite_f h450 r449
  refine q_ (.bool false) ?_
  refine q_ (.slice a222 n223 c224) ?_
  refine q_ (i_ m) ?_
  obtain ⟨g453, r454⟩ := G_some r452
  refine l_' (elp (.slice a222 n223 c224) 1 m.toNat 0) (aIndexAddr Try.prog 38 (.slice a222 n223 c224) (i_ m)) (u433.idxb (by kernel_rfl) g448.1 g453) ?_
  obtain ⟨cs455, f456, hk457, hs458, hl459, hq460⟩ := u433.kid g448.1 g453
  obtain ⟨s461, rfl, ho463⟩ := cr_sl_open hk457
  have kd464 : KdS (encI .u64) 1 H371 s461 (gt y206.1 m) f210 (.slice a222 n223 c224) 1 m.toNat 0 := ⟨ho463.sq.up hs458 u433.lt, hq460 0 _ rfl (by decide)⟩
  obtain ⟨a465, n466, c467, rfl⟩ := kd464.sq.form
  refine l_' (.slice a465 n466 c467) (aLoad Try.prog 44 (elp (.slice a222 n223 c224) 1 m.toNat 0) H371) (hl459 _ _ _ _ (by kernel_rfl)) ?_
  refine q_ (i_ t) ?_
  obtain ⟨g469, r470⟩ := G_some r454
  refine l_' (elp (.slice a465 n466 c467) 1 t.toNat 0) (aIndexAddr Try.prog 44 (.slice a465 n466 c467) (i_ t)) (kd464.sq.idxb (by kernel_rfl) g469.1 g469.2) ?_
  refine l_' (.int .u64 (gt (gt y206.1 m) t)) (aLoad Try.prog 34 (elp (.slice a465 n466 c467) 1 t.toNat 0) H371) (kd464.sq.ld g469.1 g469.2 (by kernel_rfl)) ?_
  refine q_ (.bool (decide ((gt (gt y206.1 m) t) = 18446744073709551615))) ?_
  refine q_ (.bool (decide ((gt (gt y206.1 m) t) = 18446744073709551615))) ?_
  refine s_nil ?_
  obtain rfl := Option.some.inj r470
  exact k429 _ _ ⟨ha_, rfl⟩
 obtain ⟨hh430, rfl⟩ := hM
 obtain ⟨β, rfl⟩ := has_ex hh430
 clear hh430
 refine k423 _ _ ?_
 refine w_cond (o424) (by kernel_rfl) rfl (fun h471 => ?_) (fun h471 => ?_)
 ·have r472 := ite_t h471 r426
  refine w_seqk fun _ k473 => ?_
  refine g_' ?_
  refine q_ (.bool true) ?_
  refine s_nil (k473 _ _ ?_)
  refine w_ret (th_ret ?_)
  refine b_ret (fn := Try.f3) (vs := [.bool true]) (aRes_tmp (by kernel_rfl) (rfl)) ?_
  obtain rfl := Option.some.inj r472
  exact ⟨rfl, (FrS.step wf (FrS.step wf (FrS.step wf ((FrS.step wf (FrS.step wf (FrS.step wf ((FrS.step wf (FrS.step wf (FrS.step wf ((FrS.step wf ((FrS.step wf (((FrS.refl (W := []) wf).extR e4).extR e12) e31 Inn.nil).extR e61) e67 (hb62.fresh (ntr (ntr e4.next e12.next) e31.next))).extR e77) e93 Inn.nil) e126 Inn.nil) e161 Inn.nil).extR e191) e197 (hb192.fresh (ntr (ntr (ntr (ntr (ntr (ntr (ntr (ntr e4.next e12.next) e31.next) e61.next) e67.next) e77.next) e93.next) e126.next) e161.next))) e214 Inn.nil) e231 Inn.nil).extR e275) e287 (hf276.fresh (ntr (ntr (ntr (ntr (ntr (ntr (ntr (ntr (ntr (ntr (ntr (ntr e4.next e12.next) e31.next) e61.next) e67.next) e77.next) e93.next) e126.next) e161.next) e191.next) e197.next) e214.next) e231.next))) e355 Inn.nil) e372 Inn.nil)⟩
 have r474 := ite_bf h471 r426
 refine w_skip ?_
 refine k422 _ _ ?_
 refine w_seqk fun _ k475 => ?_
 refine g_' ?_
 have u476 := (u362.frS e372 Dj.nil_l)
 refine l_' (.agg #[.slice a180 n181 c182, .slice a183 n184 c185, .slice a186 n187 c188]) (aLoad Try.prog 27 (pt_ b189 0) H371) (u476.ld (by kernel_rfl)) ?_
 refine q_ (i_ s) ?_
 refine q_ (i_ m) ?_
 have u477 := (u363.fr e372 Dj.nil_l)
 have u478 := (u364.fr e372 Dj.nil_l)
 have u479 := (u365.fr e372 Dj.nil_l)
 obtain ⟨y480, hy481, r482⟩ := bind_some r474
 refine s_ck 15 #[.agg #[.slice a180 n181 c182, .slice a183 n184 c185, .slice a186 n187 c188], i_ s, i_ m] (by kernel_rfl) (c_search_Path e372.wf u477.sq u478.sq u479.sq hy481) ?_
 rintro _ H487 ⟨s483, f484, v485, f486, rfl, e488, m489, m490, i491, i492, d493⟩
 obtain ⟨a496, n497, c498, rfl⟩ := m489.form
 refine q_ (.tuple #[.slice a496 n497 c498, v485]) ?_
 refine q_ (.slice a496 n497 c498) ?_
 refine q_ (v485) ?_
 refine q_ (.slice a496 n497 c498) ?_
 refine q_ (v485) ?_
 refine s_nil (k475 _ _ ?_)
 refine w_seqk fun _ k499 => ?_
 refine g_' ?_
 have u500 := (u476.frS e488 Dj.nil_l)
 refine l_' (.agg #[.slice a180 n181 c182, .slice a183 n184 c185, .slice a186 n187 c188]) (aLoad Try.prog 27 (pt_ b189 0) H487) (u500.ld (by kernel_rfl)) ?_
 refine q_ (i_ m) ?_
 refine q_ (i_ t) ?_
 have u501 := (u477.fr e488 Dj.nil_l)
 have u502 := (u478.fr e488 Dj.nil_l)
 have u503 := (u479.fr e488 Dj.nil_l)
 obtain ⟨y504, hy505, r506⟩ := bind_some r482
 refine s_ck 15 #[.agg #[.slice a180 n181 c182, .slice a183 n184 c185, .slice a186 n187 c188], i_ m, i_ t] (by kernel_rfl) (c_search_Path e488.wf u501.sq u502.sq u503.sq hy505) ?_
 rintro _ H511 ⟨s507, f508, v509, f510, rfl, e512, m513, m514, i515, i516, d517⟩
 obtain ⟨a520, n521, c522, rfl⟩ := m513.form
 refine q_ (.tuple #[.slice a520 n521 c522, v509]) ?_
 refine q_ (.slice a520 n521 c522) ?_
 refine q_ (v509) ?_
 refine q_ (.slice a520 n521 c522) ?_
 refine q_ (v509) ?_
 refine s_nil (k499 _ _ ?_)
 refine w_seqk fun _ k523 => ?_
 refine w_seqk fun _ k524 => ?_
 obtain ⟨o525, hx526, r527⟩ := bind_some r506
 refine w_mid (fun α H528 => Has α [(2, i_ s), (3, i_ m), (4, i_ t), (15, pt_ b189 0), (16, .slice a222 n223 c224), (22, .slice a496 n497 c498), (23, .slice a520 n521 c522), (180, .bool o525)] ∧ H511 = H528) (fun _ k530 => ?_) (fun α H528 hM => ?_)
 ·refine g_' ?_
  refine q_ (v485) ?_
  have u535 := (m490.fr e512 Dj.nil_l)
  rcases (u535).cases with ⟨h532, rfl⟩ | ⟨h532, t533, x534, rfl⟩
  ·have r536 := ite_t h532 hx526
   refine q_ (.bool false) ?_
   refine q_ (.bool false) ?_
   refine q_ (v509) ?_
   rcases (m514).cases with ⟨h537, rfl⟩ | ⟨h537, t538, x539, rfl⟩
   ·have r540 := ite_t h537 r536
    refine q_ (.bool false) ?_
    refine q_ (.bool false) ?_
    refine s_nil ?_
    obtain rfl := Option.some.inj r540
    exact k530 _ _ ⟨ha_, rfl⟩
   have r541 := ite_f h537 r536
   refine l_' (.bool true) (aBin Try.prog .neq 29 (.tmp 178) (.const .nilIface) (.iface t538 x539) .nilIface) (aBin_nnil (by kernel_rfl)) ?_
   refine q_ (.bool true) ?_
   refine s_nil ?_
   obtain rfl := Option.some.inj r541
   exact k530 _ _ ⟨ha_, rfl⟩
  have r542 := ite_f h532 hx526
  refine l_' (.bool true) (aBin Try.prog .neq 29 (.tmp 175) (.const .nilIface) (.iface t533 x534) .nilIface) (aBin_nnil (by kernel_rfl)) ?_
  refine q_ (.bool true) ?_
  refine n_' ?_
  refine n_' ?_
  refine q_ (.bool true) ?_
  refine s_nil ?_
  obtain rfl := Option.some.inj r542
  exact k530 _ _ ⟨ha_, rfl⟩
 obtain ⟨hh531, rfl⟩ := hM
 obtain ⟨β, rfl⟩ := has_ex hh531
 clear hh531
 refine k524 _ _ ?_
 refine w_cond (o525) (by kernel_rfl) rfl (fun h543 => ?_) (fun h543 => ?_)
 ·have r544 := ite_t h543 r527
  refine w_seqk fun _ k545 => ?_
  refine g_' ?_
  refine q_ (.bool false) ?_
  refine s_nil (k545 _ _ ?_)
  refine w_ret (th_ret ?_)
  refine b_ret (fn := Try.f3) (vs := [.bool false]) (aRes_tmp (by kernel_rfl) (rfl)) ?_
  obtain rfl := Option.some.inj r544
  exact ⟨rfl, (FrS.step wf (FrS.step wf (FrS.step wf (FrS.step wf (FrS.step wf ((FrS.step wf (FrS.step wf (FrS.step wf ((FrS.step wf (FrS.step wf (FrS.step wf ((FrS.step wf ((FrS.step wf (((FrS.refl (W := []) wf).extR e4).extR e12) e31 Inn.nil).extR e61) e67 (hb62.fresh (ntr (ntr e4.next e12.next) e31.next))).extR e77) e93 Inn.nil) e126 Inn.nil) e161 Inn.nil).extR e191) e197 (hb192.fresh (ntr (ntr (ntr (ntr (ntr (ntr (ntr (ntr e4.next e12.next) e31.next) e61.next) e67.next) e77.next) e93.next) e126.next) e161.next))) e214 Inn.nil) e231 Inn.nil).extR e275) e287 (hf276.fresh (ntr (ntr (ntr (ntr (ntr (ntr (ntr (ntr (ntr (ntr (ntr (ntr e4.next e12.next) e31.next) e61.next) e67.next) e77.next) e93.next) e126.next) e161.next) e191.next) e197.next) e214.next) e231.next))) e355 Inn.nil) e372 Inn.nil) e488 Inn.nil) e512 Inn.nil)⟩
 have r546 := ite_bf h543 r527
 refine w_skip ?_
 refine k523 _ _ ?_
 refine w_seqk fun _ k547 => ?_
 refine g_' ?_
 have u548 := (u500.frS e512 Dj.nil_l)
 refine l_' (.agg #[.slice a180 n181 c182, .slice a183 n184 c185, .slice a186 n187 c188]) (aLoad Try.prog 27 (pt_ b189 0) H511) (u548.ld (by kernel_rfl)) ?_
 refine q_ (.slice a496 n497 c498) ?_
 have u549 := (u501.fr e512 Dj.nil_l)
 have u550 := (u502.fr e512 Dj.nil_l)
 have u551 := (u503.fr e512 Dj.nil_l)
 have u552 := (m489.fr e512 Dj.nil_l)
 obtain ⟨y553, hy554, r555⟩ := bind_some r546
 refine s_ck 9 #[.agg #[.slice a180 n181 c182, .slice a183 n184 c185, .slice a186 n187 c188], .slice a496 n497 c498] (by kernel_rfl) (c_walk_Length e512.wf u549.sq u550.sq u551.sq u552.sq hy554) ?_
 rintro _ H558 ⟨v556, f557, rfl, e559, m560, i561⟩
 refine q_ (.tuple #[.int .u64 y553.1, v556]) ?_
 refine q_ (.int .u64 y553.1) ?_
 refine q_ (v556) ?_
 refine q_ (.int .u64 y553.1) ?_
 refine q_ (v556) ?_
 refine s_nil (k547 _ _ ?_)
 refine w_seqk fun _ k563 => ?_
 refine g_' ?_
 have u564 := (u548.frS e559 Dj.nil_l)
 refine l_' (.agg #[.slice a180 n181 c182, .slice a183 n184 c185, .slice a186 n187 c188]) (aLoad Try.prog 27 (pt_ b189 0) H558) (u564.ld (by kernel_rfl)) ?_
 refine q_ (.slice a520 n521 c522) ?_
 have u565 := (u549.fr e559 Dj.nil_l)
 have u566 := (u550.fr e559 Dj.nil_l)
 have u567 := (u551.fr e559 Dj.nil_l)
 have u568 := (m513.fr e559 Dj.nil_l)
 obtain ⟨y569, hy570, r571⟩ := bind_some r555
 refine s_ck 9 #[.agg #[.slice a180 n181 c182, .slice a183 n184 c185, .slice a186 n187 c188], .slice a520 n521 c522] (by kernel_rfl) (c_walk_Length e559.wf u565.sq u566.sq u567.sq u568.sq hy570) ?_
 rintro _ H574 ⟨v572, f573, rfl, e575, m576, i577⟩
 refine q_ (.tuple #[.int .u64 y569.1, v572]) ?_
 refine q_ (.int .u64 y569.1) ?_
 refine q_ (v572) ?_
 refine q_ (.int .u64 y569.1) ?_
 refine q_ (v572) ?_
 refine s_nil (k563 _ _ ?_)
 refine w_seqk fun _ k579 => ?_
 refine g_' ?_
 refine q_ (.slice a496 n497 c498) ?_
 refine q_ (.slice a520 n521 c522) ?_
 have u580 := ((u552.fr e559 Dj.nil_l).fr e575 Dj.nil_l)
 have u581 := (u568.fr e575 Dj.nil_l)
 obtain ⟨y582, hy583, r584⟩ := bind_some r571
 refine s_ck 16 #[.slice a496 n497 c498, .slice a520 n521 c522] (by kernel_rfl) (c_walk_Join e575.wf u580.sq u581.sq hy583) ?_
 rintro _ H589 ⟨s585, f586, v587, f588, rfl, e590, m591, m592, i593, i594, d595⟩
 obtain ⟨a598, n599, c600, rfl⟩ := m591.form
 refine q_ (.tuple #[.slice a598 n599 c600, v587]) ?_
 refine q_ (.slice a598 n599 c600) ?_
 refine q_ (v587) ?_
 refine q_ (.slice a598 n599 c600) ?_
 refine q_ (v587) ?_
 refine s_nil (k579 _ _ ?_)
 refine w_seqk fun _ k601 => ?_
 refine g_' ?_
 have u602 := ((u564.frS e575 Dj.nil_l).frS e590 Dj.nil_l)
 refine l_' (.agg #[.slice a180 n181 c182, .slice a183 n184 c185, .slice a186 n187 c188]) (aLoad Try.prog 27 (pt_ b189 0) H589) (u602.ld (by kernel_rfl)) ?_
 refine q_ (.slice a598 n599 c600) ?_
 have u603 := ((u565.fr e575 Dj.nil_l).fr e590 Dj.nil_l)
 have u604 := ((u566.fr e575 Dj.nil_l).fr e590 Dj.nil_l)
 have u605 := ((u567.fr e575 Dj.nil_l).fr e590 Dj.nil_l)
 obtain ⟨y606, hy607, r608⟩ := bind_some r584
 refine s_ck 9 #[.agg #[.slice a180 n181 c182, .slice a183 n184 c185, .slice a186 n187 c188], .slice a598 n599 c600] (by kernel_rfl) (c_walk_Length e590.wf u603.sq u604.sq u605.sq m591.sq hy607) ?_
 rintro _ H611 ⟨v609, f610, rfl, e612, m613, i614⟩
 refine q_ (.tuple #[.int .u64 y606.1, v609]) ?_
 refine q_ (.int .u64 y606.1) ?_
 refine q_ (v609) ?_
 refine q_ (.int .u64 y606.1) ?_
 refine q_ (v609) ?_
 refine s_nil (k601 _ _ ?_)
 refine w_seqk fun _ k616 => ?_
 refine g_' ?_
 refine q_ (.slice a598 n599 c600) ?_
 have u617 := (m591.fr e612 Dj.nil_l)
 obtain ⟨y618, hy619, r620⟩ := bind_some r608
 refine s_ck 17 #[.slice a598 n599 c600] (by kernel_rfl) (c_walk_Simple e612.wf u617.sq hy619) ?_
 rintro s621 H623 ⟨_, f622, rfl, e624, m625, i626⟩
 obtain ⟨a628, n629, c630, rfl⟩ := m625.form
 refine q_ (.slice a628 n629 c630) ?_
 refine s_nil (k616 _ _ ?_)
 refine w_seqk fun _ k631 => ?_
 refine g_' ?_
 have u632 := ((u602.frS e612 Dj.nil_l).frS e624 Dj.nil_l)
 refine l_' (.agg #[.slice a180 n181 c182, .slice a183 n184 c185, .slice a186 n187 c188]) (aLoad Try.prog 27 (pt_ b189 0) H623) (u632.ld (by kernel_rfl)) ?_
 refine q_ (.slice a628 n629 c630) ?_
 have u633 := ((u603.fr e612 Dj.nil_l).fr e624 Dj.nil_l)
 have u634 := ((u604.fr e612 Dj.nil_l).fr e624 Dj.nil_l)
 have u635 := ((u605.fr e612 Dj.nil_l).fr e624 Dj.nil_l)
 obtain ⟨y636, hy637, r638⟩ := bind_some r620
 refine s_ck 9 #[.agg #[.slice a180 n181 c182, .slice a183 n184 c185, .slice a186 n187 c188], .slice a628 n629 c630] (by kernel_rfl) (c_walk_Length e624.wf u633.sq u634.sq u635.sq m625.sq hy637) ?_
 rintro _ H641 ⟨v639, f640, rfl, e642, m643, i644⟩
 refine q_ (.tuple #[.int .u64 y636.1, v639]) ?_
 refine q_ (.int .u64 y636.1) ?_
 refine q_ (v639) ?_
 refine q_ (.int .u64 y636.1) ?_
 refine q_ (v639) ?_
 refine s_nil (k631 _ _ ?_)
 refine w_seqk fun _ k646 => ?_
 refine g_' ?_
 have u647 := (u632.frS e642 Dj.nil_l)
 refine l_' (.agg #[.slice a180 n181 c182, .slice a183 n184 c185, .slice a186 n187 c188]) (aLoad Try.prog 27 (pt_ b189 0) H641) (u647.ld (by kernel_rfl)) ?_
 refine q_ (.slice a496 n497 c498) ?_
 have u648 := (u633.fr e642 Dj.nil_l)
 have u649 := (u634.fr e642 Dj.nil_l)
 have u650 := (u635.fr e642 Dj.nil_l)
 have u651 := ((((u580.fr e590 Dj.nil_l).fr e612 Dj.nil_l).fr e624 Dj.nil_l).fr e642 Dj.nil_l)
 obtain ⟨y652, hy653, r654⟩ := bind_some r638
 refine s_ck 18 #[.agg #[.slice a180 n181 c182, .slice a183 n184 c185, .slice a186 n187 c188], .slice a496 n497 c498] (by kernel_rfl) (c_walk_Shortest e642.wf u648.sq u649.sq u650.sq u651.sq hy653) ?_
 rintro _ H657 ⟨v655, f656, rfl, e658, m659, i660⟩
 refine q_ (.tuple #[.bool y652.1, v655]) ?_
 refine q_ (.bool y652.1) ?_
 refine q_ (v655) ?_
 refine q_ (.bool y652.1) ?_
 refine q_ (v655) ?_
 refine s_nil (k646 _ _ ?_)
 refine w_seqk fun _ k662 => ?_
 refine w_seqk fun _ k663 => ?_
 obtain ⟨o664, hx665, r666⟩ := bind_some r654
 refine w_mid (fun α H667 => Has α [(22, .slice a496 n497 c498), (23, .slice a520 n521 c522), (289, .bool o664)] ∧ H657 = H667) (fun _ k669 => ?_) (fun α H667 hM => ?_)
 ·refine g_' ?_
  refine q_ (v556) ?_
  have u674 := ((((((m560.fr e575 Dj.nil_l).fr e590 Dj.nil_l).fr e612 Dj.nil_l).fr e624 Dj.nil_l).fr e642 Dj.nil_l).fr e658 Dj.nil_l)
  rcases (u674).cases with ⟨h671, rfl⟩ | ⟨h671, t672, x673, rfl⟩
  ·have r675 := ite_t h671 hx665
   refine q_ (.bool false) ?_
   refine q_ (.bool false) ?_
   refine q_ (v572) ?_
   have u679 := (((((m576.fr e590 Dj.nil_l).fr e612 Dj.nil_l).fr e624 Dj.nil_l).fr e642 Dj.nil_l).fr e658 Dj.nil_l)
   rcases (u679).cases with ⟨h676, rfl⟩ | ⟨h676, t677, x678, rfl⟩
   ·have r680 := ite_t h676 r675
    refine q_ (.bool false) ?_
    refine q_ (.bool false) ?_
    refine q_ (.bool false) ?_
    refine q_ (v587) ?_
    have u684 := ((((m592.fr e612 Dj.nil_l).fr e624 Dj.nil_l).fr e642 Dj.nil_l).fr e658 Dj.nil_l)
    rcases (u684).cases with ⟨h681, rfl⟩ | ⟨h681, t682, x683, rfl⟩
    ·have r685 := ite_t h681 r680
     refine q_ (.bool false) ?_
     refine q_ (.bool false) ?_
     refine q_ (.bool false) ?_
     refine q_ (v609) ?_
     have u689 := (((m613.fr e624 Dj.nil_l).fr e642 Dj.nil_l).fr e658 Dj.nil_l)
     rcases (u689).cases with ⟨h686, rfl⟩ | ⟨h686, t687, x688, rfl⟩
     ·have r690 := ite_t h686 r685
      refine q_ (.bool false) ?_
      refine q_ (.bool false) ?_
      refine q_ (.bool false) ?_
      refine q_ (v639) ?_
      have u694 := (m643.fr e658 Dj.nil_l)
      rcases (u694).cases with ⟨h691, rfl⟩ | ⟨h691, t692, x693, rfl⟩
      ·have r695 := ite_t h691 r690
       refine q_ (.bool false) ?_
       refine q_ (.bool false) ?_
       refine q_ (.bool false) ?_
       refine q_ (v655) ?_
       rcases (m659).cases with ⟨h696, rfl⟩ | ⟨h696, t697, x698, rfl⟩
       ·have r699 := ite_t h696 r695
        refine q_ (.bool false) ?_
        refine q_ (.bool false) ?_
        refine q_ (.bool false) ?_
        refine q_ (.bool y652.1) ?_
        refine q_ (.bool (!y652.1)) ?_
        refine q_ (.bool (!y652.1)) ?_
        refine q_ (.bool (!y652.1)) ?_
        by_cases h700 : (!y652.1) = true
        ·have r701 := ite_t h700 r699
         rw [h700]
         refine n_' ?_
         refine n_' ?_
         refine n_' ?_
         refine n_' ?_
         refine n_' ?_
         refine n_' ?_
         refine n_' ?_
         refine n_' ?_
         refine n_' ?_
         refine q_ (.bool true) ?_
         refine q_ (.bool true) ?_
         refine n_' ?_
         refine n_' ?_
         refine n_' ?_
         refine n_' ?_
         refine n_' ?_
         refine n_' ?_
         refine n_' ?_
         refine n_' ?_
         refine n_' ?_
         refine q_ (.bool true) ?_
         refine q_ (.bool true) ?_
         refine n_' ?_
         refine n_' ?_
         refine n_' ?_
         refine n_' ?_
         refine n_' ?_
         refine q_ (.bool true) ?_
         refine q_ (.bool true) ?_
         refine n_' ?_
         refine n_' ?_
         refine n_' ?_
         refine q_ (.bool true) ?_
         refine q_ (.bool true) ?_
         refine n_' ?_
         refine n_' ?_
         refine n_' ?_
         refine n_' ?_
         refine n_' ?_
         refine n_' ?_
         refine n_' ?_
         refine n_' ?_
         refine n_' ?_
         refine q_ (.bool true) ?_
         refine s_nil ?_
         obtain rfl := Option.some.inj r701
         exact k669 _ _ ⟨ha_, rfl⟩
        have r702 := ite_f h700 r699
        rw [nb h700]
        refine q_ (.int .u64 y553.1) ?_
        refine q_ (.slice a222 n223 c224) ?_
        refine q_ (i_ s) ?_
        obtain ⟨g703, r704⟩ := G_some r702
        have u705 := ((((((((((((((m215.fr e231 Dj.nil_l).ext e275).fr e287 (hf276.djn (m215.lt.le e231.next))).fr e355 Dj.nil_l).fr e372 Dj.nil_l).fr e488 Dj.nil_l).fr e512 Dj.nil_l).fr e559 Dj.nil_l).fr e575 Dj.nil_l).fr e590 Dj.nil_l).fr e612 Dj.nil_l).fr e624 Dj.nil_l).fr e642 Dj.nil_l).fr e658 Dj.nil_l)
        refine l_' (elp (.slice a222 n223 c224) 1 s.toNat 0) (aIndexAddr Try.prog 38 (.slice a222 n223 c224) (i_ s)) (u705.idxb (by kernel_rfl) g703.1 g703.2) ?_
        obtain ⟨cs706, f707, hk708, hs709, hl710, hq711⟩ := u705.kid g703.1 g703.2
        obtain ⟨s712, rfl, ho714⟩ := cr_sl_open hk708
        have kd715 : KdS (encI .u64) 1 H657 s712 (gt y206.1 s) f210 (.slice a222 n223 c224) 1 s.toNat 0 := ⟨ho714.sq.up hs709 u705.lt, hq711 0 _ rfl (by decide)⟩
        obtain ⟨a716, n717, c718, rfl⟩ := kd715.sq.form
        refine l_' (.slice a716 n717 c718) (aLoad Try.prog 44 (elp (.slice a222 n223 c224) 1 s.toNat 0) H657) (hl710 _ _ _ _ (by kernel_rfl)) ?_
        refine q_ (i_ m) ?_
        obtain ⟨g720, r721⟩ := G_some r704
        refine l_' (elp (.slice a716 n717 c718) 1 m.toNat 0) (aIndexAddr Try.prog 44 (.slice a716 n717 c718) (i_ m)) (kd715.sq.idxb (by kernel_rfl) g720.1 g720.2) ?_
        refine l_' (.int .u64 (gt (gt y206.1 s) m)) (aLoad Try.prog 34 (elp (.slice a716 n717 c718) 1 m.toNat 0) H657) (kd715.sq.ld g720.1 g720.2 (by kernel_rfl)) ?_
        refine s_bn (y553.1 = (gt (gt y206.1 s) m)) (by kernel_rfl) (fun h722 => ?_) (fun h722 => ?_)
        ·have r723 := ite_t h722 r721
         refine q_ (.bool false) ?_
         refine q_ (.bool false) ?_
         refine q_ (.int .u64 y569.1) ?_
         refine q_ (.slice a222 n223 c224) ?_
         refine q_ (i_ m) ?_
         obtain ⟨g724, r725⟩ := G_some r723
         refine l_' (elp (.slice a222 n223 c224) 1 m.toNat 0) (aIndexAddr Try.prog 38 (.slice a222 n223 c224) (i_ m)) (u705.idxb (by kernel_rfl) g720.1 g724) ?_
         obtain ⟨cs726, f727, hk728, hs729, hl730, hq731⟩ := u705.kid g720.1 g724
         obtain ⟨s732, rfl, ho734⟩ := cr_sl_open hk728
         have kd735 : KdS (encI .u64) 1 H657 s732 (gt y206.1 m) f210 (.slice a222 n223 c224) 1 m.toNat 0 := ⟨ho734.sq.up hs729 u705.lt, hq731 0 _ rfl (by decide)⟩
         obtain ⟨a736, n737, c738, rfl⟩ := kd735.sq.form
         refine l_' (.slice a736 n737 c738) (aLoad Try.prog 44 (elp (.slice a222 n223 c224) 1 m.toNat 0) H657) (hl730 _ _ _ _ (by kernel_rfl)) ?_
         refine q_ (i_ t) ?_
         obtain ⟨g740, r741⟩ := G_some r725
         refine l_' (elp (.slice a736 n737 c738) 1 t.toNat 0) (aIndexAddr Try.prog 44 (.slice a736 n737 c738) (i_ t)) (kd735.sq.idxb (by kernel_rfl) g740.1 g740.2) ?_
         refine l_' (.int .u64 (gt (gt y206.1 m) t)) (aLoad Try.prog 34 (elp (.slice a736 n737 c738) 1 t.toNat 0) H657) (kd735.sq.ld g740.1 g740.2 (by kernel_rfl)) ?_
         refine s_bn (y569.1 = (gt (gt y206.1 m) t)) (by kernel_rfl) (fun h742 => ?_) (fun h742 => ?_)
         ·have r743 := ite_t h742 r741
          refine q_ (.bool false) ?_
          refine q_ (.bool false) ?_
          refine q_ (.int .u64 y606.1) ?_
          refine q_ (.int .u64 y553.1) ?_
          refine q_ (.int .u64 y569.1) ?_
          obtain ⟨g744, r745⟩ := G_some r743
          refine s_w ((y553.1 + y569.1)) (k := .u64) (x := (y553.1 + y569.1)) (by kernel_rfl) (wrapu64 g744) ?_
          refine s_bn (y606.1 = (y553.1 + y569.1)) (by kernel_rfl) (fun h746 => ?_) (fun h746 => ?_)
          ·have r747 := ite_t h746 r745
           refine q_ (.bool false) ?_
           refine q_ (.bool false) ?_
           refine q_ (.int .u64 y636.1) ?_
           refine q_ (.int .u64 y606.1) ?_
           refine s_b (y636.1 > y606.1) (by kernel_rfl) (fun h748 => ?_) (fun h748 => ?_)
           ·have r749 := ite_t h748 r747
            refine q_ (.bool true) ?_
            refine q_ (.bool true) ?_
            refine n_' ?_
            refine n_' ?_
            refine n_' ?_
            refine n_' ?_
            refine n_' ?_
            refine n_' ?_
            refine n_' ?_
            refine n_' ?_
            refine n_' ?_
            refine q_ (.bool true) ?_
            refine s_nil ?_
            obtain rfl := Option.some.inj r749
            exact k669 _ _ ⟨ha_, rfl⟩
           have r750 := ite_f h748 r747
           refine q_ (.bool false) ?_
           refine q_ (.bool false) ?_
           refine q_ (.int .u64 y636.1) ?_
           refine q_ (.slice a222 n223 c224) ?_
           refine q_ (i_ s) ?_
           refine l_' (elp (.slice a222 n223 c224) 1 s.toNat 0) (aIndexAddr Try.prog 38 (.slice a222 n223 c224) (i_ s)) (u705.idxb (by kernel_rfl) g703.1 g703.2) ?_
           obtain ⟨cs751, f752, hk753, hs754, hl755, hq756⟩ := u705.kid g703.1 g703.2
           obtain ⟨s757, rfl, ho759⟩ := cr_sl_open hk753
           have kd760 : KdS (encI .u64) 1 H657 s757 (gt y206.1 s) f210 (.slice a222 n223 c224) 1 s.toNat 0 := ⟨ho759.sq.up hs754 u705.lt, hq756 0 _ rfl (by decide)⟩
           obtain ⟨a761, n762, c763, rfl⟩ := kd760.sq.form
           refine l_' (.slice a761 n762 c763) (aLoad Try.prog 44 (elp (.slice a222 n223 c224) 1 s.toNat 0) H657) (hl755 _ _ _ _ (by kernel_rfl)) ?_
           refine q_ (i_ t) ?_
           obtain ⟨g765, r766⟩ := G_some r750
           refine l_' (elp (.slice a761 n762 c763) 1 t.toNat 0) (aIndexAddr Try.prog 44 (.slice a761 n762 c763) (i_ t)) (kd760.sq.idxb (by kernel_rfl) g740.1 g765) ?_
           refine l_' (.int .u64 (gt (gt y206.1 s) t)) (aLoad Try.prog 34 (elp (.slice a761 n762 c763) 1 t.toNat 0) H657) (kd760.sq.ld g740.1 g765 (by kernel_rfl)) ?_
           refine q_ (.bool (decide (y636.1 < (gt (gt y206.1 s) t)))) ?_
           refine q_ (.bool (decide (y636.1 < (gt (gt y206.1 s) t)))) ?_
           refine s_nil ?_
           obtain rfl := Option.some.inj r766
           exact k669 _ _ ⟨ha_, rfl⟩
          have r767 := ite_f h746 r745
          refine q_ (.bool true) ?_
          refine q_ (.bool true) ?_
          refine n_' ?_
          refine n_' ?_
          refine n_' ?_
          refine q_ (.bool true) ?_
          refine q_ (.bool true) ?_
          refine n_' ?_
          refine n_' ?_
          refine n_' ?_
          refine n_' ?_
          refine n_' ?_
          refine n_' ?_
          refine n_' ?_
          refine n_' ?_
          refine n_' ?_
          refine q_ (.bool true) ?_
          refine s_nil ?_
          obtain rfl := Option.some.inj r767
          exact k669 _ _ ⟨ha_, rfl⟩
         have r768 := ite_f h742 r741
         refine q_ (.bool true) ?_
         refine q_ (.bool true) ?_
         refine n_' ?_
         refine n_' ?_
         refine n_' ?_
         refine n_' ?_
         refine n_' ?_
         refine q_ (.bool true) ?_
         refine q_ (.bool true) ?_
         refine n_' ?_
         refine n_' ?_
         refine n_' ?_
         refine q_ (.bool true) ?_
         refine q_ (.bool true) ?_
         refine n_' ?_
         refine n_' ?_
         refine n_' ?_
         refine n_' ?_
         refine n_' ?_
         refine n_' ?_
         refine n_' ?_
         refine n_' ?_
         refine n_' ?_
         refine q_ (.bool true) ?_
         refine s_nil ?_
         obtain rfl := Option.some.inj r768
         exact k669 _ _ ⟨ha_, rfl⟩
        have r769 := ite_f h722 r721
        refine q_ (.bool true) ?_
        refine q_ (.bool true) ?_
        refine n_' ?_
        refine n_' ?_
        refine n_' ?_
        refine n_' ?_
        refine n_' ?_
        refine n_' ?_
        refine n_' ?_
        refine n_' ?_
        refine n_' ?_
        refine q_ (.bool true) ?_
        refine q_ (.bool true) ?_
        refine n_' ?_
        refine n_' ?_
        refine n_' ?_
        refine n_' ?_
        refine n_' ?_
        refine q_ (.bool true) ?_
        refine q_ (.bool true) ?_
        refine n_' ?_
        refine n_' ?_
        refine n_' ?_
        refine q_ (.bool true) ?_
        refine q_ (.bool true) ?_
        refine n_' ?_
        refine n_' ?_
        refine n_' ?_
        refine n_' ?_
        refine n_' ?_
        refine n_' ?_
        refine n_' ?_
        refine n_' ?_
        refine n_' ?_
        refine q_ (.bool true) ?_
        refine s_nil ?_
        obtain rfl := Option.some.inj r769
        exact k669 _ _ ⟨ha_, rfl⟩
       have r770 := ite_f h696 r695
       refine l_' (.bool true) (aBin Try.prog .neq 29 (.tmp 238) (.const .nilIface) (.iface t697 x698) .nilIface) (aBin_nnil (by kernel_rfl)) ?_
       refine q_ (.bool true) ?_
       refine q_ (.bool true) ?_
       refine n_' ?_
       refine n_' ?_
       refine q_ (.bool true) ?_
       refine q_ (.bool true) ?_
       refine n_' ?_
       refine n_' ?_
       refine n_' ?_
       refine n_' ?_
       refine n_' ?_
       refine n_' ?_
       refine n_' ?_
       refine n_' ?_
       refine n_' ?_
       refine q_ (.bool true) ?_
       refine q_ (.bool true) ?_
       refine n_' ?_
       refine n_' ?_
       refine n_' ?_
       refine n_' ?_
       refine n_' ?_
       refine n_' ?_
       refine n_' ?_
       refine n_' ?_
       refine n_' ?_
       refine q_ (.bool true) ?_
       refine q_ (.bool true) ?_
       refine n_' ?_
       refine n_' ?_
       refine n_' ?_
       refine n_' ?_
       refine n_' ?_
       refine q_ (.bool true) ?_
       refine q_ (.bool true) ?_
       refine n_' ?_
       refine n_' ?_
       refine n_' ?_
       refine q_ (.bool true) ?_
       refine q_ (.bool true) ?_
       refine n_' ?_
       refine n_' ?_
       refine n_' ?_
       refine n_' ?_
       refine n_' ?_
       refine n_' ?_
       refine n_' ?_
       refine n_' ?_
       refine n_' ?_
       refine q_ (.bool true) ?_
       refine s_nil ?_
       obtain rfl := Option.some.inj r770
       exact k669 _ _ ⟨ha_, rfl⟩
      have r771 := ite_f h691 r690
      refine l_' (.bool true) (aBin Try.prog .neq 29 (.tmp 234) (.const .nilIface) (.iface t692 x693) .nilIface) (aBin_nnil (by kernel_rfl)) ?_
      refine q_ (.bool true) ?_
      refine q_ (.bool true) ?_
      refine n_' ?_
      refine n_' ?_
      refine q_ (.bool true) ?_
      refine q_ (.bool true) ?_
      refine n_' ?_
      refine n_' ?_
      refine q_ (.bool true) ?_
      refine q_ (.bool true) ?_
      refine n_' ?_
      refine n_' ?_
      refine n_' ?_
      refine n_' ?_
      refine n_' ?_
      refine n_' ?_
      refine n_' ?_
      refine n_' ?_
      refine n_' ?_
      refine q_ (.bool true) ?_
      refine q_ (.bool true) ?_
      refine n_' ?_
      refine n_' ?_
      refine n_' ?_
      refine n_' ?_
      refine n_' ?_
      refine n_' ?_
      refine n_' ?_
      refine n_' ?_
      refine n_' ?_
      refine q_ (.bool true) ?_
      refine q_ (.bool true) ?_
      refine n_' ?_
      refine n_' ?_
      refine n_' ?_
      refine n_' ?_
      refine n_' ?_
      refine q_ (.bool true) ?_
      refine q_ (.bool true) ?_
      refine n_' ?_
      refine n_' ?_
      refine n_' ?_
      refine q_ (.bool true) ?_
      refine q_ (.bool true) ?_
      refine n_' ?_
      refine n_' ?_
      refine n_' ?_
      refine n_' ?_
      refine n_' ?_
      refine n_' ?_
      refine n_' ?_
      refine n_' ?_
      refine n_' ?_
      refine q_ (.bool true) ?_
      refine s_nil ?_
      obtain rfl := Option.some.inj r771
      exact k669 _ _ ⟨ha_, rfl⟩
     have r772 := ite_f h686 r685
     refine l_' (.bool true) (aBin Try.prog .neq 29 (.tmp 230) (.const .nilIface) (.iface t687 x688) .nilIface) (aBin_nnil (by kernel_rfl)) ?_
     refine q_ (.bool true) ?_
     refine q_ (.bool true) ?_
     refine n_' ?_
     refine n_' ?_
     refine q_ (.bool true) ?_
     refine q_ (.bool true) ?_
     refine n_' ?_
     refine n_' ?_
     refine q_ (.bool true) ?_
     refine q_ (.bool true) ?_
     refine n_' ?_
     refine n_' ?_
     refine q_ (.bool true) ?_
     refine q_ (.bool true) ?_
     refine n_' ?_
     refine n_' ?_
     refine n_' ?_
     refine n_' ?_
     refine n_' ?_
     refine n_' ?_
     refine n_' ?_
     refine n_' ?_
     refine n_' ?_
     refine q_ (.bool true) ?_
     refine q_ (.bool true) ?_
     refine n_' ?_
     refine n_' ?_
     refine n_' ?_
     refine n_' ?_
     refine n_' ?_
     refine n_' ?_
     refine n_' ?_
     refine n_' ?_
     refine n_' ?_
     refine q_ (.bool true) ?_
     refine q_ (.bool true) ?_
     refine n_' ?_
     refine n_' ?_
     refine n_' ?_
     refine n_' ?_
     refine n_' ?_
     refine q_ (.bool true) ?_
     refine q_ (.bool true) ?_
     refine n_' ?_
     refine n_' ?_
     refine n_' ?_
     refine q_ (.bool true) ?_
     refine q_ (.bool true) ?_
     refine n_' ?_
     refine n_' ?_
     refine n_' ?_
     refine n_' ?_
     refine n_' ?_
     refine n_' ?_
     refine n_' ?_
     refine n_' ?_
     refine n_' ?_
     refine q_ (.bool true) ?_
     refine s_nil ?_
     obtain rfl := Option.some.inj r772
     exact k669 _ _ ⟨ha_, rfl⟩
    have r773 := ite_f h681 r680
    refine l_' (.bool true) (aBin Try.prog .neq 29 (.tmp 226) (.const .nilIface) (.iface t682 x683) .nilIface) (aBin_nnil (by kernel_rfl)) ?_
    refine q_ (.bool true) ?_
    refine q_ (.bool true) ?_
    refine n_' ?_
    refine n_' ?_
    refine q_ (.bool true) ?_
    refine q_ (.bool true) ?_
    refine n_' ?_
    refine n_' ?_
    refine q_ (.bool true) ?_
    refine q_ (.bool true) ?_
    refine n_' ?_
    refine n_' ?_
    refine q_ (.bool true) ?_
    refine q_ (.bool true) ?_
    refine n_' ?_
    refine n_' ?_
    refine q_ (.bool true) ?_
    refine q_ (.bool true) ?_
    refine n_' ?_
    refine n_' ?_
    refine n_' ?_
    refine n_' ?_
    refine n_' ?_
    refine n_' ?_
    refine n_' ?_
    refine n_' ?_
    refine n_' ?_
    refine q_ (.bool true) ?_
    refine q_ (.bool true) ?_
    refine n_' ?_
    refine n_' ?_
    refine n_' ?_
    refine n_' ?_
    refine n_' ?_
    refine n_' ?_
    refine n_' ?_
    refine n_' ?_
    refine n_' ?_
    refine q_ (.bool true) ?_
    refine q_ (.bool true) ?_
    refine n_' ?_
    refine n_' ?_
    refine n_' ?_
    refine n_' ?_
    refine n_' ?_
    refine q_ (.bool true) ?_
    refine q_ (.bool true) ?_
    refine n_' ?_
    refine n_' ?_
    refine n_' ?_
    refine q_ (.bool true) ?_
    refine q_ (.bool true) ?_
    refine n_' ?_
    refine n_' ?_
    refine n_' ?_
    refine n_' ?_
    refine n_' ?_
    refine n_' ?_
    refine n_' ?_
    refine n_' ?_
    refine n_' ?_
    refine q_ (.bool true) ?_
    refine s_nil ?_
    obtain rfl := Option.some.inj r773
    exact k669 _ _ ⟨ha_, rfl⟩
   have r774 := ite_f h676 r675
   refine l_' (.bool true) (aBin Try.prog .neq 29 (.tmp 222) (.const .nilIface) (.iface t677 x678) .nilIface) (aBin_nnil (by kernel_rfl)) ?_
   refine q_ (.bool true) ?_
   refine q_ (.bool true) ?_
   refine n_' ?_
   refine n_' ?_
   refine q_ (.bool true) ?_
   refine q_ (.bool true) ?_
   refine n_' ?_
   refine n_' ?_
   refine q_ (.bool true) ?_
   refine q_ (.bool true) ?_
   refine n_' ?_
   refine n_' ?_
   refine q_ (.bool true) ?_
   refine q_ (.bool true) ?_
   refine n_' ?_
   refine n_' ?_
   refine q_ (.bool true) ?_
   refine q_ (.bool true) ?_
   refine n_' ?_
   refine n_' ?_
   refine q_ (.bool true) ?_
   refine q_ (.bool true) ?_
   refine n_' ?_
   refine n_' ?_
   refine n_' ?_
   refine n_' ?_
   refine n_' ?_
   refine n_' ?_
   refine n_' ?_
   refine n_' ?_
   refine n_' ?_
   refine q_ (.bool true) ?_
   refine q_ (.bool true) ?_
   refine n_' ?_
   refine n_' ?_
   refine n_' ?_
   refine n_' ?_
   refine n_' ?_
   refine n_' ?_
   refine n_' ?_
   refine n_' ?_
   refine n_' ?_
   refine q_ (.bool true) ?_
   refine q_ (.bool true) ?_
   refine n_' ?_
   refine n_' ?_
   refine n_' ?_
   refine n_' ?_
   refine n_' ?_
   refine q_ (.bool true) ?_
   refine q_ (.bool true) ?_
   refine n_' ?_
   refine n_' ?_
   refine n_' ?_
   refine q_ (.bool true) ?_
   refine q_ (.bool true) ?_
   refine n_' ?_
   refine n_' ?_
   refine n_' ?_
   refine n_' ?_
   refine n_' ?_
   refine n_' ?_
   refine n_' ?_
   refine n_' ?_
   refine n_' ?_
   refine q_ (.bool true) ?_
   refine s_nil ?_
   obtain rfl := Option.some.inj r774
   exact k669 _ _ ⟨ha_, rfl⟩
  have r775 := ite_f h671 hx665
  refine l_' (.bool true) (aBin Try.prog .neq 29 (.tmp 219) (.const .nilIface) (.iface t672 x673) .nilIface) (aBin_nnil (by kernel_rfl)) ?_
  refine q_ (.bool true) ?_
  refine n_' ?_
  refine n_' ?_
  refine q_ (.bool true) ?_
  refine q_ (.bool true) ?_
  refine n_' ?_
  refine n_' ?_
  refine q_ (.bool true) ?_
  refine q_ (.bool true) ?_
  refine n_' ?_
  refine n_' ?_
  refine q_ (.bool true) ?_
  refine q_ (.bool true) ?_
  refine n_' ?_
  refine n_' ?_
  refine q_ (.bool true) ?_
  refine q_ (.bool true) ?_
  refine n_' ?_
  refine n_' ?_
  refine q_ (.bool true) ?_
  refine q_ (.bool true) ?_
  refine n_' ?_
  refine n_' ?_
  refine q_ (.bool true) ?_
  refine q_ (.bool true) ?_
  refine n_' ?_
  refine n_' ?_
  refine n_' ?_
  refine n_' ?_
  refine n_' ?_
  refine n_' ?_
  refine n_' ?_
  refine n_' ?_
  refine n_' ?_
  refine q_ (.bool true) ?_
  refine q_ (.bool true) ?_
  refine n_' ?_
  refine n_' ?_
  refine n_' ?_
  refine n_' ?_
  refine n_' ?_
  refine n_' ?_
  refine n_' ?_
  refine n_' ?_
  refine n_' ?_
  refine q_ (.bool true) ?_
  refine q_ (.bool true) ?_
  refine n_' ?_
  refine n_' ?_
  refine n_' ?_
  refine n_' ?_
  refine n_' ?_
  refine q_ (.bool true) ?_
  refine q_ (.bool true) ?_
  refine n_' ?_
  refine n_' ?_
  refine n_' ?_
  refine q_ (.bool true) ?_
  refine q_ (.bool true) ?_
  refine n_' ?_
  refine n_' ?_
  refine n_' ?_
  refine n_' ?_
  refine n_' ?_
  refine n_' ?_
  refine n_' ?_
  refine n_' ?_
  refine n_' ?_
  refine q_ (.bool true) ?_
  refine s_nil ?_
  obtain rfl := Option.some.inj r775
  exact k669 _ _ ⟨ha_, rfl⟩
 obtain ⟨hh670, rfl⟩ := hM
 obtain ⟨β, rfl⟩ := has_ex hh670
 clear hh670
 refine k663 _ _ ?_
 refine w_cond (o664) (by kernel_rfl) rfl (fun h776 => ?_) (fun h776 => ?_)
 ·have r777 := ite_t h776 r666
  refine w_seqk fun _ k778 => ?_
  refine g_' ?_
  refine q_ (.bool false) ?_
  refine s_nil (k778 _ _ ?_)
  refine w_ret (th_ret ?_)
  refine b_ret (fn := Try.f3) (vs := [.bool false]) (aRes_tmp (by kernel_rfl) (rfl)) ?_
  obtain rfl := Option.some.inj r777
  exact ⟨rfl, (FrS.step wf (FrS.step wf (FrS.step wf (FrS.step wf (FrS.step wf (FrS.step wf (FrS.step wf (FrS.step wf (FrS.step wf (FrS.step wf (FrS.step wf (FrS.step wf ((FrS.step wf (FrS.step wf (FrS.step wf ((FrS.step wf (FrS.step wf (FrS.step wf ((FrS.step wf ((FrS.step wf (((FrS.refl (W := []) wf).extR e4).extR e12) e31 Inn.nil).extR e61) e67 (hb62.fresh (ntr (ntr e4.next e12.next) e31.next))).extR e77) e93 Inn.nil) e126 Inn.nil) e161 Inn.nil).extR e191) e197 (hb192.fresh (ntr (ntr (ntr (ntr (ntr (ntr (ntr (ntr e4.next e12.next) e31.next) e61.next) e67.next) e77.next) e93.next) e126.next) e161.next))) e214 Inn.nil) e231 Inn.nil).extR e275) e287 (hf276.fresh (ntr (ntr (ntr (ntr (ntr (ntr (ntr (ntr (ntr (ntr (ntr (ntr e4.next e12.next) e31.next) e61.next) e67.next) e77.next) e93.next) e126.next) e161.next) e191.next) e197.next) e214.next) e231.next))) e355 Inn.nil) e372 Inn.nil) e488 Inn.nil) e512 Inn.nil) e559 Inn.nil) e575 Inn.nil) e590 Inn.nil) e612 Inn.nil) e624 Inn.nil) e642 Inn.nil) e658 Inn.nil)⟩
 have r779 := ite_bf h776 r666
 refine w_skip ?_
 refine k662 _ _ ?_
 refine w_seqk fun _ k780 => ?_
 refine g_' ?_
 refine q_ (.slice a496 n497 c498) ?_
 have u781 := (u651.fr e658 Dj.nil_l)
 obtain ⟨y782, hy783, r784⟩ := bind_some r779
 refine s_ck 17 #[.slice a496 n497 c498] (by kernel_rfl) (c_walk_Simple e658.wf u781.sq hy783) ?_
 rintro s785 H787 ⟨_, f786, rfl, e788, m789, i790⟩
 obtain ⟨a792, n793, c794, rfl⟩ := m789.form
 refine q_ (.slice a496 n497 c498) ?_
 have u795 := (u781.fr e788 Dj.nil_l)
 obtain ⟨y796, hy797, r798⟩ := bind_some r784
 refine s_ck 19 #[.slice a792 n793 c794, .slice a496 n497 c498] (by kernel_rfl) (c_viaductref02_SameInts e788.wf m789.sq u795.sq hy797) ?_
 rintro _ _ ⟨rfl, rfl⟩
 by_cases h801 : y796 = true
 ·have r802 := ite_t h801 r798
  rw [h801]
  refine q_ (.bool true) ?_
  refine q_ (.slice a520 n521 c522) ?_
  have u804 := ((((((u581.fr e590 Dj.nil_l).fr e612 Dj.nil_l).fr e624 Dj.nil_l).fr e642 Dj.nil_l).fr e658 Dj.nil_l).fr e788 Dj.nil_l)
  obtain ⟨y805, hy806, r807⟩ := bind_some r802
  refine s_ck 17 #[.slice a520 n521 c522] (by kernel_rfl) (c_walk_Simple e788.wf u804.sq hy806) ?_
  rintro s808 H810 ⟨_, f809, rfl, e811, m812, i813⟩
  obtain ⟨a815, n816, c817, rfl⟩ := m812.form
  refine q_ (.slice a520 n521 c522) ?_
  have u818 := (u804.fr e811 Dj.nil_l)
  obtain ⟨y819, hy820, r821⟩ := bind_some r807
  refine s_ck 19 #[.slice a815 n816 c817, .slice a520 n521 c522] (by kernel_rfl) (c_viaductref02_SameInts e811.wf m812.sq u818.sq hy820) ?_
  rintro _ _ ⟨rfl, rfl⟩
  refine q_ (.bool y819) ?_
  refine q_ (.bool y819) ?_
  refine s_nil (k780 _ _ ?_)
  refine w_ret ?_
  refine b_ret (fn := Try.f3) (vs := [.bool y819]) (aRes_tmp (by kernel_rfl) (rfl)) ?_
  obtain rfl := Option.some.inj r821
  exact ⟨rfl, (FrS.step wf (FrS.step wf (FrS.step wf (FrS.step wf (FrS.step wf (FrS.step wf (FrS.step wf (FrS.step wf (FrS.step wf (FrS.step wf (FrS.step wf (FrS.step wf (FrS.step wf (FrS.step wf ((FrS.step wf (FrS.step wf (FrS.step wf ((FrS.step wf (FrS.step wf (FrS.step wf ((FrS.step wf ((FrS.step wf (((FrS.refl (W := []) wf).extR e4).extR e12) e31 Inn.nil).extR e61) e67 (hb62.fresh (ntr (ntr e4.next e12.next) e31.next))).extR e77) e93 Inn.nil) e126 Inn.nil) e161 Inn.nil).extR e191) e197 (hb192.fresh (ntr (ntr (ntr (ntr (ntr (ntr (ntr (ntr e4.next e12.next) e31.next) e61.next) e67.next) e77.next) e93.next) e126.next) e161.next))) e214 Inn.nil) e231 Inn.nil).extR e275) e287 (hf276.fresh (ntr (ntr (ntr (ntr (ntr (ntr (ntr (ntr (ntr (ntr (ntr (ntr e4.next e12.next) e31.next) e61.next) e67.next) e77.next) e93.next) e126.next) e161.next) e191.next) e197.next) e214.next) e231.next))) e355 Inn.nil) e372 Inn.nil) e488 Inn.nil) e512 Inn.nil) e559 Inn.nil) e575 Inn.nil) e590 Inn.nil) e612 Inn.nil) e624 Inn.nil) e642 Inn.nil) e658 Inn.nil) e788 Inn.nil) e811 Inn.nil)⟩
 have r824 := ite_f h801 r798
 rw [nb h801]
 refine q_ (.bool false) ?_
 refine n_' ?_
 refine n_' ?_
 refine n_' ?_
 refine n_' ?_
 refine q_ (.bool false) ?_
 refine q_ (.bool false) ?_
 refine s_nil (k780 _ _ ?_)
 refine w_ret ?_
 refine b_ret (fn := Try.f3) (vs := [.bool false]) (aRes_tmp (by kernel_rfl) (rfl)) ?_
 obtain rfl := Option.some.inj r824
 exact ⟨rfl, (FrS.step wf (FrS.step wf (FrS.step wf (FrS.step wf (FrS.step wf (FrS.step wf (FrS.step wf (FrS.step wf (FrS.step wf (FrS.step wf (FrS.step wf (FrS.step wf (FrS.step wf ((FrS.step wf (FrS.step wf (FrS.step wf ((FrS.step wf (FrS.step wf (FrS.step wf ((FrS.step wf ((FrS.step wf (((FrS.refl (W := []) wf).extR e4).extR e12) e31 Inn.nil).extR e61) e67 (hb62.fresh (ntr (ntr e4.next e12.next) e31.next))).extR e77) e93 Inn.nil) e126 Inn.nil) e161 Inn.nil).extR e191) e197 (hb192.fresh (ntr (ntr (ntr (ntr (ntr (ntr (ntr (ntr e4.next e12.next) e31.next) e61.next) e67.next) e77.next) e93.next) e126.next) e161.next))) e214 Inn.nil) e231 Inn.nil).extR e275) e287 (hf276.fresh (ntr (ntr (ntr (ntr (ntr (ntr (ntr (ntr (ntr (ntr (ntr (ntr e4.next e12.next) e31.next) e61.next) e67.next) e77.next) e93.next) e126.next) e161.next) e191.next) e197.next) e214.next) e231.next))) e355 Inn.nil) e372 Inn.nil) e488 Inn.nil) e512 Inn.nil) e559 Inn.nil) e575 Inn.nil) e590 Inn.nil) e612 Inn.nil) e624 Inn.nil) e642 Inn.nil) e658 Inn.nil) e788 Inn.nil)⟩


end Go.Vd
