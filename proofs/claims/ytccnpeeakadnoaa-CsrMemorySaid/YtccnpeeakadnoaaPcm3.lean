/- The walks of the functions (printed by a program of ours). -/
import Derived.Test.YtccnpeeakadnoaaPcm2
import Derived.Test.YtccnpeeakadnoaaVeC
import Derived.Test.YtccnpeeakadnoaaICm
import Derived.Test.YtccnpeeakadnoaaVeN
import Derived.Test.YtccnpeeakadnoaaVeM
import Derived.Test.YtccnpeeakadnoaaSoA
import Derived.Test.YtccnpeeakadnoaaVeV
set_option linter.unusedVariables false
set_option linter.unusedSimpArgs false
set_option linter.unusedSectionVars false
/-! (KCm6) -/

set_option maxRecDepth 100000
set_option maxHeartbeats 4000000
set_option linter.unusedVariables false
namespace Go.Vd
open Go.Proofs
attribute [local irreducible] wpSeq wpOrd aWp
theorem c_viaductlaw05_CsrMemory {H : AH} {hd_Arcs : Value} {fp_Arcs : Fp} {N_ : Int} {Arcs : List (Int × Int × Int)} {r : Bool}
  (wf : WF H) (h_Arcs : Sq enc_i64_i64_i64 3 H hd_Arcs Arcs fp_Arcs) (hr : z_viaductlaw05_CsrMemory N_ Arcs = some r) :
  ACalls Try.prog 6 #[.agg #[.int .i64 N_, hd_Arcs]] H fun v H' => v = .bool r ∧ FrS [] H H' := by
 refine acalls_of_body mixed Try.func6 rfl (Nat.le_of_ble_eq_true rfl) ?_
 unfold z_viaductlaw05_CsrMemory at hr
 refine w_seqk fun K1 k1 => ?_
 refine w_reg (by kernel_rfl) ?_
 refine s_rwl wf [.int .i64 N_, hd_Arcs] (one_cons (rfl) (one_cons (h_Arcs.one1) (one_nil))) (by kernel_rfl) fun b2 H3 e4 hb5 r6 => ?_
 refine s_qk (.bool false) (by kernel_rfl) ?_
 refine s_nil ?_
 refine k1 _ _ ?_
 refine w_seqk fun K8 k8 => ?_
 refine w_seqk fun K9 k9 => ?_
 refine w_reg (by kernel_rfl) ?_
 refine s_ck 46 #[] (by kernel_rfl) c_viaductlaw05_awake ?_
 rintro _ _ ⟨rfl, rfl⟩
 refine s_qk (.bool false) (by kernel_rfl) ?_
 refine s_nil ?_
 refine k9 _ _ ?_
 refine w_cond false (by kernel_rfl) rfl (fun h => by cases h) (fun _ => ?_)
 refine w_skip ?_
 refine k8 _ _ ?_
 refine w_seqk fun K10 k10 => ?_
 refine w_seqk fun K11 k11 => ?_
 refine w_reg (by kernel_rfl) ?_
 refine s_ql (.agg #[.int .i64 N_, hd_Arcs]) (x := aLoad Try.prog 59 (.pointer (some ⟨b2, 0, none⟩)) H3) (by kernel_rfl) (r6.ld (by kernel_rfl)) ?_
 have u12 := (h_Arcs.ext e4)
 obtain ⟨y13, hy14, r15⟩ := bind_some hr
 refine s_ck 47 #[.agg #[.int .i64 N_, hd_Arcs]] (by kernel_rfl) (c_viaductlaw05_great e4.wf u12 hy14) ?_
 rintro _ H16 ⟨rfl, e17⟩
 refine s_nil ?_
 refine k11 _ _ ?_
 refine w_cond (y13) (by kernel_rfl) rfl (fun h18 => ?_) (fun h18 => ?_)
 ·have r19 := ite_t h18 r15
  refine w_seqk fun K20 k20 => ?_
  refine w_reg (by kernel_rfl) ?_
  refine s_qk (.bool true) (by kernel_rfl) ?_
  refine s_nil ?_
  refine k20 _ _ ?_
  refine w_ret (th_ret ?_)
  refine b_ret (fn := Try.f6) (vs := [.bool true]) (aRes_tmp (by kernel_rfl) (rfl)) ?_
  obtain rfl := Option.some.inj r19
  exact ⟨rfl, (FrS.step wf ((FrS.refl (W := []) wf).extR e4) e17 Inn.nil)⟩
 ·have r21 := ite_bf h18 r15
  refine w_skip ?_
  refine k10 _ _ ?_
  refine w_seqk fun K22 k22 => ?_
  refine w_reg (by kernel_rfl) ?_
  have u23 := (r6.frS e17 Dj.nil_l)
  refine s_ql (.agg #[.int .i64 N_, hd_Arcs]) (x := aLoad Try.prog 59 (.pointer (some ⟨b2, 0, none⟩)) H16) (by kernel_rfl) (u23.ld (by kernel_rfl)) ?_
  have u24 := (u12.fr e17 Dj.nil_l)
  obtain ⟨y25, hy26, r27⟩ := bind_some r21
  refine s_ck 23 #[.agg #[.int .i64 N_, hd_Arcs]] (by kernel_rfl) (c_viaductref03_Spare e17.wf u24 hy26) ?_
  rintro _ H31 ⟨s28, f29, s30, rfl, e32, m33, m34, i35⟩
  obtain ⟨a38, n39, c40, rfl⟩ := m33.form
  obtain ⟨a41, n42, c43, rfl⟩ := m34.form
  refine s_qk (.tuple #[.agg #[.int .i64 y25.1, .slice a38 n39 c40], .slice a41 n42 c43]) (by kernel_rfl) ?_
  refine s_qk (.agg #[.int .i64 y25.1, .slice a38 n39 c40]) (by kernel_rfl) ?_
  refine s_qk (.slice a41 n42 c43) (by kernel_rfl) ?_
  refine s_rwk e32.wf [.int .i64 0, .slice none 0 0] (by kernel_rfl) fun b44 H45 e46 hb47 r48 => ?_
  have u54 := (m33.ext e46)
  obtain ⟨H50, q51, e52, r53⟩ := Row.store (P := Try.prog) (t := 59) (p := 0) e46.wf r48 (.agg #[.int .i64 y25.1, .slice a38 n39 c40]) [.int .i64 y25.1, .slice a38 n39 c40] (by kernel_rfl) (by kernel_rfl) (one_cons (rfl) (one_cons (u54.one1) (one_nil))) (Nat.le_of_ble_eq_true (by kernel_rfl)) [.int .i64 y25.1, .slice a38 n39 c40] (by kernel_rfl)
  refine s_ek (undef) (by kernel_rfl) (map_ok q51) ?_
  refine s_qk (.slice a41 n42 c43) (by kernel_rfl) ?_
  refine s_nil ?_
  refine k22 _ _ ?_
  refine w_seqk fun K55 k55 => ?_
  refine w_reg (by kernel_rfl) ?_
  refine s_ql (.agg #[.int .i64 y25.1, .slice a38 n39 c40]) (x := aLoad Try.prog 59 (.pointer (some ⟨b44, 0, none⟩)) H50) (by kernel_rfl) (r53.ld (by kernel_rfl)) ?_
  have u56 := (u54.fr e52 (hb47.djn m33.lt))
  obtain ⟨y57, hy58, r59⟩ := bind_some r27
  refine s_ck 48 #[.agg #[.int .i64 y25.1, .slice a38 n39 c40]] (by kernel_rfl) (c_csr_Build e52.wf u56.sq hy58) ?_
  rintro _ H68 ⟨s60, f61, s62, f63, s64, f65, v66, f67, rfl, e69, m70, m71, m72, m73, i74, i75, i76, i77, d78, d79, d80, d81, d82, d83⟩
  obtain ⟨a88, n89, c90, rfl⟩ := m70.form
  obtain ⟨a91, n92, c93, rfl⟩ := m71.form
  obtain ⟨a94, n95, c96, rfl⟩ := m72.form
  refine s_qk (.tuple #[.agg #[.slice a88 n89 c90, .slice a91 n92 c93, .slice a94 n95 c96], v66]) (by kernel_rfl) ?_
  refine s_qk (.agg #[.slice a88 n89 c90, .slice a91 n92 c93, .slice a94 n95 c96]) (by kernel_rfl) ?_
  refine s_qk (v66) (by kernel_rfl) ?_
  refine s_rwk e69.wf [.slice none 0 0, .slice none 0 0, .slice none 0 0] (by kernel_rfl) fun b97 H98 e99 hb100 r101 => ?_
  have u107 := (m72.ext e99)
  have u108 := (m71.ext e99)
  have u109 := (m70.ext e99)
  obtain ⟨H103, q104, e105, r106⟩ := Row.store (P := Try.prog) (t := 27) (p := 0) e99.wf r101 (.agg #[.slice a88 n89 c90, .slice a91 n92 c93, .slice a94 n95 c96]) [.slice a88 n89 c90, .slice a91 n92 c93, .slice a94 n95 c96] (by kernel_rfl) (by kernel_rfl) (one_cons (u109.one1) (one_cons (u108.one1) (one_cons (u107.one1) (one_nil)))) (Nat.le_of_ble_eq_true (by kernel_rfl)) [.slice a88 n89 c90, .slice a91 n92 c93, .slice a94 n95 c96] (by kernel_rfl)
  refine s_ek (undef) (by kernel_rfl) (map_ok q104) ?_
  refine s_qk (v66) (by kernel_rfl) ?_
  refine s_nil ?_
  refine k55 _ _ ?_
  refine w_seqk fun K110 k110 => ?_
  refine w_reg (by kernel_rfl) ?_
  have u111 := (((r53.frS e69 Dj.nil_l).ext e99).frS e105 (hb100.djn (r48.ltF.le (ntr e52.next e69.next))))
  refine s_ql (.agg #[.int .i64 y25.1, .slice a38 n39 c40]) (x := aLoad Try.prog 59 (.pointer (some ⟨b44, 0, none⟩)) H103) (by kernel_rfl) (u111.ld (by kernel_rfl)) ?_
  have u112 := (((u56.fr e69 Dj.nil_l).ext e99).fr e105 (hb100.djn (m33.lt.le (ntr (ntr e46.next e52.next) e69.next))))
  obtain ⟨y113, hy114, r115⟩ := bind_some r59
  refine s_ck 48 #[.agg #[.int .i64 y25.1, .slice a38 n39 c40]] (by kernel_rfl) (c_csr_Build e105.wf u112.sq hy114) ?_
  rintro _ H124 ⟨s116, f117, s118, f119, s120, f121, v122, f123, rfl, e125, m126, m127, m128, m129, i130, i131, i132, i133, d134, d135, d136, d137, d138, d139⟩
  obtain ⟨a144, n145, c146, rfl⟩ := m126.form
  obtain ⟨a147, n148, c149, rfl⟩ := m127.form
  obtain ⟨a150, n151, c152, rfl⟩ := m128.form
  refine s_qk (.tuple #[.agg #[.slice a144 n145 c146, .slice a147 n148 c149, .slice a150 n151 c152], v122]) (by kernel_rfl) ?_
  refine s_qk (.agg #[.slice a144 n145 c146, .slice a147 n148 c149, .slice a150 n151 c152]) (by kernel_rfl) ?_
  refine s_qk (v122) (by kernel_rfl) ?_
  refine s_rwk e125.wf [.slice none 0 0, .slice none 0 0, .slice none 0 0] (by kernel_rfl) fun b153 H154 e155 hb156 r157 => ?_
  have u163 := (m128.ext e155)
  have u164 := (m127.ext e155)
  have u165 := (m126.ext e155)
  obtain ⟨H159, q160, e161, r162⟩ := Row.store (P := Try.prog) (t := 27) (p := 0) e155.wf r157 (.agg #[.slice a144 n145 c146, .slice a147 n148 c149, .slice a150 n151 c152]) [.slice a144 n145 c146, .slice a147 n148 c149, .slice a150 n151 c152] (by kernel_rfl) (by kernel_rfl) (one_cons (u165.one1) (one_cons (u164.one1) (one_cons (u163.one1) (one_nil)))) (Nat.le_of_ble_eq_true (by kernel_rfl)) [.slice a144 n145 c146, .slice a147 n148 c149, .slice a150 n151 c152] (by kernel_rfl)
  refine s_ek (undef) (by kernel_rfl) (map_ok q160) ?_
  refine s_qk (v122) (by kernel_rfl) ?_
  refine s_nil ?_
  refine k110 _ _ ?_
  refine w_seqk fun K166 k166 => ?_
  refine w_reg (by kernel_rfl) ?_
  refine s_ql (.agg #[.slice a144 n145 c146, .slice a147 n148 c149, .slice a150 n151 c152]) (x := aLoad Try.prog 27 (.pointer (some ⟨b153, 0, none⟩)) H159) (by kernel_rfl) (r162.ld (by kernel_rfl)) ?_
  have u167 := (u165.fr e161 (hb156.djn m126.lt))
  have u168 := (u164.fr e161 (hb156.djn m127.lt))
  have u169 := (u163.fr e161 (hb156.djn m128.lt))
  obtain ⟨y170, hy171, r172⟩ := bind_some r115
  refine s_ck 49 #[.agg #[.slice a144 n145 c146, .slice a147 n148 c149, .slice a150 n151 c152]] (by kernel_rfl) (c_csr_Graph e161.wf u167.sq u168.sq u169.sq hy171) ?_
  rintro _ H177 ⟨s173, f174, v175, f176, rfl, e178, m179, m180, i181, i182, d183⟩
  obtain ⟨a186, n187, c188, rfl⟩ := m179.form
  refine s_qk (.tuple #[.agg #[.int .i64 y170.1, .slice a186 n187 c188], v175]) (by kernel_rfl) ?_
  refine s_qk (.agg #[.int .i64 y170.1, .slice a186 n187 c188]) (by kernel_rfl) ?_
  refine s_qk (v175) (by kernel_rfl) ?_
  refine s_rwk e178.wf [.int .i64 0, .slice none 0 0] (by kernel_rfl) fun b189 H190 e191 hb192 r193 => ?_
  have u199 := (m179.ext e191)
  obtain ⟨H195, q196, e197, r198⟩ := Row.store (P := Try.prog) (t := 59) (p := 0) e191.wf r193 (.agg #[.int .i64 y170.1, .slice a186 n187 c188]) [.int .i64 y170.1, .slice a186 n187 c188] (by kernel_rfl) (by kernel_rfl) (one_cons (rfl) (one_cons (u199.one1) (one_nil))) (Nat.le_of_ble_eq_true (by kernel_rfl)) [.int .i64 y170.1, .slice a186 n187 c188] (by kernel_rfl)
  refine s_ek (undef) (by kernel_rfl) (map_ok q196) ?_
  refine s_qk (v175) (by kernel_rfl) ?_
  refine s_nil ?_
  refine k166 _ _ ?_
  refine w_seqk fun K200 k200 => ?_
  refine w_reg (by kernel_rfl) ?_
  have u201 := (((r162.frS e178 Dj.nil_l).ext e191).frS e197 (hb192.djn (r157.ltF.le (ntr e161.next e178.next))))
  refine s_ql (.agg #[.slice a144 n145 c146, .slice a147 n148 c149, .slice a150 n151 c152]) (x := aLoad Try.prog 27 (.pointer (some ⟨b153, 0, none⟩)) H195) (by kernel_rfl) (u201.ld (by kernel_rfl)) ?_
  have u202 := (((u167.fr e178 Dj.nil_l).ext e191).fr e197 (hb192.djn (m126.lt.le (ntr (ntr e155.next e161.next) e178.next))))
  have u203 := (((u168.fr e178 Dj.nil_l).ext e191).fr e197 (hb192.djn (m127.lt.le (ntr (ntr e155.next e161.next) e178.next))))
  have u204 := (((u169.fr e178 Dj.nil_l).ext e191).fr e197 (hb192.djn (m128.lt.le (ntr (ntr e155.next e161.next) e178.next))))
  obtain ⟨y205, hy206, r207⟩ := bind_some r172
  refine s_ck 50 #[.agg #[.slice a144 n145 c146, .slice a147 n148 c149, .slice a150 n151 c152], .int .i64 0] (by kernel_rfl) (c_csr_Row e197.wf u202.sq u203.sq u204.sq hy206) ?_
  rintro _ H212 ⟨s208, f209, v210, f211, rfl, e213, m214, m215, i216, i217, d218⟩
  obtain ⟨a221, n222, c223, rfl⟩ := m214.form
  refine s_qk (.tuple #[.slice a221 n222 c223, v210]) (by kernel_rfl) ?_
  refine s_qk (.slice a221 n222 c223) (by kernel_rfl) ?_
  refine s_qk (v210) (by kernel_rfl) ?_
  refine s_qk (.slice a221 n222 c223) (by kernel_rfl) ?_
  refine s_qk (v210) (by kernel_rfl) ?_
  refine s_nil ?_
  refine k200 _ _ ?_
  refine w_seqk fun K224 k224 => ?_
  refine w_seqk fun K225 k225 => ?_
  refine w_reg (by kernel_rfl) ?_
  have u226 := (((((((((((((u23.frS e32 Dj.nil_l).ext e46).frS e52 (hb47.djn (r6.ltF.le (ntr e17.next e32.next)))).frS e69 Dj.nil_l).ext e99).frS e105 (hb100.djn (r6.ltF.le (ntr (ntr (ntr (ntr e17.next e32.next) e46.next) e52.next) e69.next)))).frS e125 Dj.nil_l).ext e155).frS e161 (hb156.djn (r6.ltF.le (ntr (ntr (ntr (ntr (ntr (ntr (ntr e17.next e32.next) e46.next) e52.next) e69.next) e99.next) e105.next) e125.next)))).frS e178 Dj.nil_l).ext e191).frS e197 (hb192.djn (r6.ltF.le (ntr (ntr (ntr (ntr (ntr (ntr (ntr (ntr (ntr (ntr e17.next e32.next) e46.next) e52.next) e69.next) e99.next) e105.next) e125.next) e155.next) e161.next) e178.next)))).frS e213 Dj.nil_l)
  refine s_ql (.agg #[.int .i64 N_, hd_Arcs]) (x := aLoad Try.prog 59 (.pointer (some ⟨b2, 0, none⟩)) H212) (by kernel_rfl) (u226.ld (by kernel_rfl)) ?_
  refine s_qk (.slice a41 n42 c43) (by kernel_rfl) ?_
  have u227 := (((((((((((((u24.fr e32 Dj.nil_l).ext e46).fr e52 (hb47.djn (h_Arcs.lt.le (ntr (ntr e4.next e17.next) e32.next)))).fr e69 Dj.nil_l).ext e99).fr e105 (hb100.djn (h_Arcs.lt.le (ntr (ntr (ntr (ntr (ntr e4.next e17.next) e32.next) e46.next) e52.next) e69.next)))).fr e125 Dj.nil_l).ext e155).fr e161 (hb156.djn (h_Arcs.lt.le (ntr (ntr (ntr (ntr (ntr (ntr (ntr (ntr e4.next e17.next) e32.next) e46.next) e52.next) e69.next) e99.next) e105.next) e125.next)))).fr e178 Dj.nil_l).ext e191).fr e197 (hb192.djn (h_Arcs.lt.le (ntr (ntr (ntr (ntr (ntr (ntr (ntr (ntr (ntr (ntr (ntr e4.next e17.next) e32.next) e46.next) e52.next) e69.next) e99.next) e105.next) e125.next) e155.next) e161.next) e178.next)))).fr e213 Dj.nil_l)
  have u228 := ((((((((((((m34.ext e46).fr e52 (hb47.djn m33.lt)).fr e69 Dj.nil_l).ext e99).fr e105 (hb100.djn (m33.lt.le (ntr (ntr e46.next e52.next) e69.next)))).fr e125 Dj.nil_l).ext e155).fr e161 (hb156.djn (m33.lt.le (ntr (ntr (ntr (ntr (ntr e46.next e52.next) e69.next) e99.next) e105.next) e125.next)))).fr e178 Dj.nil_l).ext e191).fr e197 (hb192.djn (m33.lt.le (ntr (ntr (ntr (ntr (ntr (ntr (ntr (ntr e46.next e52.next) e69.next) e99.next) e105.next) e125.next) e155.next) e161.next) e178.next)))).fr e213 Dj.nil_l)
  obtain ⟨y229, hy230, r231⟩ := bind_some r207
  refine s_ck 29 #[.agg #[.int .i64 N_, hd_Arcs], .slice a41 n42 c43] (by kernel_rfl) (c_viaductref03_Kept e213.wf u227 u228.sq hy230) ?_
  rintro _ H232 ⟨rfl, e233⟩
  refine s_qk (.bool (!y229)) (by kernel_rfl) ?_
  refine s_nil ?_
  refine k225 _ _ ?_
  refine w_cond ((!y229)) (by kernel_rfl) rfl (fun h234 => ?_) (fun h234 => ?_)
  ·have r235 := ite_t h234 r231
   refine w_seqk fun K236 k236 => ?_
   refine w_reg (by kernel_rfl) ?_
   refine s_qk (.bool false) (by kernel_rfl) ?_
   refine s_nil ?_
   refine k236 _ _ ?_
   refine w_ret (th_ret ?_)
   refine b_ret (fn := Try.f6) (vs := [.bool false]) (aRes_tmp (by kernel_rfl) (rfl)) ?_
   obtain rfl := Option.some.inj r235
   exact ⟨rfl, (FrS.step wf (FrS.step wf (FrS.step wf ((FrS.step wf (FrS.step wf ((FrS.step wf (FrS.step wf ((FrS.step wf (FrS.step wf ((FrS.step wf (FrS.step wf ((FrS.refl (W := []) wf).extR e4) e17 Inn.nil) e32 Inn.nil).extR e46) e52 (hb47.fresh (ntr (ntr e4.next e17.next) e32.next))) e69 Inn.nil).extR e99) e105 (hb100.fresh (ntr (ntr (ntr (ntr (ntr e4.next e17.next) e32.next) e46.next) e52.next) e69.next))) e125 Inn.nil).extR e155) e161 (hb156.fresh (ntr (ntr (ntr (ntr (ntr (ntr (ntr (ntr e4.next e17.next) e32.next) e46.next) e52.next) e69.next) e99.next) e105.next) e125.next))) e178 Inn.nil).extR e191) e197 (hb192.fresh (ntr (ntr (ntr (ntr (ntr (ntr (ntr (ntr (ntr (ntr (ntr e4.next e17.next) e32.next) e46.next) e52.next) e69.next) e99.next) e105.next) e125.next) e155.next) e161.next) e178.next))) e213 Inn.nil) e233 Inn.nil)⟩
  ·have r237 := ite_bf h234 r231
   refine w_skip ?_
   refine k224 _ _ ?_
   refine w_seqk fun K238 k238 => ?_
   refine w_seqk fun K239 k239 => ?_
   refine w_reg (by kernel_rfl) ?_
   refine s_qk (.pointer (some ⟨b97, 0, none⟩)) (by kernel_rfl) ?_
   have u240 := ((((((((r106.frS e125 Dj.nil_l).ext e155).frS e161 (hb156.djn (r101.ltF.le (ntr e105.next e125.next)))).frS e178 Dj.nil_l).ext e191).frS e197 (hb192.djn (r101.ltF.le (ntr (ntr (ntr (ntr e105.next e125.next) e155.next) e161.next) e178.next)))).frS e213 Dj.nil_l).frS e233 Dj.nil_l)
   refine s_ql (.slice a88 n89 c90) (x := aLoad Try.prog 22 (.pointer (some ⟨b97, 0, none⟩)) H232) (by kernel_rfl) (u240.ld (by kernel_rfl)) ?_
   refine s_qk (.pointer (some ⟨b97, 1, none⟩)) (by kernel_rfl) ?_
   refine s_ql (.slice a91 n92 c93) (x := aLoad Try.prog 22 (.pointer (some ⟨b97, 1, none⟩)) H232) (by kernel_rfl) (u240.ld (by kernel_rfl)) ?_
   refine s_qk (.pointer (some ⟨b97, 2, none⟩)) (by kernel_rfl) ?_
   refine s_ql (.slice a94 n95 c96) (x := aLoad Try.prog 22 (.pointer (some ⟨b97, 2, none⟩)) H232) (by kernel_rfl) (u240.ld (by kernel_rfl)) ?_
   have u246 := (((((((((u107.fr e105 (hb100.djn m72.lt)).fr e125 Dj.nil_l).ext e155).fr e161 (hb156.djn (m72.lt.le (ntr (ntr e99.next e105.next) e125.next)))).fr e178 Dj.nil_l).ext e191).fr e197 (hb192.djn (m72.lt.le (ntr (ntr (ntr (ntr (ntr e99.next e105.next) e125.next) e155.next) e161.next) e178.next)))).fr e213 Dj.nil_l).fr e233 Dj.nil_l)
   have u247 := (((((((((u108.fr e105 (hb100.djn m71.lt)).fr e125 Dj.nil_l).ext e155).fr e161 (hb156.djn (m71.lt.le (ntr (ntr e99.next e105.next) e125.next)))).fr e178 Dj.nil_l).ext e191).fr e197 (hb192.djn (m71.lt.le (ntr (ntr (ntr (ntr (ntr e99.next e105.next) e125.next) e155.next) e161.next) e178.next)))).fr e213 Dj.nil_l).fr e233 Dj.nil_l)
   have u248 := (((((((((u109.fr e105 (hb100.djn m70.lt)).fr e125 Dj.nil_l).ext e155).fr e161 (hb156.djn (m70.lt.le (ntr (ntr e99.next e105.next) e125.next)))).fr e178 Dj.nil_l).ext e191).fr e197 (hb192.djn (m70.lt.le (ntr (ntr (ntr (ntr (ntr e99.next e105.next) e125.next) e155.next) e161.next) e178.next)))).fr e213 Dj.nil_l).fr e233 Dj.nil_l)
   refine s_lsl e233.wf [.slice a88 n89 c90, .slice a91 n92 c93, .slice a94 n95 c96] 3 (one_cons (u248.one1) (one_cons (u247.one1) (one_cons (u246.one1) (one_nil)))) (by kernel_rfl) fun b241 H242 e243 hb244 r245 => ?_
   refine s_qk (.int .i64 3) (by kernel_rfl) ?_
   refine s_qk (.int .i64 0) (by kernel_rfl) ?_
   refine s_nil ?_
   refine k239 _ _ ?_
   refine w_block ?_
   refine w_unroll ?_
   refine w_seqk fun K250 k250 => ?_
   refine w_reg (by kernel_rfl) ?_
   refine s_qk (.bool true) (by kernel_rfl) ?_
   refine s_nil ?_
   refine k250 _ _ ?_
   refine w_seqk fun K251 k251 => ?_
   refine w_cond true (by kernel_rfl) rfl (fun _ => ?_) (fun h => by cases h)
   refine w_skip ?_
   refine k251 _ _ ?_
   refine w_seqk fun K252 k252 => ?_
   refine w_block ?_
   refine w_seqk fun K253 k253 => ?_
   refine w_reg (by kernel_rfl) ?_
   refine s_qk (.pointer (some ⟨b241, 0, none⟩)) (by kernel_rfl) ?_
   refine s_ql (.slice a88 n89 c90) (x := aLoad Try.prog 22 (.pointer (some ⟨b241, 0, none⟩)) H242) (by kernel_rfl) (r245.ld (by kernel_rfl)) ?_
   refine s_qk (.slice a88 n89 c90) (by kernel_rfl) ?_
   refine s_nil ?_
   refine k253 _ _ ?_
   refine w_seqk fun K254 k254 => ?_
   refine w_seqk fun K255 k255 => ?_
   refine w_reg (by kernel_rfl) ?_
   refine s_qk (.slice a88 n89 c90) (by kernel_rfl) ?_
   have u256 := (u248.ext e243)
   refine s_ql (.int .i64 (y57.1.length : Int)) (x := aLen Try.prog 22 (.slice a88 n89 c90) H242) (by kernel_rfl) (u256.sq.lenb (by kernel_rfl)) ?_
   refine s_qk (.int .i64 0) (by kernel_rfl) ?_
   refine s_nil ?_
   refine k255 _ _ ?_
   obtain ⟨o257, hx258, r259⟩ := bind_some r237
   refine w_mid (fun α H260 => Has α [(1, .pointer (some ⟨b2, 0, none⟩)), (5, .pointer (some ⟨b97, 0, none⟩)), (7, .pointer (some ⟨b153, 0, none⟩)), (9, .pointer (some ⟨b189, 0, none⟩)), (11, .slice a221 n222 c223), (14, .slice a88 n89 c90), (64, .slice (some ⟨b241, 0, none⟩) 3 3), (65, .int .i64 3), (66, .int .i64 0)] ∧ FrS f61 H242 H260 ∧ Ow (encI .i64) 1 H260 (.slice a88 n89 c90) o257 f61) (fun K264 k264 => ?_) (fun α H260 hM => ?_)
   ·refine w_block ?_
    obtain ⟨n266, hn267⟩ := loopO_iff.1 hx258
    refine w_loopn (fun n α H268 => ∃ (m0 : List (Int)), ∃ (i1 : Int), iterO (fun zz_ => z_viaductlaw05_CsrMemory_l0 y57 zz_.1 zz_.2) n (m0, i1) = some o257 ∧ Has α [(1, .pointer (some ⟨b2, 0, none⟩)), (5, .pointer (some ⟨b97, 0, none⟩)), (7, .pointer (some ⟨b153, 0, none⟩)), (9, .pointer (some ⟨b189, 0, none⟩)), (11, .slice a221 n222 c223), (14, .slice a88 n89 c90), (64, .slice (some ⟨b241, 0, none⟩) 3 3), (65, .int .i64 3), (66, .int .i64 0), (71, .int .i64 (y57.1.length : Int)), (72, .int .i64 i1)] ∧ FrS f61 H242 H268 ∧ Ow (encI .i64) 1 H268 (.slice a88 n89 c90) m0 f61) n266 ⟨y57.1, 0, hn267, ⟨by kernel_rfl, by kernel_rfl, by kernel_rfl, by kernel_rfl, by kernel_rfl, by kernel_rfl, by kernel_rfl, by kernel_rfl, by kernel_rfl, by kernel_rfl, by kernel_rfl, trivial⟩, (FrS.refl (W := f61) e243.wf), u256⟩ ?_
    rintro n266 α H268 ⟨m0, i1, hi273, hh272, e269, m271⟩ K278 k278
    obtain ⟨n274, z275, rfl, hz276, hn277⟩ := iter_succ hi273
    obtain ⟨β, rfl⟩ := has_ex hh272
    clear hh272
    replace hz276 : z_viaductlaw05_CsrMemory_l0 y57 m0 i1 = some z275 := hz276
    unfold z_viaductlaw05_CsrMemory_l0 at hz276
    refine w_seqk fun K279 k279 => ?_
    refine w_reg (by kernel_rfl) ?_
    refine s_qk (.bool (decide (i1 < (y57.1.length : Int)))) (by kernel_rfl) ?_
    refine s_nil ?_
    refine k279 _ _ ?_
    refine w_seqk fun K280 k280 => ?_
    refine w_condp (i1 < (y57.1.length : Int)) (by kernel_rfl) rfl (fun h281 => ?_) (fun h281 => ?_)
    ·have r282 := ite_t h281 hz276
     refine w_skip ?_
     refine k280 _ _ ?_
     refine w_seqk fun K283 k283 => ?_
     refine w_block ?_
     refine w_seqk fun K284 k284 => ?_
     refine w_reg (by kernel_rfl) ?_
     refine s_qk (.int .i64 i1) (by kernel_rfl) ?_
     refine s_qk (.int .i64 i1) (by kernel_rfl) ?_
     refine s_nil ?_
     refine k284 _ _ ?_
     refine w_reg (by kernel_rfl) ?_
     refine s_qk (.slice a88 n89 c90) (by kernel_rfl) ?_
     refine s_qk (.int .i64 i1) (by kernel_rfl) ?_
     obtain ⟨g285, r286⟩ := G_some r282
     refine s_ql (elp (.slice a88 n89 c90) 1 i1.toNat 0) (x := aIndexAddr Try.prog 22 (.slice a88 n89 c90) (.int .i64 i1)) (by kernel_rfl) (m271.sq.idxb (by kernel_rfl) g285.1 g285.2) ?_
     obtain ⟨H287, q288, e289, hm290⟩ := Ow.store (P := Try.prog) (t := 3) (off := 0) e269.wf m271 g285.1 g285.2 (.int .i64 (-7)) [.int .i64 (-7)] (by kernel_rfl) (by kernel_rfl) rfl (-7) (Nat.le_of_ble_eq_true rfl) (by kernel_rfl)
     refine s_ek (undef) (by kernel_rfl) (map_ok q288) ?_
     refine s_nil ?_
     refine k283 _ _ ?_
     refine w_reg (by kernel_rfl) ?_
     obtain ⟨g291, r292⟩ := G_some r286
     refine s_w ((i1 + 1)) (k := .i64) (x := (i1 + 1)) (by kernel_rfl) (wrap64 (by have := g291; omega)) ?_
     refine s_qk (.int .i64 (i1 + 1)) (by kernel_rfl) ?_
     refine s_nil ?_
     obtain rfl := Option.some.inj r292
     exact k278 n274 _ _ (Nat.lt_succ_self _) ⟨(m0.set i1.toNat (-7)), (i1 + 1), hn277, ⟨by kernel_rfl, by kernel_rfl, by kernel_rfl, by kernel_rfl, by kernel_rfl, by kernel_rfl, by kernel_rfl, by kernel_rfl, by kernel_rfl, by kernel_rfl, by kernel_rfl, trivial⟩, (FrS.step e243.wf (FrS.step e243.wf (FrS.refl (W := f61) e243.wf) e269 Inn.refl') e289 Inn.refl'), hm290⟩
    ·have r293 := ite_f h281 hz276
     refine w_exit (th_exit (th_exit (bl_eq ?_)))
     obtain rfl := Option.some.inj r293
     obtain rfl := it_inr hn277
     exact k264 _ _ ⟨⟨by kernel_rfl, by kernel_rfl, by kernel_rfl, by kernel_rfl, by kernel_rfl, by kernel_rfl, by kernel_rfl, by kernel_rfl, by kernel_rfl, trivial⟩, (FrS.step e243.wf (FrS.refl (W := f61) e243.wf) e269 Inn.refl'), m271⟩
   ·obtain ⟨hh265, e261, m263⟩ := hM
    obtain ⟨β, rfl⟩ := has_ex hh265
    clear hh265
    refine k254 _ _ ?_
    refine w_seqk fun K294 k294 => ?_
    refine w_reg (by kernel_rfl) ?_
    refine s_qk (.slice a88 n89 c90) (by kernel_rfl) ?_
    refine s_owk (enc := (encI .i64)) (sz := 1) e261.wf [1, 2] 2 (by decide) (fun _ _ => rfl) (fun _ _ => rfl) rfl (by kernel_rfl) fun s295 f296 H297 e298 hf299 hm300 => ?_
    obtain ⟨a301, n302, c303, rfl⟩ := hm300.form
    have u305 := (m263.ext e298)
    obtain ⟨g306, r307⟩ := G_some r259
    obtain ⟨s308, f310, H315, H316, q314, q317, hf313, hk318⟩ := Ow.append2 (P := Try.prog) 8 e298.wf u305 hm300.sq (fun _ _ => rfl) (at_ := #[22, 22]) rfl rfl (by kernel_rfl) (by kernel_rfl) (by decide) (by have := g306; first | omega | (simp only [List.length_cons, List.length_nil] at this ⊢; omega) | (simp at this ⊢; omega))
    refine s_apk (by kernel_rfl) (by kernel_rfl) q314 q317 fun H309 hH319 => ?_
    obtain ⟨e311, hm312, ho320⟩ := hk318 H309 hH319
    obtain ⟨a321, n322, c323, rfl⟩ := hm312.form
    refine s_qk (.slice a321 n322 c323) (by kernel_rfl) ?_
    refine s_nil ?_
    refine k294 _ _ ?_
    refine w_seqk fun K325 k325 => ?_
    refine w_reg (by kernel_rfl) ?_
    refine s_qk (.slice a321 n322 c323) (by kernel_rfl) ?_
    refine s_ql (.int .i64 ((o257 ++ [1, 2]).length : Int)) (x := aLen Try.prog 22 (.slice a321 n322 c323) H309) (by kernel_rfl) (hm312.sq.lenb (by kernel_rfl)) ?_
    refine s_qk (.slice a88 n89 c90) (by kernel_rfl) ?_
    refine s_ql (.int .i64 (o257.length : Int)) (x := aLen Try.prog 22 (.slice a88 n89 c90) H309) (by kernel_rfl) (ho320.sq.lenb (by kernel_rfl)) ?_
    obtain ⟨g326, r327⟩ := G_some r307
    refine s_w (((o257.length : Int) + 2)) (k := .i64) (x := ((o257.length : Int) + 2)) (by kernel_rfl) (wrap64 (by have := g326; omega)) ?_
    refine s_qk (.bool (!decide (((o257 ++ [1, 2]).length : Int) = ((o257.length : Int) + 2)))) (by kernel_rfl) ?_
    refine s_nil ?_
    refine k325 _ _ ?_
    refine w_condn (((o257 ++ [1, 2]).length : Int) = ((o257.length : Int) + 2)) (by kernel_rfl) rfl (fun h328 => ?_) (fun h328 => ?_)
    ·have r329 := ite_f h328 r327
     refine w_seqk fun K330 k330 => ?_
     refine w_reg (by kernel_rfl) ?_
     refine s_qk (.bool false) (by kernel_rfl) ?_
     refine s_nil ?_
     refine k330 _ _ ?_
     refine w_ret (bl_ret (th_ret (th_ret (bl_ret (th_ret ?_)))))
     refine b_ret (fn := Try.f6) (vs := [.bool false]) (aRes_tmp (by kernel_rfl) (rfl)) ?_
     obtain rfl := Option.some.inj r329
     exact ⟨rfl, (FrS.step wf ((FrS.step wf ((FrS.step wf (FrS.step wf (FrS.step wf ((FrS.step wf (FrS.step wf ((FrS.step wf (FrS.step wf ((FrS.step wf (FrS.step wf ((FrS.step wf (FrS.step wf ((FrS.refl (W := []) wf).extR e4) e17 Inn.nil) e32 Inn.nil).extR e46) e52 (hb47.fresh (ntr (ntr e4.next e17.next) e32.next))) e69 Inn.nil).extR e99) e105 (hb100.fresh (ntr (ntr (ntr (ntr (ntr e4.next e17.next) e32.next) e46.next) e52.next) e69.next))) e125 Inn.nil).extR e155) e161 (hb156.fresh (ntr (ntr (ntr (ntr (ntr (ntr (ntr (ntr e4.next e17.next) e32.next) e46.next) e52.next) e69.next) e99.next) e105.next) e125.next))) e178 Inn.nil).extR e191) e197 (hb192.fresh (ntr (ntr (ntr (ntr (ntr (ntr (ntr (ntr (ntr (ntr (ntr e4.next e17.next) e32.next) e46.next) e52.next) e69.next) e99.next) e105.next) e125.next) e155.next) e161.next) e178.next))) e213 Inn.nil) e233 Inn.nil).extR e243) e261 (i74.fresh (ntr (ntr (ntr (ntr e4.next e17.next) e32.next) e46.next) e52.next))).extR e298) e311 (i74.fresh (ntr (ntr (ntr (ntr e4.next e17.next) e32.next) e46.next) e52.next)))⟩
    ·have r331 := ite_t h328 r327
     refine w_skip ?_
     refine k252 _ _ ?_
     refine w_reg (by kernel_rfl) ?_
     refine s_qk (.int .i64 1) (by kernel_rfl) ?_
     refine s_qk (.int .i64 1) (by kernel_rfl) ?_
     refine s_nil ?_
     refine w_unroll ?_
     refine w_seqk fun K332 k332 => ?_
     refine w_reg (by kernel_rfl) ?_
     refine s_qk (.bool true) (by kernel_rfl) ?_
     refine s_nil ?_
     refine k332 _ _ ?_
     refine w_seqk fun K333 k333 => ?_
     refine w_cond true (by kernel_rfl) rfl (fun _ => ?_) (fun h => by cases h)
     refine w_skip ?_
     refine k333 _ _ ?_
     refine w_seqk fun K334 k334 => ?_
     refine w_block ?_
     refine w_seqk fun K335 k335 => ?_
     refine w_reg (by kernel_rfl) ?_
     refine s_qk (.pointer (some ⟨b241, 1, none⟩)) (by kernel_rfl) ?_
     have u336 := (((r245.frS e261 (Dj.symm (hb244.djn (m70.lt.le (ntr (ntr (ntr (ntr (ntr (ntr (ntr (ntr (ntr e99.next e105.next) e125.next) e155.next) e161.next) e178.next) e191.next) e197.next) e213.next) e233.next))))).ext e298).frS e311 (Dj.symm (hb244.djn (m70.lt.le (ntr (ntr (ntr (ntr (ntr (ntr (ntr (ntr (ntr e99.next e105.next) e125.next) e155.next) e161.next) e178.next) e191.next) e197.next) e213.next) e233.next)))))
     refine s_ql (.slice a91 n92 c93) (x := aLoad Try.prog 22 (.pointer (some ⟨b241, 1, none⟩)) H309) (by kernel_rfl) (u336.ld (by kernel_rfl)) ?_
     refine s_qk (.slice a91 n92 c93) (by kernel_rfl) ?_
     refine s_nil ?_
     refine k335 _ _ ?_
     refine w_seqk fun K337 k337 => ?_
     refine w_seqk fun K338 k338 => ?_
     refine w_reg (by kernel_rfl) ?_
     refine s_qk (.slice a91 n92 c93) (by kernel_rfl) ?_
     have u339 := ((((u247.ext e243).fr e261 d78).ext e298).fr e311 d78)
     refine s_ql (.int .i64 (y57.2.1.length : Int)) (x := aLen Try.prog 22 (.slice a91 n92 c93) H309) (by kernel_rfl) (u339.sq.lenb (by kernel_rfl)) ?_
     refine s_qk (.int .i64 0) (by kernel_rfl) ?_
     refine s_nil ?_
     refine k338 _ _ ?_
     obtain ⟨o340, hx341, r342⟩ := bind_some r331
     refine w_mid (fun α H343 => Has α [(1, .pointer (some ⟨b2, 0, none⟩)), (5, .pointer (some ⟨b97, 0, none⟩)), (7, .pointer (some ⟨b153, 0, none⟩)), (9, .pointer (some ⟨b189, 0, none⟩)), (11, .slice a221 n222 c223), (14, .slice a91 n92 c93), (64, .slice (some ⟨b241, 0, none⟩) 3 3), (65, .int .i64 3), (66, .int .i64 1)] ∧ FrS f63 H309 H343 ∧ Ow (encI .i64) 1 H343 (.slice a91 n92 c93) o340 f63) (fun K347 k347 => ?_) (fun α H343 hM => ?_)
     ·refine w_block ?_
      obtain ⟨n349, hn350⟩ := loopO_iff.1 hx341
      refine w_loopn (fun n α H351 => ∃ (m2 : List (Int)), ∃ (i3 : Int), iterO (fun zz_ => z_viaductlaw05_CsrMemory_l1 y57 zz_.1 zz_.2) n (m2, i3) = some o340 ∧ Has α [(1, .pointer (some ⟨b2, 0, none⟩)), (5, .pointer (some ⟨b97, 0, none⟩)), (7, .pointer (some ⟨b153, 0, none⟩)), (9, .pointer (some ⟨b189, 0, none⟩)), (11, .slice a221 n222 c223), (14, .slice a91 n92 c93), (64, .slice (some ⟨b241, 0, none⟩) 3 3), (65, .int .i64 3), (66, .int .i64 1), (71, .int .i64 (y57.2.1.length : Int)), (72, .int .i64 i3)] ∧ FrS f63 H309 H351 ∧ Ow (encI .i64) 1 H351 (.slice a91 n92 c93) m2 f63) n349 ⟨y57.2.1, 0, hn350, ⟨by kernel_rfl, by kernel_rfl, by kernel_rfl, by kernel_rfl, by kernel_rfl, by kernel_rfl, by kernel_rfl, by kernel_rfl, by kernel_rfl, by kernel_rfl, by kernel_rfl, trivial⟩, (FrS.refl (W := f63) e311.wf), u339⟩ ?_
      rintro n349 α H351 ⟨m2, i3, hi356, hh355, e352, m354⟩ K361 k361
      obtain ⟨n357, z358, rfl, hz359, hn360⟩ := iter_succ hi356
      obtain ⟨β, rfl⟩ := has_ex hh355
      clear hh355
      replace hz359 : z_viaductlaw05_CsrMemory_l1 y57 m2 i3 = some z358 := hz359
      unfold z_viaductlaw05_CsrMemory_l1 at hz359
      refine w_seqk fun K362 k362 => ?_
      refine w_reg (by kernel_rfl) ?_
      refine s_qk (.bool (decide (i3 < (y57.2.1.length : Int)))) (by kernel_rfl) ?_
      refine s_nil ?_
      refine k362 _ _ ?_
      refine w_seqk fun K363 k363 => ?_
      refine w_condp (i3 < (y57.2.1.length : Int)) (by kernel_rfl) rfl (fun h364 => ?_) (fun h364 => ?_)
      ·have r365 := ite_t h364 hz359
       refine w_skip ?_
       refine k363 _ _ ?_
       refine w_seqk fun K366 k366 => ?_
       refine w_block ?_
       refine w_seqk fun K367 k367 => ?_
       refine w_reg (by kernel_rfl) ?_
       refine s_qk (.int .i64 i3) (by kernel_rfl) ?_
       refine s_qk (.int .i64 i3) (by kernel_rfl) ?_
       refine s_nil ?_
       refine k367 _ _ ?_
       refine w_reg (by kernel_rfl) ?_
       refine s_qk (.slice a91 n92 c93) (by kernel_rfl) ?_
       refine s_qk (.int .i64 i3) (by kernel_rfl) ?_
       obtain ⟨g368, r369⟩ := G_some r365
       refine s_ql (elp (.slice a91 n92 c93) 1 i3.toNat 0) (x := aIndexAddr Try.prog 22 (.slice a91 n92 c93) (.int .i64 i3)) (by kernel_rfl) (m354.sq.idxb (by kernel_rfl) g368.1 g368.2) ?_
       obtain ⟨H370, q371, e372, hm373⟩ := Ow.store (P := Try.prog) (t := 3) (off := 0) e352.wf m354 g368.1 g368.2 (.int .i64 (-7)) [.int .i64 (-7)] (by kernel_rfl) (by kernel_rfl) rfl (-7) (Nat.le_of_ble_eq_true rfl) (by kernel_rfl)
       refine s_ek (undef) (by kernel_rfl) (map_ok q371) ?_
       refine s_nil ?_
       refine k366 _ _ ?_
       refine w_reg (by kernel_rfl) ?_
       obtain ⟨g374, r375⟩ := G_some r369
       refine s_w ((i3 + 1)) (k := .i64) (x := (i3 + 1)) (by kernel_rfl) (wrap64 (by have := g374; omega)) ?_
       refine s_qk (.int .i64 (i3 + 1)) (by kernel_rfl) ?_
       refine s_nil ?_
       obtain rfl := Option.some.inj r375
       exact k361 n357 _ _ (Nat.lt_succ_self _) ⟨(m2.set i3.toNat (-7)), (i3 + 1), hn360, ⟨by kernel_rfl, by kernel_rfl, by kernel_rfl, by kernel_rfl, by kernel_rfl, by kernel_rfl, by kernel_rfl, by kernel_rfl, by kernel_rfl, by kernel_rfl, by kernel_rfl, trivial⟩, (FrS.step e311.wf (FrS.step e311.wf (FrS.refl (W := f63) e311.wf) e352 Inn.refl') e372 Inn.refl'), hm373⟩
      ·have r376 := ite_f h364 hz359
       refine w_exit (th_exit (th_exit (bl_eq ?_)))
       obtain rfl := Option.some.inj r376
       obtain rfl := it_inr hn360
       exact k347 _ _ ⟨⟨by kernel_rfl, by kernel_rfl, by kernel_rfl, by kernel_rfl, by kernel_rfl, by kernel_rfl, by kernel_rfl, by kernel_rfl, by kernel_rfl, trivial⟩, (FrS.step e311.wf (FrS.refl (W := f63) e311.wf) e352 Inn.refl'), m354⟩
     ·obtain ⟨hh348, e344, m346⟩ := hM
      obtain ⟨β, rfl⟩ := has_ex hh348
      clear hh348
      refine k337 _ _ ?_
      refine w_seqk fun K377 k377 => ?_
      refine w_reg (by kernel_rfl) ?_
      refine s_qk (.slice a91 n92 c93) (by kernel_rfl) ?_
      refine s_owk (enc := (encI .i64)) (sz := 1) e344.wf [1, 2] 2 (by decide) (fun _ _ => rfl) (fun _ _ => rfl) rfl (by kernel_rfl) fun s378 f379 H380 e381 hf382 hm383 => ?_
      obtain ⟨a384, n385, c386, rfl⟩ := hm383.form
      have u388 := (m346.ext e381)
      obtain ⟨g389, r390⟩ := G_some r342
      obtain ⟨s391, f393, H398, H399, q397, q400, hf396, hk401⟩ := Ow.append2 (P := Try.prog) 8 e381.wf u388 hm383.sq (fun _ _ => rfl) (at_ := #[22, 22]) rfl rfl (by kernel_rfl) (by kernel_rfl) (by decide) (by have := g389; first | omega | (simp only [List.length_cons, List.length_nil] at this ⊢; omega) | (simp at this ⊢; omega))
      refine s_apk (by kernel_rfl) (by kernel_rfl) q397 q400 fun H392 hH402 => ?_
      obtain ⟨e394, hm395, ho403⟩ := hk401 H392 hH402
      obtain ⟨a404, n405, c406, rfl⟩ := hm395.form
      refine s_qk (.slice a404 n405 c406) (by kernel_rfl) ?_
      refine s_nil ?_
      refine k377 _ _ ?_
      refine w_seqk fun K408 k408 => ?_
      refine w_reg (by kernel_rfl) ?_
      refine s_qk (.slice a404 n405 c406) (by kernel_rfl) ?_
      refine s_ql (.int .i64 ((o340 ++ [1, 2]).length : Int)) (x := aLen Try.prog 22 (.slice a404 n405 c406) H392) (by kernel_rfl) (hm395.sq.lenb (by kernel_rfl)) ?_
      refine s_qk (.slice a91 n92 c93) (by kernel_rfl) ?_
      refine s_ql (.int .i64 (o340.length : Int)) (x := aLen Try.prog 22 (.slice a91 n92 c93) H392) (by kernel_rfl) (ho403.sq.lenb (by kernel_rfl)) ?_
      obtain ⟨g409, r410⟩ := G_some r390
      refine s_w (((o340.length : Int) + 2)) (k := .i64) (x := ((o340.length : Int) + 2)) (by kernel_rfl) (wrap64 (by have := g409; omega)) ?_
      refine s_qk (.bool (!decide (((o340 ++ [1, 2]).length : Int) = ((o340.length : Int) + 2)))) (by kernel_rfl) ?_
      refine s_nil ?_
      refine k408 _ _ ?_
      refine w_condn (((o340 ++ [1, 2]).length : Int) = ((o340.length : Int) + 2)) (by kernel_rfl) rfl (fun h411 => ?_) (fun h411 => ?_)
      ·have r412 := ite_f h411 r410
       refine w_seqk fun K413 k413 => ?_
       refine w_reg (by kernel_rfl) ?_
       refine s_qk (.bool false) (by kernel_rfl) ?_
       refine s_nil ?_
       refine k413 _ _ ?_
       refine w_ret (bl_ret (th_ret (th_ret (bl_ret (th_ret ?_)))))
       refine b_ret (fn := Try.f6) (vs := [.bool false]) (aRes_tmp (by kernel_rfl) (rfl)) ?_
       obtain rfl := Option.some.inj r412
       exact ⟨rfl, (FrS.step wf ((FrS.step wf (FrS.step wf ((FrS.step wf ((FrS.step wf (FrS.step wf (FrS.step wf ((FrS.step wf (FrS.step wf ((FrS.step wf (FrS.step wf ((FrS.step wf (FrS.step wf ((FrS.step wf (FrS.step wf ((FrS.refl (W := []) wf).extR e4) e17 Inn.nil) e32 Inn.nil).extR e46) e52 (hb47.fresh (ntr (ntr e4.next e17.next) e32.next))) e69 Inn.nil).extR e99) e105 (hb100.fresh (ntr (ntr (ntr (ntr (ntr e4.next e17.next) e32.next) e46.next) e52.next) e69.next))) e125 Inn.nil).extR e155) e161 (hb156.fresh (ntr (ntr (ntr (ntr (ntr (ntr (ntr (ntr e4.next e17.next) e32.next) e46.next) e52.next) e69.next) e99.next) e105.next) e125.next))) e178 Inn.nil).extR e191) e197 (hb192.fresh (ntr (ntr (ntr (ntr (ntr (ntr (ntr (ntr (ntr (ntr (ntr e4.next e17.next) e32.next) e46.next) e52.next) e69.next) e99.next) e105.next) e125.next) e155.next) e161.next) e178.next))) e213 Inn.nil) e233 Inn.nil).extR e243) e261 (i74.fresh (ntr (ntr (ntr (ntr e4.next e17.next) e32.next) e46.next) e52.next))).extR e298) e311 (i74.fresh (ntr (ntr (ntr (ntr e4.next e17.next) e32.next) e46.next) e52.next))) e344 (i75.fresh (ntr (ntr (ntr (ntr e4.next e17.next) e32.next) e46.next) e52.next))).extR e381) e394 (i75.fresh (ntr (ntr (ntr (ntr e4.next e17.next) e32.next) e46.next) e52.next)))⟩
      ·have r414 := ite_t h411 r410
       refine w_skip ?_
       refine k334 _ _ ?_
       refine w_reg (by kernel_rfl) ?_
       refine s_qk (.int .i64 2) (by kernel_rfl) ?_
       refine s_qk (.int .i64 2) (by kernel_rfl) ?_
       refine s_nil ?_
       refine w_unroll ?_
       refine w_seqk fun K415 k415 => ?_
       refine w_reg (by kernel_rfl) ?_
       refine s_qk (.bool true) (by kernel_rfl) ?_
       refine s_nil ?_
       refine k415 _ _ ?_
       refine w_seqk fun K416 k416 => ?_
       refine w_cond true (by kernel_rfl) rfl (fun _ => ?_) (fun h => by cases h)
       refine w_skip ?_
       refine k416 _ _ ?_
       refine w_seqk fun K417 k417 => ?_
       refine w_block ?_
       refine w_seqk fun K418 k418 => ?_
       refine w_reg (by kernel_rfl) ?_
       refine s_qk (.pointer (some ⟨b241, 2, none⟩)) (by kernel_rfl) ?_
       have u419 := (((u336.frS e344 (Dj.symm (hb244.djn (m71.lt.le (ntr (ntr (ntr (ntr (ntr (ntr (ntr (ntr (ntr e99.next e105.next) e125.next) e155.next) e161.next) e178.next) e191.next) e197.next) e213.next) e233.next))))).ext e381).frS e394 (Dj.symm (hb244.djn (m71.lt.le (ntr (ntr (ntr (ntr (ntr (ntr (ntr (ntr (ntr e99.next e105.next) e125.next) e155.next) e161.next) e178.next) e191.next) e197.next) e213.next) e233.next)))))
       refine s_ql (.slice a94 n95 c96) (x := aLoad Try.prog 22 (.pointer (some ⟨b241, 2, none⟩)) H392) (by kernel_rfl) (u419.ld (by kernel_rfl)) ?_
       refine s_qk (.slice a94 n95 c96) (by kernel_rfl) ?_
       refine s_nil ?_
       refine k418 _ _ ?_
       refine w_seqk fun K420 k420 => ?_
       refine w_seqk fun K421 k421 => ?_
       refine w_reg (by kernel_rfl) ?_
       refine s_qk (.slice a94 n95 c96) (by kernel_rfl) ?_
       have u422 := (((((((u246.ext e243).fr e261 d79).ext e298).fr e311 d79).fr e344 d80).ext e381).fr e394 d80)
       refine s_ql (.int .i64 (y57.2.2.1.length : Int)) (x := aLen Try.prog 22 (.slice a94 n95 c96) H392) (by kernel_rfl) (u422.sq.lenb (by kernel_rfl)) ?_
       refine s_qk (.int .i64 0) (by kernel_rfl) ?_
       refine s_nil ?_
       refine k421 _ _ ?_
       obtain ⟨o423, hx424, r425⟩ := bind_some r414
       refine w_mid (fun α H426 => Has α [(1, .pointer (some ⟨b2, 0, none⟩)), (5, .pointer (some ⟨b97, 0, none⟩)), (7, .pointer (some ⟨b153, 0, none⟩)), (9, .pointer (some ⟨b189, 0, none⟩)), (11, .slice a221 n222 c223), (14, .slice a94 n95 c96), (64, .slice (some ⟨b241, 0, none⟩) 3 3), (65, .int .i64 3), (66, .int .i64 2)] ∧ FrS f65 H392 H426 ∧ Ow (encI .i64) 1 H426 (.slice a94 n95 c96) o423 f65) (fun K430 k430 => ?_) (fun α H426 hM => ?_)
       ·refine w_block ?_
        obtain ⟨n432, hn433⟩ := loopO_iff.1 hx424
        refine w_loopn (fun n α H434 => ∃ (m4 : List (Int)), ∃ (i5 : Int), iterO (fun zz_ => z_viaductlaw05_CsrMemory_l2 y57 zz_.1 zz_.2) n (m4, i5) = some o423 ∧ Has α [(1, .pointer (some ⟨b2, 0, none⟩)), (5, .pointer (some ⟨b97, 0, none⟩)), (7, .pointer (some ⟨b153, 0, none⟩)), (9, .pointer (some ⟨b189, 0, none⟩)), (11, .slice a221 n222 c223), (14, .slice a94 n95 c96), (64, .slice (some ⟨b241, 0, none⟩) 3 3), (65, .int .i64 3), (66, .int .i64 2), (71, .int .i64 (y57.2.2.1.length : Int)), (72, .int .i64 i5)] ∧ FrS f65 H392 H434 ∧ Ow (encI .i64) 1 H434 (.slice a94 n95 c96) m4 f65) n432 ⟨y57.2.2.1, 0, hn433, ⟨by kernel_rfl, by kernel_rfl, by kernel_rfl, by kernel_rfl, by kernel_rfl, by kernel_rfl, by kernel_rfl, by kernel_rfl, by kernel_rfl, by kernel_rfl, by kernel_rfl, trivial⟩, (FrS.refl (W := f65) e394.wf), u422⟩ ?_
        rintro n432 α H434 ⟨m4, i5, hi439, hh438, e435, m437⟩ K444 k444
        obtain ⟨n440, z441, rfl, hz442, hn443⟩ := iter_succ hi439
        obtain ⟨β, rfl⟩ := has_ex hh438
        clear hh438
        replace hz442 : z_viaductlaw05_CsrMemory_l2 y57 m4 i5 = some z441 := hz442
        unfold z_viaductlaw05_CsrMemory_l2 at hz442
        refine w_seqk fun K445 k445 => ?_
        refine w_reg (by kernel_rfl) ?_
        refine s_qk (.bool (decide (i5 < (y57.2.2.1.length : Int)))) (by kernel_rfl) ?_
        refine s_nil ?_
        refine k445 _ _ ?_
        refine w_seqk fun K446 k446 => ?_
        refine w_condp (i5 < (y57.2.2.1.length : Int)) (by kernel_rfl) rfl (fun h447 => ?_) (fun h447 => ?_)
        ·have r448 := ite_t h447 hz442
         refine w_skip ?_
         refine k446 _ _ ?_
         refine w_seqk fun K449 k449 => ?_
         refine w_block ?_
         refine w_seqk fun K450 k450 => ?_
         refine w_reg (by kernel_rfl) ?_
         refine s_qk (.int .i64 i5) (by kernel_rfl) ?_
         refine s_qk (.int .i64 i5) (by kernel_rfl) ?_
         refine s_nil ?_
         refine k450 _ _ ?_
         refine w_reg (by kernel_rfl) ?_
         refine s_qk (.slice a94 n95 c96) (by kernel_rfl) ?_
         refine s_qk (.int .i64 i5) (by kernel_rfl) ?_
         obtain ⟨g451, r452⟩ := G_some r448
         refine s_ql (elp (.slice a94 n95 c96) 1 i5.toNat 0) (x := aIndexAddr Try.prog 22 (.slice a94 n95 c96) (.int .i64 i5)) (by kernel_rfl) (m437.sq.idxb (by kernel_rfl) g451.1 g451.2) ?_
         obtain ⟨H453, q454, e455, hm456⟩ := Ow.store (P := Try.prog) (t := 3) (off := 0) e435.wf m437 g451.1 g451.2 (.int .i64 (-7)) [.int .i64 (-7)] (by kernel_rfl) (by kernel_rfl) rfl (-7) (Nat.le_of_ble_eq_true rfl) (by kernel_rfl)
         refine s_ek (undef) (by kernel_rfl) (map_ok q454) ?_
         refine s_nil ?_
         refine k449 _ _ ?_
         refine w_reg (by kernel_rfl) ?_
         obtain ⟨g457, r458⟩ := G_some r452
         refine s_w ((i5 + 1)) (k := .i64) (x := (i5 + 1)) (by kernel_rfl) (wrap64 (by have := g457; omega)) ?_
         refine s_qk (.int .i64 (i5 + 1)) (by kernel_rfl) ?_
         refine s_nil ?_
         obtain rfl := Option.some.inj r458
         exact k444 n440 _ _ (Nat.lt_succ_self _) ⟨(m4.set i5.toNat (-7)), (i5 + 1), hn443, ⟨by kernel_rfl, by kernel_rfl, by kernel_rfl, by kernel_rfl, by kernel_rfl, by kernel_rfl, by kernel_rfl, by kernel_rfl, by kernel_rfl, by kernel_rfl, by kernel_rfl, trivial⟩, (FrS.step e394.wf (FrS.step e394.wf (FrS.refl (W := f65) e394.wf) e435 Inn.refl') e455 Inn.refl'), hm456⟩
        ·have r459 := ite_f h447 hz442
         refine w_exit (th_exit (th_exit (bl_eq ?_)))
         obtain rfl := Option.some.inj r459
         obtain rfl := it_inr hn443
         exact k430 _ _ ⟨⟨by kernel_rfl, by kernel_rfl, by kernel_rfl, by kernel_rfl, by kernel_rfl, by kernel_rfl, by kernel_rfl, by kernel_rfl, by kernel_rfl, trivial⟩, (FrS.step e394.wf (FrS.refl (W := f65) e394.wf) e435 Inn.refl'), m437⟩
       ·obtain ⟨hh431, e427, m429⟩ := hM
        obtain ⟨β, rfl⟩ := has_ex hh431
        clear hh431
        refine k420 _ _ ?_
        refine w_seqk fun K460 k460 => ?_
        refine w_reg (by kernel_rfl) ?_
        refine s_qk (.slice a94 n95 c96) (by kernel_rfl) ?_
        refine s_owk (enc := (encI .i64)) (sz := 1) e427.wf [1, 2] 2 (by decide) (fun _ _ => rfl) (fun _ _ => rfl) rfl (by kernel_rfl) fun s461 f462 H463 e464 hf465 hm466 => ?_
        obtain ⟨a467, n468, c469, rfl⟩ := hm466.form
        have u471 := (m429.ext e464)
        obtain ⟨g472, r473⟩ := G_some r425
        obtain ⟨s474, f476, H481, H482, q480, q483, hf479, hk484⟩ := Ow.append2 (P := Try.prog) 8 e464.wf u471 hm466.sq (fun _ _ => rfl) (at_ := #[22, 22]) rfl rfl (by kernel_rfl) (by kernel_rfl) (by decide) (by have := g472; first | omega | (simp only [List.length_cons, List.length_nil] at this ⊢; omega) | (simp at this ⊢; omega))
        refine s_apk (by kernel_rfl) (by kernel_rfl) q480 q483 fun H475 hH485 => ?_
        obtain ⟨e477, hm478, ho486⟩ := hk484 H475 hH485
        obtain ⟨a487, n488, c489, rfl⟩ := hm478.form
        refine s_qk (.slice a487 n488 c489) (by kernel_rfl) ?_
        refine s_nil ?_
        refine k460 _ _ ?_
        refine w_seqk fun K491 k491 => ?_
        refine w_reg (by kernel_rfl) ?_
        refine s_qk (.slice a487 n488 c489) (by kernel_rfl) ?_
        refine s_ql (.int .i64 ((o423 ++ [1, 2]).length : Int)) (x := aLen Try.prog 22 (.slice a487 n488 c489) H475) (by kernel_rfl) (hm478.sq.lenb (by kernel_rfl)) ?_
        refine s_qk (.slice a94 n95 c96) (by kernel_rfl) ?_
        refine s_ql (.int .i64 (o423.length : Int)) (x := aLen Try.prog 22 (.slice a94 n95 c96) H475) (by kernel_rfl) (ho486.sq.lenb (by kernel_rfl)) ?_
        obtain ⟨g492, r493⟩ := G_some r473
        refine s_w (((o423.length : Int) + 2)) (k := .i64) (x := ((o423.length : Int) + 2)) (by kernel_rfl) (wrap64 (by have := g492; omega)) ?_
        refine s_qk (.bool (!decide (((o423 ++ [1, 2]).length : Int) = ((o423.length : Int) + 2)))) (by kernel_rfl) ?_
        refine s_nil ?_
        refine k491 _ _ ?_
        refine w_condn (((o423 ++ [1, 2]).length : Int) = ((o423.length : Int) + 2)) (by kernel_rfl) rfl (fun h494 => ?_) (fun h494 => ?_)
        ·have r495 := ite_f h494 r493
         refine w_seqk fun K496 k496 => ?_
         refine w_reg (by kernel_rfl) ?_
         refine s_qk (.bool false) (by kernel_rfl) ?_
         refine s_nil ?_
         refine k496 _ _ ?_
         refine w_ret (bl_ret (th_ret (th_ret (bl_ret (th_ret ?_)))))
         refine b_ret (fn := Try.f6) (vs := [.bool false]) (aRes_tmp (by kernel_rfl) (rfl)) ?_
         have c497 := (FrS.step wf ((FrS.step wf (FrS.step wf ((FrS.step wf (FrS.step wf ((FrS.refl (W := []) wf).extR e4) e17 Inn.nil) e32 Inn.nil).extR e46) e52 (hb47.fresh (ntr (ntr e4.next e17.next) e32.next))) e69 Inn.nil).extR e99) e105 (hb100.fresh (ntr (ntr (ntr (ntr (ntr e4.next e17.next) e32.next) e46.next) e52.next) e69.next)))
         have c498 := (FrS.step e105.wf (FrS.step e105.wf (FrS.step e105.wf ((FrS.step e105.wf (FrS.step e105.wf ((FrS.step e105.wf (FrS.refl (W := []) e105.wf) e125 Inn.nil).extR e155) e161 (hb156.fresh e125.next)) e178 Inn.nil).extR e191) e197 (hb192.fresh (ntr (ntr (ntr e125.next e155.next) e161.next) e178.next))) e213 Inn.nil) e233 Inn.nil)
         obtain rfl := Option.some.inj r495
         exact ⟨rfl, (FrS.step wf ((FrS.step wf (FrS.step wf ((FrS.step wf (FrS.step wf ((FrS.step wf ((FrS.step wf (FrS.step wf (FrS.refl (W := []) wf) c497 Inn.nil) c498 Inn.nil).extR e243) e261 (i74.fresh (ntr (ntr (ntr (ntr e4.next e17.next) e32.next) e46.next) e52.next))).extR e298) e311 (i74.fresh (ntr (ntr (ntr (ntr e4.next e17.next) e32.next) e46.next) e52.next))) e344 (i75.fresh (ntr (ntr (ntr (ntr e4.next e17.next) e32.next) e46.next) e52.next))).extR e381) e394 (i75.fresh (ntr (ntr (ntr (ntr e4.next e17.next) e32.next) e46.next) e52.next))) e427 (i76.fresh (ntr (ntr (ntr (ntr e4.next e17.next) e32.next) e46.next) e52.next))).extR e464) e477 (i76.fresh (ntr (ntr (ntr (ntr e4.next e17.next) e32.next) e46.next) e52.next)))⟩
        ·have r499 := ite_t h494 r493
         refine w_skip ?_
         refine k417 _ _ ?_
         refine w_reg (by kernel_rfl) ?_
         refine s_qk (.int .i64 3) (by kernel_rfl) ?_
         refine s_qk (.int .i64 3) (by kernel_rfl) ?_
         refine s_nil ?_
         refine w_unroll ?_
         refine w_seqk fun K500 k500 => ?_
         refine w_reg (by kernel_rfl) ?_
         refine s_qk (.bool false) (by kernel_rfl) ?_
         refine s_nil ?_
         refine k500 _ _ ?_
         refine w_seqk fun K501 k501 => ?_
         refine w_cond false (by kernel_rfl) rfl (fun h => by cases h) (fun _ => ?_)
         refine w_exit (th_exit (th_exit (bl_eq ?_)))
         refine k238 _ _ ?_
         refine w_seqk fun K502 k502 => ?_
         refine w_seqk fun K503 k503 => ?_
         refine w_reg (by kernel_rfl) ?_
         refine s_qk (.pointer (some ⟨b189, 1, none⟩)) (by kernel_rfl) ?_
         have u504 := ((((((((((((r198.frS e213 Dj.nil_l).frS e233 Dj.nil_l).ext e243).frS e261 (Dj.symm (hb192.djn (m70.lt.le (ntr (ntr (ntr (ntr (ntr e99.next e105.next) e125.next) e155.next) e161.next) e178.next))))).ext e298).frS e311 (Dj.symm (hb192.djn (m70.lt.le (ntr (ntr (ntr (ntr (ntr e99.next e105.next) e125.next) e155.next) e161.next) e178.next))))).frS e344 (Dj.symm (hb192.djn (m71.lt.le (ntr (ntr (ntr (ntr (ntr e99.next e105.next) e125.next) e155.next) e161.next) e178.next))))).ext e381).frS e394 (Dj.symm (hb192.djn (m71.lt.le (ntr (ntr (ntr (ntr (ntr e99.next e105.next) e125.next) e155.next) e161.next) e178.next))))).frS e427 (Dj.symm (hb192.djn (m72.lt.le (ntr (ntr (ntr (ntr (ntr e99.next e105.next) e125.next) e155.next) e161.next) e178.next))))).ext e464).frS e477 (Dj.symm (hb192.djn (m72.lt.le (ntr (ntr (ntr (ntr (ntr e99.next e105.next) e125.next) e155.next) e161.next) e178.next)))))
         refine s_ql (.slice a186 n187 c188) (x := aLoad Try.prog 57 (.pointer (some ⟨b189, 1, none⟩)) H475) (by kernel_rfl) (u504.ld (by kernel_rfl)) ?_
         have u505 := (((((((((((((u199.fr e197 (hb192.djn m179.lt)).fr e213 Dj.nil_l).fr e233 Dj.nil_l).ext e243).fr e261 (Dj.symm (i181.djn (m70.lt.le (ntr (ntr (ntr (ntr e99.next e105.next) e125.next) e155.next) e161.next))))).ext e298).fr e311 (Dj.symm (i181.djn (m70.lt.le (ntr (ntr (ntr (ntr e99.next e105.next) e125.next) e155.next) e161.next))))).fr e344 (Dj.symm (i181.djn (m71.lt.le (ntr (ntr (ntr (ntr e99.next e105.next) e125.next) e155.next) e161.next))))).ext e381).fr e394 (Dj.symm (i181.djn (m71.lt.le (ntr (ntr (ntr (ntr e99.next e105.next) e125.next) e155.next) e161.next))))).fr e427 (Dj.symm (i181.djn (m72.lt.le (ntr (ntr (ntr (ntr e99.next e105.next) e125.next) e155.next) e161.next))))).ext e464).fr e477 (Dj.symm (i181.djn (m72.lt.le (ntr (ntr (ntr (ntr e99.next e105.next) e125.next) e155.next) e161.next)))))
         refine s_ql (.int .i64 (y170.2.1.length : Int)) (x := aLen Try.prog 57 (.slice a186 n187 c188) H475) (by kernel_rfl) (u505.sq.lenb (by kernel_rfl)) ?_
         refine s_qk (.int .i64 0) (by kernel_rfl) ?_
         refine s_nil ?_
         refine k503 _ _ ?_
         obtain ⟨o506, hx507, r508⟩ := bind_some r499
         refine w_mid (fun α H509 => Has α [(1, .pointer (some ⟨b2, 0, none⟩)), (5, .pointer (some ⟨b97, 0, none⟩)), (7, .pointer (some ⟨b153, 0, none⟩)), (11, .slice a221 n222 c223)] ∧ FrS f174 H475 H509) (fun K511 k511 => ?_) (fun α H509 hM => ?_)
         ·refine w_block ?_
          obtain ⟨n513, hn514⟩ := loopO_iff.1 hx507
          refine w_loopn (fun n α H515 => ∃ (h6 : List (Int × Int × Int)), ∃ (i7 : Int), iterO (fun zz_ => z_viaductlaw05_CsrMemory_l3 y170 zz_.1 zz_.2) n (h6, i7) = some o506 ∧ Has α [(1, .pointer (some ⟨b2, 0, none⟩)), (5, .pointer (some ⟨b97, 0, none⟩)), (7, .pointer (some ⟨b153, 0, none⟩)), (9, .pointer (some ⟨b189, 0, none⟩)), (11, .slice a221 n222 c223), (91, .int .i64 (y170.2.1.length : Int)), (92, .int .i64 i7)] ∧ FrS f174 H475 H515 ∧ Ow enc_i64_i64_i64 3 H515 (.slice a186 n187 c188) h6 f174) n513 ⟨y170.2.1, 0, hn514, ⟨by kernel_rfl, by kernel_rfl, by kernel_rfl, by kernel_rfl, by kernel_rfl, by kernel_rfl, by kernel_rfl, trivial⟩, (FrS.refl (W := f174) e477.wf), u505⟩ ?_
          rintro n513 α H515 ⟨h6, i7, hi520, hh519, e516, m518⟩ K525 k525
          obtain ⟨n521, z522, rfl, hz523, hn524⟩ := iter_succ hi520
          obtain ⟨β, rfl⟩ := has_ex hh519
          clear hh519
          replace hz523 : z_viaductlaw05_CsrMemory_l3 y170 h6 i7 = some z522 := hz523
          unfold z_viaductlaw05_CsrMemory_l3 at hz523
          refine w_seqk fun K526 k526 => ?_
          refine w_reg (by kernel_rfl) ?_
          refine s_qk (.bool (decide (i7 < (y170.2.1.length : Int)))) (by kernel_rfl) ?_
          refine s_nil ?_
          refine k526 _ _ ?_
          refine w_seqk fun K527 k527 => ?_
          refine w_condp (i7 < (y170.2.1.length : Int)) (by kernel_rfl) rfl (fun h528 => ?_) (fun h528 => ?_)
          ·have r529 := ite_t h528 hz523
           refine w_skip ?_
           refine k527 _ _ ?_
           refine w_seqk fun K530 k530 => ?_
           refine w_block ?_
           refine w_seqk fun K531 k531 => ?_
           refine w_reg (by kernel_rfl) ?_
           refine s_qk (.int .i64 i7) (by kernel_rfl) ?_
           refine s_qk (.int .i64 i7) (by kernel_rfl) ?_
           refine s_nil ?_
           refine k531 _ _ ?_
           refine w_reg (by kernel_rfl) ?_
           refine s_qk (.pointer (some ⟨b189, 1, none⟩)) (by kernel_rfl) ?_
           have u532 := (u504.frS e516 (Dj.symm (hb192.djn m179.lt)))
           refine s_ql (.slice a186 n187 c188) (x := aLoad Try.prog 57 (.pointer (some ⟨b189, 1, none⟩)) H515) (by kernel_rfl) (u532.ld (by kernel_rfl)) ?_
           refine s_qk (.int .i64 i7) (by kernel_rfl) ?_
           obtain ⟨g533, r534⟩ := G_some r529
           refine s_ql (elp (.slice a186 n187 c188) 3 i7.toNat 0) (x := aIndexAddr Try.prog 57 (.slice a186 n187 c188) (.int .i64 i7)) (by kernel_rfl) (m518.sq.idxb (by kernel_rfl) g533.1 g533.2) ?_
           refine s_ql (elp (.slice a186 n187 c188) 3 i7.toNat 2) (x := aFieldAddr Try.prog 73 (elp (.slice a186 n187 c188) 3 i7.toNat 0) 2) (by kernel_rfl) (Sq.fldq (d := 2) m518.sq g533.1 g533.2 (by kernel_rfl)) ?_
           obtain ⟨H535, q536, e537, hm538⟩ := Ow.store (P := Try.prog) (t := 3) (off := 2) e516.wf m518 g533.1 g533.2 (.int .i64 (-7)) [.int .i64 (-7)] (by kernel_rfl) (by kernel_rfl) rfl ((gt h6 i7).1, (gt h6 i7).2.1, (-7)) (Nat.le_of_ble_eq_true rfl) (by kernel_rfl)
           refine s_ek (undef) (by kernel_rfl) (map_ok q536) ?_
           refine s_nil ?_
           refine k530 _ _ ?_
           refine w_reg (by kernel_rfl) ?_
           obtain ⟨g539, r540⟩ := G_some r534
           refine s_w ((i7 + 1)) (k := .i64) (x := (i7 + 1)) (by kernel_rfl) (wrap64 (by have := g539; omega)) ?_
           refine s_qk (.int .i64 (i7 + 1)) (by kernel_rfl) ?_
           refine s_nil ?_
           obtain rfl := Option.some.inj r540
           exact k525 n521 _ _ (Nat.lt_succ_self _) ⟨(h6.set i7.toNat ((gt h6 i7).1, (gt h6 i7).2.1, (-7))), (i7 + 1), hn524, ⟨by kernel_rfl, by kernel_rfl, by kernel_rfl, by kernel_rfl, by kernel_rfl, by kernel_rfl, by kernel_rfl, trivial⟩, (FrS.step e477.wf (FrS.step e477.wf (FrS.refl (W := f174) e477.wf) e516 Inn.refl') e537 Inn.refl'), hm538⟩
          ·have r541 := ite_f h528 hz523
           refine w_exit (th_exit (th_exit (bl_eq ?_)))
           obtain rfl := Option.some.inj r541
           obtain rfl := it_inr hn524
           exact k511 _ _ ⟨⟨by kernel_rfl, by kernel_rfl, by kernel_rfl, by kernel_rfl, trivial⟩, (FrS.step e477.wf (FrS.refl (W := f174) e477.wf) e516 Inn.refl')⟩
         ·obtain ⟨hh512, e510⟩ := hM
          obtain ⟨β, rfl⟩ := has_ex hh512
          clear hh512
          refine k502 _ _ ?_
          refine w_seqk fun K542 k542 => ?_
          refine w_seqk fun K543 k543 => ?_
          refine w_reg (by kernel_rfl) ?_
          refine s_qk (.slice a221 n222 c223) (by kernel_rfl) ?_
          have u544 := ((((((((((((m214.fr e233 Dj.nil_l).ext e243).fr e261 (Dj.symm (i216.djn (m70.lt.le (ntr (ntr (ntr (ntr (ntr (ntr (ntr e99.next e105.next) e125.next) e155.next) e161.next) e178.next) e191.next) e197.next))))).ext e298).fr e311 (Dj.symm (i216.djn (m70.lt.le (ntr (ntr (ntr (ntr (ntr (ntr (ntr e99.next e105.next) e125.next) e155.next) e161.next) e178.next) e191.next) e197.next))))).fr e344 (Dj.symm (i216.djn (m71.lt.le (ntr (ntr (ntr (ntr (ntr (ntr (ntr e99.next e105.next) e125.next) e155.next) e161.next) e178.next) e191.next) e197.next))))).ext e381).fr e394 (Dj.symm (i216.djn (m71.lt.le (ntr (ntr (ntr (ntr (ntr (ntr (ntr e99.next e105.next) e125.next) e155.next) e161.next) e178.next) e191.next) e197.next))))).fr e427 (Dj.symm (i216.djn (m72.lt.le (ntr (ntr (ntr (ntr (ntr (ntr (ntr e99.next e105.next) e125.next) e155.next) e161.next) e178.next) e191.next) e197.next))))).ext e464).fr e477 (Dj.symm (i216.djn (m72.lt.le (ntr (ntr (ntr (ntr (ntr (ntr (ntr e99.next e105.next) e125.next) e155.next) e161.next) e178.next) e191.next) e197.next))))).fr e510 (Dj.symm (i216.djn (m179.lt.le (ntr e191.next e197.next)))))
          refine s_ql (.int .i64 (y205.1.length : Int)) (x := aLen Try.prog 57 (.slice a221 n222 c223) H509) (by kernel_rfl) (u544.sq.lenb (by kernel_rfl)) ?_
          refine s_qk (.int .i64 0) (by kernel_rfl) ?_
          refine s_nil ?_
          refine k543 _ _ ?_
          obtain ⟨o545, hx546, r547⟩ := bind_some r508
          refine w_mid (fun α H548 => Has α [(1, .pointer (some ⟨b2, 0, none⟩)), (5, .pointer (some ⟨b97, 0, none⟩)), (7, .pointer (some ⟨b153, 0, none⟩))] ∧ FrS f209 H509 H548) (fun K550 k550 => ?_) (fun α H548 hM => ?_)
          ·refine w_block ?_
           obtain ⟨n552, hn553⟩ := loopO_iff.1 hx546
           refine w_loopn (fun n α H554 => ∃ (i8 : Int), ∃ (l9 : List (Int × Int × Int)), iterO (fun zz_ => z_viaductlaw05_CsrMemory_l4 y205 zz_.1 zz_.2) n (i8, l9) = some o545 ∧ Has α [(1, .pointer (some ⟨b2, 0, none⟩)), (5, .pointer (some ⟨b97, 0, none⟩)), (7, .pointer (some ⟨b153, 0, none⟩)), (11, .slice a221 n222 c223), (102, .int .i64 (y205.1.length : Int)), (103, .int .i64 i8)] ∧ FrS f209 H509 H554 ∧ Ow enc_i64_i64_i64 3 H554 (.slice a221 n222 c223) l9 f209) n552 ⟨0, y205.1, hn553, ⟨by kernel_rfl, by kernel_rfl, by kernel_rfl, by kernel_rfl, by kernel_rfl, by kernel_rfl, trivial⟩, (FrS.refl (W := f209) e510.wf), u544⟩ ?_
           rintro n552 α H554 ⟨i8, l9, hi559, hh558, e555, m557⟩ K564 k564
           obtain ⟨n560, z561, rfl, hz562, hn563⟩ := iter_succ hi559
           obtain ⟨β, rfl⟩ := has_ex hh558
           clear hh558
           replace hz562 : z_viaductlaw05_CsrMemory_l4 y205 i8 l9 = some z561 := hz562
           unfold z_viaductlaw05_CsrMemory_l4 at hz562
           refine w_seqk fun K565 k565 => ?_
           refine w_reg (by kernel_rfl) ?_
           refine s_qk (.bool (decide (i8 < (y205.1.length : Int)))) (by kernel_rfl) ?_
           refine s_nil ?_
           refine k565 _ _ ?_
           refine w_seqk fun K566 k566 => ?_
           refine w_condp (i8 < (y205.1.length : Int)) (by kernel_rfl) rfl (fun h567 => ?_) (fun h567 => ?_)
           ·have r568 := ite_t h567 hz562
            refine w_skip ?_
            refine k566 _ _ ?_
            refine w_seqk fun K569 k569 => ?_
            refine w_block ?_
            refine w_seqk fun K570 k570 => ?_
            refine w_reg (by kernel_rfl) ?_
            refine s_qk (.int .i64 i8) (by kernel_rfl) ?_
            refine s_qk (.int .i64 i8) (by kernel_rfl) ?_
            refine s_nil ?_
            refine k570 _ _ ?_
            refine w_reg (by kernel_rfl) ?_
            refine s_qk (.slice a221 n222 c223) (by kernel_rfl) ?_
            refine s_qk (.int .i64 i8) (by kernel_rfl) ?_
            obtain ⟨g571, r572⟩ := G_some r568
            refine s_ql (elp (.slice a221 n222 c223) 3 i8.toNat 0) (x := aIndexAddr Try.prog 57 (.slice a221 n222 c223) (.int .i64 i8)) (by kernel_rfl) (m557.sq.idxb (by kernel_rfl) g571.1 g571.2) ?_
            refine s_ql (elp (.slice a221 n222 c223) 3 i8.toNat 2) (x := aFieldAddr Try.prog 73 (elp (.slice a221 n222 c223) 3 i8.toNat 0) 2) (by kernel_rfl) (Sq.fldq (d := 2) m557.sq g571.1 g571.2 (by kernel_rfl)) ?_
            obtain ⟨H573, q574, e575, hm576⟩ := Ow.store (P := Try.prog) (t := 3) (off := 2) e555.wf m557 g571.1 g571.2 (.int .i64 (-7)) [.int .i64 (-7)] (by kernel_rfl) (by kernel_rfl) rfl ((gt l9 i8).1, (gt l9 i8).2.1, (-7)) (Nat.le_of_ble_eq_true rfl) (by kernel_rfl)
            refine s_ek (undef) (by kernel_rfl) (map_ok q574) ?_
            refine s_nil ?_
            refine k569 _ _ ?_
            refine w_reg (by kernel_rfl) ?_
            obtain ⟨g577, r578⟩ := G_some r572
            refine s_w ((i8 + 1)) (k := .i64) (x := (i8 + 1)) (by kernel_rfl) (wrap64 (by have := g577; omega)) ?_
            refine s_qk (.int .i64 (i8 + 1)) (by kernel_rfl) ?_
            refine s_nil ?_
            obtain rfl := Option.some.inj r578
            exact k564 n560 _ _ (Nat.lt_succ_self _) ⟨(i8 + 1), (l9.set i8.toNat ((gt l9 i8).1, (gt l9 i8).2.1, (-7))), hn563, ⟨by kernel_rfl, by kernel_rfl, by kernel_rfl, by kernel_rfl, by kernel_rfl, by kernel_rfl, trivial⟩, (FrS.step e510.wf (FrS.step e510.wf (FrS.refl (W := f209) e510.wf) e555 Inn.refl') e575 Inn.refl'), hm576⟩
           ·have r579 := ite_f h567 hz562
            refine w_exit (th_exit (th_exit (bl_eq ?_)))
            obtain rfl := Option.some.inj r579
            obtain rfl := it_inr hn563
            exact k550 _ _ ⟨⟨by kernel_rfl, by kernel_rfl, by kernel_rfl, trivial⟩, (FrS.step e510.wf (FrS.refl (W := f209) e510.wf) e555 Inn.refl')⟩
          ·obtain ⟨hh551, e549⟩ := hM
           obtain ⟨β, rfl⟩ := has_ex hh551
           clear hh551
           refine k542 _ _ ?_
           refine w_seqk fun K580 k580 => ?_
           refine w_reg (by kernel_rfl) ?_
           have u581 := (((((((((((((u226.frS e233 Dj.nil_l).ext e243).frS e261 (i74.djn (r6.ltF.le (ntr (ntr (ntr e17.next e32.next) e46.next) e52.next)))).ext e298).frS e311 (i74.djn (r6.ltF.le (ntr (ntr (ntr e17.next e32.next) e46.next) e52.next)))).frS e344 (i75.djn (r6.ltF.le (ntr (ntr (ntr e17.next e32.next) e46.next) e52.next)))).ext e381).frS e394 (i75.djn (r6.ltF.le (ntr (ntr (ntr e17.next e32.next) e46.next) e52.next)))).frS e427 (i76.djn (r6.ltF.le (ntr (ntr (ntr e17.next e32.next) e46.next) e52.next)))).ext e464).frS e477 (i76.djn (r6.ltF.le (ntr (ntr (ntr e17.next e32.next) e46.next) e52.next)))).frS e510 (i181.djn (r6.ltF.le (ntr (ntr (ntr (ntr (ntr (ntr (ntr (ntr (ntr e17.next e32.next) e46.next) e52.next) e69.next) e99.next) e105.next) e125.next) e155.next) e161.next)))).frS e549 (i216.djn (r6.ltF.le (ntr (ntr (ntr (ntr (ntr (ntr (ntr (ntr (ntr (ntr (ntr (ntr e17.next e32.next) e46.next) e52.next) e69.next) e99.next) e105.next) e125.next) e155.next) e161.next) e178.next) e191.next) e197.next))))
           refine s_ql (.agg #[.int .i64 N_, hd_Arcs]) (x := aLoad Try.prog 59 (.pointer (some ⟨b2, 0, none⟩)) H548) (by kernel_rfl) (u581.ld (by kernel_rfl)) ?_
           have u582 := (((((((((((((u227.fr e233 Dj.nil_l).ext e243).fr e261 (i74.djn (h_Arcs.lt.le (ntr (ntr (ntr (ntr e4.next e17.next) e32.next) e46.next) e52.next)))).ext e298).fr e311 (i74.djn (h_Arcs.lt.le (ntr (ntr (ntr (ntr e4.next e17.next) e32.next) e46.next) e52.next)))).fr e344 (i75.djn (h_Arcs.lt.le (ntr (ntr (ntr (ntr e4.next e17.next) e32.next) e46.next) e52.next)))).ext e381).fr e394 (i75.djn (h_Arcs.lt.le (ntr (ntr (ntr (ntr e4.next e17.next) e32.next) e46.next) e52.next)))).fr e427 (i76.djn (h_Arcs.lt.le (ntr (ntr (ntr (ntr e4.next e17.next) e32.next) e46.next) e52.next)))).ext e464).fr e477 (i76.djn (h_Arcs.lt.le (ntr (ntr (ntr (ntr e4.next e17.next) e32.next) e46.next) e52.next)))).fr e510 (i181.djn (h_Arcs.lt.le (ntr (ntr (ntr (ntr (ntr (ntr (ntr (ntr (ntr (ntr e4.next e17.next) e32.next) e46.next) e52.next) e69.next) e99.next) e105.next) e125.next) e155.next) e161.next)))).fr e549 (i216.djn (h_Arcs.lt.le (ntr (ntr (ntr (ntr (ntr (ntr (ntr (ntr (ntr (ntr (ntr (ntr (ntr e4.next e17.next) e32.next) e46.next) e52.next) e69.next) e99.next) e105.next) e125.next) e155.next) e161.next) e178.next) e191.next) e197.next))))
           obtain ⟨y583, hy584, r585⟩ := bind_some r547
           refine s_ck 51 #[.agg #[.int .i64 N_, hd_Arcs]] (by kernel_rfl) (c_viaductref05_DocBuild e549.wf u582 hy584) ?_
           rintro _ H594 ⟨s586, f587, s588, f589, s590, f591, s592, f593, rfl, e595, m596, m597, m598, m599, i600, i601, i602, i603, d604, d605, d606, d607, d608, d609⟩
           obtain ⟨a614, n615, c616, rfl⟩ := m596.form
           obtain ⟨a617, n618, c619, rfl⟩ := m597.form
           obtain ⟨a620, n621, c622, rfl⟩ := m598.form
           obtain ⟨a623, n624, c625, rfl⟩ := m599.form
           refine s_qk (.tuple #[.agg #[.slice a614 n615 c616, .slice a617 n618 c619, .slice a620 n621 c622], .agg #[.int .i64 y583.2.2.2.1, .slice a623 n624 c625]]) (by kernel_rfl) ?_
           refine s_qk (.agg #[.slice a614 n615 c616, .slice a617 n618 c619, .slice a620 n621 c622]) (by kernel_rfl) ?_
           refine s_qk (.agg #[.int .i64 y583.2.2.2.1, .slice a623 n624 c625]) (by kernel_rfl) ?_
           refine s_rwk e595.wf [.slice none 0 0, .slice none 0 0, .slice none 0 0] (by kernel_rfl) fun b626 H627 e628 hb629 r630 => ?_
           refine s_rwk e628.wf [.int .i64 0, .slice none 0 0] (by kernel_rfl) fun b632 H633 e634 hb635 r636 => ?_
           have u642 := (r630.ext e634)
           have u643 := ((m598.ext e628).ext e634)
           have u644 := ((m597.ext e628).ext e634)
           have u645 := ((m596.ext e628).ext e634)
           obtain ⟨H638, q639, e640, r641⟩ := Row.store (P := Try.prog) (t := 24) (p := 0) e634.wf u642 (.agg #[.slice a614 n615 c616, .slice a617 n618 c619, .slice a620 n621 c622]) [.slice a614 n615 c616, .slice a617 n618 c619, .slice a620 n621 c622] (by kernel_rfl) (by kernel_rfl) (one_cons (u645.one1) (one_cons (u644.one1) (one_cons (u643.one1) (one_nil)))) (Nat.le_of_ble_eq_true (by kernel_rfl)) [.slice a614 n615 c616, .slice a617 n618 c619, .slice a620 n621 c622] (by kernel_rfl)
           refine s_ek (undef) (by kernel_rfl) (map_ok q639) ?_
           have u650 := (r636.frS e640 (Dj.symm (hb635.djn r630.ltF)))
           have u651 := (((m599.ext e628).ext e634).fr e640 (hb629.djn m599.lt))
           obtain ⟨H646, q647, e648, r649⟩ := Row.store (P := Try.prog) (t := 46) (p := 0) e640.wf u650 (.agg #[.int .i64 y583.2.2.2.1, .slice a623 n624 c625]) [.int .i64 y583.2.2.2.1, .slice a623 n624 c625] (by kernel_rfl) (by kernel_rfl) (one_cons (rfl) (one_cons (u651.one1) (one_nil))) (Nat.le_of_ble_eq_true (by kernel_rfl)) [.int .i64 y583.2.2.2.1, .slice a623 n624 c625] (by kernel_rfl)
           refine s_ek (undef) (by kernel_rfl) (map_ok q647) ?_
           refine s_nil ?_
           refine k580 _ _ ?_
           refine w_seqk fun K652 k652 => ?_
           refine w_reg (by kernel_rfl) ?_
           have n653 := (ntr (ntr (ntr (ntr (ntr (ntr (ntr e243.next e261.next) e298.next) e311.next) e344.next) e381.next) e394.next) e427.next)
           have u654 := (((((((((((((((((((u201.frS e213 Dj.nil_l).frS e233 Dj.nil_l).ext e243).frS e261 (Dj.symm (hb156.djn (m70.lt.le (ntr (ntr e99.next e105.next) e125.next))))).ext e298).frS e311 (Dj.symm (hb156.djn (m70.lt.le (ntr (ntr e99.next e105.next) e125.next))))).frS e344 (Dj.symm (hb156.djn (m71.lt.le (ntr (ntr e99.next e105.next) e125.next))))).ext e381).frS e394 (Dj.symm (hb156.djn (m71.lt.le (ntr (ntr e99.next e105.next) e125.next))))).frS e427 (Dj.symm (hb156.djn (m72.lt.le (ntr (ntr e99.next e105.next) e125.next))))).ext e464).frS e477 (Dj.symm (hb156.djn (m72.lt.le (ntr (ntr e99.next e105.next) e125.next))))).frS e510 (i181.djn (r157.ltF.le e161.next))).frS e549 (i216.djn (r157.ltF.le (ntr (ntr (ntr e161.next e178.next) e191.next) e197.next)))).frS e595 Dj.nil_l).ext e628).ext e634).frS e640 (hb629.djn (r157.ltF.le (ntr (ntr (ntr (ntr (ntr (ntr (ntr (ntr (ntr (ntr (ntr e161.next e178.next) e191.next) e197.next) e213.next) e233.next) n653) e464.next) e477.next) e510.next) e549.next) e595.next)))).frS e648 (hb635.djn (r157.ltF.le (ntr (ntr (ntr (ntr (ntr (ntr (ntr (ntr (ntr (ntr (ntr (ntr e161.next e178.next) e191.next) e197.next) e213.next) e233.next) n653) e464.next) e477.next) e510.next) e549.next) e595.next) e628.next))))
           refine s_ql (.agg #[.slice a144 n145 c146, .slice a147 n148 c149, .slice a150 n151 c152]) (x := aLoad Try.prog 27 (.pointer (some ⟨b153, 0, none⟩)) H646) (by kernel_rfl) (u654.ld (by kernel_rfl)) ?_
           have u655 := (((((((((((((((((((u202.fr e213 Dj.nil_l).fr e233 Dj.nil_l).ext e243).fr e261 (Dj.symm (i130.djn (m70.lt.le (ntr e99.next e105.next))))).ext e298).fr e311 (Dj.symm (i130.djn (m70.lt.le (ntr e99.next e105.next))))).fr e344 (Dj.symm (i130.djn (m71.lt.le (ntr e99.next e105.next))))).ext e381).fr e394 (Dj.symm (i130.djn (m71.lt.le (ntr e99.next e105.next))))).fr e427 (Dj.symm (i130.djn (m72.lt.le (ntr e99.next e105.next))))).ext e464).fr e477 (Dj.symm (i130.djn (m72.lt.le (ntr e99.next e105.next))))).fr e510 (i181.djn (m126.lt.le (ntr e155.next e161.next)))).fr e549 (i216.djn (m126.lt.le (ntr (ntr (ntr (ntr e155.next e161.next) e178.next) e191.next) e197.next)))).fr e595 Dj.nil_l).ext e628).ext e634).fr e640 (hb629.djn (m126.lt.le (ntr (ntr (ntr (ntr (ntr (ntr (ntr (ntr (ntr (ntr (ntr (ntr e155.next e161.next) e178.next) e191.next) e197.next) e213.next) e233.next) n653) e464.next) e477.next) e510.next) e549.next) e595.next)))).fr e648 (hb635.djn (m126.lt.le (ntr (ntr (ntr (ntr (ntr (ntr (ntr (ntr (ntr (ntr (ntr (ntr (ntr e155.next e161.next) e178.next) e191.next) e197.next) e213.next) e233.next) n653) e464.next) e477.next) e510.next) e549.next) e595.next) e628.next))))
           have u656 := (((((((((((((((((((u203.fr e213 Dj.nil_l).fr e233 Dj.nil_l).ext e243).fr e261 (Dj.symm (i131.djn (m70.lt.le (ntr e99.next e105.next))))).ext e298).fr e311 (Dj.symm (i131.djn (m70.lt.le (ntr e99.next e105.next))))).fr e344 (Dj.symm (i131.djn (m71.lt.le (ntr e99.next e105.next))))).ext e381).fr e394 (Dj.symm (i131.djn (m71.lt.le (ntr e99.next e105.next))))).fr e427 (Dj.symm (i131.djn (m72.lt.le (ntr e99.next e105.next))))).ext e464).fr e477 (Dj.symm (i131.djn (m72.lt.le (ntr e99.next e105.next))))).fr e510 (i181.djn (m127.lt.le (ntr e155.next e161.next)))).fr e549 (i216.djn (m127.lt.le (ntr (ntr (ntr (ntr e155.next e161.next) e178.next) e191.next) e197.next)))).fr e595 Dj.nil_l).ext e628).ext e634).fr e640 (hb629.djn (m127.lt.le (ntr (ntr (ntr (ntr (ntr (ntr (ntr (ntr (ntr (ntr (ntr (ntr e155.next e161.next) e178.next) e191.next) e197.next) e213.next) e233.next) n653) e464.next) e477.next) e510.next) e549.next) e595.next)))).fr e648 (hb635.djn (m127.lt.le (ntr (ntr (ntr (ntr (ntr (ntr (ntr (ntr (ntr (ntr (ntr (ntr (ntr e155.next e161.next) e178.next) e191.next) e197.next) e213.next) e233.next) n653) e464.next) e477.next) e510.next) e549.next) e595.next) e628.next))))
           have u657 := (((((((((((((((((((u204.fr e213 Dj.nil_l).fr e233 Dj.nil_l).ext e243).fr e261 (Dj.symm (i132.djn (m70.lt.le (ntr e99.next e105.next))))).ext e298).fr e311 (Dj.symm (i132.djn (m70.lt.le (ntr e99.next e105.next))))).fr e344 (Dj.symm (i132.djn (m71.lt.le (ntr e99.next e105.next))))).ext e381).fr e394 (Dj.symm (i132.djn (m71.lt.le (ntr e99.next e105.next))))).fr e427 (Dj.symm (i132.djn (m72.lt.le (ntr e99.next e105.next))))).ext e464).fr e477 (Dj.symm (i132.djn (m72.lt.le (ntr e99.next e105.next))))).fr e510 (i181.djn (m128.lt.le (ntr e155.next e161.next)))).fr e549 (i216.djn (m128.lt.le (ntr (ntr (ntr (ntr e155.next e161.next) e178.next) e191.next) e197.next)))).fr e595 Dj.nil_l).ext e628).ext e634).fr e640 (hb629.djn (m128.lt.le (ntr (ntr (ntr (ntr (ntr (ntr (ntr (ntr (ntr (ntr (ntr (ntr e155.next e161.next) e178.next) e191.next) e197.next) e213.next) e233.next) n653) e464.next) e477.next) e510.next) e549.next) e595.next)))).fr e648 (hb635.djn (m128.lt.le (ntr (ntr (ntr (ntr (ntr (ntr (ntr (ntr (ntr (ntr (ntr (ntr (ntr e155.next e161.next) e178.next) e191.next) e197.next) e213.next) e233.next) n653) e464.next) e477.next) e510.next) e549.next) e595.next) e628.next))))
           obtain ⟨y658, hy659, r660⟩ := bind_some r585
           refine s_ck 49 #[.agg #[.slice a144 n145 c146, .slice a147 n148 c149, .slice a150 n151 c152]] (by kernel_rfl) (c_csr_Graph e648.wf u655.sq u656.sq u657.sq hy659) ?_
           rintro _ H665 ⟨s661, f662, v663, f664, rfl, e666, m667, m668, i669, i670, d671⟩
           obtain ⟨a674, n675, c676, rfl⟩ := m667.form
           refine s_qk (.tuple #[.agg #[.int .i64 y658.1, .slice a674 n675 c676], v663]) (by kernel_rfl) ?_
           refine s_qk (.agg #[.int .i64 y658.1, .slice a674 n675 c676]) (by kernel_rfl) ?_
           refine s_qk (v663) (by kernel_rfl) ?_
           refine s_rwk e666.wf [.int .i64 0, .slice none 0 0] (by kernel_rfl) fun b677 H678 e679 hb680 r681 => ?_
           have u687 := (m667.ext e679)
           obtain ⟨H683, q684, e685, r686⟩ := Row.store (P := Try.prog) (t := 59) (p := 0) e679.wf r681 (.agg #[.int .i64 y658.1, .slice a674 n675 c676]) [.int .i64 y658.1, .slice a674 n675 c676] (by kernel_rfl) (by kernel_rfl) (one_cons (rfl) (one_cons (u687.one1) (one_nil))) (Nat.le_of_ble_eq_true (by kernel_rfl)) [.int .i64 y658.1, .slice a674 n675 c676] (by kernel_rfl)
           refine s_ek (undef) (by kernel_rfl) (map_ok q684) ?_
           refine s_qk (v663) (by kernel_rfl) ?_
           refine s_nil ?_
           refine k652 _ _ ?_
           refine w_seqk fun K688 k688 => ?_
           refine w_reg (by kernel_rfl) ?_
           have u689 := ((((r641.frS e648 (hb635.djn r630.ltF)).frS e666 Dj.nil_l).ext e679).frS e685 (hb680.djn (r630.ltF.le (ntr (ntr (ntr e634.next e640.next) e648.next) e666.next))))
           refine s_ql (.agg #[.slice a614 n615 c616, .slice a617 n618 c619, .slice a620 n621 c622]) (x := aLoad Try.prog 24 (.pointer (some ⟨b626, 0, none⟩)) H683) (by kernel_rfl) (u689.ld (by kernel_rfl)) ?_
           have u690 := (((((u645.fr e640 (hb629.djn m596.lt)).fr e648 (hb635.djn (m596.lt.le e628.next))).fr e666 Dj.nil_l).ext e679).fr e685 (hb680.djn (m596.lt.le (ntr (ntr (ntr (ntr e628.next e634.next) e640.next) e648.next) e666.next))))
           have u691 := (((((u644.fr e640 (hb629.djn m597.lt)).fr e648 (hb635.djn (m597.lt.le e628.next))).fr e666 Dj.nil_l).ext e679).fr e685 (hb680.djn (m597.lt.le (ntr (ntr (ntr (ntr e628.next e634.next) e640.next) e648.next) e666.next))))
           have u692 := (((((u643.fr e640 (hb629.djn m598.lt)).fr e648 (hb635.djn (m598.lt.le e628.next))).fr e666 Dj.nil_l).ext e679).fr e685 (hb680.djn (m598.lt.le (ntr (ntr (ntr (ntr e628.next e634.next) e640.next) e648.next) e666.next))))
           obtain ⟨y693, hy694, r695⟩ := bind_some r660
           refine s_ck 52 #[.agg #[.slice a614 n615 c616, .slice a617 n618 c619, .slice a620 n621 c622]] (by kernel_rfl) (c_viaductref05_DocGraph e685.wf u690.sq u691.sq u692.sq hy694) ?_
           rintro _ H700 ⟨s696, f697, s698, f699, rfl, e701, m702, m703, i704, i705, d706⟩
           obtain ⟨a709, n710, c711, rfl⟩ := m702.form
           obtain ⟨a712, n713, c714, rfl⟩ := m703.form
           refine s_qk (.tuple #[.agg #[.int .i64 y693.1, .slice a709 n710 c711], .agg #[.int .i64 y693.2.2.1, .slice a712 n713 c714]]) (by kernel_rfl) ?_
           refine s_qk (.agg #[.int .i64 y693.1, .slice a709 n710 c711]) (by kernel_rfl) ?_
           refine s_qk (.agg #[.int .i64 y693.2.2.1, .slice a712 n713 c714]) (by kernel_rfl) ?_
           refine s_rwk e701.wf [.int .i64 0, .slice none 0 0] (by kernel_rfl) fun b715 H716 e717 hb718 r719 => ?_
           refine s_rwk e717.wf [.int .i64 0, .slice none 0 0] (by kernel_rfl) fun b721 H722 e723 hb724 r725 => ?_
           have u731 := (r719.ext e723)
           have u732 := ((m702.ext e717).ext e723)
           obtain ⟨H727, q728, e729, r730⟩ := Row.store (P := Try.prog) (t := 59) (p := 0) e723.wf u731 (.agg #[.int .i64 y693.1, .slice a709 n710 c711]) [.int .i64 y693.1, .slice a709 n710 c711] (by kernel_rfl) (by kernel_rfl) (one_cons (rfl) (one_cons (u732.one1) (one_nil))) (Nat.le_of_ble_eq_true (by kernel_rfl)) [.int .i64 y693.1, .slice a709 n710 c711] (by kernel_rfl)
           refine s_ek (undef) (by kernel_rfl) (map_ok q728) ?_
           have u737 := (r725.frS e729 (Dj.symm (hb724.djn r719.ltF)))
           have u738 := (((m703.ext e717).ext e723).fr e729 (hb718.djn m703.lt))
           obtain ⟨H733, q734, e735, r736⟩ := Row.store (P := Try.prog) (t := 46) (p := 0) e729.wf u737 (.agg #[.int .i64 y693.2.2.1, .slice a712 n713 c714]) [.int .i64 y693.2.2.1, .slice a712 n713 c714] (by kernel_rfl) (by kernel_rfl) (one_cons (rfl) (one_cons (u738.one1) (one_nil))) (Nat.le_of_ble_eq_true (by kernel_rfl)) [.int .i64 y693.2.2.1, .slice a712 n713 c714] (by kernel_rfl)
           refine s_ek (undef) (by kernel_rfl) (map_ok q734) ?_
           refine s_nil ?_
           refine k688 _ _ ?_
           refine w_seqk fun K739 k739 => ?_
           refine w_draw [0, 2, 1, 3, 4, 5, 6, 7, 8, 9, 10, 11, 12, 13, 14, 15, 16, 17, 18, 19, 20, 21, 22] (by kernel_rfl) ?_
           have n740 := (ntr (ntr (ntr (ntr (ntr (ntr (ntr e464.next e477.next) e510.next) e549.next) e595.next) e628.next) e634.next) e640.next)
           have u741 := ((((((((u654.frS e666 Dj.nil_l).ext e679).frS e685 (hb680.djn (r157.ltF.le (ntr (ntr (ntr (ntr (ntr (ntr (ntr (ntr (ntr e161.next e178.next) e191.next) e197.next) e213.next) e233.next) n653) n740) e648.next) e666.next)))).frS e701 Dj.nil_l).ext e717).ext e723).frS e729 (hb718.djn (r157.ltF.le (ntr (ntr (ntr (ntr (ntr (ntr (ntr (ntr (ntr (ntr (ntr (ntr e161.next e178.next) e191.next) e197.next) e213.next) e233.next) n653) n740) e648.next) e666.next) e679.next) e685.next) e701.next)))).frS e735 (hb724.djn (r157.ltF.le (ntr (ntr (ntr (ntr (ntr (ntr (ntr (ntr (ntr (ntr (ntr (ntr (ntr e161.next e178.next) e191.next) e197.next) e213.next) e233.next) n653) n740) e648.next) e666.next) e679.next) e685.next) e701.next) e717.next))))
           refine d_ql (.agg #[.slice a144 n145 c146, .slice a147 n148 c149, .slice a150 n151 c152]) (x := aLoad Try.prog 27 (.pointer (some ⟨b153, 0, none⟩)) H733) (by kernel_rfl) (u741.ld (by kernel_rfl)) ?_
           have u742 := (((((u689.frS e701 Dj.nil_l).ext e717).ext e723).frS e729 (hb718.djn (r630.ltF.le (ntr (ntr (ntr (ntr (ntr (ntr e634.next e640.next) e648.next) e666.next) e679.next) e685.next) e701.next)))).frS e735 (hb724.djn (r630.ltF.le (ntr (ntr (ntr (ntr (ntr (ntr (ntr e634.next e640.next) e648.next) e666.next) e679.next) e685.next) e701.next) e717.next))))
           refine d_fl (.agg #[.slice a614 n615 c616, .slice a617 n618 c619, .slice a620 n621 c622]) (x := aLoad Try.prog 24 (.pointer (some ⟨b626, 0, none⟩)) H733) (by kernel_rfl) (u742.ld (by kernel_rfl)) ?_
           have u743 := ((((((((u655.fr e666 Dj.nil_l).ext e679).fr e685 (hb680.djn (m126.lt.le (ntr (ntr (ntr (ntr (ntr (ntr (ntr (ntr (ntr (ntr e155.next e161.next) e178.next) e191.next) e197.next) e213.next) e233.next) n653) n740) e648.next) e666.next)))).fr e701 Dj.nil_l).ext e717).ext e723).fr e729 (hb718.djn (m126.lt.le (ntr (ntr (ntr (ntr (ntr (ntr (ntr (ntr (ntr (ntr (ntr (ntr (ntr e155.next e161.next) e178.next) e191.next) e197.next) e213.next) e233.next) n653) n740) e648.next) e666.next) e679.next) e685.next) e701.next)))).fr e735 (hb724.djn (m126.lt.le (ntr (ntr (ntr (ntr (ntr (ntr (ntr (ntr (ntr (ntr (ntr (ntr (ntr (ntr e155.next e161.next) e178.next) e191.next) e197.next) e213.next) e233.next) n653) n740) e648.next) e666.next) e679.next) e685.next) e701.next) e717.next))))
           have u744 := ((((((((u656.fr e666 Dj.nil_l).ext e679).fr e685 (hb680.djn (m127.lt.le (ntr (ntr (ntr (ntr (ntr (ntr (ntr (ntr (ntr (ntr e155.next e161.next) e178.next) e191.next) e197.next) e213.next) e233.next) n653) n740) e648.next) e666.next)))).fr e701 Dj.nil_l).ext e717).ext e723).fr e729 (hb718.djn (m127.lt.le (ntr (ntr (ntr (ntr (ntr (ntr (ntr (ntr (ntr (ntr (ntr (ntr (ntr e155.next e161.next) e178.next) e191.next) e197.next) e213.next) e233.next) n653) n740) e648.next) e666.next) e679.next) e685.next) e701.next)))).fr e735 (hb724.djn (m127.lt.le (ntr (ntr (ntr (ntr (ntr (ntr (ntr (ntr (ntr (ntr (ntr (ntr (ntr (ntr e155.next e161.next) e178.next) e191.next) e197.next) e213.next) e233.next) n653) n740) e648.next) e666.next) e679.next) e685.next) e701.next) e717.next))))
           have u745 := ((((((((u657.fr e666 Dj.nil_l).ext e679).fr e685 (hb680.djn (m128.lt.le (ntr (ntr (ntr (ntr (ntr (ntr (ntr (ntr (ntr (ntr e155.next e161.next) e178.next) e191.next) e197.next) e213.next) e233.next) n653) n740) e648.next) e666.next)))).fr e701 Dj.nil_l).ext e717).ext e723).fr e729 (hb718.djn (m128.lt.le (ntr (ntr (ntr (ntr (ntr (ntr (ntr (ntr (ntr (ntr (ntr (ntr (ntr e155.next e161.next) e178.next) e191.next) e197.next) e213.next) e233.next) n653) n740) e648.next) e666.next) e679.next) e685.next) e701.next)))).fr e735 (hb724.djn (m128.lt.le (ntr (ntr (ntr (ntr (ntr (ntr (ntr (ntr (ntr (ntr (ntr (ntr (ntr (ntr e155.next e161.next) e178.next) e191.next) e197.next) e213.next) e233.next) n653) n740) e648.next) e666.next) e679.next) e685.next) e701.next) e717.next))))
           obtain ⟨y746, hy747, r748⟩ := bind_some r695
           refine d_ck 53 #[.agg #[.slice a144 n145 c146, .slice a147 n148 c149, .slice a150 n151 c152]] (by kernel_rfl) (c_viaductlaw05_of e735.wf u743.sq u744.sq u745.sq hy747) ?_
           rintro _ H749 ⟨rfl, e750⟩
           have u751 := (u742.frS e750 Dj.nil_l)
           refine ⟨st_ql (y := aLoad Try.prog 24 (.pointer (some ⟨b626, 0, none⟩)) H749) (by kernel_rfl) (u751.ld (by kernel_rfl)) (st_nil), ?_⟩
           have u752 := (u743.fr e750 Dj.nil_l)
           have u753 := (u744.fr e750 Dj.nil_l)
           have u754 := (u745.fr e750 Dj.nil_l)
           have u755 := ((((((u690.fr e701 Dj.nil_l).ext e717).ext e723).fr e729 (hb718.djn (m596.lt.le (ntr (ntr (ntr (ntr (ntr (ntr (ntr e628.next e634.next) e640.next) e648.next) e666.next) e679.next) e685.next) e701.next)))).fr e735 (hb724.djn (m596.lt.le (ntr (ntr (ntr (ntr (ntr (ntr (ntr (ntr e628.next e634.next) e640.next) e648.next) e666.next) e679.next) e685.next) e701.next) e717.next)))).fr e750 Dj.nil_l)
           have u756 := ((((((u691.fr e701 Dj.nil_l).ext e717).ext e723).fr e729 (hb718.djn (m597.lt.le (ntr (ntr (ntr (ntr (ntr (ntr (ntr e628.next e634.next) e640.next) e648.next) e666.next) e679.next) e685.next) e701.next)))).fr e735 (hb724.djn (m597.lt.le (ntr (ntr (ntr (ntr (ntr (ntr (ntr (ntr e628.next e634.next) e640.next) e648.next) e666.next) e679.next) e685.next) e701.next) e717.next)))).fr e750 Dj.nil_l)
           have u757 := ((((((u692.fr e701 Dj.nil_l).ext e717).ext e723).fr e729 (hb718.djn (m598.lt.le (ntr (ntr (ntr (ntr (ntr (ntr (ntr e628.next e634.next) e640.next) e648.next) e666.next) e679.next) e685.next) e701.next)))).fr e735 (hb724.djn (m598.lt.le (ntr (ntr (ntr (ntr (ntr (ntr (ntr (ntr e628.next e634.next) e640.next) e648.next) e666.next) e679.next) e685.next) e701.next) e717.next)))).fr e750 Dj.nil_l)
           obtain ⟨y758, hy759, r760⟩ := bind_some r748
           refine d_ck 14 #[.agg #[.slice a144 n145 c146, .slice a147 n148 c149, .slice a150 n151 c152], .agg #[.slice a614 n615 c616, .slice a617 n618 c619, .slice a620 n621 c622]] (by kernel_rfl) (c_viaductref05_Same e750.wf u752.sq u753.sq u754.sq u755.sq u756.sq u757.sq hy759) ?_
           rintro _ H761 ⟨rfl, e762⟩
           refine ⟨st_anc (by kernel_rfl) (st_nil), ?_⟩
           by_cases h763 : y758 = true
           ·have r764 := ite_t h763 r760
            rw [h763]
            refine d_qk (.bool true) (by kernel_rfl) ?_
            have u766 := (((((((r686.frS e701 Dj.nil_l).ext e717).ext e723).frS e729 (hb718.djn (r681.ltF.le (ntr e685.next e701.next)))).frS e735 (hb724.djn (r681.ltF.le (ntr (ntr e685.next e701.next) e717.next)))).frS e750 Dj.nil_l).frS e762 Dj.nil_l)
            refine d_ql (.agg #[.int .i64 y658.1, .slice a674 n675 c676]) (x := aLoad Try.prog 59 (.pointer (some ⟨b677, 0, none⟩)) H761) (by kernel_rfl) (u766.ld (by kernel_rfl)) ?_
            have u767 := (((r730.frS e735 (hb724.djn r719.ltF)).frS e750 Dj.nil_l).frS e762 Dj.nil_l)
            refine d_ql (.agg #[.int .i64 y693.1, .slice a709 n710 c711]) (x := aLoad Try.prog 59 (.pointer (some ⟨b715, 0, none⟩)) H761) (by kernel_rfl) (u767.ld (by kernel_rfl)) ?_
            have u768 := ((((((((u687.fr e685 (hb680.djn m667.lt)).fr e701 Dj.nil_l).ext e717).ext e723).fr e729 (hb718.djn (m667.lt.le (ntr (ntr e679.next e685.next) e701.next)))).fr e735 (hb724.djn (m667.lt.le (ntr (ntr (ntr e679.next e685.next) e701.next) e717.next)))).fr e750 Dj.nil_l).fr e762 Dj.nil_l)
            have u769 := ((((u732.fr e729 (hb718.djn m702.lt)).fr e735 (hb724.djn (m702.lt.le e717.next))).fr e750 Dj.nil_l).fr e762 Dj.nil_l)
            obtain ⟨y770, hy771, r772⟩ := bind_some r764
            refine d_ck 33 #[.agg #[.int .i64 y658.1, .slice a674 n675 c676], .agg #[.int .i64 y693.1, .slice a709 n710 c711]] (by kernel_rfl) (c_viaductref03_Same e762.wf u768.sq u769.sq hy771) ?_
            rintro _ H773 ⟨rfl, e774⟩
            refine ⟨st_anc (by kernel_rfl) (st_nil), ?_⟩
            by_cases h775 : y770 = true
            ·have r776 := ite_t h775 r772
             rw [h775]
             refine d_qk (.bool true) (by kernel_rfl) ?_
             refine d_qk (.bool true) (by kernel_rfl) ?_
             refine d_qk (.pointer (some ⟨b97, 0, none⟩)) (by kernel_rfl) ?_
             have n778 := (ntr (ntr (ntr (ntr (ntr (ntr (ntr e125.next e155.next) e161.next) e178.next) e191.next) e197.next) e213.next) e233.next)
             have u779 := ((((((((((((((((((((((((((((u240.ext e243).frS e261 (Dj.symm (hb100.djn m70.lt))).ext e298).frS e311 (Dj.symm (hb100.djn m70.lt))).frS e344 (Dj.symm (hb100.djn m71.lt))).ext e381).frS e394 (Dj.symm (hb100.djn m71.lt))).frS e427 (Dj.symm (hb100.djn m72.lt))).ext e464).frS e477 (Dj.symm (hb100.djn m72.lt))).frS e510 (i181.djn (r101.ltF.le (ntr (ntr (ntr e105.next e125.next) e155.next) e161.next)))).frS e549 (i216.djn (r101.ltF.le (ntr (ntr (ntr (ntr (ntr (ntr e105.next e125.next) e155.next) e161.next) e178.next) e191.next) e197.next)))).frS e595 Dj.nil_l).ext e628).ext e634).frS e640 (hb629.djn (r101.ltF.le (ntr (ntr (ntr (ntr (ntr (ntr (ntr e105.next n778) n653) e464.next) e477.next) e510.next) e549.next) e595.next)))).frS e648 (hb635.djn (r101.ltF.le (ntr (ntr (ntr (ntr (ntr (ntr (ntr (ntr e105.next n778) n653) e464.next) e477.next) e510.next) e549.next) e595.next) e628.next)))).frS e666 Dj.nil_l).ext e679).frS e685 (hb680.djn (r101.ltF.le (ntr (ntr (ntr (ntr (ntr e105.next n778) n653) n740) e648.next) e666.next)))).frS e701 Dj.nil_l).ext e717).ext e723).frS e729 (hb718.djn (r101.ltF.le (ntr (ntr (ntr (ntr (ntr (ntr (ntr (ntr e105.next n778) n653) n740) e648.next) e666.next) e679.next) e685.next) e701.next)))).frS e735 (hb724.djn (r101.ltF.le (ntr (ntr (ntr (ntr (ntr (ntr (ntr (ntr (ntr e105.next n778) n653) n740) e648.next) e666.next) e679.next) e685.next) e701.next) e717.next)))).frS e750 Dj.nil_l).frS e762 Dj.nil_l).frS e774 Dj.nil_l)
             refine d_ql (.slice a88 n89 c90) (x := aLoad Try.prog 22 (.pointer (some ⟨b97, 0, none⟩)) H773) (by kernel_rfl) (u779.ld (by kernel_rfl)) ?_
             have u780 := ((((((((((((((((((((((((ho320.fr e344 (Dj.symm d78)).ext e381).fr e394 (Dj.symm d78)).fr e427 (Dj.symm d79)).ext e464).fr e477 (Dj.symm d79)).fr e510 (i181.djn (m70.lt.le (ntr (ntr (ntr (ntr e99.next e105.next) e125.next) e155.next) e161.next)))).fr e549 (i216.djn (m70.lt.le (ntr (ntr (ntr (ntr (ntr (ntr (ntr e99.next e105.next) e125.next) e155.next) e161.next) e178.next) e191.next) e197.next)))).fr e595 Dj.nil_l).ext e628).ext e634).fr e640 (hb629.djn (m70.lt.le (ntr (ntr (ntr (ntr (ntr (ntr (ntr (ntr e99.next e105.next) n778) n653) e464.next) e477.next) e510.next) e549.next) e595.next)))).fr e648 (hb635.djn (m70.lt.le (ntr (ntr (ntr (ntr (ntr (ntr (ntr (ntr (ntr e99.next e105.next) n778) n653) e464.next) e477.next) e510.next) e549.next) e595.next) e628.next)))).fr e666 Dj.nil_l).ext e679).fr e685 (hb680.djn (m70.lt.le (ntr (ntr (ntr (ntr (ntr (ntr e99.next e105.next) n778) n653) n740) e648.next) e666.next)))).fr e701 Dj.nil_l).ext e717).ext e723).fr e729 (hb718.djn (m70.lt.le (ntr (ntr (ntr (ntr (ntr (ntr (ntr (ntr (ntr e99.next e105.next) n778) n653) n740) e648.next) e666.next) e679.next) e685.next) e701.next)))).fr e735 (hb724.djn (m70.lt.le (ntr (ntr (ntr (ntr (ntr (ntr (ntr (ntr (ntr (ntr e99.next e105.next) n778) n653) n740) e648.next) e666.next) e679.next) e685.next) e701.next) e717.next)))).fr e750 Dj.nil_l).fr e762 Dj.nil_l).fr e774 Dj.nil_l)
             refine d_ql (.int .i64 (o257.length : Int)) (x := aLen Try.prog 22 (.slice a88 n89 c90) H773) (by kernel_rfl) (u780.sq.lenb (by kernel_rfl)) ?_
             refine d_b ((o257.length : Int) = 0) (by kernel_rfl) (fun h781 => ?_) (fun h781 => ?_)
             ·have r782 := ite_t h781 r776
              refine d_qk (.bool true) (by kernel_rfl) ?_
              refine d_idle (by kernel_rfl) ?_
              refine d_idle (by kernel_rfl) ?_
              refine d_idle (by kernel_rfl) ?_
              refine d_idle (by kernel_rfl) ?_
              refine d_idle (by kernel_rfl) ?_
              refine d_qk (.bool true) (by kernel_rfl) ?_
              refine d_qk (.bool true) (by kernel_rfl) ?_
              refine d_qk (.bool true) (by kernel_rfl) ?_
              refine d_nil ?_
              refine k739 _ _ ?_
              refine w_ret ?_
              refine b_ret (fn := Try.f6) (vs := [.bool true]) (aRes_tmp (by kernel_rfl) (rfl)) ?_
              have c783 := (FrS.step wf ((FrS.step wf (FrS.step wf ((FrS.step wf (FrS.step wf ((FrS.refl (W := []) wf).extR e4) e17 Inn.nil) e32 Inn.nil).extR e46) e52 (hb47.fresh (ntr (ntr e4.next e17.next) e32.next))) e69 Inn.nil).extR e99) e105 (hb100.fresh (ntr (ntr (ntr (ntr (ntr e4.next e17.next) e32.next) e46.next) e52.next) e69.next)))
              have c784 := (FrS.step e105.wf (FrS.step e105.wf (FrS.step e105.wf ((FrS.step e105.wf (FrS.step e105.wf ((FrS.step e105.wf (FrS.refl (W := []) e105.wf) e125 Inn.nil).extR e155) e161 (hb156.fresh e125.next)) e178 Inn.nil).extR e191) e197 (hb192.fresh (ntr (ntr (ntr e125.next e155.next) e161.next) e178.next))) e213 Inn.nil) e233 Inn.nil)
              have n785 := (ntr (ntr (ntr (ntr (ntr (ntr (ntr e4.next e17.next) e32.next) e46.next) e52.next) e69.next) e99.next) e105.next)
              obtain rfl := Option.some.inj r782
              exact ⟨rfl, (FrS.step wf (FrS.step wf (FrS.step wf (FrS.step wf (FrS.step wf (((FrS.step wf (FrS.step wf ((FrS.step wf (FrS.step wf (FrS.step wf (((FrS.step wf (FrS.step wf (FrS.step wf (FrS.step wf ((FrS.step wf (FrS.step wf ((FrS.step wf (FrS.step wf ((FrS.step wf ((FrS.step wf (FrS.step wf (FrS.refl (W := []) wf) c783 Inn.nil) c784 Inn.nil).extR e243) e261 (i74.fresh (ntr (ntr (ntr (ntr e4.next e17.next) e32.next) e46.next) e52.next))).extR e298) e311 (i74.fresh (ntr (ntr (ntr (ntr e4.next e17.next) e32.next) e46.next) e52.next))) e344 (i75.fresh (ntr (ntr (ntr (ntr e4.next e17.next) e32.next) e46.next) e52.next))).extR e381) e394 (i75.fresh (ntr (ntr (ntr (ntr e4.next e17.next) e32.next) e46.next) e52.next))) e427 (i76.fresh (ntr (ntr (ntr (ntr e4.next e17.next) e32.next) e46.next) e52.next))).extR e464) e477 (i76.fresh (ntr (ntr (ntr (ntr e4.next e17.next) e32.next) e46.next) e52.next))) e510 (i181.fresh (ntr (ntr (ntr (ntr (ntr (ntr (ntr (ntr (ntr (ntr e4.next e17.next) e32.next) e46.next) e52.next) e69.next) e99.next) e105.next) e125.next) e155.next) e161.next))) e549 (i216.fresh (ntr (ntr (ntr (ntr (ntr (ntr (ntr (ntr (ntr (ntr (ntr (ntr (ntr e4.next e17.next) e32.next) e46.next) e52.next) e69.next) e99.next) e105.next) e125.next) e155.next) e161.next) e178.next) e191.next) e197.next))) e595 Inn.nil).extR e628).extR e634) e640 (hb629.fresh (ntr (ntr (ntr (ntr (ntr (ntr (ntr n785 n778) n653) e464.next) e477.next) e510.next) e549.next) e595.next))) e648 (hb635.fresh (ntr (ntr (ntr (ntr (ntr (ntr (ntr (ntr n785 n778) n653) e464.next) e477.next) e510.next) e549.next) e595.next) e628.next))) e666 Inn.nil).extR e679) e685 (hb680.fresh (ntr (ntr (ntr (ntr (ntr n785 n778) n653) n740) e648.next) e666.next))) e701 Inn.nil).extR e717).extR e723) e729 (hb718.fresh (ntr (ntr (ntr (ntr (ntr (ntr (ntr (ntr n785 n778) n653) n740) e648.next) e666.next) e679.next) e685.next) e701.next))) e735 (hb724.fresh (ntr (ntr (ntr (ntr (ntr (ntr (ntr (ntr (ntr n785 n778) n653) n740) e648.next) e666.next) e679.next) e685.next) e701.next) e717.next))) e750 Inn.nil) e762 Inn.nil) e774 Inn.nil)⟩
             ·have r786 := ite_f h781 r776
              refine d_qk (.bool false) (by kernel_rfl) ?_
              refine d_qk (.pointer (some ⟨b97, 0, none⟩)) (by kernel_rfl) ?_
              refine d_ql (.slice a88 n89 c90) (x := aLoad Try.prog 22 (.pointer (some ⟨b97, 0, none⟩)) H773) (by kernel_rfl) (u779.ld (by kernel_rfl)) ?_
              obtain ⟨g787, r788⟩ := G_some r786
              obtain ⟨s789, q790, hs791⟩ := Ow.head (P := Try.prog) u780 (t := 22) (by kernel_rfl) (hi := (some (.int .i64 1))) (r := (1 : Int).toNat) (aBound_int _ (by have := g787; omega)) (by have := g787; omega)
              obtain ⟨a792, n793, c794, rfl⟩ := hs791.form
              refine d_ql (.slice a792 n793 c794) (by kernel_rfl) q790 ?_
              refine d_owk (enc := (encI .i64)) (sz := 1) e774.wf [(-7)] 1 (by decide) (fun _ _ => rfl) (fun _ _ => rfl) rfl (by kernel_rfl) fun s796 f797 H798 e799 hf800 hm801 => ?_
              obtain ⟨a802, n803, c804, rfl⟩ := hm801.form
              have u806 := (hs791.ext e799)
              obtain ⟨y807, hy808, r809⟩ := bind_some r788
              refine d_ck 45 #[.slice a792 n793 c794, .slice a802 n803 c804] (by kernel_rfl) (c_viaductref02_SameInts e799.wf u806.sq hm801.sq hy808) ?_
              rintro _ _ ⟨rfl, rfl⟩
              refine ⟨st_anc (by kernel_rfl) (st_nil), ?_⟩
              refine d_qk (.bool y807) (by kernel_rfl) ?_
              refine d_qk (.bool y807) (by kernel_rfl) ?_
              refine d_qk (.bool y807) (by kernel_rfl) ?_
              refine d_nil ?_
              refine k739 _ _ ?_
              refine w_ret ?_
              refine b_ret (fn := Try.f6) (vs := [.bool y807]) (aRes_tmp (by kernel_rfl) (rfl)) ?_
              have c812 := (FrS.step wf ((FrS.step wf (FrS.step wf ((FrS.step wf (FrS.step wf ((FrS.refl (W := []) wf).extR e4) e17 Inn.nil) e32 Inn.nil).extR e46) e52 (hb47.fresh (ntr (ntr e4.next e17.next) e32.next))) e69 Inn.nil).extR e99) e105 (hb100.fresh (ntr (ntr (ntr (ntr (ntr e4.next e17.next) e32.next) e46.next) e52.next) e69.next)))
              have c813 := (FrS.step e105.wf (FrS.step e105.wf (FrS.step e105.wf ((FrS.step e105.wf (FrS.step e105.wf ((FrS.step e105.wf (FrS.refl (W := []) e105.wf) e125 Inn.nil).extR e155) e161 (hb156.fresh e125.next)) e178 Inn.nil).extR e191) e197 (hb192.fresh (ntr (ntr (ntr e125.next e155.next) e161.next) e178.next))) e213 Inn.nil) e233 Inn.nil)
              have n814 := (ntr (ntr (ntr (ntr (ntr (ntr (ntr e4.next e17.next) e32.next) e46.next) e52.next) e69.next) e99.next) e105.next)
              obtain rfl := Option.some.inj r809
              exact ⟨rfl, ((FrS.step wf (FrS.step wf (FrS.step wf (FrS.step wf (FrS.step wf (((FrS.step wf (FrS.step wf ((FrS.step wf (FrS.step wf (FrS.step wf (((FrS.step wf (FrS.step wf (FrS.step wf (FrS.step wf ((FrS.step wf (FrS.step wf ((FrS.step wf (FrS.step wf ((FrS.step wf ((FrS.step wf (FrS.step wf (FrS.refl (W := []) wf) c812 Inn.nil) c813 Inn.nil).extR e243) e261 (i74.fresh (ntr (ntr (ntr (ntr e4.next e17.next) e32.next) e46.next) e52.next))).extR e298) e311 (i74.fresh (ntr (ntr (ntr (ntr e4.next e17.next) e32.next) e46.next) e52.next))) e344 (i75.fresh (ntr (ntr (ntr (ntr e4.next e17.next) e32.next) e46.next) e52.next))).extR e381) e394 (i75.fresh (ntr (ntr (ntr (ntr e4.next e17.next) e32.next) e46.next) e52.next))) e427 (i76.fresh (ntr (ntr (ntr (ntr e4.next e17.next) e32.next) e46.next) e52.next))).extR e464) e477 (i76.fresh (ntr (ntr (ntr (ntr e4.next e17.next) e32.next) e46.next) e52.next))) e510 (i181.fresh (ntr (ntr (ntr (ntr (ntr (ntr (ntr (ntr (ntr (ntr e4.next e17.next) e32.next) e46.next) e52.next) e69.next) e99.next) e105.next) e125.next) e155.next) e161.next))) e549 (i216.fresh (ntr (ntr (ntr (ntr (ntr (ntr (ntr (ntr (ntr (ntr (ntr (ntr (ntr e4.next e17.next) e32.next) e46.next) e52.next) e69.next) e99.next) e105.next) e125.next) e155.next) e161.next) e178.next) e191.next) e197.next))) e595 Inn.nil).extR e628).extR e634) e640 (hb629.fresh (ntr (ntr (ntr (ntr (ntr (ntr (ntr n814 n778) n653) e464.next) e477.next) e510.next) e549.next) e595.next))) e648 (hb635.fresh (ntr (ntr (ntr (ntr (ntr (ntr (ntr (ntr n814 n778) n653) e464.next) e477.next) e510.next) e549.next) e595.next) e628.next))) e666 Inn.nil).extR e679) e685 (hb680.fresh (ntr (ntr (ntr (ntr (ntr n814 n778) n653) n740) e648.next) e666.next))) e701 Inn.nil).extR e717).extR e723) e729 (hb718.fresh (ntr (ntr (ntr (ntr (ntr (ntr (ntr (ntr n814 n778) n653) n740) e648.next) e666.next) e679.next) e685.next) e701.next))) e735 (hb724.fresh (ntr (ntr (ntr (ntr (ntr (ntr (ntr (ntr (ntr n814 n778) n653) n740) e648.next) e666.next) e679.next) e685.next) e701.next) e717.next))) e750 Inn.nil) e762 Inn.nil) e774 Inn.nil).extR e799)⟩
            ·have r815 := ite_f h775 r772
             rw [nb h775]
             refine d_qk (.bool false) (by kernel_rfl) ?_
             refine d_qk (.bool false) (by kernel_rfl) ?_
             refine d_idle (by kernel_rfl) ?_
             refine d_idle (by kernel_rfl) ?_
             refine d_idle (by kernel_rfl) ?_
             refine d_idle (by kernel_rfl) ?_
             refine d_idle (by kernel_rfl) ?_
             refine d_idle (by kernel_rfl) ?_
             refine d_idle (by kernel_rfl) ?_
             refine d_idle (by kernel_rfl) ?_
             refine d_idle (by kernel_rfl) ?_
             refine d_idle (by kernel_rfl) ?_
             refine d_idle (by kernel_rfl) ?_
             refine d_qk (.bool false) (by kernel_rfl) ?_
             refine d_qk (.bool false) (by kernel_rfl) ?_
             refine d_nil ?_
             refine k739 _ _ ?_
             refine w_ret ?_
             refine b_ret (fn := Try.f6) (vs := [.bool false]) (aRes_tmp (by kernel_rfl) (rfl)) ?_
             have c817 := (FrS.step wf ((FrS.step wf (FrS.step wf ((FrS.step wf (FrS.step wf ((FrS.refl (W := []) wf).extR e4) e17 Inn.nil) e32 Inn.nil).extR e46) e52 (hb47.fresh (ntr (ntr e4.next e17.next) e32.next))) e69 Inn.nil).extR e99) e105 (hb100.fresh (ntr (ntr (ntr (ntr (ntr e4.next e17.next) e32.next) e46.next) e52.next) e69.next)))
             have c818 := (FrS.step e105.wf (FrS.step e105.wf (FrS.step e105.wf ((FrS.step e105.wf (FrS.step e105.wf ((FrS.step e105.wf (FrS.refl (W := []) e105.wf) e125 Inn.nil).extR e155) e161 (hb156.fresh e125.next)) e178 Inn.nil).extR e191) e197 (hb192.fresh (ntr (ntr (ntr e125.next e155.next) e161.next) e178.next))) e213 Inn.nil) e233 Inn.nil)
             have n819 := (ntr (ntr (ntr (ntr (ntr (ntr (ntr e4.next e17.next) e32.next) e46.next) e52.next) e69.next) e99.next) e105.next)
             have n820 := (ntr (ntr (ntr (ntr (ntr (ntr (ntr e125.next e155.next) e161.next) e178.next) e191.next) e197.next) e213.next) e233.next)
             obtain rfl := Option.some.inj r815
             exact ⟨rfl, (FrS.step wf (FrS.step wf (FrS.step wf (FrS.step wf (FrS.step wf (((FrS.step wf (FrS.step wf ((FrS.step wf (FrS.step wf (FrS.step wf (((FrS.step wf (FrS.step wf (FrS.step wf (FrS.step wf ((FrS.step wf (FrS.step wf ((FrS.step wf (FrS.step wf ((FrS.step wf ((FrS.step wf (FrS.step wf (FrS.refl (W := []) wf) c817 Inn.nil) c818 Inn.nil).extR e243) e261 (i74.fresh (ntr (ntr (ntr (ntr e4.next e17.next) e32.next) e46.next) e52.next))).extR e298) e311 (i74.fresh (ntr (ntr (ntr (ntr e4.next e17.next) e32.next) e46.next) e52.next))) e344 (i75.fresh (ntr (ntr (ntr (ntr e4.next e17.next) e32.next) e46.next) e52.next))).extR e381) e394 (i75.fresh (ntr (ntr (ntr (ntr e4.next e17.next) e32.next) e46.next) e52.next))) e427 (i76.fresh (ntr (ntr (ntr (ntr e4.next e17.next) e32.next) e46.next) e52.next))).extR e464) e477 (i76.fresh (ntr (ntr (ntr (ntr e4.next e17.next) e32.next) e46.next) e52.next))) e510 (i181.fresh (ntr (ntr (ntr (ntr (ntr (ntr (ntr (ntr (ntr (ntr e4.next e17.next) e32.next) e46.next) e52.next) e69.next) e99.next) e105.next) e125.next) e155.next) e161.next))) e549 (i216.fresh (ntr (ntr (ntr (ntr (ntr (ntr (ntr (ntr (ntr (ntr (ntr (ntr (ntr e4.next e17.next) e32.next) e46.next) e52.next) e69.next) e99.next) e105.next) e125.next) e155.next) e161.next) e178.next) e191.next) e197.next))) e595 Inn.nil).extR e628).extR e634) e640 (hb629.fresh (ntr (ntr (ntr (ntr (ntr (ntr (ntr n819 n820) n653) e464.next) e477.next) e510.next) e549.next) e595.next))) e648 (hb635.fresh (ntr (ntr (ntr (ntr (ntr (ntr (ntr (ntr n819 n820) n653) e464.next) e477.next) e510.next) e549.next) e595.next) e628.next))) e666 Inn.nil).extR e679) e685 (hb680.fresh (ntr (ntr (ntr (ntr (ntr n819 n820) n653) n740) e648.next) e666.next))) e701 Inn.nil).extR e717).extR e723) e729 (hb718.fresh (ntr (ntr (ntr (ntr (ntr (ntr (ntr (ntr n819 n820) n653) n740) e648.next) e666.next) e679.next) e685.next) e701.next))) e735 (hb724.fresh (ntr (ntr (ntr (ntr (ntr (ntr (ntr (ntr (ntr n819 n820) n653) n740) e648.next) e666.next) e679.next) e685.next) e701.next) e717.next))) e750 Inn.nil) e762 Inn.nil) e774 Inn.nil)⟩
           ·have r821 := ite_f h763 r760
            rw [nb h763]
            refine d_qk (.bool false) (by kernel_rfl) ?_
            refine d_idle (by kernel_rfl) ?_
            refine d_idle (by kernel_rfl) ?_
            refine d_idle (by kernel_rfl) ?_
            refine d_qk (.bool false) (by kernel_rfl) ?_
            refine d_qk (.bool false) (by kernel_rfl) ?_
            refine d_idle (by kernel_rfl) ?_
            refine d_idle (by kernel_rfl) ?_
            refine d_idle (by kernel_rfl) ?_
            refine d_idle (by kernel_rfl) ?_
            refine d_idle (by kernel_rfl) ?_
            refine d_idle (by kernel_rfl) ?_
            refine d_idle (by kernel_rfl) ?_
            refine d_idle (by kernel_rfl) ?_
            refine d_idle (by kernel_rfl) ?_
            refine d_idle (by kernel_rfl) ?_
            refine d_idle (by kernel_rfl) ?_
            refine d_qk (.bool false) (by kernel_rfl) ?_
            refine d_qk (.bool false) (by kernel_rfl) ?_
            refine d_nil ?_
            refine k739 _ _ ?_
            refine w_ret ?_
            refine b_ret (fn := Try.f6) (vs := [.bool false]) (aRes_tmp (by kernel_rfl) (rfl)) ?_
            have c823 := (FrS.step wf ((FrS.step wf (FrS.step wf ((FrS.step wf (FrS.step wf ((FrS.refl (W := []) wf).extR e4) e17 Inn.nil) e32 Inn.nil).extR e46) e52 (hb47.fresh (ntr (ntr e4.next e17.next) e32.next))) e69 Inn.nil).extR e99) e105 (hb100.fresh (ntr (ntr (ntr (ntr (ntr e4.next e17.next) e32.next) e46.next) e52.next) e69.next)))
            have c824 := (FrS.step e105.wf (FrS.step e105.wf (FrS.step e105.wf ((FrS.step e105.wf (FrS.step e105.wf ((FrS.step e105.wf (FrS.refl (W := []) e105.wf) e125 Inn.nil).extR e155) e161 (hb156.fresh e125.next)) e178 Inn.nil).extR e191) e197 (hb192.fresh (ntr (ntr (ntr e125.next e155.next) e161.next) e178.next))) e213 Inn.nil) e233 Inn.nil)
            have n825 := (ntr (ntr (ntr (ntr (ntr (ntr (ntr e4.next e17.next) e32.next) e46.next) e52.next) e69.next) e99.next) e105.next)
            have n826 := (ntr (ntr (ntr (ntr (ntr (ntr (ntr e125.next e155.next) e161.next) e178.next) e191.next) e197.next) e213.next) e233.next)
            obtain rfl := Option.some.inj r821
            exact ⟨rfl, (FrS.step wf (FrS.step wf (FrS.step wf (FrS.step wf (((FrS.step wf (FrS.step wf ((FrS.step wf (FrS.step wf (FrS.step wf (((FrS.step wf (FrS.step wf (FrS.step wf (FrS.step wf ((FrS.step wf (FrS.step wf ((FrS.step wf (FrS.step wf ((FrS.step wf ((FrS.step wf (FrS.step wf (FrS.refl (W := []) wf) c823 Inn.nil) c824 Inn.nil).extR e243) e261 (i74.fresh (ntr (ntr (ntr (ntr e4.next e17.next) e32.next) e46.next) e52.next))).extR e298) e311 (i74.fresh (ntr (ntr (ntr (ntr e4.next e17.next) e32.next) e46.next) e52.next))) e344 (i75.fresh (ntr (ntr (ntr (ntr e4.next e17.next) e32.next) e46.next) e52.next))).extR e381) e394 (i75.fresh (ntr (ntr (ntr (ntr e4.next e17.next) e32.next) e46.next) e52.next))) e427 (i76.fresh (ntr (ntr (ntr (ntr e4.next e17.next) e32.next) e46.next) e52.next))).extR e464) e477 (i76.fresh (ntr (ntr (ntr (ntr e4.next e17.next) e32.next) e46.next) e52.next))) e510 (i181.fresh (ntr (ntr (ntr (ntr (ntr (ntr (ntr (ntr (ntr (ntr e4.next e17.next) e32.next) e46.next) e52.next) e69.next) e99.next) e105.next) e125.next) e155.next) e161.next))) e549 (i216.fresh (ntr (ntr (ntr (ntr (ntr (ntr (ntr (ntr (ntr (ntr (ntr (ntr (ntr e4.next e17.next) e32.next) e46.next) e52.next) e69.next) e99.next) e105.next) e125.next) e155.next) e161.next) e178.next) e191.next) e197.next))) e595 Inn.nil).extR e628).extR e634) e640 (hb629.fresh (ntr (ntr (ntr (ntr (ntr (ntr (ntr n825 n826) n653) e464.next) e477.next) e510.next) e549.next) e595.next))) e648 (hb635.fresh (ntr (ntr (ntr (ntr (ntr (ntr (ntr (ntr n825 n826) n653) e464.next) e477.next) e510.next) e549.next) e595.next) e628.next))) e666 Inn.nil).extR e679) e685 (hb680.fresh (ntr (ntr (ntr (ntr (ntr n825 n826) n653) n740) e648.next) e666.next))) e701 Inn.nil).extR e717).extR e723) e729 (hb718.fresh (ntr (ntr (ntr (ntr (ntr (ntr (ntr (ntr n825 n826) n653) n740) e648.next) e666.next) e679.next) e685.next) e701.next))) e735 (hb724.fresh (ntr (ntr (ntr (ntr (ntr (ntr (ntr (ntr (ntr n825 n826) n653) n740) e648.next) e666.next) e679.next) e685.next) e701.next) e717.next))) e750 Inn.nil) e762 Inn.nil)⟩


end Go.Vd
