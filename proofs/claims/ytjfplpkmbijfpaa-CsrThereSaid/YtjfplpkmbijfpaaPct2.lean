/- The walks of the functions (printed by a program of ours). -/
import Derived.Test.YtjfplpkmbijfpaaPct1
import Derived.Test.YtjfplpkmbijfpaaVeC
import Derived.Test.YtjfplpkmbijfpaaICt
import Derived.Test.YtjfplpkmbijfpaaSoA
import Derived.Test.YtjfplpkmbijfpaaVeV
set_option linter.unusedVariables false
set_option linter.unusedSimpArgs false
set_option linter.unusedSectionVars false
/-! (KCt3) -/

set_option maxRecDepth 100000
set_option maxHeartbeats 4000000
set_option linter.unusedVariables false
namespace Go.Vd
open Go.Proofs
attribute [local irreducible] wpSeq wpOrd aWp
theorem c_viaductlaw05_CsrThere {H : AH} {hd_Arcs : Value} {fp_Arcs : Fp} {N_ : Int} {Arcs : List (Int × Int × Int)} {r : Bool}
  (wf : WF H) (h_Arcs : Sq enc_i64_i64_i64 3 H hd_Arcs Arcs fp_Arcs) (hr : z_viaductlaw05_CsrThere N_ Arcs = some r) :
  ACalls Try.prog 7 #[.agg #[.int .i64 N_, hd_Arcs]] H fun v H' => v = .bool r ∧ FrS [] H H' := by
 refine acalls_of_body mixed Try.func7 rfl (Nat.le_of_ble_eq_true rfl) ?_
 unfold z_viaductlaw05_CsrThere at hr
 refine w_seqk fun K1 k1 => ?_
 refine w_reg (by kernel_rfl) ?_
 refine s_rwl wf [.int .i64 N_, hd_Arcs] (one_cons (rfl) (one_cons (h_Arcs.one1) (one_nil))) (by kernel_rfl) fun b2 H3 e4 hb5 r6 => ?_
 refine s_qk (.bool false) (by kernel_rfl) ?_
 refine s_nil ?_
 refine k1 _ _ ?_
 refine w_seqk fun K8 k8 => ?_
 refine w_seqk fun K9 k9 => ?_
 refine w_reg (by kernel_rfl) ?_
 refine s_ck 26 #[] (by kernel_rfl) c_viaductlaw05_awake ?_
 rintro _ _ ⟨rfl, rfl⟩
 refine s_qk (.bool false) (by kernel_rfl) ?_
 refine s_nil ?_
 refine k9 _ _ ?_
 refine w_cond false (by kernel_rfl) rfl (fun h => by cases h) (fun _ => ?_)
 refine w_skip ?_
 refine k8 _ _ ?_
 refine w_seqk fun K10 k10 => ?_
 refine w_reg (by kernel_rfl) ?_
 refine s_ql (.agg #[.int .i64 N_, hd_Arcs]) (x := aLoad Try.prog 24 (.pointer (some ⟨b2, 0, none⟩)) H3) (by kernel_rfl) (r6.ld (by kernel_rfl)) ?_
 have u11 := (h_Arcs.ext e4)
 obtain ⟨y12, hy13, r14⟩ := bind_some hr
 refine s_ck 28 #[.agg #[.int .i64 N_, hd_Arcs]] (by kernel_rfl) (c_csr_Build e4.wf u11 hy13) ?_
 rintro _ H23 ⟨s15, f16, s17, f18, s19, f20, v21, f22, rfl, e24, m25, m26, m27, m28, i29, i30, i31, i32, d33, d34, d35, d36, d37, d38⟩
 obtain ⟨a43, n44, c45, rfl⟩ := m25.form
 obtain ⟨a46, n47, c48, rfl⟩ := m26.form
 obtain ⟨a49, n50, c51, rfl⟩ := m27.form
 refine s_qk (.tuple #[.agg #[.slice a43 n44 c45, .slice a46 n47 c48, .slice a49 n50 c51], v21]) (by kernel_rfl) ?_
 refine s_qk (.agg #[.slice a43 n44 c45, .slice a46 n47 c48, .slice a49 n50 c51]) (by kernel_rfl) ?_
 refine s_qk (v21) (by kernel_rfl) ?_
 refine s_rwk e24.wf [.slice none 0 0, .slice none 0 0, .slice none 0 0] (by kernel_rfl) fun b52 H53 e54 hb55 r56 => ?_
 have u62 := (m27.ext e54)
 have u63 := (m26.ext e54)
 have u64 := (m25.ext e54)
 obtain ⟨H58, q59, e60, r61⟩ := Row.store (P := Try.prog) (t := 59) (p := 0) e54.wf r56 (.agg #[.slice a43 n44 c45, .slice a46 n47 c48, .slice a49 n50 c51]) [.slice a43 n44 c45, .slice a46 n47 c48, .slice a49 n50 c51] (by kernel_rfl) (by kernel_rfl) (one_cons (u64.one1) (one_cons (u63.one1) (one_cons (u62.one1) (one_nil)))) (Nat.le_of_ble_eq_true (by kernel_rfl)) [.slice a43 n44 c45, .slice a46 n47 c48, .slice a49 n50 c51] (by kernel_rfl)
 refine s_ek (undef) (by kernel_rfl) (map_ok q59) ?_
 refine s_qk (v21) (by kernel_rfl) ?_
 refine s_nil ?_
 refine k10 _ _ ?_
 refine w_seqk fun K65 k65 => ?_
 refine w_reg (by kernel_rfl) ?_
 have u66 := (((r6.frS e24 Dj.nil_l).ext e54).frS e60 (hb55.djn (r6.ltF.le e24.next)))
 refine s_ql (.agg #[.int .i64 N_, hd_Arcs]) (x := aLoad Try.prog 24 (.pointer (some ⟨b2, 0, none⟩)) H58) (by kernel_rfl) (u66.ld (by kernel_rfl)) ?_
 have u67 := (((u11.fr e24 Dj.nil_l).ext e54).fr e60 (hb55.djn (h_Arcs.lt.le (ntr e4.next e24.next))))
 obtain ⟨y68, hy69, r70⟩ := bind_some r14
 refine s_ck 36 #[.agg #[.int .i64 N_, hd_Arcs]] (by kernel_rfl) (c_csr_Back e60.wf u67 hy69) ?_
 rintro _ H79 ⟨s71, f72, s73, f74, s75, f76, v77, f78, rfl, e80, m81, m82, m83, m84, i85, i86, i87, i88, d89, d90, d91, d92, d93, d94⟩
 obtain ⟨a99, n100, c101, rfl⟩ := m81.form
 obtain ⟨a102, n103, c104, rfl⟩ := m82.form
 obtain ⟨a105, n106, c107, rfl⟩ := m83.form
 refine s_qk (.tuple #[.agg #[.slice a99 n100 c101, .slice a102 n103 c104, .slice a105 n106 c107], v77]) (by kernel_rfl) ?_
 refine s_qk (.agg #[.slice a99 n100 c101, .slice a102 n103 c104, .slice a105 n106 c107]) (by kernel_rfl) ?_
 refine s_qk (v77) (by kernel_rfl) ?_
 refine s_rwk e80.wf [.slice none 0 0, .slice none 0 0, .slice none 0 0] (by kernel_rfl) fun b108 H109 e110 hb111 r112 => ?_
 have u118 := (m83.ext e110)
 have u119 := (m82.ext e110)
 have u120 := (m81.ext e110)
 obtain ⟨H114, q115, e116, r117⟩ := Row.store (P := Try.prog) (t := 59) (p := 0) e110.wf r112 (.agg #[.slice a99 n100 c101, .slice a102 n103 c104, .slice a105 n106 c107]) [.slice a99 n100 c101, .slice a102 n103 c104, .slice a105 n106 c107] (by kernel_rfl) (by kernel_rfl) (one_cons (u120.one1) (one_cons (u119.one1) (one_cons (u118.one1) (one_nil)))) (Nat.le_of_ble_eq_true (by kernel_rfl)) [.slice a99 n100 c101, .slice a102 n103 c104, .slice a105 n106 c107] (by kernel_rfl)
 refine s_ek (undef) (by kernel_rfl) (map_ok q115) ?_
 refine s_qk (v77) (by kernel_rfl) ?_
 refine s_nil ?_
 refine k65 _ _ ?_
 refine w_seqk fun K121 k121 => ?_
 refine w_seqk fun K122 k122 => ?_
 refine w_reg (by kernel_rfl) ?_
 refine s_qk (v21) (by kernel_rfl) ?_
 have u126 := (((((m28.ext e54).fr e60 (hb55.djn m28.lt)).fr e80 Dj.nil_l).ext e110).fr e116 (hb111.djn (m28.lt.le (ntr (ntr e54.next e60.next) e80.next))))
 rcases (u126).cases with ⟨h123, rfl⟩ | ⟨h123, t124, x125, rfl⟩
 ·have r127 := ite_t h123 r70
  refine s_qk (.bool false) (by kernel_rfl) ?_
  refine s_nil ?_
  refine k122 _ _ ?_
  refine w_cond false (by kernel_rfl) rfl (fun h => by cases h) (fun _ => ?_)
  refine w_skip ?_
  refine k121 _ _ ?_
  refine w_seqk fun K128 k128 => ?_
  refine w_reg (by kernel_rfl) ?_
  have u129 := (((u66.frS e80 Dj.nil_l).ext e110).frS e116 (hb111.djn (r6.ltF.le (ntr (ntr (ntr e24.next e54.next) e60.next) e80.next))))
  refine s_ql (.agg #[.int .i64 N_, hd_Arcs]) (x := aLoad Try.prog 24 (.pointer (some ⟨b2, 0, none⟩)) H114) (by kernel_rfl) (u129.ld (by kernel_rfl)) ?_
  have u130 := (((u67.fr e80 Dj.nil_l).ext e110).fr e116 (hb111.djn (h_Arcs.lt.le (ntr (ntr (ntr (ntr e4.next e24.next) e54.next) e60.next) e80.next))))
  obtain ⟨y131, hy132, r133⟩ := bind_some r127
  refine s_ck 9 #[.agg #[.int .i64 N_, hd_Arcs]] (by kernel_rfl) (c_normal_Of e116.wf u130 hy132) ?_
  rintro _ H138 ⟨s134, f135, v136, f137, rfl, e139, m140, m141, i142, i143, d144⟩
  obtain ⟨a147, n148, c149, rfl⟩ := m140.form
  refine s_qk (.tuple #[.agg #[.int .i64 y131.1, .slice a147 n148 c149], v136]) (by kernel_rfl) ?_
  refine s_qk (.agg #[.int .i64 y131.1, .slice a147 n148 c149]) (by kernel_rfl) ?_
  refine s_qk (v136) (by kernel_rfl) ?_
  refine s_rwk e139.wf [.int .i64 0, .slice none 0 0] (by kernel_rfl) fun b150 H151 e152 hb153 r154 => ?_
  have u160 := (m140.ext e152)
  obtain ⟨H156, q157, e158, r159⟩ := Row.store (P := Try.prog) (t := 24) (p := 0) e152.wf r154 (.agg #[.int .i64 y131.1, .slice a147 n148 c149]) [.int .i64 y131.1, .slice a147 n148 c149] (by kernel_rfl) (by kernel_rfl) (one_cons (rfl) (one_cons (u160.one1) (one_nil))) (Nat.le_of_ble_eq_true (by kernel_rfl)) [.int .i64 y131.1, .slice a147 n148 c149] (by kernel_rfl)
  refine s_ek (undef) (by kernel_rfl) (map_ok q157) ?_
  refine s_qk (v136) (by kernel_rfl) ?_
  refine s_nil ?_
  refine k128 _ _ ?_
  refine w_seqk fun K161 k161 => ?_
  refine w_reg (by kernel_rfl) ?_
  have u162 := (((u129.frS e139 Dj.nil_l).ext e152).frS e158 (hb153.djn (r6.ltF.le (ntr (ntr (ntr (ntr (ntr (ntr e24.next e54.next) e60.next) e80.next) e110.next) e116.next) e139.next))))
  refine s_ql (.agg #[.int .i64 N_, hd_Arcs]) (x := aLoad Try.prog 24 (.pointer (some ⟨b2, 0, none⟩)) H156) (by kernel_rfl) (u162.ld (by kernel_rfl)) ?_
  have u163 := (((u130.fr e139 Dj.nil_l).ext e152).fr e158 (hb153.djn (h_Arcs.lt.le (ntr (ntr (ntr (ntr (ntr (ntr (ntr e4.next e24.next) e54.next) e60.next) e80.next) e110.next) e116.next) e139.next))))
  obtain ⟨y164, hy165, r166⟩ := bind_some r133
  refine s_ck 10 #[.agg #[.int .i64 N_, hd_Arcs]] (by kernel_rfl) (c_normal_Reverse e158.wf u163 hy165) ?_
  rintro _ H171 ⟨s167, f168, v169, f170, rfl, e172, m173, m174, i175, i176, d177⟩
  obtain ⟨a180, n181, c182, rfl⟩ := m173.form
  refine s_qk (.tuple #[.agg #[.int .i64 y164.1, .slice a180 n181 c182], v169]) (by kernel_rfl) ?_
  refine s_qk (.agg #[.int .i64 y164.1, .slice a180 n181 c182]) (by kernel_rfl) ?_
  refine s_qk (v169) (by kernel_rfl) ?_
  refine s_rwk e172.wf [.int .i64 0, .slice none 0 0] (by kernel_rfl) fun b183 H184 e185 hb186 r187 => ?_
  have u193 := (m173.ext e185)
  obtain ⟨H189, q190, e191, r192⟩ := Row.store (P := Try.prog) (t := 24) (p := 0) e185.wf r187 (.agg #[.int .i64 y164.1, .slice a180 n181 c182]) [.int .i64 y164.1, .slice a180 n181 c182] (by kernel_rfl) (by kernel_rfl) (one_cons (rfl) (one_cons (u193.one1) (one_nil))) (Nat.le_of_ble_eq_true (by kernel_rfl)) [.int .i64 y164.1, .slice a180 n181 c182] (by kernel_rfl)
  refine s_ek (undef) (by kernel_rfl) (map_ok q190) ?_
  refine s_qk (v169) (by kernel_rfl) ?_
  refine s_nil ?_
  refine k161 _ _ ?_
  refine w_seqk fun K194 k194 => ?_
  refine w_reg (by kernel_rfl) ?_
  refine s_ql (.agg #[.int .i64 y164.1, .slice a180 n181 c182]) (x := aLoad Try.prog 24 (.pointer (some ⟨b183, 0, none⟩)) H189) (by kernel_rfl) (r192.ld (by kernel_rfl)) ?_
  have u195 := (u193.fr e191 (hb186.djn m173.lt))
  obtain ⟨y196, hy197, r198⟩ := bind_some r166
  refine s_ck 9 #[.agg #[.int .i64 y164.1, .slice a180 n181 c182]] (by kernel_rfl) (c_normal_Of e191.wf u195.sq hy197) ?_
  rintro _ H203 ⟨s199, f200, v201, f202, rfl, e204, m205, m206, i207, i208, d209⟩
  obtain ⟨a212, n213, c214, rfl⟩ := m205.form
  refine s_qk (.tuple #[.agg #[.int .i64 y196.1, .slice a212 n213 c214], v201]) (by kernel_rfl) ?_
  refine s_qk (.agg #[.int .i64 y196.1, .slice a212 n213 c214]) (by kernel_rfl) ?_
  refine s_qk (v201) (by kernel_rfl) ?_
  have u219 := (r192.frS e204 Dj.nil_l)
  obtain ⟨H215, q216, e217, r218⟩ := Row.store (P := Try.prog) (t := 24) (p := 0) e204.wf u219 (.agg #[.int .i64 y196.1, .slice a212 n213 c214]) [.int .i64 y196.1, .slice a212 n213 c214] (by kernel_rfl) (by kernel_rfl) (one_cons (rfl) (one_cons (m205.one1) (one_nil))) (Nat.le_of_ble_eq_true (by kernel_rfl)) [.int .i64 y196.1, .slice a212 n213 c214] (by kernel_rfl)
  refine s_ek (undef) (by kernel_rfl) (map_ok q216) ?_
  refine s_qk (v201) (by kernel_rfl) ?_
  refine s_nil ?_
  refine k194 _ _ ?_
  refine w_seqk fun K220 k220 => ?_
  refine w_reg (by kernel_rfl) ?_
  have u221 := (((((((((((r61.frS e80 Dj.nil_l).ext e110).frS e116 (hb111.djn (r56.ltF.le (ntr e60.next e80.next)))).frS e139 Dj.nil_l).ext e152).frS e158 (hb153.djn (r56.ltF.le (ntr (ntr (ntr (ntr e60.next e80.next) e110.next) e116.next) e139.next)))).frS e172 Dj.nil_l).ext e185).frS e191 (hb186.djn (r56.ltF.le (ntr (ntr (ntr (ntr (ntr (ntr (ntr e60.next e80.next) e110.next) e116.next) e139.next) e152.next) e158.next) e172.next)))).frS e204 Dj.nil_l).frS e217 (hb186.djn (r56.ltF.le (ntr (ntr (ntr (ntr (ntr (ntr (ntr e60.next e80.next) e110.next) e116.next) e139.next) e152.next) e158.next) e172.next))))
  refine s_ql (.agg #[.slice a43 n44 c45, .slice a46 n47 c48, .slice a49 n50 c51]) (x := aLoad Try.prog 59 (.pointer (some ⟨b52, 0, none⟩)) H215) (by kernel_rfl) (u221.ld (by kernel_rfl)) ?_
  have u222 := ((((((((((((u64.fr e60 (hb55.djn m25.lt)).fr e80 Dj.nil_l).ext e110).fr e116 (hb111.djn (m25.lt.le (ntr (ntr e54.next e60.next) e80.next)))).fr e139 Dj.nil_l).ext e152).fr e158 (hb153.djn (m25.lt.le (ntr (ntr (ntr (ntr (ntr e54.next e60.next) e80.next) e110.next) e116.next) e139.next)))).fr e172 Dj.nil_l).ext e185).fr e191 (hb186.djn (m25.lt.le (ntr (ntr (ntr (ntr (ntr (ntr (ntr (ntr e54.next e60.next) e80.next) e110.next) e116.next) e139.next) e152.next) e158.next) e172.next)))).fr e204 Dj.nil_l).fr e217 (hb186.djn (m25.lt.le (ntr (ntr (ntr (ntr (ntr (ntr (ntr (ntr e54.next e60.next) e80.next) e110.next) e116.next) e139.next) e152.next) e158.next) e172.next))))
  have u223 := ((((((((((((u63.fr e60 (hb55.djn m26.lt)).fr e80 Dj.nil_l).ext e110).fr e116 (hb111.djn (m26.lt.le (ntr (ntr e54.next e60.next) e80.next)))).fr e139 Dj.nil_l).ext e152).fr e158 (hb153.djn (m26.lt.le (ntr (ntr (ntr (ntr (ntr e54.next e60.next) e80.next) e110.next) e116.next) e139.next)))).fr e172 Dj.nil_l).ext e185).fr e191 (hb186.djn (m26.lt.le (ntr (ntr (ntr (ntr (ntr (ntr (ntr (ntr e54.next e60.next) e80.next) e110.next) e116.next) e139.next) e152.next) e158.next) e172.next)))).fr e204 Dj.nil_l).fr e217 (hb186.djn (m26.lt.le (ntr (ntr (ntr (ntr (ntr (ntr (ntr (ntr e54.next e60.next) e80.next) e110.next) e116.next) e139.next) e152.next) e158.next) e172.next))))
  have u224 := ((((((((((((u62.fr e60 (hb55.djn m27.lt)).fr e80 Dj.nil_l).ext e110).fr e116 (hb111.djn (m27.lt.le (ntr (ntr e54.next e60.next) e80.next)))).fr e139 Dj.nil_l).ext e152).fr e158 (hb153.djn (m27.lt.le (ntr (ntr (ntr (ntr (ntr e54.next e60.next) e80.next) e110.next) e116.next) e139.next)))).fr e172 Dj.nil_l).ext e185).fr e191 (hb186.djn (m27.lt.le (ntr (ntr (ntr (ntr (ntr (ntr (ntr (ntr e54.next e60.next) e80.next) e110.next) e116.next) e139.next) e152.next) e158.next) e172.next)))).fr e204 Dj.nil_l).fr e217 (hb186.djn (m27.lt.le (ntr (ntr (ntr (ntr (ntr (ntr (ntr (ntr e54.next e60.next) e80.next) e110.next) e116.next) e139.next) e152.next) e158.next) e172.next))))
  obtain ⟨y225, hy226, r227⟩ := bind_some r198
  refine s_ck 29 #[.agg #[.slice a43 n44 c45, .slice a46 n47 c48, .slice a49 n50 c51]] (by kernel_rfl) (c_csr_Graph e217.wf u222.sq u223.sq u224.sq hy226) ?_
  rintro _ H232 ⟨s228, f229, v230, f231, rfl, e233, m234, m235, i236, i237, d238⟩
  obtain ⟨a241, n242, c243, rfl⟩ := m234.form
  refine s_qk (.tuple #[.agg #[.int .i64 y225.1, .slice a241 n242 c243], v230]) (by kernel_rfl) ?_
  refine s_qk (.agg #[.int .i64 y225.1, .slice a241 n242 c243]) (by kernel_rfl) ?_
  refine s_qk (v230) (by kernel_rfl) ?_
  refine s_rwk e233.wf [.int .i64 0, .slice none 0 0] (by kernel_rfl) fun b244 H245 e246 hb247 r248 => ?_
  have u254 := (m234.ext e246)
  obtain ⟨H250, q251, e252, r253⟩ := Row.store (P := Try.prog) (t := 24) (p := 0) e246.wf r248 (.agg #[.int .i64 y225.1, .slice a241 n242 c243]) [.int .i64 y225.1, .slice a241 n242 c243] (by kernel_rfl) (by kernel_rfl) (one_cons (rfl) (one_cons (u254.one1) (one_nil))) (Nat.le_of_ble_eq_true (by kernel_rfl)) [.int .i64 y225.1, .slice a241 n242 c243] (by kernel_rfl)
  refine s_ek (undef) (by kernel_rfl) (map_ok q251) ?_
  refine s_qk (v230) (by kernel_rfl) ?_
  refine s_nil ?_
  refine k220 _ _ ?_
  refine w_seqk fun K255 k255 => ?_
  refine w_reg (by kernel_rfl) ?_
  have u256 := (((((((((((r117.frS e139 Dj.nil_l).ext e152).frS e158 (hb153.djn (r112.ltF.le (ntr e116.next e139.next)))).frS e172 Dj.nil_l).ext e185).frS e191 (hb186.djn (r112.ltF.le (ntr (ntr (ntr (ntr e116.next e139.next) e152.next) e158.next) e172.next)))).frS e204 Dj.nil_l).frS e217 (hb186.djn (r112.ltF.le (ntr (ntr (ntr (ntr e116.next e139.next) e152.next) e158.next) e172.next)))).frS e233 Dj.nil_l).ext e246).frS e252 (hb247.djn (r112.ltF.le (ntr (ntr (ntr (ntr (ntr (ntr (ntr (ntr (ntr e116.next e139.next) e152.next) e158.next) e172.next) e185.next) e191.next) e204.next) e217.next) e233.next))))
  refine s_ql (.agg #[.slice a99 n100 c101, .slice a102 n103 c104, .slice a105 n106 c107]) (x := aLoad Try.prog 59 (.pointer (some ⟨b108, 0, none⟩)) H250) (by kernel_rfl) (u256.ld (by kernel_rfl)) ?_
  have u257 := ((((((((((((u120.fr e116 (hb111.djn m81.lt)).fr e139 Dj.nil_l).ext e152).fr e158 (hb153.djn (m81.lt.le (ntr (ntr e110.next e116.next) e139.next)))).fr e172 Dj.nil_l).ext e185).fr e191 (hb186.djn (m81.lt.le (ntr (ntr (ntr (ntr (ntr e110.next e116.next) e139.next) e152.next) e158.next) e172.next)))).fr e204 Dj.nil_l).fr e217 (hb186.djn (m81.lt.le (ntr (ntr (ntr (ntr (ntr e110.next e116.next) e139.next) e152.next) e158.next) e172.next)))).fr e233 Dj.nil_l).ext e246).fr e252 (hb247.djn (m81.lt.le (ntr (ntr (ntr (ntr (ntr (ntr (ntr (ntr (ntr (ntr e110.next e116.next) e139.next) e152.next) e158.next) e172.next) e185.next) e191.next) e204.next) e217.next) e233.next))))
  have u258 := ((((((((((((u119.fr e116 (hb111.djn m82.lt)).fr e139 Dj.nil_l).ext e152).fr e158 (hb153.djn (m82.lt.le (ntr (ntr e110.next e116.next) e139.next)))).fr e172 Dj.nil_l).ext e185).fr e191 (hb186.djn (m82.lt.le (ntr (ntr (ntr (ntr (ntr e110.next e116.next) e139.next) e152.next) e158.next) e172.next)))).fr e204 Dj.nil_l).fr e217 (hb186.djn (m82.lt.le (ntr (ntr (ntr (ntr (ntr e110.next e116.next) e139.next) e152.next) e158.next) e172.next)))).fr e233 Dj.nil_l).ext e246).fr e252 (hb247.djn (m82.lt.le (ntr (ntr (ntr (ntr (ntr (ntr (ntr (ntr (ntr (ntr e110.next e116.next) e139.next) e152.next) e158.next) e172.next) e185.next) e191.next) e204.next) e217.next) e233.next))))
  have u259 := ((((((((((((u118.fr e116 (hb111.djn m83.lt)).fr e139 Dj.nil_l).ext e152).fr e158 (hb153.djn (m83.lt.le (ntr (ntr e110.next e116.next) e139.next)))).fr e172 Dj.nil_l).ext e185).fr e191 (hb186.djn (m83.lt.le (ntr (ntr (ntr (ntr (ntr e110.next e116.next) e139.next) e152.next) e158.next) e172.next)))).fr e204 Dj.nil_l).fr e217 (hb186.djn (m83.lt.le (ntr (ntr (ntr (ntr (ntr e110.next e116.next) e139.next) e152.next) e158.next) e172.next)))).fr e233 Dj.nil_l).ext e246).fr e252 (hb247.djn (m83.lt.le (ntr (ntr (ntr (ntr (ntr (ntr (ntr (ntr (ntr (ntr e110.next e116.next) e139.next) e152.next) e158.next) e172.next) e185.next) e191.next) e204.next) e217.next) e233.next))))
  obtain ⟨y260, hy261, r262⟩ := bind_some r227
  refine s_ck 29 #[.agg #[.slice a99 n100 c101, .slice a102 n103 c104, .slice a105 n106 c107]] (by kernel_rfl) (c_csr_Graph e252.wf u257.sq u258.sq u259.sq hy261) ?_
  rintro _ H267 ⟨s263, f264, v265, f266, rfl, e268, m269, m270, i271, i272, d273⟩
  obtain ⟨a276, n277, c278, rfl⟩ := m269.form
  refine s_qk (.tuple #[.agg #[.int .i64 y260.1, .slice a276 n277 c278], v265]) (by kernel_rfl) ?_
  refine s_qk (.agg #[.int .i64 y260.1, .slice a276 n277 c278]) (by kernel_rfl) ?_
  refine s_qk (v265) (by kernel_rfl) ?_
  refine s_rwk e268.wf [.int .i64 0, .slice none 0 0] (by kernel_rfl) fun b279 H280 e281 hb282 r283 => ?_
  have u289 := (m269.ext e281)
  obtain ⟨H285, q286, e287, r288⟩ := Row.store (P := Try.prog) (t := 24) (p := 0) e281.wf r283 (.agg #[.int .i64 y260.1, .slice a276 n277 c278]) [.int .i64 y260.1, .slice a276 n277 c278] (by kernel_rfl) (by kernel_rfl) (one_cons (rfl) (one_cons (u289.one1) (one_nil))) (Nat.le_of_ble_eq_true (by kernel_rfl)) [.int .i64 y260.1, .slice a276 n277 c278] (by kernel_rfl)
  refine s_ek (undef) (by kernel_rfl) (map_ok q286) ?_
  refine s_qk (v265) (by kernel_rfl) ?_
  refine s_nil ?_
  refine k255 _ _ ?_
  refine w_seqk fun K290 k290 => ?_
  refine w_reg (by kernel_rfl) ?_
  refine s_qk (v77) (by kernel_rfl) ?_
  have u294 := ((((((((((((((((m84.ext e110).fr e116 (hb111.djn m84.lt)).fr e139 Dj.nil_l).ext e152).fr e158 (hb153.djn (m84.lt.le (ntr (ntr e110.next e116.next) e139.next)))).fr e172 Dj.nil_l).ext e185).fr e191 (hb186.djn (m84.lt.le (ntr (ntr (ntr (ntr (ntr e110.next e116.next) e139.next) e152.next) e158.next) e172.next)))).fr e204 Dj.nil_l).fr e217 (hb186.djn (m84.lt.le (ntr (ntr (ntr (ntr (ntr e110.next e116.next) e139.next) e152.next) e158.next) e172.next)))).fr e233 Dj.nil_l).ext e246).fr e252 (hb247.djn (m84.lt.le (ntr (ntr (ntr (ntr (ntr (ntr (ntr (ntr (ntr (ntr e110.next e116.next) e139.next) e152.next) e158.next) e172.next) e185.next) e191.next) e204.next) e217.next) e233.next)))).fr e268 Dj.nil_l).ext e281).fr e287 (hb282.djn (m84.lt.le (ntr (ntr (ntr (ntr (ntr (ntr (ntr (ntr (ntr (ntr (ntr (ntr (ntr e110.next e116.next) e139.next) e152.next) e158.next) e172.next) e185.next) e191.next) e204.next) e217.next) e233.next) e246.next) e252.next) e268.next))))
  rcases (u294).cases with ⟨h291, rfl⟩ | ⟨h291, t292, x293, rfl⟩
  ·have r295 := ite_t h291 r262
   refine s_qk (.bool true) (by kernel_rfl) ?_
   refine s_qk (.bool true) (by kernel_rfl) ?_
   refine s_qk (v136) (by kernel_rfl) ?_
   have u299 := (((((((((((((m141.ext e152).fr e158 (hb153.djn m141.lt)).fr e172 Dj.nil_l).ext e185).fr e191 (hb186.djn (m141.lt.le (ntr (ntr e152.next e158.next) e172.next)))).fr e204 Dj.nil_l).fr e217 (hb186.djn (m141.lt.le (ntr (ntr e152.next e158.next) e172.next)))).fr e233 Dj.nil_l).ext e246).fr e252 (hb247.djn (m141.lt.le (ntr (ntr (ntr (ntr (ntr (ntr (ntr e152.next e158.next) e172.next) e185.next) e191.next) e204.next) e217.next) e233.next)))).fr e268 Dj.nil_l).ext e281).fr e287 (hb282.djn (m141.lt.le (ntr (ntr (ntr (ntr (ntr (ntr (ntr (ntr (ntr (ntr e152.next e158.next) e172.next) e185.next) e191.next) e204.next) e217.next) e233.next) e246.next) e252.next) e268.next))))
   rcases (u299).cases with ⟨h296, rfl⟩ | ⟨h296, t297, x298, rfl⟩
   ·have r300 := ite_t h296 r295
    refine s_qk (.bool true) (by kernel_rfl) ?_
    refine s_qk (.bool true) (by kernel_rfl) ?_
    refine s_qk (.bool true) (by kernel_rfl) ?_
    refine s_qk (v169) (by kernel_rfl) ?_
    have u304 := ((((((((((m174.ext e185).fr e191 (hb186.djn m174.lt)).fr e204 Dj.nil_l).fr e217 (hb186.djn m174.lt)).fr e233 Dj.nil_l).ext e246).fr e252 (hb247.djn (m174.lt.le (ntr (ntr (ntr (ntr e185.next e191.next) e204.next) e217.next) e233.next)))).fr e268 Dj.nil_l).ext e281).fr e287 (hb282.djn (m174.lt.le (ntr (ntr (ntr (ntr (ntr (ntr (ntr e185.next e191.next) e204.next) e217.next) e233.next) e246.next) e252.next) e268.next))))
    rcases (u304).cases with ⟨h301, rfl⟩ | ⟨h301, t302, x303, rfl⟩
    ·have r305 := ite_t h301 r300
     refine s_qk (.bool true) (by kernel_rfl) ?_
     refine s_qk (.bool true) (by kernel_rfl) ?_
     refine s_qk (.bool true) (by kernel_rfl) ?_
     refine s_qk (v201) (by kernel_rfl) ?_
     have u309 := (((((((m206.fr e217 (Dj.symm (i208.djn (r187.ltF.le e191.next)))).fr e233 Dj.nil_l).ext e246).fr e252 (hb247.djn (m206.lt.le (ntr e217.next e233.next)))).fr e268 Dj.nil_l).ext e281).fr e287 (hb282.djn (m206.lt.le (ntr (ntr (ntr (ntr e217.next e233.next) e246.next) e252.next) e268.next))))
     rcases (u309).cases with ⟨h306, rfl⟩ | ⟨h306, t307, x308, rfl⟩
     ·have r310 := ite_t h306 r305
      refine s_qk (.bool true) (by kernel_rfl) ?_
      refine s_qk (.bool true) (by kernel_rfl) ?_
      refine s_qk (.bool true) (by kernel_rfl) ?_
      refine s_qk (v230) (by kernel_rfl) ?_
      have u314 := (((((m235.ext e246).fr e252 (hb247.djn m235.lt)).fr e268 Dj.nil_l).ext e281).fr e287 (hb282.djn (m235.lt.le (ntr (ntr e246.next e252.next) e268.next))))
      rcases (u314).cases with ⟨h311, rfl⟩ | ⟨h311, t312, x313, rfl⟩
      ·have r315 := ite_t h311 r310
       refine s_qk (.bool true) (by kernel_rfl) ?_
       refine s_qk (.bool true) (by kernel_rfl) ?_
       refine s_qk (.bool true) (by kernel_rfl) ?_
       refine s_qk (v265) (by kernel_rfl) ?_
       have u319 := ((m270.ext e281).fr e287 (hb282.djn m270.lt))
       rcases (u319).cases with ⟨h316, rfl⟩ | ⟨h316, t317, x318, rfl⟩
       ·have r320 := ite_t h316 r315
        refine s_qk (.bool true) (by kernel_rfl) ?_
        refine s_qk (.bool true) (by kernel_rfl) ?_
        refine s_qk (.bool true) (by kernel_rfl) ?_
        have u321 := ((((((u221.frS e233 Dj.nil_l).ext e246).frS e252 (hb247.djn (r56.ltF.le (ntr (ntr (ntr (ntr (ntr (ntr (ntr (ntr (ntr (ntr (ntr (ntr e60.next e80.next) e110.next) e116.next) e139.next) e152.next) e158.next) e172.next) e185.next) e191.next) e204.next) e217.next) e233.next)))).frS e268 Dj.nil_l).ext e281).frS e287 (hb282.djn (r56.ltF.le (ntr (ntr (ntr (ntr (ntr (ntr (ntr (ntr (ntr (ntr (ntr (ntr (ntr (ntr (ntr e60.next e80.next) e110.next) e116.next) e139.next) e152.next) e158.next) e172.next) e185.next) e191.next) e204.next) e217.next) e233.next) e246.next) e252.next) e268.next))))
        refine s_ql (.agg #[.slice a43 n44 c45, .slice a46 n47 c48, .slice a49 n50 c51]) (x := aLoad Try.prog 59 (.pointer (some ⟨b52, 0, none⟩)) H285) (by kernel_rfl) (u321.ld (by kernel_rfl)) ?_
        have u322 := ((((((u222.fr e233 Dj.nil_l).ext e246).fr e252 (hb247.djn (m25.lt.le (ntr (ntr (ntr (ntr (ntr (ntr (ntr (ntr (ntr (ntr (ntr (ntr (ntr e54.next e60.next) e80.next) e110.next) e116.next) e139.next) e152.next) e158.next) e172.next) e185.next) e191.next) e204.next) e217.next) e233.next)))).fr e268 Dj.nil_l).ext e281).fr e287 (hb282.djn (m25.lt.le (ntr (ntr (ntr (ntr (ntr (ntr (ntr (ntr (ntr (ntr (ntr (ntr (ntr (ntr (ntr (ntr e54.next e60.next) e80.next) e110.next) e116.next) e139.next) e152.next) e158.next) e172.next) e185.next) e191.next) e204.next) e217.next) e233.next) e246.next) e252.next) e268.next))))
        have u323 := ((((((u223.fr e233 Dj.nil_l).ext e246).fr e252 (hb247.djn (m26.lt.le (ntr (ntr (ntr (ntr (ntr (ntr (ntr (ntr (ntr (ntr (ntr (ntr (ntr e54.next e60.next) e80.next) e110.next) e116.next) e139.next) e152.next) e158.next) e172.next) e185.next) e191.next) e204.next) e217.next) e233.next)))).fr e268 Dj.nil_l).ext e281).fr e287 (hb282.djn (m26.lt.le (ntr (ntr (ntr (ntr (ntr (ntr (ntr (ntr (ntr (ntr (ntr (ntr (ntr (ntr (ntr (ntr e54.next e60.next) e80.next) e110.next) e116.next) e139.next) e152.next) e158.next) e172.next) e185.next) e191.next) e204.next) e217.next) e233.next) e246.next) e252.next) e268.next))))
        have u324 := ((((((u224.fr e233 Dj.nil_l).ext e246).fr e252 (hb247.djn (m27.lt.le (ntr (ntr (ntr (ntr (ntr (ntr (ntr (ntr (ntr (ntr (ntr (ntr (ntr e54.next e60.next) e80.next) e110.next) e116.next) e139.next) e152.next) e158.next) e172.next) e185.next) e191.next) e204.next) e217.next) e233.next)))).fr e268 Dj.nil_l).ext e281).fr e287 (hb282.djn (m27.lt.le (ntr (ntr (ntr (ntr (ntr (ntr (ntr (ntr (ntr (ntr (ntr (ntr (ntr (ntr (ntr (ntr e54.next e60.next) e80.next) e110.next) e116.next) e139.next) e152.next) e158.next) e172.next) e185.next) e191.next) e204.next) e217.next) e233.next) e246.next) e252.next) e268.next))))
        obtain ⟨y325, hy326, r327⟩ := bind_some r320
        refine s_ck 37 #[.agg #[.slice a43 n44 c45, .slice a46 n47 c48, .slice a49 n50 c51]] (by kernel_rfl) (c_csr_Check e287.wf u322.sq u323.sq u324.sq hy326) ?_
        rintro v328 H330 ⟨_, f329, rfl, e331, m332, i333⟩
        rcases (m332).cases with ⟨h335, rfl⟩ | ⟨h335, t336, x337, rfl⟩
        ·have r338 := ite_t h335 r327
         refine s_qk (.bool true) (by kernel_rfl) ?_
         refine s_qk (.bool true) (by kernel_rfl) ?_
         refine s_qk (.bool true) (by kernel_rfl) ?_
         have u339 := ((((u256.frS e268 Dj.nil_l).ext e281).frS e287 (hb282.djn (r112.ltF.le (ntr (ntr (ntr (ntr (ntr (ntr (ntr (ntr (ntr (ntr (ntr (ntr e116.next e139.next) e152.next) e158.next) e172.next) e185.next) e191.next) e204.next) e217.next) e233.next) e246.next) e252.next) e268.next)))).frS e331 Dj.nil_l)
         refine s_ql (.agg #[.slice a99 n100 c101, .slice a102 n103 c104, .slice a105 n106 c107]) (x := aLoad Try.prog 59 (.pointer (some ⟨b108, 0, none⟩)) H330) (by kernel_rfl) (u339.ld (by kernel_rfl)) ?_
         have u340 := ((((u257.fr e268 Dj.nil_l).ext e281).fr e287 (hb282.djn (m81.lt.le (ntr (ntr (ntr (ntr (ntr (ntr (ntr (ntr (ntr (ntr (ntr (ntr (ntr e110.next e116.next) e139.next) e152.next) e158.next) e172.next) e185.next) e191.next) e204.next) e217.next) e233.next) e246.next) e252.next) e268.next)))).fr e331 Dj.nil_l)
         have u341 := ((((u258.fr e268 Dj.nil_l).ext e281).fr e287 (hb282.djn (m82.lt.le (ntr (ntr (ntr (ntr (ntr (ntr (ntr (ntr (ntr (ntr (ntr (ntr (ntr e110.next e116.next) e139.next) e152.next) e158.next) e172.next) e185.next) e191.next) e204.next) e217.next) e233.next) e246.next) e252.next) e268.next)))).fr e331 Dj.nil_l)
         have u342 := ((((u259.fr e268 Dj.nil_l).ext e281).fr e287 (hb282.djn (m83.lt.le (ntr (ntr (ntr (ntr (ntr (ntr (ntr (ntr (ntr (ntr (ntr (ntr (ntr e110.next e116.next) e139.next) e152.next) e158.next) e172.next) e185.next) e191.next) e204.next) e217.next) e233.next) e246.next) e252.next) e268.next)))).fr e331 Dj.nil_l)
         obtain ⟨y343, hy344, r345⟩ := bind_some r338
         refine s_ck 37 #[.agg #[.slice a99 n100 c101, .slice a102 n103 c104, .slice a105 n106 c107]] (by kernel_rfl) (c_csr_Check e331.wf u340.sq u341.sq u342.sq hy344) ?_
         rintro v346 H348 ⟨_, f347, rfl, e349, m350, i351⟩
         rcases (m350).cases with ⟨h353, rfl⟩ | ⟨h353, t354, x355, rfl⟩
         ·have r356 := ite_t h353 r345
          refine s_qk (.bool true) (by kernel_rfl) ?_
          refine s_qk (.bool true) (by kernel_rfl) ?_
          refine s_qk (.bool true) (by kernel_rfl) ?_
          have u357 := (((((r253.frS e268 Dj.nil_l).ext e281).frS e287 (hb282.djn (r248.ltF.le (ntr e252.next e268.next)))).frS e331 Dj.nil_l).frS e349 Dj.nil_l)
          refine s_ql (.agg #[.int .i64 y225.1, .slice a241 n242 c243]) (x := aLoad Try.prog 24 (.pointer (some ⟨b244, 0, none⟩)) H348) (by kernel_rfl) (u357.ld (by kernel_rfl)) ?_
          have u358 := (((((((((((((r159.frS e172 Dj.nil_l).ext e185).frS e191 (hb186.djn (r154.ltF.le (ntr e158.next e172.next)))).frS e204 Dj.nil_l).frS e217 (hb186.djn (r154.ltF.le (ntr e158.next e172.next)))).frS e233 Dj.nil_l).ext e246).frS e252 (hb247.djn (r154.ltF.le (ntr (ntr (ntr (ntr (ntr (ntr e158.next e172.next) e185.next) e191.next) e204.next) e217.next) e233.next)))).frS e268 Dj.nil_l).ext e281).frS e287 (hb282.djn (r154.ltF.le (ntr (ntr (ntr (ntr (ntr (ntr (ntr (ntr (ntr e158.next e172.next) e185.next) e191.next) e204.next) e217.next) e233.next) e246.next) e252.next) e268.next)))).frS e331 Dj.nil_l).frS e349 Dj.nil_l)
          refine s_ql (.agg #[.int .i64 y131.1, .slice a147 n148 c149]) (x := aLoad Try.prog 24 (.pointer (some ⟨b150, 0, none⟩)) H348) (by kernel_rfl) (u358.ld (by kernel_rfl)) ?_
          have u359 := ((((((u254.fr e252 (hb247.djn m234.lt)).fr e268 Dj.nil_l).ext e281).fr e287 (hb282.djn (m234.lt.le (ntr (ntr e246.next e252.next) e268.next)))).fr e331 Dj.nil_l).fr e349 Dj.nil_l)
          have u360 := ((((((((((((((u160.fr e158 (hb153.djn m140.lt)).fr e172 Dj.nil_l).ext e185).fr e191 (hb186.djn (m140.lt.le (ntr (ntr e152.next e158.next) e172.next)))).fr e204 Dj.nil_l).fr e217 (hb186.djn (m140.lt.le (ntr (ntr e152.next e158.next) e172.next)))).fr e233 Dj.nil_l).ext e246).fr e252 (hb247.djn (m140.lt.le (ntr (ntr (ntr (ntr (ntr (ntr (ntr e152.next e158.next) e172.next) e185.next) e191.next) e204.next) e217.next) e233.next)))).fr e268 Dj.nil_l).ext e281).fr e287 (hb282.djn (m140.lt.le (ntr (ntr (ntr (ntr (ntr (ntr (ntr (ntr (ntr (ntr e152.next e158.next) e172.next) e185.next) e191.next) e204.next) e217.next) e233.next) e246.next) e252.next) e268.next)))).fr e331 Dj.nil_l).fr e349 Dj.nil_l)
          obtain ⟨y361, hy362, r363⟩ := bind_some r356
          refine s_ck 12 #[.agg #[.int .i64 y225.1, .slice a241 n242 c243], .agg #[.int .i64 y131.1, .slice a147 n148 c149]] (by kernel_rfl) (c_viaductref03_Same e349.wf u359.sq u360.sq hy362) ?_
          rintro _ H364 ⟨rfl, e365⟩
          by_cases h366 : y361 = true
          ·have r367 := ite_t h366 r363
           rw [h366]
           refine s_qk (.bool true) (by kernel_rfl) ?_
           refine s_qk (.bool true) (by kernel_rfl) ?_
           have u369 := (((r288.frS e331 Dj.nil_l).frS e349 Dj.nil_l).frS e365 Dj.nil_l)
           refine s_ql (.agg #[.int .i64 y260.1, .slice a276 n277 c278]) (x := aLoad Try.prog 24 (.pointer (some ⟨b279, 0, none⟩)) H364) (by kernel_rfl) (u369.ld (by kernel_rfl)) ?_
           have u370 := (((((((((r218.frS e233 Dj.nil_l).ext e246).frS e252 (hb247.djn (r187.ltF.le (ntr (ntr (ntr e191.next e204.next) e217.next) e233.next)))).frS e268 Dj.nil_l).ext e281).frS e287 (hb282.djn (r187.ltF.le (ntr (ntr (ntr (ntr (ntr (ntr e191.next e204.next) e217.next) e233.next) e246.next) e252.next) e268.next)))).frS e331 Dj.nil_l).frS e349 Dj.nil_l).frS e365 Dj.nil_l)
           refine s_ql (.agg #[.int .i64 y196.1, .slice a212 n213 c214]) (x := aLoad Try.prog 24 (.pointer (some ⟨b183, 0, none⟩)) H364) (by kernel_rfl) (u370.ld (by kernel_rfl)) ?_
           have u371 := ((((u289.fr e287 (hb282.djn m269.lt)).fr e331 Dj.nil_l).fr e349 Dj.nil_l).fr e365 Dj.nil_l)
           have u372 := ((((((((((m205.fr e217 (Dj.symm (i207.djn (r187.ltF.le e191.next)))).fr e233 Dj.nil_l).ext e246).fr e252 (hb247.djn (m205.lt.le (ntr e217.next e233.next)))).fr e268 Dj.nil_l).ext e281).fr e287 (hb282.djn (m205.lt.le (ntr (ntr (ntr (ntr e217.next e233.next) e246.next) e252.next) e268.next)))).fr e331 Dj.nil_l).fr e349 Dj.nil_l).fr e365 Dj.nil_l)
           obtain ⟨y373, hy374, r375⟩ := bind_some r367
           refine s_ck 12 #[.agg #[.int .i64 y260.1, .slice a276 n277 c278], .agg #[.int .i64 y196.1, .slice a212 n213 c214]] (by kernel_rfl) (c_viaductref03_Same e365.wf u371.sq u372.sq hy374) ?_
           rintro _ H376 ⟨rfl, e377⟩
           refine s_qk (.bool y373) (by kernel_rfl) ?_
           refine s_qk (.bool y373) (by kernel_rfl) ?_
           refine s_nil ?_
           refine k290 _ _ ?_
           refine w_ret ?_
           refine b_ret (fn := Try.f7) (vs := [.bool y373]) (aRes_tmp (by kernel_rfl) (rfl)) ?_
           obtain rfl := Option.some.inj r375
           exact ⟨rfl, (FrS.step wf (FrS.step wf (FrS.step wf (FrS.step wf (FrS.step wf ((FrS.step wf (FrS.step wf ((FrS.step wf (FrS.step wf (FrS.step wf (FrS.step wf ((FrS.step wf (FrS.step wf ((FrS.step wf (FrS.step wf ((FrS.step wf (FrS.step wf ((FrS.step wf ((FrS.refl (W := []) wf).extR e4) e24 Inn.nil).extR e54) e60 (hb55.fresh (ntr e4.next e24.next))) e80 Inn.nil).extR e110) e116 (hb111.fresh (ntr (ntr (ntr (ntr e4.next e24.next) e54.next) e60.next) e80.next))) e139 Inn.nil).extR e152) e158 (hb153.fresh (ntr (ntr (ntr (ntr (ntr (ntr (ntr e4.next e24.next) e54.next) e60.next) e80.next) e110.next) e116.next) e139.next))) e172 Inn.nil).extR e185) e191 (hb186.fresh (ntr (ntr (ntr (ntr (ntr (ntr (ntr (ntr (ntr (ntr e4.next e24.next) e54.next) e60.next) e80.next) e110.next) e116.next) e139.next) e152.next) e158.next) e172.next))) e204 Inn.nil) e217 (hb186.fresh (ntr (ntr (ntr (ntr (ntr (ntr (ntr (ntr (ntr (ntr e4.next e24.next) e54.next) e60.next) e80.next) e110.next) e116.next) e139.next) e152.next) e158.next) e172.next))) e233 Inn.nil).extR e246) e252 (hb247.fresh (ntr (ntr (ntr (ntr (ntr (ntr (ntr (ntr (ntr (ntr (ntr (ntr (ntr (ntr (ntr e4.next e24.next) e54.next) e60.next) e80.next) e110.next) e116.next) e139.next) e152.next) e158.next) e172.next) e185.next) e191.next) e204.next) e217.next) e233.next))) e268 Inn.nil).extR e281) e287 (hb282.fresh (ntr (ntr (ntr (ntr (ntr (ntr (ntr (ntr (ntr (ntr (ntr (ntr (ntr (ntr (ntr (ntr (ntr (ntr e4.next e24.next) e54.next) e60.next) e80.next) e110.next) e116.next) e139.next) e152.next) e158.next) e172.next) e185.next) e191.next) e204.next) e217.next) e233.next) e246.next) e252.next) e268.next))) e331 Inn.nil) e349 Inn.nil) e365 Inn.nil) e377 Inn.nil)⟩
          ·have r378 := ite_f h366 r363
           rw [nb h366]
           refine s_qk (.bool false) (by kernel_rfl) ?_
           refine s_qk (.bool false) (by kernel_rfl) ?_
           refine s_no (by kernel_rfl) ?_
           refine s_no (by kernel_rfl) ?_
           refine s_no (by kernel_rfl) ?_
           refine s_qk (.bool false) (by kernel_rfl) ?_
           refine s_qk (.bool false) (by kernel_rfl) ?_
           refine s_nil ?_
           refine k290 _ _ ?_
           refine w_ret ?_
           refine b_ret (fn := Try.f7) (vs := [.bool false]) (aRes_tmp (by kernel_rfl) (rfl)) ?_
           obtain rfl := Option.some.inj r378
           exact ⟨rfl, (FrS.step wf (FrS.step wf (FrS.step wf (FrS.step wf ((FrS.step wf (FrS.step wf ((FrS.step wf (FrS.step wf (FrS.step wf (FrS.step wf ((FrS.step wf (FrS.step wf ((FrS.step wf (FrS.step wf ((FrS.step wf (FrS.step wf ((FrS.step wf ((FrS.refl (W := []) wf).extR e4) e24 Inn.nil).extR e54) e60 (hb55.fresh (ntr e4.next e24.next))) e80 Inn.nil).extR e110) e116 (hb111.fresh (ntr (ntr (ntr (ntr e4.next e24.next) e54.next) e60.next) e80.next))) e139 Inn.nil).extR e152) e158 (hb153.fresh (ntr (ntr (ntr (ntr (ntr (ntr (ntr e4.next e24.next) e54.next) e60.next) e80.next) e110.next) e116.next) e139.next))) e172 Inn.nil).extR e185) e191 (hb186.fresh (ntr (ntr (ntr (ntr (ntr (ntr (ntr (ntr (ntr (ntr e4.next e24.next) e54.next) e60.next) e80.next) e110.next) e116.next) e139.next) e152.next) e158.next) e172.next))) e204 Inn.nil) e217 (hb186.fresh (ntr (ntr (ntr (ntr (ntr (ntr (ntr (ntr (ntr (ntr e4.next e24.next) e54.next) e60.next) e80.next) e110.next) e116.next) e139.next) e152.next) e158.next) e172.next))) e233 Inn.nil).extR e246) e252 (hb247.fresh (ntr (ntr (ntr (ntr (ntr (ntr (ntr (ntr (ntr (ntr (ntr (ntr (ntr (ntr (ntr e4.next e24.next) e54.next) e60.next) e80.next) e110.next) e116.next) e139.next) e152.next) e158.next) e172.next) e185.next) e191.next) e204.next) e217.next) e233.next))) e268 Inn.nil).extR e281) e287 (hb282.fresh (ntr (ntr (ntr (ntr (ntr (ntr (ntr (ntr (ntr (ntr (ntr (ntr (ntr (ntr (ntr (ntr (ntr (ntr e4.next e24.next) e54.next) e60.next) e80.next) e110.next) e116.next) e139.next) e152.next) e158.next) e172.next) e185.next) e191.next) e204.next) e217.next) e233.next) e246.next) e252.next) e268.next))) e331 Inn.nil) e349 Inn.nil) e365 Inn.nil)⟩
         ·have r380 := ite_f h353 r345
          refine s_ql (.bool false) (x := aBin Try.prog .eql 27 (.tmp 98) (.const .nilIface) (.iface t354 x355) .nilIface) (by kernel_rfl) (aBin_nil (by kernel_rfl)) ?_
          refine s_qk (.bool false) (by kernel_rfl) ?_
          refine s_qk (.bool false) (by kernel_rfl) ?_
          refine s_no (by kernel_rfl) ?_
          refine s_no (by kernel_rfl) ?_
          refine s_no (by kernel_rfl) ?_
          refine s_qk (.bool false) (by kernel_rfl) ?_
          refine s_qk (.bool false) (by kernel_rfl) ?_
          refine s_no (by kernel_rfl) ?_
          refine s_no (by kernel_rfl) ?_
          refine s_no (by kernel_rfl) ?_
          refine s_qk (.bool false) (by kernel_rfl) ?_
          refine s_qk (.bool false) (by kernel_rfl) ?_
          refine s_nil ?_
          refine k290 _ _ ?_
          refine w_ret ?_
          refine b_ret (fn := Try.f7) (vs := [.bool false]) (aRes_tmp (by kernel_rfl) (rfl)) ?_
          obtain rfl := Option.some.inj r380
          exact ⟨rfl, (FrS.step wf (FrS.step wf (FrS.step wf ((FrS.step wf (FrS.step wf ((FrS.step wf (FrS.step wf (FrS.step wf (FrS.step wf ((FrS.step wf (FrS.step wf ((FrS.step wf (FrS.step wf ((FrS.step wf (FrS.step wf ((FrS.step wf ((FrS.refl (W := []) wf).extR e4) e24 Inn.nil).extR e54) e60 (hb55.fresh (ntr e4.next e24.next))) e80 Inn.nil).extR e110) e116 (hb111.fresh (ntr (ntr (ntr (ntr e4.next e24.next) e54.next) e60.next) e80.next))) e139 Inn.nil).extR e152) e158 (hb153.fresh (ntr (ntr (ntr (ntr (ntr (ntr (ntr e4.next e24.next) e54.next) e60.next) e80.next) e110.next) e116.next) e139.next))) e172 Inn.nil).extR e185) e191 (hb186.fresh (ntr (ntr (ntr (ntr (ntr (ntr (ntr (ntr (ntr (ntr e4.next e24.next) e54.next) e60.next) e80.next) e110.next) e116.next) e139.next) e152.next) e158.next) e172.next))) e204 Inn.nil) e217 (hb186.fresh (ntr (ntr (ntr (ntr (ntr (ntr (ntr (ntr (ntr (ntr e4.next e24.next) e54.next) e60.next) e80.next) e110.next) e116.next) e139.next) e152.next) e158.next) e172.next))) e233 Inn.nil).extR e246) e252 (hb247.fresh (ntr (ntr (ntr (ntr (ntr (ntr (ntr (ntr (ntr (ntr (ntr (ntr (ntr (ntr (ntr e4.next e24.next) e54.next) e60.next) e80.next) e110.next) e116.next) e139.next) e152.next) e158.next) e172.next) e185.next) e191.next) e204.next) e217.next) e233.next))) e268 Inn.nil).extR e281) e287 (hb282.fresh (ntr (ntr (ntr (ntr (ntr (ntr (ntr (ntr (ntr (ntr (ntr (ntr (ntr (ntr (ntr (ntr (ntr (ntr e4.next e24.next) e54.next) e60.next) e80.next) e110.next) e116.next) e139.next) e152.next) e158.next) e172.next) e185.next) e191.next) e204.next) e217.next) e233.next) e246.next) e252.next) e268.next))) e331 Inn.nil) e349 Inn.nil)⟩
        ·have r381 := ite_f h335 r327
         refine s_ql (.bool false) (x := aBin Try.prog .eql 27 (.tmp 93) (.const .nilIface) (.iface t336 x337) .nilIface) (by kernel_rfl) (aBin_nil (by kernel_rfl)) ?_
         refine s_qk (.bool false) (by kernel_rfl) ?_
         refine s_qk (.bool false) (by kernel_rfl) ?_
         refine s_no (by kernel_rfl) ?_
         refine s_no (by kernel_rfl) ?_
         refine s_no (by kernel_rfl) ?_
         refine s_qk (.bool false) (by kernel_rfl) ?_
         refine s_qk (.bool false) (by kernel_rfl) ?_
         refine s_no (by kernel_rfl) ?_
         refine s_no (by kernel_rfl) ?_
         refine s_no (by kernel_rfl) ?_
         refine s_qk (.bool false) (by kernel_rfl) ?_
         refine s_qk (.bool false) (by kernel_rfl) ?_
         refine s_no (by kernel_rfl) ?_
         refine s_no (by kernel_rfl) ?_
         refine s_no (by kernel_rfl) ?_
         refine s_qk (.bool false) (by kernel_rfl) ?_
         refine s_qk (.bool false) (by kernel_rfl) ?_
         refine s_nil ?_
         refine k290 _ _ ?_
         refine w_ret ?_
         refine b_ret (fn := Try.f7) (vs := [.bool false]) (aRes_tmp (by kernel_rfl) (rfl)) ?_
         obtain rfl := Option.some.inj r381
         exact ⟨rfl, (FrS.step wf (FrS.step wf ((FrS.step wf (FrS.step wf ((FrS.step wf (FrS.step wf (FrS.step wf (FrS.step wf ((FrS.step wf (FrS.step wf ((FrS.step wf (FrS.step wf ((FrS.step wf (FrS.step wf ((FrS.step wf ((FrS.refl (W := []) wf).extR e4) e24 Inn.nil).extR e54) e60 (hb55.fresh (ntr e4.next e24.next))) e80 Inn.nil).extR e110) e116 (hb111.fresh (ntr (ntr (ntr (ntr e4.next e24.next) e54.next) e60.next) e80.next))) e139 Inn.nil).extR e152) e158 (hb153.fresh (ntr (ntr (ntr (ntr (ntr (ntr (ntr e4.next e24.next) e54.next) e60.next) e80.next) e110.next) e116.next) e139.next))) e172 Inn.nil).extR e185) e191 (hb186.fresh (ntr (ntr (ntr (ntr (ntr (ntr (ntr (ntr (ntr (ntr e4.next e24.next) e54.next) e60.next) e80.next) e110.next) e116.next) e139.next) e152.next) e158.next) e172.next))) e204 Inn.nil) e217 (hb186.fresh (ntr (ntr (ntr (ntr (ntr (ntr (ntr (ntr (ntr (ntr e4.next e24.next) e54.next) e60.next) e80.next) e110.next) e116.next) e139.next) e152.next) e158.next) e172.next))) e233 Inn.nil).extR e246) e252 (hb247.fresh (ntr (ntr (ntr (ntr (ntr (ntr (ntr (ntr (ntr (ntr (ntr (ntr (ntr (ntr (ntr e4.next e24.next) e54.next) e60.next) e80.next) e110.next) e116.next) e139.next) e152.next) e158.next) e172.next) e185.next) e191.next) e204.next) e217.next) e233.next))) e268 Inn.nil).extR e281) e287 (hb282.fresh (ntr (ntr (ntr (ntr (ntr (ntr (ntr (ntr (ntr (ntr (ntr (ntr (ntr (ntr (ntr (ntr (ntr (ntr e4.next e24.next) e54.next) e60.next) e80.next) e110.next) e116.next) e139.next) e152.next) e158.next) e172.next) e185.next) e191.next) e204.next) e217.next) e233.next) e246.next) e252.next) e268.next))) e331 Inn.nil)⟩
       ·have r382 := ite_f h316 r315
        refine s_ql (.bool false) (x := aBin Try.prog .eql 27 (.tmp 88) (.const .nilIface) (.iface t317 x318) .nilIface) (by kernel_rfl) (aBin_nil (by kernel_rfl)) ?_
        refine s_qk (.bool false) (by kernel_rfl) ?_
        refine s_qk (.bool false) (by kernel_rfl) ?_
        refine s_no (by kernel_rfl) ?_
        refine s_no (by kernel_rfl) ?_
        refine s_no (by kernel_rfl) ?_
        refine s_qk (.bool false) (by kernel_rfl) ?_
        refine s_qk (.bool false) (by kernel_rfl) ?_
        refine s_no (by kernel_rfl) ?_
        refine s_no (by kernel_rfl) ?_
        refine s_no (by kernel_rfl) ?_
        refine s_qk (.bool false) (by kernel_rfl) ?_
        refine s_qk (.bool false) (by kernel_rfl) ?_
        refine s_no (by kernel_rfl) ?_
        refine s_no (by kernel_rfl) ?_
        refine s_no (by kernel_rfl) ?_
        refine s_qk (.bool false) (by kernel_rfl) ?_
        refine s_qk (.bool false) (by kernel_rfl) ?_
        refine s_no (by kernel_rfl) ?_
        refine s_no (by kernel_rfl) ?_
        refine s_no (by kernel_rfl) ?_
        refine s_qk (.bool false) (by kernel_rfl) ?_
        refine s_qk (.bool false) (by kernel_rfl) ?_
        refine s_nil ?_
        refine k290 _ _ ?_
        refine w_ret ?_
        refine b_ret (fn := Try.f7) (vs := [.bool false]) (aRes_tmp (by kernel_rfl) (rfl)) ?_
        obtain rfl := Option.some.inj r382
        exact ⟨rfl, (FrS.step wf ((FrS.step wf (FrS.step wf ((FrS.step wf (FrS.step wf (FrS.step wf (FrS.step wf ((FrS.step wf (FrS.step wf ((FrS.step wf (FrS.step wf ((FrS.step wf (FrS.step wf ((FrS.step wf ((FrS.refl (W := []) wf).extR e4) e24 Inn.nil).extR e54) e60 (hb55.fresh (ntr e4.next e24.next))) e80 Inn.nil).extR e110) e116 (hb111.fresh (ntr (ntr (ntr (ntr e4.next e24.next) e54.next) e60.next) e80.next))) e139 Inn.nil).extR e152) e158 (hb153.fresh (ntr (ntr (ntr (ntr (ntr (ntr (ntr e4.next e24.next) e54.next) e60.next) e80.next) e110.next) e116.next) e139.next))) e172 Inn.nil).extR e185) e191 (hb186.fresh (ntr (ntr (ntr (ntr (ntr (ntr (ntr (ntr (ntr (ntr e4.next e24.next) e54.next) e60.next) e80.next) e110.next) e116.next) e139.next) e152.next) e158.next) e172.next))) e204 Inn.nil) e217 (hb186.fresh (ntr (ntr (ntr (ntr (ntr (ntr (ntr (ntr (ntr (ntr e4.next e24.next) e54.next) e60.next) e80.next) e110.next) e116.next) e139.next) e152.next) e158.next) e172.next))) e233 Inn.nil).extR e246) e252 (hb247.fresh (ntr (ntr (ntr (ntr (ntr (ntr (ntr (ntr (ntr (ntr (ntr (ntr (ntr (ntr (ntr e4.next e24.next) e54.next) e60.next) e80.next) e110.next) e116.next) e139.next) e152.next) e158.next) e172.next) e185.next) e191.next) e204.next) e217.next) e233.next))) e268 Inn.nil).extR e281) e287 (hb282.fresh (ntr (ntr (ntr (ntr (ntr (ntr (ntr (ntr (ntr (ntr (ntr (ntr (ntr (ntr (ntr (ntr (ntr (ntr e4.next e24.next) e54.next) e60.next) e80.next) e110.next) e116.next) e139.next) e152.next) e158.next) e172.next) e185.next) e191.next) e204.next) e217.next) e233.next) e246.next) e252.next) e268.next)))⟩
      ·have r383 := ite_f h311 r310
       refine s_ql (.bool false) (x := aBin Try.prog .eql 27 (.tmp 84) (.const .nilIface) (.iface t312 x313) .nilIface) (by kernel_rfl) (aBin_nil (by kernel_rfl)) ?_
       refine s_qk (.bool false) (by kernel_rfl) ?_
       refine s_qk (.bool false) (by kernel_rfl) ?_
       refine s_no (by kernel_rfl) ?_
       refine s_no (by kernel_rfl) ?_
       refine s_qk (.bool false) (by kernel_rfl) ?_
       refine s_qk (.bool false) (by kernel_rfl) ?_
       refine s_no (by kernel_rfl) ?_
       refine s_no (by kernel_rfl) ?_
       refine s_no (by kernel_rfl) ?_
       refine s_qk (.bool false) (by kernel_rfl) ?_
       refine s_qk (.bool false) (by kernel_rfl) ?_
       refine s_no (by kernel_rfl) ?_
       refine s_no (by kernel_rfl) ?_
       refine s_no (by kernel_rfl) ?_
       refine s_qk (.bool false) (by kernel_rfl) ?_
       refine s_qk (.bool false) (by kernel_rfl) ?_
       refine s_no (by kernel_rfl) ?_
       refine s_no (by kernel_rfl) ?_
       refine s_no (by kernel_rfl) ?_
       refine s_qk (.bool false) (by kernel_rfl) ?_
       refine s_qk (.bool false) (by kernel_rfl) ?_
       refine s_no (by kernel_rfl) ?_
       refine s_no (by kernel_rfl) ?_
       refine s_no (by kernel_rfl) ?_
       refine s_qk (.bool false) (by kernel_rfl) ?_
       refine s_qk (.bool false) (by kernel_rfl) ?_
       refine s_nil ?_
       refine k290 _ _ ?_
       refine w_ret ?_
       refine b_ret (fn := Try.f7) (vs := [.bool false]) (aRes_tmp (by kernel_rfl) (rfl)) ?_
       obtain rfl := Option.some.inj r383
       exact ⟨rfl, (FrS.step wf ((FrS.step wf (FrS.step wf ((FrS.step wf (FrS.step wf (FrS.step wf (FrS.step wf ((FrS.step wf (FrS.step wf ((FrS.step wf (FrS.step wf ((FrS.step wf (FrS.step wf ((FrS.step wf ((FrS.refl (W := []) wf).extR e4) e24 Inn.nil).extR e54) e60 (hb55.fresh (ntr e4.next e24.next))) e80 Inn.nil).extR e110) e116 (hb111.fresh (ntr (ntr (ntr (ntr e4.next e24.next) e54.next) e60.next) e80.next))) e139 Inn.nil).extR e152) e158 (hb153.fresh (ntr (ntr (ntr (ntr (ntr (ntr (ntr e4.next e24.next) e54.next) e60.next) e80.next) e110.next) e116.next) e139.next))) e172 Inn.nil).extR e185) e191 (hb186.fresh (ntr (ntr (ntr (ntr (ntr (ntr (ntr (ntr (ntr (ntr e4.next e24.next) e54.next) e60.next) e80.next) e110.next) e116.next) e139.next) e152.next) e158.next) e172.next))) e204 Inn.nil) e217 (hb186.fresh (ntr (ntr (ntr (ntr (ntr (ntr (ntr (ntr (ntr (ntr e4.next e24.next) e54.next) e60.next) e80.next) e110.next) e116.next) e139.next) e152.next) e158.next) e172.next))) e233 Inn.nil).extR e246) e252 (hb247.fresh (ntr (ntr (ntr (ntr (ntr (ntr (ntr (ntr (ntr (ntr (ntr (ntr (ntr (ntr (ntr e4.next e24.next) e54.next) e60.next) e80.next) e110.next) e116.next) e139.next) e152.next) e158.next) e172.next) e185.next) e191.next) e204.next) e217.next) e233.next))) e268 Inn.nil).extR e281) e287 (hb282.fresh (ntr (ntr (ntr (ntr (ntr (ntr (ntr (ntr (ntr (ntr (ntr (ntr (ntr (ntr (ntr (ntr (ntr (ntr e4.next e24.next) e54.next) e60.next) e80.next) e110.next) e116.next) e139.next) e152.next) e158.next) e172.next) e185.next) e191.next) e204.next) e217.next) e233.next) e246.next) e252.next) e268.next)))⟩
     ·have r384 := ite_f h306 r305
      refine s_ql (.bool false) (x := aBin Try.prog .eql 27 (.tmp 80) (.const .nilIface) (.iface t307 x308) .nilIface) (by kernel_rfl) (aBin_nil (by kernel_rfl)) ?_
      refine s_qk (.bool false) (by kernel_rfl) ?_
      refine s_qk (.bool false) (by kernel_rfl) ?_
      refine s_no (by kernel_rfl) ?_
      refine s_no (by kernel_rfl) ?_
      refine s_qk (.bool false) (by kernel_rfl) ?_
      refine s_qk (.bool false) (by kernel_rfl) ?_
      refine s_no (by kernel_rfl) ?_
      refine s_no (by kernel_rfl) ?_
      refine s_qk (.bool false) (by kernel_rfl) ?_
      refine s_qk (.bool false) (by kernel_rfl) ?_
      refine s_no (by kernel_rfl) ?_
      refine s_no (by kernel_rfl) ?_
      refine s_no (by kernel_rfl) ?_
      refine s_qk (.bool false) (by kernel_rfl) ?_
      refine s_qk (.bool false) (by kernel_rfl) ?_
      refine s_no (by kernel_rfl) ?_
      refine s_no (by kernel_rfl) ?_
      refine s_no (by kernel_rfl) ?_
      refine s_qk (.bool false) (by kernel_rfl) ?_
      refine s_qk (.bool false) (by kernel_rfl) ?_
      refine s_no (by kernel_rfl) ?_
      refine s_no (by kernel_rfl) ?_
      refine s_no (by kernel_rfl) ?_
      refine s_qk (.bool false) (by kernel_rfl) ?_
      refine s_qk (.bool false) (by kernel_rfl) ?_
      refine s_no (by kernel_rfl) ?_
      refine s_no (by kernel_rfl) ?_
      refine s_no (by kernel_rfl) ?_
      refine s_qk (.bool false) (by kernel_rfl) ?_
      refine s_qk (.bool false) (by kernel_rfl) ?_
      refine s_nil ?_
      refine k290 _ _ ?_
      refine w_ret ?_
      refine b_ret (fn := Try.f7) (vs := [.bool false]) (aRes_tmp (by kernel_rfl) (rfl)) ?_
      obtain rfl := Option.some.inj r384
      exact ⟨rfl, (FrS.step wf ((FrS.step wf (FrS.step wf ((FrS.step wf (FrS.step wf (FrS.step wf (FrS.step wf ((FrS.step wf (FrS.step wf ((FrS.step wf (FrS.step wf ((FrS.step wf (FrS.step wf ((FrS.step wf ((FrS.refl (W := []) wf).extR e4) e24 Inn.nil).extR e54) e60 (hb55.fresh (ntr e4.next e24.next))) e80 Inn.nil).extR e110) e116 (hb111.fresh (ntr (ntr (ntr (ntr e4.next e24.next) e54.next) e60.next) e80.next))) e139 Inn.nil).extR e152) e158 (hb153.fresh (ntr (ntr (ntr (ntr (ntr (ntr (ntr e4.next e24.next) e54.next) e60.next) e80.next) e110.next) e116.next) e139.next))) e172 Inn.nil).extR e185) e191 (hb186.fresh (ntr (ntr (ntr (ntr (ntr (ntr (ntr (ntr (ntr (ntr e4.next e24.next) e54.next) e60.next) e80.next) e110.next) e116.next) e139.next) e152.next) e158.next) e172.next))) e204 Inn.nil) e217 (hb186.fresh (ntr (ntr (ntr (ntr (ntr (ntr (ntr (ntr (ntr (ntr e4.next e24.next) e54.next) e60.next) e80.next) e110.next) e116.next) e139.next) e152.next) e158.next) e172.next))) e233 Inn.nil).extR e246) e252 (hb247.fresh (ntr (ntr (ntr (ntr (ntr (ntr (ntr (ntr (ntr (ntr (ntr (ntr (ntr (ntr (ntr e4.next e24.next) e54.next) e60.next) e80.next) e110.next) e116.next) e139.next) e152.next) e158.next) e172.next) e185.next) e191.next) e204.next) e217.next) e233.next))) e268 Inn.nil).extR e281) e287 (hb282.fresh (ntr (ntr (ntr (ntr (ntr (ntr (ntr (ntr (ntr (ntr (ntr (ntr (ntr (ntr (ntr (ntr (ntr (ntr e4.next e24.next) e54.next) e60.next) e80.next) e110.next) e116.next) e139.next) e152.next) e158.next) e172.next) e185.next) e191.next) e204.next) e217.next) e233.next) e246.next) e252.next) e268.next)))⟩
    ·have r385 := ite_f h301 r300
     refine s_ql (.bool false) (x := aBin Try.prog .eql 27 (.tmp 76) (.const .nilIface) (.iface t302 x303) .nilIface) (by kernel_rfl) (aBin_nil (by kernel_rfl)) ?_
     refine s_qk (.bool false) (by kernel_rfl) ?_
     refine s_qk (.bool false) (by kernel_rfl) ?_
     refine s_no (by kernel_rfl) ?_
     refine s_no (by kernel_rfl) ?_
     refine s_qk (.bool false) (by kernel_rfl) ?_
     refine s_qk (.bool false) (by kernel_rfl) ?_
     refine s_no (by kernel_rfl) ?_
     refine s_no (by kernel_rfl) ?_
     refine s_qk (.bool false) (by kernel_rfl) ?_
     refine s_qk (.bool false) (by kernel_rfl) ?_
     refine s_no (by kernel_rfl) ?_
     refine s_no (by kernel_rfl) ?_
     refine s_qk (.bool false) (by kernel_rfl) ?_
     refine s_qk (.bool false) (by kernel_rfl) ?_
     refine s_no (by kernel_rfl) ?_
     refine s_no (by kernel_rfl) ?_
     refine s_no (by kernel_rfl) ?_
     refine s_qk (.bool false) (by kernel_rfl) ?_
     refine s_qk (.bool false) (by kernel_rfl) ?_
     refine s_no (by kernel_rfl) ?_
     refine s_no (by kernel_rfl) ?_
     refine s_no (by kernel_rfl) ?_
     refine s_qk (.bool false) (by kernel_rfl) ?_
     refine s_qk (.bool false) (by kernel_rfl) ?_
     refine s_no (by kernel_rfl) ?_
     refine s_no (by kernel_rfl) ?_
     refine s_no (by kernel_rfl) ?_
     refine s_qk (.bool false) (by kernel_rfl) ?_
     refine s_qk (.bool false) (by kernel_rfl) ?_
     refine s_no (by kernel_rfl) ?_
     refine s_no (by kernel_rfl) ?_
     refine s_no (by kernel_rfl) ?_
     refine s_qk (.bool false) (by kernel_rfl) ?_
     refine s_qk (.bool false) (by kernel_rfl) ?_
     refine s_nil ?_
     refine k290 _ _ ?_
     refine w_ret ?_
     refine b_ret (fn := Try.f7) (vs := [.bool false]) (aRes_tmp (by kernel_rfl) (rfl)) ?_
     obtain rfl := Option.some.inj r385
     exact ⟨rfl, (FrS.step wf ((FrS.step wf (FrS.step wf ((FrS.step wf (FrS.step wf (FrS.step wf (FrS.step wf ((FrS.step wf (FrS.step wf ((FrS.step wf (FrS.step wf ((FrS.step wf (FrS.step wf ((FrS.step wf ((FrS.refl (W := []) wf).extR e4) e24 Inn.nil).extR e54) e60 (hb55.fresh (ntr e4.next e24.next))) e80 Inn.nil).extR e110) e116 (hb111.fresh (ntr (ntr (ntr (ntr e4.next e24.next) e54.next) e60.next) e80.next))) e139 Inn.nil).extR e152) e158 (hb153.fresh (ntr (ntr (ntr (ntr (ntr (ntr (ntr e4.next e24.next) e54.next) e60.next) e80.next) e110.next) e116.next) e139.next))) e172 Inn.nil).extR e185) e191 (hb186.fresh (ntr (ntr (ntr (ntr (ntr (ntr (ntr (ntr (ntr (ntr e4.next e24.next) e54.next) e60.next) e80.next) e110.next) e116.next) e139.next) e152.next) e158.next) e172.next))) e204 Inn.nil) e217 (hb186.fresh (ntr (ntr (ntr (ntr (ntr (ntr (ntr (ntr (ntr (ntr e4.next e24.next) e54.next) e60.next) e80.next) e110.next) e116.next) e139.next) e152.next) e158.next) e172.next))) e233 Inn.nil).extR e246) e252 (hb247.fresh (ntr (ntr (ntr (ntr (ntr (ntr (ntr (ntr (ntr (ntr (ntr (ntr (ntr (ntr (ntr e4.next e24.next) e54.next) e60.next) e80.next) e110.next) e116.next) e139.next) e152.next) e158.next) e172.next) e185.next) e191.next) e204.next) e217.next) e233.next))) e268 Inn.nil).extR e281) e287 (hb282.fresh (ntr (ntr (ntr (ntr (ntr (ntr (ntr (ntr (ntr (ntr (ntr (ntr (ntr (ntr (ntr (ntr (ntr (ntr e4.next e24.next) e54.next) e60.next) e80.next) e110.next) e116.next) e139.next) e152.next) e158.next) e172.next) e185.next) e191.next) e204.next) e217.next) e233.next) e246.next) e252.next) e268.next)))⟩
   ·have r386 := ite_f h296 r295
    refine s_ql (.bool false) (x := aBin Try.prog .eql 27 (.tmp 72) (.const .nilIface) (.iface t297 x298) .nilIface) (by kernel_rfl) (aBin_nil (by kernel_rfl)) ?_
    refine s_qk (.bool false) (by kernel_rfl) ?_
    refine s_qk (.bool false) (by kernel_rfl) ?_
    refine s_no (by kernel_rfl) ?_
    refine s_no (by kernel_rfl) ?_
    refine s_qk (.bool false) (by kernel_rfl) ?_
    refine s_qk (.bool false) (by kernel_rfl) ?_
    refine s_no (by kernel_rfl) ?_
    refine s_no (by kernel_rfl) ?_
    refine s_qk (.bool false) (by kernel_rfl) ?_
    refine s_qk (.bool false) (by kernel_rfl) ?_
    refine s_no (by kernel_rfl) ?_
    refine s_no (by kernel_rfl) ?_
    refine s_qk (.bool false) (by kernel_rfl) ?_
    refine s_qk (.bool false) (by kernel_rfl) ?_
    refine s_no (by kernel_rfl) ?_
    refine s_no (by kernel_rfl) ?_
    refine s_qk (.bool false) (by kernel_rfl) ?_
    refine s_qk (.bool false) (by kernel_rfl) ?_
    refine s_no (by kernel_rfl) ?_
    refine s_no (by kernel_rfl) ?_
    refine s_no (by kernel_rfl) ?_
    refine s_qk (.bool false) (by kernel_rfl) ?_
    refine s_qk (.bool false) (by kernel_rfl) ?_
    refine s_no (by kernel_rfl) ?_
    refine s_no (by kernel_rfl) ?_
    refine s_no (by kernel_rfl) ?_
    refine s_qk (.bool false) (by kernel_rfl) ?_
    refine s_qk (.bool false) (by kernel_rfl) ?_
    refine s_no (by kernel_rfl) ?_
    refine s_no (by kernel_rfl) ?_
    refine s_no (by kernel_rfl) ?_
    refine s_qk (.bool false) (by kernel_rfl) ?_
    refine s_qk (.bool false) (by kernel_rfl) ?_
    refine s_no (by kernel_rfl) ?_
    refine s_no (by kernel_rfl) ?_
    refine s_no (by kernel_rfl) ?_
    refine s_qk (.bool false) (by kernel_rfl) ?_
    refine s_qk (.bool false) (by kernel_rfl) ?_
    refine s_nil ?_
    refine k290 _ _ ?_
    refine w_ret ?_
    refine b_ret (fn := Try.f7) (vs := [.bool false]) (aRes_tmp (by kernel_rfl) (rfl)) ?_
    obtain rfl := Option.some.inj r386
    exact ⟨rfl, (FrS.step wf ((FrS.step wf (FrS.step wf ((FrS.step wf (FrS.step wf (FrS.step wf (FrS.step wf ((FrS.step wf (FrS.step wf ((FrS.step wf (FrS.step wf ((FrS.step wf (FrS.step wf ((FrS.step wf ((FrS.refl (W := []) wf).extR e4) e24 Inn.nil).extR e54) e60 (hb55.fresh (ntr e4.next e24.next))) e80 Inn.nil).extR e110) e116 (hb111.fresh (ntr (ntr (ntr (ntr e4.next e24.next) e54.next) e60.next) e80.next))) e139 Inn.nil).extR e152) e158 (hb153.fresh (ntr (ntr (ntr (ntr (ntr (ntr (ntr e4.next e24.next) e54.next) e60.next) e80.next) e110.next) e116.next) e139.next))) e172 Inn.nil).extR e185) e191 (hb186.fresh (ntr (ntr (ntr (ntr (ntr (ntr (ntr (ntr (ntr (ntr e4.next e24.next) e54.next) e60.next) e80.next) e110.next) e116.next) e139.next) e152.next) e158.next) e172.next))) e204 Inn.nil) e217 (hb186.fresh (ntr (ntr (ntr (ntr (ntr (ntr (ntr (ntr (ntr (ntr e4.next e24.next) e54.next) e60.next) e80.next) e110.next) e116.next) e139.next) e152.next) e158.next) e172.next))) e233 Inn.nil).extR e246) e252 (hb247.fresh (ntr (ntr (ntr (ntr (ntr (ntr (ntr (ntr (ntr (ntr (ntr (ntr (ntr (ntr (ntr e4.next e24.next) e54.next) e60.next) e80.next) e110.next) e116.next) e139.next) e152.next) e158.next) e172.next) e185.next) e191.next) e204.next) e217.next) e233.next))) e268 Inn.nil).extR e281) e287 (hb282.fresh (ntr (ntr (ntr (ntr (ntr (ntr (ntr (ntr (ntr (ntr (ntr (ntr (ntr (ntr (ntr (ntr (ntr (ntr e4.next e24.next) e54.next) e60.next) e80.next) e110.next) e116.next) e139.next) e152.next) e158.next) e172.next) e185.next) e191.next) e204.next) e217.next) e233.next) e246.next) e252.next) e268.next)))⟩
  ·have r387 := ite_f h291 r262
   refine s_ql (.bool false) (x := aBin Try.prog .eql 27 (.tmp 69) (.const .nilIface) (.iface t292 x293) .nilIface) (by kernel_rfl) (aBin_nil (by kernel_rfl)) ?_
   refine s_qk (.bool false) (by kernel_rfl) ?_
   refine s_no (by kernel_rfl) ?_
   refine s_no (by kernel_rfl) ?_
   refine s_qk (.bool false) (by kernel_rfl) ?_
   refine s_qk (.bool false) (by kernel_rfl) ?_
   refine s_no (by kernel_rfl) ?_
   refine s_no (by kernel_rfl) ?_
   refine s_qk (.bool false) (by kernel_rfl) ?_
   refine s_qk (.bool false) (by kernel_rfl) ?_
   refine s_no (by kernel_rfl) ?_
   refine s_no (by kernel_rfl) ?_
   refine s_qk (.bool false) (by kernel_rfl) ?_
   refine s_qk (.bool false) (by kernel_rfl) ?_
   refine s_no (by kernel_rfl) ?_
   refine s_no (by kernel_rfl) ?_
   refine s_qk (.bool false) (by kernel_rfl) ?_
   refine s_qk (.bool false) (by kernel_rfl) ?_
   refine s_no (by kernel_rfl) ?_
   refine s_no (by kernel_rfl) ?_
   refine s_qk (.bool false) (by kernel_rfl) ?_
   refine s_qk (.bool false) (by kernel_rfl) ?_
   refine s_no (by kernel_rfl) ?_
   refine s_no (by kernel_rfl) ?_
   refine s_no (by kernel_rfl) ?_
   refine s_qk (.bool false) (by kernel_rfl) ?_
   refine s_qk (.bool false) (by kernel_rfl) ?_
   refine s_no (by kernel_rfl) ?_
   refine s_no (by kernel_rfl) ?_
   refine s_no (by kernel_rfl) ?_
   refine s_qk (.bool false) (by kernel_rfl) ?_
   refine s_qk (.bool false) (by kernel_rfl) ?_
   refine s_no (by kernel_rfl) ?_
   refine s_no (by kernel_rfl) ?_
   refine s_no (by kernel_rfl) ?_
   refine s_qk (.bool false) (by kernel_rfl) ?_
   refine s_qk (.bool false) (by kernel_rfl) ?_
   refine s_no (by kernel_rfl) ?_
   refine s_no (by kernel_rfl) ?_
   refine s_no (by kernel_rfl) ?_
   refine s_qk (.bool false) (by kernel_rfl) ?_
   refine s_qk (.bool false) (by kernel_rfl) ?_
   refine s_nil ?_
   refine k290 _ _ ?_
   refine w_ret ?_
   refine b_ret (fn := Try.f7) (vs := [.bool false]) (aRes_tmp (by kernel_rfl) (rfl)) ?_
   obtain rfl := Option.some.inj r387
   exact ⟨rfl, (FrS.step wf ((FrS.step wf (FrS.step wf ((FrS.step wf (FrS.step wf (FrS.step wf (FrS.step wf ((FrS.step wf (FrS.step wf ((FrS.step wf (FrS.step wf ((FrS.step wf (FrS.step wf ((FrS.step wf ((FrS.refl (W := []) wf).extR e4) e24 Inn.nil).extR e54) e60 (hb55.fresh (ntr e4.next e24.next))) e80 Inn.nil).extR e110) e116 (hb111.fresh (ntr (ntr (ntr (ntr e4.next e24.next) e54.next) e60.next) e80.next))) e139 Inn.nil).extR e152) e158 (hb153.fresh (ntr (ntr (ntr (ntr (ntr (ntr (ntr e4.next e24.next) e54.next) e60.next) e80.next) e110.next) e116.next) e139.next))) e172 Inn.nil).extR e185) e191 (hb186.fresh (ntr (ntr (ntr (ntr (ntr (ntr (ntr (ntr (ntr (ntr e4.next e24.next) e54.next) e60.next) e80.next) e110.next) e116.next) e139.next) e152.next) e158.next) e172.next))) e204 Inn.nil) e217 (hb186.fresh (ntr (ntr (ntr (ntr (ntr (ntr (ntr (ntr (ntr (ntr e4.next e24.next) e54.next) e60.next) e80.next) e110.next) e116.next) e139.next) e152.next) e158.next) e172.next))) e233 Inn.nil).extR e246) e252 (hb247.fresh (ntr (ntr (ntr (ntr (ntr (ntr (ntr (ntr (ntr (ntr (ntr (ntr (ntr (ntr (ntr e4.next e24.next) e54.next) e60.next) e80.next) e110.next) e116.next) e139.next) e152.next) e158.next) e172.next) e185.next) e191.next) e204.next) e217.next) e233.next))) e268 Inn.nil).extR e281) e287 (hb282.fresh (ntr (ntr (ntr (ntr (ntr (ntr (ntr (ntr (ntr (ntr (ntr (ntr (ntr (ntr (ntr (ntr (ntr (ntr e4.next e24.next) e54.next) e60.next) e80.next) e110.next) e116.next) e139.next) e152.next) e158.next) e172.next) e185.next) e191.next) e204.next) e217.next) e233.next) e246.next) e252.next) e268.next)))⟩
 ·have r388 := ite_f h123 r70
  refine s_ql (.bool true) (x := aBin Try.prog .neq 27 (.tmp 28) (.const .nilIface) (.iface t124 x125) .nilIface) (by kernel_rfl) (aBin_nnil (by kernel_rfl)) ?_
  refine s_nil ?_
  refine k122 _ _ ?_
  refine w_cond true (by kernel_rfl) rfl (fun _ => ?_) (fun h => by cases h)
  refine w_seqk fun K389 k389 => ?_
  obtain ⟨o390, hx391, r392⟩ := bind_some r388
  refine w_mid (fun α H393 => Has α [(2, .bool o390)] ∧ H114 = H393) (fun K395 k395 => ?_) (fun α H393 hM => ?_)
  ·refine w_reg (by kernel_rfl) ?_
   refine s_qk (v77) (by kernel_rfl) ?_
   have u400 := ((m84.ext e110).fr e116 (hb111.djn m84.lt))
   rcases (u400).cases with ⟨h397, rfl⟩ | ⟨h397, t398, x399, rfl⟩
   ·have r401 := ite_t h397 hx391
    refine s_qk (.bool false) (by kernel_rfl) ?_
    refine s_qk (.bool false) (by kernel_rfl) ?_
    refine s_no (by kernel_rfl) ?_
    refine s_no (by kernel_rfl) ?_
    refine s_no (by kernel_rfl) ?_
    refine s_no (by kernel_rfl) ?_
    refine s_qk (.bool false) (by kernel_rfl) ?_
    refine s_qk (.bool false) (by kernel_rfl) ?_
    refine s_no (by kernel_rfl) ?_
    refine s_no (by kernel_rfl) ?_
    refine s_no (by kernel_rfl) ?_
    refine s_no (by kernel_rfl) ?_
    refine s_qk (.bool false) (by kernel_rfl) ?_
    refine s_qk (.bool false) (by kernel_rfl) ?_
    refine s_nil ?_
    obtain rfl := Option.some.inj r401
    exact k395 _ _ ⟨⟨by kernel_rfl, trivial⟩, rfl⟩
   ·have r402 := ite_f h397 hx391
    refine s_ql (.bool true) (x := aBin Try.prog .neq 27 (.tmp 30) (.const .nilIface) (.iface t398 x399) .nilIface) (by kernel_rfl) (aBin_nnil (by kernel_rfl)) ?_
    refine s_qk (.bool true) (by kernel_rfl) ?_
    refine s_qk (.pointer (some ⟨b52, 0, none⟩)) (by kernel_rfl) ?_
    have u403 := (((r61.frS e80 Dj.nil_l).ext e110).frS e116 (hb111.djn (r56.ltF.le (ntr e60.next e80.next))))
    refine s_ql (.slice a43 n44 c45) (x := aLoad Try.prog 48 (.pointer (some ⟨b52, 0, none⟩)) H114) (by kernel_rfl) (u403.ld (by kernel_rfl)) ?_
    have u404 := ((((u64.fr e60 (hb55.djn m25.lt)).fr e80 Dj.nil_l).ext e110).fr e116 (hb111.djn (m25.lt.le (ntr (ntr e54.next e60.next) e80.next))))
    refine s_ql (.int .i64 (y12.1.length : Int)) (x := aLen Try.prog 48 (.slice a43 n44 c45) H114) (by kernel_rfl) (u404.sq.lenb (by kernel_rfl)) ?_
    refine s_b ((y12.1.length : Int) = 0) (by kernel_rfl) (fun h405 => ?_) (fun h405 => ?_)
    ·have r406 := ite_t h405 r402
     refine s_qk (.bool true) (by kernel_rfl) ?_
     refine s_qk (.bool true) (by kernel_rfl) ?_
     refine s_qk (.pointer (some ⟨b108, 0, none⟩)) (by kernel_rfl) ?_
     refine s_ql (.slice a99 n100 c101) (x := aLoad Try.prog 48 (.pointer (some ⟨b108, 0, none⟩)) H114) (by kernel_rfl) (r117.ld (by kernel_rfl)) ?_
     have u407 := (u120.fr e116 (hb111.djn m81.lt))
     refine s_ql (.int .i64 (y68.1.length : Int)) (x := aLen Try.prog 48 (.slice a99 n100 c101) H114) (by kernel_rfl) (u407.sq.lenb (by kernel_rfl)) ?_
     refine s_qk (.bool (decide ((y68.1.length : Int) = 0))) (by kernel_rfl) ?_
     refine s_qk (.bool (decide ((y68.1.length : Int) = 0))) (by kernel_rfl) ?_
     refine s_qk (.bool (decide ((y68.1.length : Int) = 0))) (by kernel_rfl) ?_
     refine s_nil ?_
     obtain rfl := Option.some.inj r406
     exact k395 _ _ ⟨⟨by kernel_rfl, trivial⟩, rfl⟩
    ·have r408 := ite_f h405 r402
     refine s_qk (.bool false) (by kernel_rfl) ?_
     refine s_qk (.bool false) (by kernel_rfl) ?_
     refine s_no (by kernel_rfl) ?_
     refine s_no (by kernel_rfl) ?_
     refine s_no (by kernel_rfl) ?_
     refine s_no (by kernel_rfl) ?_
     refine s_qk (.bool false) (by kernel_rfl) ?_
     refine s_qk (.bool false) (by kernel_rfl) ?_
     refine s_nil ?_
     obtain rfl := Option.some.inj r408
     exact k395 _ _ ⟨⟨by kernel_rfl, trivial⟩, rfl⟩
  ·obtain ⟨hh396, rfl⟩ := hM
   obtain ⟨β, rfl⟩ := has_ex hh396
   clear hh396
   refine k389 _ _ ?_
   refine w_ret (th_ret ?_)
   refine b_ret (fn := Try.f7) (vs := [.bool o390]) (aRes_tmp (by kernel_rfl) (rfl)) ?_
   obtain rfl := Option.some.inj r392
   exact ⟨rfl, (FrS.step wf ((FrS.step wf (FrS.step wf ((FrS.step wf ((FrS.refl (W := []) wf).extR e4) e24 Inn.nil).extR e54) e60 (hb55.fresh (ntr e4.next e24.next))) e80 Inn.nil).extR e110) e116 (hb111.fresh (ntr (ntr (ntr (ntr e4.next e24.next) e54.next) e60.next) e80.next)))⟩


end Go.Vd
