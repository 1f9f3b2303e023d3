/- The walks of the functions (printed by a program of ours). -/
import Derived.Test.YtlohhdkkhedejaaPnd1
import Derived.Test.YtlohhdkkhedejaaVeC
import Derived.Test.YtlohhdkkhedejaaINd
import Derived.Test.YtlohhdkkhedejaaVeN
import Derived.Test.YtlohhdkkhedejaaSoA
import Derived.Test.YtlohhdkkhedejaaVeV
set_option linter.unusedVariables false
set_option linter.unusedSimpArgs false
set_option linter.unusedSectionVars false
/-! (KNd4) -/

set_option maxRecDepth 100000
set_option maxHeartbeats 4000000
set_option linter.unusedVariables false
namespace Go.Vd
open Go.Proofs
attribute [local irreducible] wpSeq wpOrd aWp
theorem c_viaductlaw04_NormalDistances {H : AH} {hd_Arcs : Value} {fp_Arcs : Fp} {hd_Arcs_ : Value} {fp_Arcs_ : Fp} {N_ : Int} {Arcs : List (Int × Int × Int)} {N_2 : Int} {Arcs_ : List (Int × Int × Int)} {r : Bool}
  (wf : WF H) (h_Arcs : Sq enc_i64_i64_i64 3 H hd_Arcs Arcs fp_Arcs) (h_Arcs_ : Sq enc_i64_i64_i64 3 H hd_Arcs_ Arcs_ fp_Arcs_) (hr : z_viaductlaw04_NormalDistances N_ Arcs N_2 Arcs_ = some r) :
  ACalls Try.prog 4 #[.agg #[.int .i64 N_, hd_Arcs], .agg #[.int .i64 N_2, hd_Arcs_]] H fun v H' => v = .bool r ∧ FrS [] H H' := by
 refine acalls_of_body mixed Try.func4 rfl (Nat.le_of_ble_eq_true rfl) ?_
 unfold z_viaductlaw04_NormalDistances at hr
 refine w_seqk fun K1 k1 => ?_
 refine w_reg (by kernel_rfl) ?_
 refine s_rwl wf [.int .i64 N_, hd_Arcs] (one_cons (rfl) (one_cons (h_Arcs.one1) (one_nil))) (by kernel_rfl) fun b2 H3 e4 hb5 r6 => ?_
 have u13 := (h_Arcs_.ext e4)
 refine s_rwl e4.wf [.int .i64 N_2, hd_Arcs_] (one_cons (rfl) (one_cons (u13.one1) (one_nil))) (by kernel_rfl) fun b8 H9 e10 hb11 r12 => ?_
 refine s_qk (.bool false) (by kernel_rfl) ?_
 refine s_nil ?_
 refine k1 _ _ ?_
 refine w_seqk fun K15 k15 => ?_
 refine w_seqk fun K16 k16 => ?_
 refine w_reg (by kernel_rfl) ?_
 refine s_ck 20 #[] (by kernel_rfl) c_viaductlaw04_awake ?_
 rintro _ _ ⟨rfl, rfl⟩
 refine s_qk (.bool false) (by kernel_rfl) ?_
 refine s_nil ?_
 refine k16 _ _ ?_
 refine w_cond false (by kernel_rfl) rfl (fun h => by cases h) (fun _ => ?_)
 refine w_skip ?_
 refine k15 _ _ ?_
 refine w_seqk fun K17 k17 => ?_
 refine w_seqk fun K18 k18 => ?_
 obtain ⟨o19, hx20, r21⟩ := bind_some hr
 refine w_mid (fun α H22 => Has α [(2, .pointer (some ⟨b2, 0, none⟩)), (3, .pointer (some ⟨b8, 0, none⟩)), (36, .bool o19)] ∧ FrS [] H9 H22) (fun K24 k24 => ?_) (fun α H22 hM => ?_)
 ·refine w_reg (by kernel_rfl) ?_
  have u26 := (r6.ext e10)
  refine s_ql (.agg #[.int .i64 N_, hd_Arcs]) (x := aLoad Try.prog 24 (.pointer (some ⟨b2, 0, none⟩)) H9) (by kernel_rfl) (u26.ld (by kernel_rfl)) ?_
  have u27 := ((h_Arcs.ext e4).ext e10)
  obtain ⟨y28, hy29, r30⟩ := bind_some hx20
  refine s_ck 21 #[.agg #[.int .i64 N_, hd_Arcs], .int .i64 12] (by kernel_rfl) (c_viaductref04_Few e10.wf u27 hy29) ?_
  rintro _ H31 ⟨rfl, e32⟩
  by_cases h33 : y28 = true
  ·have r34 := ite_t h33 r30
   rw [h33]
   refine s_qk (.bool false) (by kernel_rfl) ?_
   refine s_qk (.bool false) (by kernel_rfl) ?_
   have u36 := (r12.frS e32 Dj.nil_l)
   refine s_ql (.agg #[.int .i64 N_2, hd_Arcs_]) (x := aLoad Try.prog 24 (.pointer (some ⟨b8, 0, none⟩)) H31) (by kernel_rfl) (u36.ld (by kernel_rfl)) ?_
   have u37 := ((u13.ext e10).fr e32 Dj.nil_l)
   obtain ⟨y38, hy39, r40⟩ := bind_some r34
   refine s_ck 21 #[.agg #[.int .i64 N_2, hd_Arcs_], .int .i64 12] (by kernel_rfl) (c_viaductref04_Few e32.wf u37 hy39) ?_
   rintro _ H41 ⟨rfl, e42⟩
   by_cases h43 : y38 = true
   ·have r44 := ite_t h43 r40
    rw [h43]
    refine s_qk (.bool false) (by kernel_rfl) ?_
    refine s_qk (.bool false) (by kernel_rfl) ?_
    refine s_qk (.bool false) (by kernel_rfl) ?_
    have u46 := ((u26.frS e32 Dj.nil_l).frS e42 Dj.nil_l)
    refine s_ql (.agg #[.int .i64 N_, hd_Arcs]) (x := aLoad Try.prog 24 (.pointer (some ⟨b2, 0, none⟩)) H41) (by kernel_rfl) (u46.ld (by kernel_rfl)) ?_
    have u47 := ((u27.fr e32 Dj.nil_l).fr e42 Dj.nil_l)
    obtain ⟨y48, hy49, r50⟩ := bind_some r44
    refine s_ck 22 #[.agg #[.int .i64 N_, hd_Arcs]] (by kernel_rfl) (c_viaductlaw04_great e42.wf u47 hy49) ?_
    rintro _ H51 ⟨rfl, e52⟩
    by_cases h53 : y48 = true
    ·have r54 := ite_t h53 r50
     rw [h53]
     refine s_qk (.bool true) (by kernel_rfl) ?_
     refine s_qk (.bool true) (by kernel_rfl) ?_
     refine s_no (by kernel_rfl) ?_
     refine s_no (by kernel_rfl) ?_
     refine s_qk (.bool true) (by kernel_rfl) ?_
     refine s_nil ?_
     obtain rfl := Option.some.inj r54
     exact k24 _ _ ⟨⟨by kernel_rfl, by kernel_rfl, by kernel_rfl, trivial⟩, (FrS.step e10.wf (FrS.step e10.wf (FrS.step e10.wf (FrS.refl (W := []) e10.wf) e32 Inn.nil) e42 Inn.nil) e52 Inn.nil)⟩
    ·have r56 := ite_f h53 r50
     rw [nb h53]
     refine s_qk (.bool false) (by kernel_rfl) ?_
     refine s_qk (.bool false) (by kernel_rfl) ?_
     have u58 := ((u36.frS e42 Dj.nil_l).frS e52 Dj.nil_l)
     refine s_ql (.agg #[.int .i64 N_2, hd_Arcs_]) (x := aLoad Try.prog 24 (.pointer (some ⟨b8, 0, none⟩)) H51) (by kernel_rfl) (u58.ld (by kernel_rfl)) ?_
     have u59 := ((u37.fr e42 Dj.nil_l).fr e52 Dj.nil_l)
     obtain ⟨y60, hy61, r62⟩ := bind_some r56
     refine s_ck 22 #[.agg #[.int .i64 N_2, hd_Arcs_]] (by kernel_rfl) (c_viaductlaw04_great e52.wf u59 hy61) ?_
     rintro _ H63 ⟨rfl, e64⟩
     refine s_qk (.bool y60) (by kernel_rfl) ?_
     refine s_nil ?_
     obtain rfl := Option.some.inj r62
     exact k24 _ _ ⟨⟨by kernel_rfl, by kernel_rfl, by kernel_rfl, trivial⟩, (FrS.step e10.wf (FrS.step e10.wf (FrS.step e10.wf (FrS.step e10.wf (FrS.refl (W := []) e10.wf) e32 Inn.nil) e42 Inn.nil) e52 Inn.nil) e64 Inn.nil)⟩
   ·have r65 := ite_f h43 r40
    rw [nb h43]
    refine s_qk (.bool true) (by kernel_rfl) ?_
    refine s_qk (.bool true) (by kernel_rfl) ?_
    refine s_qk (.bool true) (by kernel_rfl) ?_
    refine s_no (by kernel_rfl) ?_
    refine s_no (by kernel_rfl) ?_
    refine s_qk (.bool true) (by kernel_rfl) ?_
    refine s_qk (.bool true) (by kernel_rfl) ?_
    refine s_no (by kernel_rfl) ?_
    refine s_no (by kernel_rfl) ?_
    refine s_qk (.bool true) (by kernel_rfl) ?_
    refine s_nil ?_
    obtain rfl := Option.some.inj r65
    exact k24 _ _ ⟨⟨by kernel_rfl, by kernel_rfl, by kernel_rfl, trivial⟩, (FrS.step e10.wf (FrS.step e10.wf (FrS.refl (W := []) e10.wf) e32 Inn.nil) e42 Inn.nil)⟩
  ·have r67 := ite_f h33 r30
   rw [nb h33]
   refine s_qk (.bool true) (by kernel_rfl) ?_
   refine s_qk (.bool true) (by kernel_rfl) ?_
   refine s_no (by kernel_rfl) ?_
   refine s_no (by kernel_rfl) ?_
   refine s_no (by kernel_rfl) ?_
   refine s_qk (.bool true) (by kernel_rfl) ?_
   refine s_qk (.bool true) (by kernel_rfl) ?_
   refine s_no (by kernel_rfl) ?_
   refine s_no (by kernel_rfl) ?_
   refine s_qk (.bool true) (by kernel_rfl) ?_
   refine s_qk (.bool true) (by kernel_rfl) ?_
   refine s_no (by kernel_rfl) ?_
   refine s_no (by kernel_rfl) ?_
   refine s_qk (.bool true) (by kernel_rfl) ?_
   refine s_nil ?_
   obtain rfl := Option.some.inj r67
   exact k24 _ _ ⟨⟨by kernel_rfl, by kernel_rfl, by kernel_rfl, trivial⟩, (FrS.step e10.wf (FrS.refl (W := []) e10.wf) e32 Inn.nil)⟩
 ·obtain ⟨hh25, e23⟩ := hM
  obtain ⟨β, rfl⟩ := has_ex hh25
  clear hh25
  refine k18 _ _ ?_
  refine w_cond (o19) (by kernel_rfl) rfl (fun h69 => ?_) (fun h69 => ?_)
  ·have r70 := ite_t h69 r21
   refine w_seqk fun K71 k71 => ?_
   refine w_reg (by kernel_rfl) ?_
   refine s_qk (.bool true) (by kernel_rfl) ?_
   refine s_nil ?_
   refine k71 _ _ ?_
   refine w_ret (th_ret ?_)
   refine b_ret (fn := Try.f4) (vs := [.bool true]) (aRes_tmp (by kernel_rfl) (rfl)) ?_
   obtain rfl := Option.some.inj r70
   exact ⟨rfl, (FrS.step wf (((FrS.refl (W := []) wf).extR e4).extR e10) e23 Inn.nil)⟩
  ·have r72 := ite_bf h69 r21
   refine w_skip ?_
   refine k17 _ _ ?_
   refine w_seqk fun K73 k73 => ?_
   refine w_reg (by kernel_rfl) ?_
   have u74 := ((r6.ext e10).frS e23 Dj.nil_l)
   refine s_ql (.agg #[.int .i64 N_, hd_Arcs]) (x := aLoad Try.prog 24 (.pointer (some ⟨b2, 0, none⟩)) H22) (by kernel_rfl) (u74.ld (by kernel_rfl)) ?_
   have u75 := (((h_Arcs.ext e4).ext e10).fr e23 Dj.nil_l)
   obtain ⟨y76, hy77, r78⟩ := bind_some r72
   refine s_ck 23 #[.agg #[.int .i64 N_, hd_Arcs]] (by kernel_rfl) (c_normal_Of e23.wf u75 hy77) ?_
   rintro _ H83 ⟨s79, f80, v81, f82, rfl, e84, m85, m86, i87, i88, d89⟩
   obtain ⟨a92, n93, c94, rfl⟩ := m85.form
   refine s_qk (.tuple #[.agg #[.int .i64 y76.1, .slice a92 n93 c94], v81]) (by kernel_rfl) ?_
   refine s_qk (.agg #[.int .i64 y76.1, .slice a92 n93 c94]) (by kernel_rfl) ?_
   refine s_qk (v81) (by kernel_rfl) ?_
   refine s_rwk e84.wf [.int .i64 0, .slice none 0 0] (by kernel_rfl) fun b95 H96 e97 hb98 r99 => ?_
   have u105 := (m85.ext e97)
   obtain ⟨H101, q102, e103, r104⟩ := Row.store (P := Try.prog) (t := 24) (p := 0) e97.wf r99 (.agg #[.int .i64 y76.1, .slice a92 n93 c94]) [.int .i64 y76.1, .slice a92 n93 c94] (by kernel_rfl) (by kernel_rfl) (one_cons (rfl) (one_cons (u105.one1) (one_nil))) (Nat.le_of_ble_eq_true (by kernel_rfl)) [.int .i64 y76.1, .slice a92 n93 c94] (by kernel_rfl)
   refine s_ek (undef) (by kernel_rfl) (map_ok q102) ?_
   refine s_qk (v81) (by kernel_rfl) ?_
   refine s_nil ?_
   refine k73 _ _ ?_
   refine w_seqk fun K106 k106 => ?_
   refine w_reg (by kernel_rfl) ?_
   have u107 := (((u74.frS e84 Dj.nil_l).ext e97).frS e103 (hb98.djn (r6.ltF.le (ntr (ntr e10.next e23.next) e84.next))))
   refine s_ql (.agg #[.int .i64 N_, hd_Arcs]) (x := aLoad Try.prog 24 (.pointer (some ⟨b2, 0, none⟩)) H101) (by kernel_rfl) (u107.ld (by kernel_rfl)) ?_
   have u108 := (((u75.fr e84 Dj.nil_l).ext e97).fr e103 (hb98.djn (h_Arcs.lt.le (ntr (ntr (ntr e4.next e10.next) e23.next) e84.next))))
   obtain ⟨y109, hy110, r111⟩ := bind_some r78
   refine s_ck 24 #[.agg #[.int .i64 N_, hd_Arcs]] (by kernel_rfl) (c_normal_Reverse e103.wf u108 hy110) ?_
   rintro _ H116 ⟨s112, f113, v114, f115, rfl, e117, m118, m119, i120, i121, d122⟩
   obtain ⟨a125, n126, c127, rfl⟩ := m118.form
   refine s_qk (.tuple #[.agg #[.int .i64 y109.1, .slice a125 n126 c127], v114]) (by kernel_rfl) ?_
   refine s_qk (.agg #[.int .i64 y109.1, .slice a125 n126 c127]) (by kernel_rfl) ?_
   refine s_qk (v114) (by kernel_rfl) ?_
   refine s_rwk e117.wf [.int .i64 0, .slice none 0 0] (by kernel_rfl) fun b128 H129 e130 hb131 r132 => ?_
   have u138 := (m118.ext e130)
   obtain ⟨H134, q135, e136, r137⟩ := Row.store (P := Try.prog) (t := 24) (p := 0) e130.wf r132 (.agg #[.int .i64 y109.1, .slice a125 n126 c127]) [.int .i64 y109.1, .slice a125 n126 c127] (by kernel_rfl) (by kernel_rfl) (one_cons (rfl) (one_cons (u138.one1) (one_nil))) (Nat.le_of_ble_eq_true (by kernel_rfl)) [.int .i64 y109.1, .slice a125 n126 c127] (by kernel_rfl)
   refine s_ek (undef) (by kernel_rfl) (map_ok q135) ?_
   refine s_qk (v114) (by kernel_rfl) ?_
   refine s_nil ?_
   refine k106 _ _ ?_
   refine w_seqk fun K139 k139 => ?_
   refine w_seqk fun K140 k140 => ?_
   obtain ⟨o141, hx142, r143⟩ := bind_some r111
   refine w_mid (fun α H144 => Has α [(2, .pointer (some ⟨b2, 0, none⟩)), (3, .pointer (some ⟨b8, 0, none⟩)), (5, .pointer (some ⟨b95, 0, none⟩)), (7, .pointer (some ⟨b128, 0, none⟩)), (62, .bool o141)] ∧ FrS [] H134 H144) (fun K146 k146 => ?_) (fun α H144 hM => ?_)
   ·refine w_reg (by kernel_rfl) ?_
    refine s_qk (v81) (by kernel_rfl) ?_
    have u151 := (((((m86.ext e97).fr e103 (hb98.djn m86.lt)).fr e117 Dj.nil_l).ext e130).fr e136 (hb131.djn (m86.lt.le (ntr (ntr e97.next e103.next) e117.next))))
    rcases (u151).cases with ⟨h148, rfl⟩ | ⟨h148, t149, x150, rfl⟩
    ·have r152 := ite_t h148 hx142
     refine s_qk (.bool false) (by kernel_rfl) ?_
     refine s_qk (.bool false) (by kernel_rfl) ?_
     refine s_qk (v114) (by kernel_rfl) ?_
     have u156 := ((m119.ext e130).fr e136 (hb131.djn m119.lt))
     rcases (u156).cases with ⟨h153, rfl⟩ | ⟨h153, t154, x155, rfl⟩
     ·have r157 := ite_t h153 r152
      refine s_qk (.bool false) (by kernel_rfl) ?_
      refine s_qk (.bool false) (by kernel_rfl) ?_
      refine s_qk (.bool false) (by kernel_rfl) ?_
      have u158 := (((r104.frS e117 Dj.nil_l).ext e130).frS e136 (hb131.djn (r99.ltF.le (ntr e103.next e117.next))))
      refine s_ql (.agg #[.int .i64 y76.1, .slice a92 n93 c94]) (x := aLoad Try.prog 24 (.pointer (some ⟨b95, 0, none⟩)) H134) (by kernel_rfl) (u158.ld (by kernel_rfl)) ?_
      have u159 := ((((u105.fr e103 (hb98.djn m85.lt)).fr e117 Dj.nil_l).ext e130).fr e136 (hb131.djn (m85.lt.le (ntr (ntr e97.next e103.next) e117.next))))
      obtain ⟨y160, hy161, r162⟩ := bind_some r157
      refine s_ck 21 #[.agg #[.int .i64 y76.1, .slice a92 n93 c94], .int .i64 12] (by kernel_rfl) (c_viaductref04_Few e136.wf u159.sq hy161) ?_
      rintro _ H163 ⟨rfl, e164⟩
      by_cases h165 : y160 = true
      ·have r166 := ite_t h165 r162
       rw [h165]
       refine s_qk (.bool false) (by kernel_rfl) ?_
       refine s_qk (.bool false) (by kernel_rfl) ?_
       refine s_qk (.bool false) (by kernel_rfl) ?_
       have u168 := (r137.frS e164 Dj.nil_l)
       refine s_ql (.agg #[.int .i64 y109.1, .slice a125 n126 c127]) (x := aLoad Try.prog 24 (.pointer (some ⟨b128, 0, none⟩)) H163) (by kernel_rfl) (u168.ld (by kernel_rfl)) ?_
       have u169 := ((u138.fr e136 (hb131.djn m118.lt)).fr e164 Dj.nil_l)
       obtain ⟨y170, hy171, r172⟩ := bind_some r166
       refine s_ck 21 #[.agg #[.int .i64 y109.1, .slice a125 n126 c127], .int .i64 12] (by kernel_rfl) (c_viaductref04_Few e164.wf u169.sq hy171) ?_
       rintro _ H173 ⟨rfl, e174⟩
       refine s_qk (.bool (!y170)) (by kernel_rfl) ?_
       refine s_qk (.bool (!y170)) (by kernel_rfl) ?_
       refine s_nil ?_
       obtain rfl := Option.some.inj r172
       exact k146 _ _ ⟨⟨by kernel_rfl, by kernel_rfl, by kernel_rfl, by kernel_rfl, by kernel_rfl, trivial⟩, (FrS.step e136.wf (FrS.step e136.wf (FrS.refl (W := []) e136.wf) e164 Inn.nil) e174 Inn.nil)⟩
      ·have r175 := ite_f h165 r162
       rw [nb h165]
       refine s_qk (.bool true) (by kernel_rfl) ?_
       refine s_qk (.bool true) (by kernel_rfl) ?_
       refine s_qk (.bool true) (by kernel_rfl) ?_
       refine s_no (by kernel_rfl) ?_
       refine s_no (by kernel_rfl) ?_
       refine s_no (by kernel_rfl) ?_
       refine s_qk (.bool true) (by kernel_rfl) ?_
       refine s_nil ?_
       obtain rfl := Option.some.inj r175
       exact k146 _ _ ⟨⟨by kernel_rfl, by kernel_rfl, by kernel_rfl, by kernel_rfl, by kernel_rfl, trivial⟩, (FrS.step e136.wf (FrS.refl (W := []) e136.wf) e164 Inn.nil)⟩
     ·have r177 := ite_f h153 r152
      refine s_ql (.bool true) (x := aBin Try.prog .neq 29 (.tmp 50) (.const .nilIface) (.iface t154 x155) .nilIface) (by kernel_rfl) (aBin_nnil (by kernel_rfl)) ?_
      refine s_qk (.bool true) (by kernel_rfl) ?_
      refine s_qk (.bool true) (by kernel_rfl) ?_
      refine s_no (by kernel_rfl) ?_
      refine s_no (by kernel_rfl) ?_
      refine s_no (by kernel_rfl) ?_
      refine s_qk (.bool true) (by kernel_rfl) ?_
      refine s_qk (.bool true) (by kernel_rfl) ?_
      refine s_no (by kernel_rfl) ?_
      refine s_no (by kernel_rfl) ?_
      refine s_no (by kernel_rfl) ?_
      refine s_qk (.bool true) (by kernel_rfl) ?_
      refine s_nil ?_
      obtain rfl := Option.some.inj r177
      exact k146 _ _ ⟨⟨by kernel_rfl, by kernel_rfl, by kernel_rfl, by kernel_rfl, by kernel_rfl, trivial⟩, (FrS.refl (W := []) e136.wf)⟩
    ·have r178 := ite_f h148 hx142
     refine s_ql (.bool true) (x := aBin Try.prog .neq 29 (.tmp 47) (.const .nilIface) (.iface t149 x150) .nilIface) (by kernel_rfl) (aBin_nnil (by kernel_rfl)) ?_
     refine s_qk (.bool true) (by kernel_rfl) ?_
     refine s_no (by kernel_rfl) ?_
     refine s_no (by kernel_rfl) ?_
     refine s_qk (.bool true) (by kernel_rfl) ?_
     refine s_qk (.bool true) (by kernel_rfl) ?_
     refine s_no (by kernel_rfl) ?_
     refine s_no (by kernel_rfl) ?_
     refine s_no (by kernel_rfl) ?_
     refine s_qk (.bool true) (by kernel_rfl) ?_
     refine s_qk (.bool true) (by kernel_rfl) ?_
     refine s_no (by kernel_rfl) ?_
     refine s_no (by kernel_rfl) ?_
     refine s_no (by kernel_rfl) ?_
     refine s_qk (.bool true) (by kernel_rfl) ?_
     refine s_nil ?_
     obtain rfl := Option.some.inj r178
     exact k146 _ _ ⟨⟨by kernel_rfl, by kernel_rfl, by kernel_rfl, by kernel_rfl, by kernel_rfl, trivial⟩, (FrS.refl (W := []) e136.wf)⟩
   ·obtain ⟨hh147, e145⟩ := hM
    obtain ⟨β, rfl⟩ := has_ex hh147
    clear hh147
    refine k140 _ _ ?_
    refine w_cond (o141) (by kernel_rfl) rfl (fun h179 => ?_) (fun h179 => ?_)
    ·have r180 := ite_t h179 r143
     refine w_seqk fun K181 k181 => ?_
     refine w_reg (by kernel_rfl) ?_
     refine s_qk (.bool false) (by kernel_rfl) ?_
     refine s_nil ?_
     refine k181 _ _ ?_
     refine w_ret (th_ret ?_)
     refine b_ret (fn := Try.f4) (vs := [.bool false]) (aRes_tmp (by kernel_rfl) (rfl)) ?_
     obtain rfl := Option.some.inj r180
     exact ⟨rfl, (FrS.step wf (FrS.step wf ((FrS.step wf (FrS.step wf ((FrS.step wf (FrS.step wf (((FrS.refl (W := []) wf).extR e4).extR e10) e23 Inn.nil) e84 Inn.nil).extR e97) e103 (hb98.fresh (ntr (ntr (ntr e4.next e10.next) e23.next) e84.next))) e117 Inn.nil).extR e130) e136 (hb131.fresh (ntr (ntr (ntr (ntr (ntr (ntr e4.next e10.next) e23.next) e84.next) e97.next) e103.next) e117.next))) e145 Inn.nil)⟩
    ·have r182 := ite_bf h179 r143
     refine w_skip ?_
     refine k139 _ _ ?_
     refine w_seqk fun K183 k183 => ?_
     refine w_draw [0, 2, 1, 3, 4, 5] (by kernel_rfl) ?_
     have u184 := ((((u107.frS e117 Dj.nil_l).ext e130).frS e136 (hb131.djn (r6.ltF.le (ntr (ntr (ntr (ntr (ntr e10.next e23.next) e84.next) e97.next) e103.next) e117.next)))).frS e145 Dj.nil_l)
     refine d_ql (.agg #[.int .i64 N_, hd_Arcs]) (x := aLoad Try.prog 24 (.pointer (some ⟨b2, 0, none⟩)) H144) (by kernel_rfl) (u184.ld (by kernel_rfl)) ?_
     have u185 := (r137.frS e145 Dj.nil_l)
     refine d_fl (.agg #[.int .i64 y109.1, .slice a125 n126 c127]) (x := aLoad Try.prog 24 (.pointer (some ⟨b128, 0, none⟩)) H144) (by kernel_rfl) (u185.ld (by kernel_rfl)) ?_
     have u186 := ((((u108.fr e117 Dj.nil_l).ext e130).fr e136 (hb131.djn (h_Arcs.lt.le (ntr (ntr (ntr (ntr (ntr (ntr e4.next e10.next) e23.next) e84.next) e97.next) e103.next) e117.next)))).fr e145 Dj.nil_l)
     obtain ⟨y187, hy188, r189⟩ := bind_some r182
     refine d_ck 13 #[.agg #[.int .i64 N_, hd_Arcs]] (by kernel_rfl) (c_viaductref04_Distances e145.wf u186 hy188) ?_
     rintro s190 H192 ⟨_, f191, rfl, e193, m194, i195⟩
     obtain ⟨a197, n198, c199, rfl⟩ := m194.form
     have u200 := (u185.frS e193 Dj.nil_l)
     refine ⟨st_ql (y := aLoad Try.prog 24 (.pointer (some ⟨b128, 0, none⟩)) H192) (by kernel_rfl) (u200.ld (by kernel_rfl)) (st_nil), ?_⟩
     have u201 := (((u138.fr e136 (hb131.djn m118.lt)).fr e145 Dj.nil_l).fr e193 Dj.nil_l)
     obtain ⟨y202, hy203, r204⟩ := bind_some r189
     refine d_ck 13 #[.agg #[.int .i64 y109.1, .slice a125 n126 c127]] (by kernel_rfl) (c_viaductref04_Distances e193.wf u201.sq hy203) ?_
     rintro s205 H207 ⟨_, f206, rfl, e208, m209, i210⟩
     obtain ⟨a212, n213, c214, rfl⟩ := m209.form
     refine ⟨st_anc (by kernel_rfl) (st_nil), ?_⟩
     refine d_qk (.slice a197 n198 c199) (by kernel_rfl) ?_
     refine d_qk (.slice a212 n213 c214) (by kernel_rfl) ?_
     refine d_nil ?_
     refine k183 _ _ ?_
     refine w_seqk fun K215 k215 => ?_
     refine w_seqk fun K216 k216 => ?_
     obtain ⟨o217, hx218, r219⟩ := bind_some r204
     refine w_mid (fun α H220 => Has α [(2, .pointer (some ⟨b2, 0, none⟩)), (3, .pointer (some ⟨b8, 0, none⟩)), (5, .pointer (some ⟨b95, 0, none⟩)), (9, .slice a197 n198 c199), (10, .slice a212 n213 c214), (78, .bool o217)] ∧ FrS [] H207 H220) (fun K222 k222 => ?_) (fun α H220 hM => ?_)
     ·refine w_reg (by kernel_rfl) ?_
      refine s_qk (.slice a197 n198 c199) (by kernel_rfl) ?_
      have u224 := ((((((r104.frS e117 Dj.nil_l).ext e130).frS e136 (hb131.djn (r99.ltF.le (ntr e103.next e117.next)))).frS e145 Dj.nil_l).frS e193 Dj.nil_l).frS e208 Dj.nil_l)
      refine s_ql (.agg #[.int .i64 y76.1, .slice a92 n93 c94]) (x := aLoad Try.prog 24 (.pointer (some ⟨b95, 0, none⟩)) H207) (by kernel_rfl) (u224.ld (by kernel_rfl)) ?_
      have u225 := (((((((u105.fr e103 (hb98.djn m85.lt)).fr e117 Dj.nil_l).ext e130).fr e136 (hb131.djn (m85.lt.le (ntr (ntr e97.next e103.next) e117.next)))).fr e145 Dj.nil_l).fr e193 Dj.nil_l).fr e208 Dj.nil_l)
      obtain ⟨y226, hy227, r228⟩ := bind_some hx218
      refine s_ck 13 #[.agg #[.int .i64 y76.1, .slice a92 n93 c94]] (by kernel_rfl) (c_viaductref04_Distances e208.wf u225.sq hy227) ?_
      rintro s229 H231 ⟨_, f230, rfl, e232, m233, i234⟩
      obtain ⟨a236, n237, c238, rfl⟩ := m233.form
      have u239 := ((m194.fr e208 Dj.nil_l).fr e232 Dj.nil_l)
      obtain ⟨y240, hy241, r242⟩ := bind_some r228
      refine s_ck 12 #[.slice a197 n198 c199, .slice a236 n237 c238] (by kernel_rfl) (c_viaductref04_SameMatrix e232.wf u239 m233 hy241) ?_
      rintro _ _ ⟨rfl, rfl⟩
      by_cases h245 : y240 = true
      ·have r246 := ite_t h245 r242
       rw [h245]
       refine s_qk (.bool false) (by kernel_rfl) ?_
       refine s_qk (.bool false) (by kernel_rfl) ?_
       refine s_qk (.slice a212 n213 c214) (by kernel_rfl) ?_
       have u248 := (m209.fr e232 Dj.nil_l)
       refine s_ql (.int .i64 (y202.length : Int)) (x := aLen Try.prog 38 (.slice a212 n213 c214) H231) (by kernel_rfl) (u248.lenb (by kernel_rfl)) ?_
       refine s_qk (.slice a197 n198 c199) (by kernel_rfl) ?_
       refine s_ql (.int .i64 (y187.length : Int)) (x := aLen Try.prog 38 (.slice a197 n198 c199) H231) (by kernel_rfl) (u239.lenb (by kernel_rfl)) ?_
       refine s_qk (.bool (!decide ((y202.length : Int) = (y187.length : Int)))) (by kernel_rfl) ?_
       refine s_qk (.bool (!decide ((y202.length : Int) = (y187.length : Int)))) (by kernel_rfl) ?_
       refine s_nil ?_
       obtain rfl := Option.some.inj r246
       exact k222 _ _ ⟨⟨by kernel_rfl, by kernel_rfl, by kernel_rfl, by kernel_rfl, by kernel_rfl, by kernel_rfl, trivial⟩, (FrS.step e208.wf (FrS.refl (W := []) e208.wf) e232 Inn.nil)⟩
      ·have r249 := ite_f h245 r242
       rw [nb h245]
       refine s_qk (.bool true) (by kernel_rfl) ?_
       refine s_qk (.bool true) (by kernel_rfl) ?_
       refine s_no (by kernel_rfl) ?_
       refine s_no (by kernel_rfl) ?_
       refine s_no (by kernel_rfl) ?_
       refine s_no (by kernel_rfl) ?_
       refine s_no (by kernel_rfl) ?_
       refine s_qk (.bool true) (by kernel_rfl) ?_
       refine s_nil ?_
       obtain rfl := Option.some.inj r249
       exact k222 _ _ ⟨⟨by kernel_rfl, by kernel_rfl, by kernel_rfl, by kernel_rfl, by kernel_rfl, by kernel_rfl, trivial⟩, (FrS.step e208.wf (FrS.refl (W := []) e208.wf) e232 Inn.nil)⟩
     ·obtain ⟨hh223, e221⟩ := hM
      obtain ⟨β, rfl⟩ := has_ex hh223
      clear hh223
      refine k216 _ _ ?_
      refine w_cond (o217) (by kernel_rfl) rfl (fun h251 => ?_) (fun h251 => ?_)
      ·have r252 := ite_t h251 r219
       refine w_seqk fun K253 k253 => ?_
       refine w_reg (by kernel_rfl) ?_
       refine s_qk (.bool false) (by kernel_rfl) ?_
       refine s_nil ?_
       refine k253 _ _ ?_
       refine w_ret (th_ret ?_)
       refine b_ret (fn := Try.f4) (vs := [.bool false]) (aRes_tmp (by kernel_rfl) (rfl)) ?_
       obtain rfl := Option.some.inj r252
       exact ⟨rfl, (FrS.step wf (FrS.step wf (FrS.step wf (FrS.step wf (FrS.step wf ((FrS.step wf (FrS.step wf ((FrS.step wf (FrS.step wf (((FrS.refl (W := []) wf).extR e4).extR e10) e23 Inn.nil) e84 Inn.nil).extR e97) e103 (hb98.fresh (ntr (ntr (ntr e4.next e10.next) e23.next) e84.next))) e117 Inn.nil).extR e130) e136 (hb131.fresh (ntr (ntr (ntr (ntr (ntr (ntr e4.next e10.next) e23.next) e84.next) e97.next) e103.next) e117.next))) e145 Inn.nil) e193 Inn.nil) e208 Inn.nil) e221 Inn.nil)⟩
      ·have r254 := ite_bf h251 r219
       refine w_skip ?_
       refine k215 _ _ ?_
       refine w_seqk fun K255 k255 => ?_
       refine w_seqk fun K256 k256 => ?_
       refine w_reg (by kernel_rfl) ?_
       refine s_qk (.slice a197 n198 c199) (by kernel_rfl) ?_
       have u257 := ((m194.fr e208 Dj.nil_l).fr e221 Dj.nil_l)
       refine s_ql (.int .i64 (y187.length : Int)) (x := aLen Try.prog 38 (.slice a197 n198 c199) H220) (by kernel_rfl) (u257.lenb (by kernel_rfl)) ?_
       refine s_qk (.int .i64 0) (by kernel_rfl) ?_
       refine s_nil ?_
       refine k256 _ _ ?_
       obtain ⟨z261, hx259, r260⟩ := bind_some r254
       refine w_mid (fun α H262 => ∃ o258, z261 = Sum.inr o258 ∧ Has α [(2, .pointer (some ⟨b2, 0, none⟩)), (3, .pointer (some ⟨b8, 0, none⟩)), (5, .pointer (some ⟨b95, 0, none⟩))] ∧ H220 = H262) (fun K264 k264 => ?_) (fun α H262 hM => ?_)
       ·refine w_block ?_
        obtain ⟨n266, hn267⟩ := loopO_iff.1 hx259
        refine w_loopn (fun n α H268 => ∃ (i1 : Int), iterO (fun zz_ => z_viaductlaw04_NormalDistances_l1 y187 y202 zz_) n i1 = some z261 ∧ Has α [(2, .pointer (some ⟨b2, 0, none⟩)), (3, .pointer (some ⟨b8, 0, none⟩)), (5, .pointer (some ⟨b95, 0, none⟩)), (9, .slice a197 n198 c199), (10, .slice a212 n213 c214), (80, .int .i64 (y187.length : Int)), (81, .int .i64 i1)] ∧ H220 = H268) n266 ⟨0, hn267, ⟨by kernel_rfl, by kernel_rfl, by kernel_rfl, by kernel_rfl, by kernel_rfl, by kernel_rfl, by kernel_rfl, trivial⟩, rfl⟩ ?_
        rintro n266 α H268 ⟨i1, hi271, hh270, rfl⟩ K276 k276
        obtain ⟨n272, z273, rfl, hz274, hn275⟩ := iter_succ hi271
        obtain ⟨β, rfl⟩ := has_ex hh270
        clear hh270
        replace hz274 : z_viaductlaw04_NormalDistances_l1 y187 y202 i1 = some z273 := hz274
        unfold z_viaductlaw04_NormalDistances_l1 at hz274
        refine w_seqk fun K277 k277 => ?_
        refine w_reg (by kernel_rfl) ?_
        refine s_qk (.bool (decide (i1 < (y187.length : Int)))) (by kernel_rfl) ?_
        refine s_nil ?_
        refine k277 _ _ ?_
        refine w_seqk fun K278 k278 => ?_
        refine w_condp (i1 < (y187.length : Int)) (by kernel_rfl) rfl (fun h279 => ?_) (fun h279 => ?_)
        ·have r280 := ite_t h279 hz274
         refine w_skip ?_
         refine k278 _ _ ?_
         refine w_seqk fun K281 k281 => ?_
         refine w_block ?_
         refine w_seqk fun K282 k282 => ?_
         refine w_reg (by kernel_rfl) ?_
         refine s_qk (.int .i64 i1) (by kernel_rfl) ?_
         refine s_qk (.int .i64 i1) (by kernel_rfl) ?_
         refine s_nil ?_
         refine k282 _ _ ?_
         refine w_seqk fun K283 k283 => ?_
         refine w_reg (by kernel_rfl) ?_
         refine s_qk (.slice a197 n198 c199) (by kernel_rfl) ?_
         refine s_ql (.int .i64 (y187.length : Int)) (x := aLen Try.prog 38 (.slice a197 n198 c199) H220) (by kernel_rfl) (u257.lenb (by kernel_rfl)) ?_
         refine s_qk (.int .i64 0) (by kernel_rfl) ?_
         refine s_nil ?_
         refine k283 _ _ ?_
         obtain ⟨z287, hx285, r286⟩ := bind_some r280
         refine w_mid (fun α H288 => ∃ o284, z287 = Sum.inr o284 ∧ Has α [(2, .pointer (some ⟨b2, 0, none⟩)), (3, .pointer (some ⟨b8, 0, none⟩)), (5, .pointer (some ⟨b95, 0, none⟩)), (9, .slice a197 n198 c199), (10, .slice a212 n213 c214), (80, .int .i64 (y187.length : Int)), (81, .int .i64 i1)] ∧ H220 = H288) (fun K290 k290 => ?_) (fun α H288 hM => ?_)
         ·refine w_block ?_
          obtain ⟨n292, hn293⟩ := loopO_iff.1 hx285
          refine w_loopn (fun n α H294 => ∃ (i0 : Int), iterO (fun zz_ => z_viaductlaw04_NormalDistances_l0 y187 y202 i1 zz_) n i0 = some z287 ∧ Has α [(2, .pointer (some ⟨b2, 0, none⟩)), (3, .pointer (some ⟨b8, 0, none⟩)), (5, .pointer (some ⟨b95, 0, none⟩)), (9, .slice a197 n198 c199), (10, .slice a212 n213 c214), (11, .int .i64 i1), (80, .int .i64 (y187.length : Int)), (81, .int .i64 i1), (85, .int .i64 (y187.length : Int)), (86, .int .i64 i0)] ∧ H220 = H294) n292 ⟨0, hn293, ⟨by kernel_rfl, by kernel_rfl, by kernel_rfl, by kernel_rfl, by kernel_rfl, by kernel_rfl, by kernel_rfl, by kernel_rfl, by kernel_rfl, by kernel_rfl, trivial⟩, rfl⟩ ?_
          rintro n292 α H294 ⟨i0, hi297, hh296, rfl⟩ K302 k302
          obtain ⟨n298, z299, rfl, hz300, hn301⟩ := iter_succ hi297
          obtain ⟨β, rfl⟩ := has_ex hh296
          clear hh296
          replace hz300 : z_viaductlaw04_NormalDistances_l0 y187 y202 i1 i0 = some z299 := hz300
          unfold z_viaductlaw04_NormalDistances_l0 at hz300
          refine w_seqk fun K303 k303 => ?_
          refine w_reg (by kernel_rfl) ?_
          refine s_qk (.bool (decide (i0 < (y187.length : Int)))) (by kernel_rfl) ?_
          refine s_nil ?_
          refine k303 _ _ ?_
          refine w_seqk fun K304 k304 => ?_
          refine w_condp (i0 < (y187.length : Int)) (by kernel_rfl) rfl (fun h305 => ?_) (fun h305 => ?_)
          ·have r306 := ite_t h305 hz300
           refine w_skip ?_
           refine k304 _ _ ?_
           refine w_seqk fun K307 k307 => ?_
           refine w_block ?_
           refine w_seqk fun K308 k308 => ?_
           refine w_reg (by kernel_rfl) ?_
           refine s_qk (.int .i64 i0) (by kernel_rfl) ?_
           refine s_qk (.int .i64 i0) (by kernel_rfl) ?_
           refine s_nil ?_
           refine k308 _ _ ?_
           refine w_seqk fun K309 k309 => ?_
           refine w_draw [0, 1, 2, 3, 4, 5, 6, 7, 8, 9, 10, 11, 12, 13, 14] (by kernel_rfl) ?_
           refine d_qk (.slice a197 n198 c199) (by kernel_rfl) ?_
           refine d_qk (.int .i64 i1) (by kernel_rfl) ?_
           obtain ⟨g310, r311⟩ := G_some r306
           refine d_ql (elp (.slice a197 n198 c199) 1 i1.toNat 0) (x := aIndexAddr Try.prog 38 (.slice a197 n198 c199) (.int .i64 i1)) (by kernel_rfl) (u257.idxb (by kernel_rfl) g310 h279) ?_
           obtain ⟨cs312, f313, hk314, hs315, hl316, hq317⟩ := u257.kid g310 h279
           obtain ⟨s318, rfl, ho320⟩ := cr_sl_open hk314
           have kd321 : KdS (encI .u64) 1 H220 s318 (gt y187 i1) f191 (.slice a197 n198 c199) 1 i1.toNat 0 := ⟨ho320.sq.up hs315 u257.lt, hq317 0 _ rfl (by decide)⟩
           obtain ⟨a322, n323, c324, rfl⟩ := kd321.sq.form
           refine d_ql (.slice a322 n323 c324) (x := aLoad Try.prog 44 (elp (.slice a197 n198 c199) 1 i1.toNat 0) H220) (by kernel_rfl) (hl316 _ _ _ _ (by kernel_rfl)) ?_
           refine d_qk (.int .i64 i0) (by kernel_rfl) ?_
           obtain ⟨g326, r327⟩ := G_some r311
           refine d_ql (elp (.slice a322 n323 c324) 1 i0.toNat 0) (x := aIndexAddr Try.prog 44 (.slice a322 n323 c324) (.int .i64 i0)) (by kernel_rfl) (kd321.sq.idxb (by kernel_rfl) g326.1 g326.2) ?_
           refine d_ql (.int .u64 (gt (gt y187 i1) i0)) (x := aLoad Try.prog 34 (elp (.slice a322 n323 c324) 1 i0.toNat 0) H220) (by kernel_rfl) (kd321.sq.ld g326.1 g326.2 (by kernel_rfl)) ?_
           refine d_qk (.slice a212 n213 c214) (by kernel_rfl) ?_
           refine d_qk (.int .i64 i0) (by kernel_rfl) ?_
           obtain ⟨g328, r329⟩ := G_some r327
           have u330 := (m209.fr e221 Dj.nil_l)
           refine d_ql (elp (.slice a212 n213 c214) 1 i0.toNat 0) (x := aIndexAddr Try.prog 38 (.slice a212 n213 c214) (.int .i64 i0)) (by kernel_rfl) (u330.idxb (by kernel_rfl) g326.1 g328) ?_
           obtain ⟨cs331, f332, hk333, hs334, hl335, hq336⟩ := u330.kid g326.1 g328
           obtain ⟨s337, rfl, ho339⟩ := cr_sl_open hk333
           have kd340 : KdS (encI .u64) 1 H220 s337 (gt y202 i0) f206 (.slice a212 n213 c214) 1 i0.toNat 0 := ⟨ho339.sq.up hs334 u330.lt, hq336 0 _ rfl (by decide)⟩
           obtain ⟨a341, n342, c343, rfl⟩ := kd340.sq.form
           refine d_ql (.slice a341 n342 c343) (x := aLoad Try.prog 44 (elp (.slice a212 n213 c214) 1 i0.toNat 0) H220) (by kernel_rfl) (hl335 _ _ _ _ (by kernel_rfl)) ?_
           refine d_qk (.int .i64 i1) (by kernel_rfl) ?_
           obtain ⟨g345, r346⟩ := G_some r329
           refine d_ql (elp (.slice a341 n342 c343) 1 i1.toNat 0) (x := aIndexAddr Try.prog 44 (.slice a341 n342 c343) (.int .i64 i1)) (by kernel_rfl) (kd340.sq.idxb (by kernel_rfl) g310 g345) ?_
           refine d_ql (.int .u64 (gt (gt y202 i0) i1)) (x := aLoad Try.prog 34 (elp (.slice a341 n342 c343) 1 i1.toNat 0) H220) (by kernel_rfl) (kd340.sq.ld g310 g345 (by kernel_rfl)) ?_
           refine d_qk (.bool (!decide ((gt (gt y187 i1) i0) = (gt (gt y202 i0) i1)))) (by kernel_rfl) ?_
           refine d_nil ?_
           refine k309 _ _ ?_
           refine w_condn ((gt (gt y187 i1) i0) = (gt (gt y202 i0) i1)) (by kernel_rfl) rfl (fun h347 => ?_) (fun h347 => ?_)
           ·have r348 := ite_f h347 r346
            refine w_seqk fun K349 k349 => ?_
            refine w_reg (by kernel_rfl) ?_
            refine s_qk (.bool false) (by kernel_rfl) ?_
            refine s_nil ?_
            refine k349 _ _ ?_
            refine w_ret (bl_ret (th_ret (th_ret (bl_ret (th_ret (bl_ret (th_ret (th_ret (bl_ret (th_ret (th_ret ?_)))))))))))
            obtain ⟨v350, hv351, hz352⟩ := map_some r348
            subst hz352
            obtain rfl := it_inr hn301
            have hq353 := elim_inl r286
            rw [hq353] at hv351
            obtain ⟨v354, hv355, hz356⟩ := map_some hv351
            subst hz356
            obtain rfl := it_inr hn275
            have hq357 := elim_inl r260
            rw [hq357] at hv355
            refine b_ret (fn := Try.f4) (vs := [.bool false]) (aRes_tmp (by kernel_rfl) (rfl)) ?_
            obtain rfl := Option.some.inj hv355
            exact ⟨rfl, (FrS.step wf (FrS.step wf (FrS.step wf (FrS.step wf (FrS.step wf ((FrS.step wf (FrS.step wf ((FrS.step wf (FrS.step wf (((FrS.refl (W := []) wf).extR e4).extR e10) e23 Inn.nil) e84 Inn.nil).extR e97) e103 (hb98.fresh (ntr (ntr (ntr e4.next e10.next) e23.next) e84.next))) e117 Inn.nil).extR e130) e136 (hb131.fresh (ntr (ntr (ntr (ntr (ntr (ntr e4.next e10.next) e23.next) e84.next) e97.next) e103.next) e117.next))) e145 Inn.nil) e193 Inn.nil) e208 Inn.nil) e221 Inn.nil)⟩
           ·have r358 := ite_t h347 r346
            refine w_skip ?_
            refine k307 _ _ ?_
            refine w_reg (by kernel_rfl) ?_
            obtain ⟨g359, r360⟩ := G_some r358
            refine s_w ((i0 + 1)) (k := .i64) (x := (i0 + 1)) (by kernel_rfl) (wrap64 (by have := g359; omega)) ?_
            refine s_qk (.int .i64 (i0 + 1)) (by kernel_rfl) ?_
            refine s_nil ?_
            obtain rfl := Option.some.inj r360
            exact k302 n298 _ _ (Nat.lt_succ_self _) ⟨(i0 + 1), hn301, ⟨by kernel_rfl, by kernel_rfl, by kernel_rfl, by kernel_rfl, by kernel_rfl, by kernel_rfl, by kernel_rfl, by kernel_rfl, by kernel_rfl, by kernel_rfl, trivial⟩, rfl⟩
          ·have r361 := ite_f h305 hz300
           refine w_exit (th_exit (th_exit (bl_eq ?_)))
           obtain rfl := Option.some.inj r361
           obtain rfl := it_inr hn301
           exact k290 _ _ ⟨_, rfl, ⟨by kernel_rfl, by kernel_rfl, by kernel_rfl, by kernel_rfl, by kernel_rfl, by kernel_rfl, by kernel_rfl, trivial⟩, rfl⟩
         ·obtain ⟨o284, rfl, hh291, rfl⟩ := hM
          have r362 := elim_inr r286
          obtain ⟨β, rfl⟩ := has_ex hh291
          clear hh291
          refine k281 _ _ ?_
          refine w_reg (by kernel_rfl) ?_
          obtain ⟨g363, r364⟩ := G_some r362
          refine s_w ((i1 + 1)) (k := .i64) (x := (i1 + 1)) (by kernel_rfl) (wrap64 g363) ?_
          refine s_qk (.int .i64 (i1 + 1)) (by kernel_rfl) ?_
          refine s_nil ?_
          obtain rfl := Option.some.inj r364
          exact k276 n272 _ _ (Nat.lt_succ_self _) ⟨(i1 + 1), hn275, ⟨by kernel_rfl, by kernel_rfl, by kernel_rfl, by kernel_rfl, by kernel_rfl, by kernel_rfl, by kernel_rfl, trivial⟩, rfl⟩
        ·have r365 := ite_f h279 hz274
         refine w_exit (th_exit (th_exit (bl_eq ?_)))
         obtain rfl := Option.some.inj r365
         obtain rfl := it_inr hn275
         exact k264 _ _ ⟨_, rfl, ⟨by kernel_rfl, by kernel_rfl, by kernel_rfl, trivial⟩, rfl⟩
       ·obtain ⟨o258, rfl, hh265, rfl⟩ := hM
        have r366 := elim_inr r260
        obtain ⟨β, rfl⟩ := has_ex hh265
        clear hh265
        refine k255 _ _ ?_
        refine w_seqk fun K367 k367 => ?_
        refine w_reg (by kernel_rfl) ?_
        have u368 := (((u184.frS e193 Dj.nil_l).frS e208 Dj.nil_l).frS e221 Dj.nil_l)
        refine s_ql (.agg #[.int .i64 N_, hd_Arcs]) (x := aLoad Try.prog 24 (.pointer (some ⟨b2, 0, none⟩)) H220) (by kernel_rfl) (u368.ld (by kernel_rfl)) ?_
        have u369 := (((((((((((r12.frS e23 Dj.nil_l).frS e84 Dj.nil_l).ext e97).frS e103 (hb98.djn (r12.ltF.le (ntr e23.next e84.next)))).frS e117 Dj.nil_l).ext e130).frS e136 (hb131.djn (r12.ltF.le (ntr (ntr (ntr (ntr e23.next e84.next) e97.next) e103.next) e117.next)))).frS e145 Dj.nil_l).frS e193 Dj.nil_l).frS e208 Dj.nil_l).frS e221 Dj.nil_l)
        refine s_ql (.agg #[.int .i64 N_2, hd_Arcs_]) (x := aLoad Try.prog 24 (.pointer (some ⟨b8, 0, none⟩)) H220) (by kernel_rfl) (u369.ld (by kernel_rfl)) ?_
        have u370 := (((u186.fr e193 Dj.nil_l).fr e208 Dj.nil_l).fr e221 Dj.nil_l)
        have u371 := ((((((((((((u13.ext e10).fr e23 Dj.nil_l).fr e84 Dj.nil_l).ext e97).fr e103 (hb98.djn (h_Arcs_.lt.le (ntr (ntr (ntr e4.next e10.next) e23.next) e84.next)))).fr e117 Dj.nil_l).ext e130).fr e136 (hb131.djn (h_Arcs_.lt.le (ntr (ntr (ntr (ntr (ntr (ntr e4.next e10.next) e23.next) e84.next) e97.next) e103.next) e117.next)))).fr e145 Dj.nil_l).fr e193 Dj.nil_l).fr e208 Dj.nil_l).fr e221 Dj.nil_l)
        obtain ⟨y372, hy373, r374⟩ := bind_some r366
        refine s_ck 25 #[.agg #[.int .i64 N_, hd_Arcs], .agg #[.int .i64 N_2, hd_Arcs_]] (by kernel_rfl) (c_normal_Merge e221.wf u370 u371 hy373) ?_
        rintro _ H379 ⟨s375, f376, v377, f378, rfl, e380, m381, m382, i383, i384, d385⟩
        obtain ⟨a388, n389, c390, rfl⟩ := m381.form
        refine s_qk (.tuple #[.agg #[.int .i64 y372.1, .slice a388 n389 c390], v377]) (by kernel_rfl) ?_
        refine s_qk (.agg #[.int .i64 y372.1, .slice a388 n389 c390]) (by kernel_rfl) ?_
        refine s_qk (v377) (by kernel_rfl) ?_
        refine s_rwk e380.wf [.int .i64 0, .slice none 0 0] (by kernel_rfl) fun b391 H392 e393 hb394 r395 => ?_
        have u401 := (m381.ext e393)
        obtain ⟨H397, q398, e399, r400⟩ := Row.store (P := Try.prog) (t := 24) (p := 0) e393.wf r395 (.agg #[.int .i64 y372.1, .slice a388 n389 c390]) [.int .i64 y372.1, .slice a388 n389 c390] (by kernel_rfl) (by kernel_rfl) (one_cons (rfl) (one_cons (u401.one1) (one_nil))) (Nat.le_of_ble_eq_true (by kernel_rfl)) [.int .i64 y372.1, .slice a388 n389 c390] (by kernel_rfl)
        refine s_ek (undef) (by kernel_rfl) (map_ok q398) ?_
        refine s_qk (v377) (by kernel_rfl) ?_
        refine s_nil ?_
        refine k367 _ _ ?_
        refine w_seqk fun K402 k402 => ?_
        refine w_seqk fun K403 k403 => ?_
        refine w_reg (by kernel_rfl) ?_
        refine s_qk (.pointer (some ⟨b2, 0, none⟩)) (by kernel_rfl) ?_
        have u404 := (((u368.frS e380 Dj.nil_l).ext e393).frS e399 (hb394.djn (r6.ltF.le (ntr (ntr (ntr (ntr (ntr (ntr (ntr (ntr (ntr (ntr (ntr (ntr e10.next e23.next) e84.next) e97.next) e103.next) e117.next) e130.next) e136.next) e145.next) e193.next) e208.next) e221.next) e380.next))))
        refine s_ql (.int .i64 N_) (x := aLoad Try.prog 3 (.pointer (some ⟨b2, 0, none⟩)) H397) (by kernel_rfl) (u404.ld (by kernel_rfl)) ?_
        refine s_qk (.pointer (some ⟨b8, 0, none⟩)) (by kernel_rfl) ?_
        have u405 := (((u369.frS e380 Dj.nil_l).ext e393).frS e399 (hb394.djn (r12.ltF.le (ntr (ntr (ntr (ntr (ntr (ntr (ntr (ntr (ntr (ntr (ntr e23.next e84.next) e97.next) e103.next) e117.next) e130.next) e136.next) e145.next) e193.next) e208.next) e221.next) e380.next))))
        refine s_ql (.int .i64 N_2) (x := aLoad Try.prog 3 (.pointer (some ⟨b8, 0, none⟩)) H397) (by kernel_rfl) (u405.ld (by kernel_rfl)) ?_
        refine s_qk (.bool (!decide (N_ = N_2))) (by kernel_rfl) ?_
        refine s_nil ?_
        refine k403 _ _ ?_
        refine w_condn (N_ = N_2) (by kernel_rfl) rfl (fun h406 => ?_) (fun h406 => ?_)
        ·have r407 := ite_f h406 r374
         refine w_seqk fun K408 k408 => ?_
         refine w_reg (by kernel_rfl) ?_
         refine s_qk (v377) (by kernel_rfl) ?_
         have u412 := ((m382.ext e393).fr e399 (hb394.djn m382.lt))
         rcases (u412).cases with ⟨h409, rfl⟩ | ⟨h409, t410, x411, rfl⟩
         ·have r413 := ite_t h409 r407
          refine s_qk (.bool false) (by kernel_rfl) ?_
          refine s_qk (.bool false) (by kernel_rfl) ?_
          refine s_nil ?_
          refine k408 _ _ ?_
          refine w_ret (th_ret ?_)
          refine b_ret (fn := Try.f4) (vs := [.bool false]) (aRes_tmp (by kernel_rfl) (rfl)) ?_
          obtain rfl := Option.some.inj r413
          exact ⟨rfl, (FrS.step wf ((FrS.step wf (FrS.step wf (FrS.step wf (FrS.step wf (FrS.step wf (FrS.step wf ((FrS.step wf (FrS.step wf ((FrS.step wf (FrS.step wf (((FrS.refl (W := []) wf).extR e4).extR e10) e23 Inn.nil) e84 Inn.nil).extR e97) e103 (hb98.fresh (ntr (ntr (ntr e4.next e10.next) e23.next) e84.next))) e117 Inn.nil).extR e130) e136 (hb131.fresh (ntr (ntr (ntr (ntr (ntr (ntr e4.next e10.next) e23.next) e84.next) e97.next) e103.next) e117.next))) e145 Inn.nil) e193 Inn.nil) e208 Inn.nil) e221 Inn.nil) e380 Inn.nil).extR e393) e399 (hb394.fresh (ntr (ntr (ntr (ntr (ntr (ntr (ntr (ntr (ntr (ntr (ntr (ntr (ntr e4.next e10.next) e23.next) e84.next) e97.next) e103.next) e117.next) e130.next) e136.next) e145.next) e193.next) e208.next) e221.next) e380.next)))⟩
         ·have r414 := ite_f h409 r407
          refine s_ql (.bool true) (x := aBin Try.prog .neq 29 (.tmp 117) (.const .nilIface) (.iface t410 x411) .nilIface) (by kernel_rfl) (aBin_nnil (by kernel_rfl)) ?_
          refine s_qk (.bool true) (by kernel_rfl) ?_
          refine s_nil ?_
          refine k408 _ _ ?_
          refine w_ret (th_ret ?_)
          refine b_ret (fn := Try.f4) (vs := [.bool true]) (aRes_tmp (by kernel_rfl) (rfl)) ?_
          obtain rfl := Option.some.inj r414
          exact ⟨rfl, (FrS.step wf ((FrS.step wf (FrS.step wf (FrS.step wf (FrS.step wf (FrS.step wf (FrS.step wf ((FrS.step wf (FrS.step wf ((FrS.step wf (FrS.step wf (((FrS.refl (W := []) wf).extR e4).extR e10) e23 Inn.nil) e84 Inn.nil).extR e97) e103 (hb98.fresh (ntr (ntr (ntr e4.next e10.next) e23.next) e84.next))) e117 Inn.nil).extR e130) e136 (hb131.fresh (ntr (ntr (ntr (ntr (ntr (ntr e4.next e10.next) e23.next) e84.next) e97.next) e103.next) e117.next))) e145 Inn.nil) e193 Inn.nil) e208 Inn.nil) e221 Inn.nil) e380 Inn.nil).extR e393) e399 (hb394.fresh (ntr (ntr (ntr (ntr (ntr (ntr (ntr (ntr (ntr (ntr (ntr (ntr (ntr e4.next e10.next) e23.next) e84.next) e97.next) e103.next) e117.next) e130.next) e136.next) e145.next) e193.next) e208.next) e221.next) e380.next)))⟩
        ·have r415 := ite_t h406 r374
         refine w_skip ?_
         refine k402 _ _ ?_
         refine w_seqk fun K416 k416 => ?_
         refine w_reg (by kernel_rfl) ?_
         refine s_ql (.agg #[.int .i64 y372.1, .slice a388 n389 c390]) (x := aLoad Try.prog 24 (.pointer (some ⟨b391, 0, none⟩)) H397) (by kernel_rfl) (r400.ld (by kernel_rfl)) ?_
         have u417 := (u401.fr e399 (hb394.djn m381.lt))
         obtain ⟨y418, hy419, r420⟩ := bind_some r415
         refine s_ck 23 #[.agg #[.int .i64 y372.1, .slice a388 n389 c390]] (by kernel_rfl) (c_normal_Of e399.wf u417.sq hy419) ?_
         rintro _ H425 ⟨s421, f422, v423, f424, rfl, e426, m427, m428, i429, i430, d431⟩
         obtain ⟨a434, n435, c436, rfl⟩ := m427.form
         refine s_qk (.tuple #[.agg #[.int .i64 y418.1, .slice a434 n435 c436], v423]) (by kernel_rfl) ?_
         refine s_qk (.agg #[.int .i64 y418.1, .slice a434 n435 c436]) (by kernel_rfl) ?_
         refine s_qk (v423) (by kernel_rfl) ?_
         have u441 := (r400.frS e426 Dj.nil_l)
         obtain ⟨H437, q438, e439, r440⟩ := Row.store (P := Try.prog) (t := 24) (p := 0) e426.wf u441 (.agg #[.int .i64 y418.1, .slice a434 n435 c436]) [.int .i64 y418.1, .slice a434 n435 c436] (by kernel_rfl) (by kernel_rfl) (one_cons (rfl) (one_cons (m427.one1) (one_nil))) (Nat.le_of_ble_eq_true (by kernel_rfl)) [.int .i64 y418.1, .slice a434 n435 c436] (by kernel_rfl)
         refine s_ek (undef) (by kernel_rfl) (map_ok q438) ?_
         refine s_qk (v423) (by kernel_rfl) ?_
         refine s_nil ?_
         refine k416 _ _ ?_
         refine w_seqk fun K442 k442 => ?_
         refine w_reg (by kernel_rfl) ?_
         have u443 := ((u405.frS e426 Dj.nil_l).frS e439 (hb394.djn (r12.ltF.le (ntr (ntr (ntr (ntr (ntr (ntr (ntr (ntr (ntr (ntr (ntr e23.next e84.next) e97.next) e103.next) e117.next) e130.next) e136.next) e145.next) e193.next) e208.next) e221.next) e380.next))))
         refine s_ql (.agg #[.int .i64 N_2, hd_Arcs_]) (x := aLoad Try.prog 24 (.pointer (some ⟨b8, 0, none⟩)) H437) (by kernel_rfl) (u443.ld (by kernel_rfl)) ?_
         have u444 := (((((u371.fr e380 Dj.nil_l).ext e393).fr e399 (hb394.djn (h_Arcs_.lt.le (ntr (ntr (ntr (ntr (ntr (ntr (ntr (ntr (ntr (ntr (ntr (ntr (ntr e4.next e10.next) e23.next) e84.next) e97.next) e103.next) e117.next) e130.next) e136.next) e145.next) e193.next) e208.next) e221.next) e380.next)))).fr e426 Dj.nil_l).fr e439 (hb394.djn (h_Arcs_.lt.le (ntr (ntr (ntr (ntr (ntr (ntr (ntr (ntr (ntr (ntr (ntr (ntr (ntr e4.next e10.next) e23.next) e84.next) e97.next) e103.next) e117.next) e130.next) e136.next) e145.next) e193.next) e208.next) e221.next) e380.next))))
         obtain ⟨y445, hy446, r447⟩ := bind_some r420
         refine s_ck 23 #[.agg #[.int .i64 N_2, hd_Arcs_]] (by kernel_rfl) (c_normal_Of e439.wf u444 hy446) ?_
         rintro _ H452 ⟨s448, f449, v450, f451, rfl, e453, m454, m455, i456, i457, d458⟩
         obtain ⟨a461, n462, c463, rfl⟩ := m454.form
         refine s_qk (.tuple #[.agg #[.int .i64 y445.1, .slice a461 n462 c463], v450]) (by kernel_rfl) ?_
         refine s_qk (.agg #[.int .i64 y445.1, .slice a461 n462 c463]) (by kernel_rfl) ?_
         refine s_qk (v450) (by kernel_rfl) ?_
         refine s_rwk e453.wf [.int .i64 0, .slice none 0 0] (by kernel_rfl) fun b464 H465 e466 hb467 r468 => ?_
         have u474 := (m454.ext e466)
         obtain ⟨H470, q471, e472, r473⟩ := Row.store (P := Try.prog) (t := 24) (p := 0) e466.wf r468 (.agg #[.int .i64 y445.1, .slice a461 n462 c463]) [.int .i64 y445.1, .slice a461 n462 c463] (by kernel_rfl) (by kernel_rfl) (one_cons (rfl) (one_cons (u474.one1) (one_nil))) (Nat.le_of_ble_eq_true (by kernel_rfl)) [.int .i64 y445.1, .slice a461 n462 c463] (by kernel_rfl)
         refine s_ek (undef) (by kernel_rfl) (map_ok q471) ?_
         refine s_qk (v450) (by kernel_rfl) ?_
         refine s_nil ?_
         refine k442 _ _ ?_
         refine w_seqk fun K475 k475 => ?_
         refine w_seqk fun K476 k476 => ?_
         obtain ⟨o477, hx478, r479⟩ := bind_some r447
         refine w_mid (fun α H480 => Has α [(5, .pointer (some ⟨b95, 0, none⟩)), (13, .pointer (some ⟨b391, 0, none⟩)), (14, .pointer (some ⟨b464, 0, none⟩)), (138, .bool o477)] ∧ H470 = H480) (fun K482 k482 => ?_) (fun α H480 hM => ?_)
         ·refine w_reg (by kernel_rfl) ?_
          refine s_qk (v377) (by kernel_rfl) ?_
          have u487 := (((((((m382.ext e393).fr e399 (hb394.djn m382.lt)).fr e426 Dj.nil_l).fr e439 (hb394.djn m382.lt)).fr e453 Dj.nil_l).ext e466).fr e472 (hb467.djn (m382.lt.le (ntr (ntr (ntr (ntr e393.next e399.next) e426.next) e439.next) e453.next))))
          rcases (u487).cases with ⟨h484, rfl⟩ | ⟨h484, t485, x486, rfl⟩
          ·have r488 := ite_t h484 hx478
           refine s_qk (.bool false) (by kernel_rfl) ?_
           refine s_qk (.bool false) (by kernel_rfl) ?_
           refine s_qk (v423) (by kernel_rfl) ?_
           have u492 := ((((m428.fr e439 (Dj.symm (i430.djn (r395.ltF.le e399.next)))).fr e453 Dj.nil_l).ext e466).fr e472 (hb467.djn (m428.lt.le (ntr e439.next e453.next))))
           rcases (u492).cases with ⟨h489, rfl⟩ | ⟨h489, t490, x491, rfl⟩
           ·have r493 := ite_t h489 r488
            refine s_qk (.bool false) (by kernel_rfl) ?_
            refine s_qk (.bool false) (by kernel_rfl) ?_
            refine s_qk (.bool false) (by kernel_rfl) ?_
            refine s_qk (v450) (by kernel_rfl) ?_
            have u497 := ((m455.ext e466).fr e472 (hb467.djn m455.lt))
            rcases (u497).cases with ⟨h494, rfl⟩ | ⟨h494, t495, x496, rfl⟩
            ·have r498 := ite_t h494 r493
             refine s_qk (.bool false) (by kernel_rfl) ?_
             refine s_qk (.bool false) (by kernel_rfl) ?_
             refine s_nil ?_
             obtain rfl := Option.some.inj r498
             exact k482 _ _ ⟨⟨by kernel_rfl, by kernel_rfl, by kernel_rfl, by kernel_rfl, trivial⟩, rfl⟩
            ·have r499 := ite_f h494 r493
             refine s_ql (.bool true) (x := aBin Try.prog .neq 29 (.tmp 136) (.const .nilIface) (.iface t495 x496) .nilIface) (by kernel_rfl) (aBin_nnil (by kernel_rfl)) ?_
             refine s_qk (.bool true) (by kernel_rfl) ?_
             refine s_nil ?_
             obtain rfl := Option.some.inj r499
             exact k482 _ _ ⟨⟨by kernel_rfl, by kernel_rfl, by kernel_rfl, by kernel_rfl, trivial⟩, rfl⟩
           ·have r500 := ite_f h489 r488
            refine s_ql (.bool true) (x := aBin Try.prog .neq 29 (.tmp 132) (.const .nilIface) (.iface t490 x491) .nilIface) (by kernel_rfl) (aBin_nnil (by kernel_rfl)) ?_
            refine s_qk (.bool true) (by kernel_rfl) ?_
            refine s_qk (.bool true) (by kernel_rfl) ?_
            refine s_no (by kernel_rfl) ?_
            refine s_no (by kernel_rfl) ?_
            refine s_qk (.bool true) (by kernel_rfl) ?_
            refine s_nil ?_
            obtain rfl := Option.some.inj r500
            exact k482 _ _ ⟨⟨by kernel_rfl, by kernel_rfl, by kernel_rfl, by kernel_rfl, trivial⟩, rfl⟩
          ·have r501 := ite_f h484 hx478
           refine s_ql (.bool true) (x := aBin Try.prog .neq 29 (.tmp 129) (.const .nilIface) (.iface t485 x486) .nilIface) (by kernel_rfl) (aBin_nnil (by kernel_rfl)) ?_
           refine s_qk (.bool true) (by kernel_rfl) ?_
           refine s_no (by kernel_rfl) ?_
           refine s_no (by kernel_rfl) ?_
           refine s_qk (.bool true) (by kernel_rfl) ?_
           refine s_qk (.bool true) (by kernel_rfl) ?_
           refine s_no (by kernel_rfl) ?_
           refine s_no (by kernel_rfl) ?_
           refine s_qk (.bool true) (by kernel_rfl) ?_
           refine s_nil ?_
           obtain rfl := Option.some.inj r501
           exact k482 _ _ ⟨⟨by kernel_rfl, by kernel_rfl, by kernel_rfl, by kernel_rfl, trivial⟩, rfl⟩
         ·obtain ⟨hh483, rfl⟩ := hM
          obtain ⟨β, rfl⟩ := has_ex hh483
          clear hh483
          refine k476 _ _ ?_
          refine w_cond (o477) (by kernel_rfl) rfl (fun h502 => ?_) (fun h502 => ?_)
          ·have r503 := ite_t h502 r479
           refine w_seqk fun K504 k504 => ?_
           refine w_reg (by kernel_rfl) ?_
           refine s_qk (.bool false) (by kernel_rfl) ?_
           refine s_nil ?_
           refine k504 _ _ ?_
           refine w_ret (th_ret ?_)
           refine b_ret (fn := Try.f4) (vs := [.bool false]) (aRes_tmp (by kernel_rfl) (rfl)) ?_
           obtain rfl := Option.some.inj r503
           exact ⟨rfl, (FrS.step wf ((FrS.step wf (FrS.step wf (FrS.step wf (FrS.step wf ((FrS.step wf (FrS.step wf (FrS.step wf (FrS.step wf (FrS.step wf (FrS.step wf ((FrS.step wf (FrS.step wf ((FrS.step wf (FrS.step wf (((FrS.refl (W := []) wf).extR e4).extR e10) e23 Inn.nil) e84 Inn.nil).extR e97) e103 (hb98.fresh (ntr (ntr (ntr e4.next e10.next) e23.next) e84.next))) e117 Inn.nil).extR e130) e136 (hb131.fresh (ntr (ntr (ntr (ntr (ntr (ntr e4.next e10.next) e23.next) e84.next) e97.next) e103.next) e117.next))) e145 Inn.nil) e193 Inn.nil) e208 Inn.nil) e221 Inn.nil) e380 Inn.nil).extR e393) e399 (hb394.fresh (ntr (ntr (ntr (ntr (ntr (ntr (ntr (ntr (ntr (ntr (ntr (ntr (ntr e4.next e10.next) e23.next) e84.next) e97.next) e103.next) e117.next) e130.next) e136.next) e145.next) e193.next) e208.next) e221.next) e380.next))) e426 Inn.nil) e439 (hb394.fresh (ntr (ntr (ntr (ntr (ntr (ntr (ntr (ntr (ntr (ntr (ntr (ntr (ntr e4.next e10.next) e23.next) e84.next) e97.next) e103.next) e117.next) e130.next) e136.next) e145.next) e193.next) e208.next) e221.next) e380.next))) e453 Inn.nil).extR e466) e472 (hb467.fresh (ntr (ntr (ntr (ntr (ntr (ntr (ntr (ntr (ntr (ntr (ntr (ntr (ntr (ntr (ntr (ntr (ntr (ntr e4.next e10.next) e23.next) e84.next) e97.next) e103.next) e117.next) e130.next) e136.next) e145.next) e193.next) e208.next) e221.next) e380.next) e393.next) e399.next) e426.next) e439.next) e453.next)))⟩
          ·have r505 := ite_bf h502 r479
           refine w_skip ?_
           refine k475 _ _ ?_
           refine w_seqk fun K506 k506 => ?_
           refine w_reg (by kernel_rfl) ?_
           refine s_qk (.slice none 0 0) (by kernel_rfl) ?_
           refine s_nil ?_
           refine k506 _ _ ?_
           refine w_seqk fun K507 k507 => ?_
           refine w_reg (by kernel_rfl) ?_
           refine s_qk (.slice none 0 0) (by kernel_rfl) ?_
           refine s_qk (.pointer (some ⟨b95, 1, none⟩)) (by kernel_rfl) ?_
           have u508 := (((((((((((((((r104.frS e117 Dj.nil_l).ext e130).frS e136 (hb131.djn (r99.ltF.le (ntr e103.next e117.next)))).frS e145 Dj.nil_l).frS e193 Dj.nil_l).frS e208 Dj.nil_l).frS e221 Dj.nil_l).frS e380 Dj.nil_l).ext e393).frS e399 (hb394.djn (r99.ltF.le (ntr (ntr (ntr (ntr (ntr (ntr (ntr (ntr e103.next e117.next) e130.next) e136.next) e145.next) e193.next) e208.next) e221.next) e380.next)))).frS e426 Dj.nil_l).frS e439 (hb394.djn (r99.ltF.le (ntr (ntr (ntr (ntr (ntr (ntr (ntr (ntr e103.next e117.next) e130.next) e136.next) e145.next) e193.next) e208.next) e221.next) e380.next)))).frS e453 Dj.nil_l).ext e466).frS e472 (hb467.djn (r99.ltF.le (ntr (ntr (ntr (ntr (ntr (ntr (ntr (ntr (ntr (ntr (ntr (ntr (ntr e103.next e117.next) e130.next) e136.next) e145.next) e193.next) e208.next) e221.next) e380.next) e393.next) e399.next) e426.next) e439.next) e453.next))))
           refine s_ql (.slice a92 n93 c94) (x := aLoad Try.prog 22 (.pointer (some ⟨b95, 1, none⟩)) H470) (by kernel_rfl) (u508.ld (by kernel_rfl)) ?_
           obtain ⟨g509, r510⟩ := G_some r505
           have u518 := ((((((((((((((((u105.fr e103 (hb98.djn m85.lt)).fr e117 Dj.nil_l).ext e130).fr e136 (hb131.djn (m85.lt.le (ntr (ntr e97.next e103.next) e117.next)))).fr e145 Dj.nil_l).fr e193 Dj.nil_l).fr e208 Dj.nil_l).fr e221 Dj.nil_l).fr e380 Dj.nil_l).ext e393).fr e399 (hb394.djn (m85.lt.le (ntr (ntr (ntr (ntr (ntr (ntr (ntr (ntr (ntr e97.next e103.next) e117.next) e130.next) e136.next) e145.next) e193.next) e208.next) e221.next) e380.next)))).fr e426 Dj.nil_l).fr e439 (hb394.djn (m85.lt.le (ntr (ntr (ntr (ntr (ntr (ntr (ntr (ntr (ntr e97.next e103.next) e117.next) e130.next) e136.next) e145.next) e193.next) e208.next) e221.next) e380.next)))).fr e453 Dj.nil_l).ext e466).fr e472 (hb467.djn (m85.lt.le (ntr (ntr (ntr (ntr (ntr (ntr (ntr (ntr (ntr (ntr (ntr (ntr (ntr (ntr e97.next e103.next) e117.next) e130.next) e136.next) e145.next) e193.next) e208.next) e221.next) e380.next) e393.next) e399.next) e426.next) e439.next) e453.next))))
           obtain ⟨s511, H512, f513, q517, e514, hm515, hf516⟩ := Ow.append (P := Try.prog) 24 e472.wf (Ow.nil (enc := enc_i64_i64_i64) (sz := 3) (by decide)) u518.sq (fun _ _ => rfl) (at_ := #[22, 22]) rfl rfl (by kernel_rfl) (by kernel_rfl) (by decide) (by have := g509; first | omega | (simp only [List.length_cons, List.length_nil] at this ⊢; omega) | (simp at this ⊢; omega))
           obtain ⟨a519, n520, c521, rfl⟩ := hm515.form
           refine s_ek (.slice a519 n520 c521) (by kernel_rfl) (q517) ?_
           refine s_qk (.slice a519 n520 c521) (by kernel_rfl) ?_
           refine s_nil ?_
           refine k507 _ _ ?_
           refine w_seqk fun K523 k523 => ?_
           refine w_seqk fun K524 k524 => ?_
           refine w_reg (by kernel_rfl) ?_
           refine s_qk (.pointer (some ⟨b464, 1, none⟩)) (by kernel_rfl) ?_
           have u525 := (r473.frS e514 Dj.nil_l)
           refine s_ql (.slice a461 n462 c463) (x := aLoad Try.prog 22 (.pointer (some ⟨b464, 1, none⟩)) H512) (by kernel_rfl) (u525.ld (by kernel_rfl)) ?_
           have u526 := ((u474.fr e472 (hb467.djn m454.lt)).fr e514 Dj.nil_l)
           refine s_ql (.int .i64 (y445.2.1.length : Int)) (x := aLen Try.prog 22 (.slice a461 n462 c463) H512) (by kernel_rfl) (u526.sq.lenb (by kernel_rfl)) ?_
           refine s_qk (.int .i64 0) (by kernel_rfl) ?_
           refine s_nil ?_
           refine k524 _ _ ?_
           obtain ⟨o527, hx528, r529⟩ := bind_some r510
           refine w_mid (fun α H530 => ∃ (s534 : Value) (f535 : Fp), Has α [(13, .pointer (some ⟨b391, 0, none⟩)), (16, s534)] ∧ FrS [] H512 H530 ∧ Ow enc_i64_i64_i64 3 H530 s534 o527 f535 ∧ Inn f513 H512 f535) (fun K537 k537 => ?_) (fun α H530 hM => ?_)
           ·refine w_block ?_
            obtain ⟨n539, hn540⟩ := loopO_iff.1 hx528
            refine w_loopn (fun n α H541 => ∃ (i2 : Int), ∃ (both3 : List (Int × Int × Int)), ∃ (s545 : Value), ∃ (f546 : Fp), iterO (fun zz_ => z_viaductlaw04_NormalDistances_l2 y445 zz_.1 zz_.2) n (i2, both3) = some o527 ∧ Has α [(13, .pointer (some ⟨b391, 0, none⟩)), (16, s545), (144, .slice a461 n462 c463), (145, .int .i64 (y445.2.1.length : Int)), (146, .int .i64 i2)] ∧ FrS [] H512 H541 ∧ Ow enc_i64_i64_i64 3 H541 s545 both3 f546 ∧ Inn f513 H512 f546) n539 ⟨0, ([] ++ y76.2.1), (.slice a519 n520 c521), f513, hn540, ⟨by kernel_rfl, by kernel_rfl, by kernel_rfl, by kernel_rfl, by kernel_rfl, trivial⟩, (FrS.refl (W := []) e514.wf), hm515, Inn.refl'⟩ ?_
            rintro n539 α H541 ⟨i2, both3, s545, f546, hi549, hh548, e542, m544, i547⟩ K554 k554
            obtain ⟨n550, z551, rfl, hz552, hn553⟩ := iter_succ hi549
            obtain ⟨β, rfl⟩ := has_ex hh548
            clear hh548
            replace hz552 : z_viaductlaw04_NormalDistances_l2 y445 i2 both3 = some z551 := hz552
            unfold z_viaductlaw04_NormalDistances_l2 at hz552
            obtain ⟨a555, n556, c557, rfl⟩ := m544.form
            refine w_seqk fun K558 k558 => ?_
            refine w_reg (by kernel_rfl) ?_
            refine s_qk (.bool (decide (i2 < (y445.2.1.length : Int)))) (by kernel_rfl) ?_
            refine s_nil ?_
            refine k558 _ _ ?_
            refine w_seqk fun K559 k559 => ?_
            refine w_condp (i2 < (y445.2.1.length : Int)) (by kernel_rfl) rfl (fun h560 => ?_) (fun h560 => ?_)
            ·have r561 := ite_t h560 hz552
             refine w_skip ?_
             refine k559 _ _ ?_
             refine w_seqk fun K562 k562 => ?_
             refine w_block ?_
             refine w_seqk fun K563 k563 => ?_
             refine w_reg (by kernel_rfl) ?_
             obtain ⟨g564, r565⟩ := G_some r561
             have u566 := (u526.fr e542 Dj.nil_l)
             refine s_ql (elp (.slice a461 n462 c463) 3 i2.toNat 0) (x := aIndexAddr Try.prog 22 (.slice a461 n462 c463) (.int .i64 i2)) (by kernel_rfl) (u566.sq.idxb (by kernel_rfl) g564 h560) ?_
             refine s_ql (.agg #[.int .i64 ((gt y445.2.1 i2).1), .int .i64 ((gt y445.2.1 i2).2.1), .int .i64 ((gt y445.2.1 i2).2.2)]) (x := aLoad Try.prog 33 (elp (.slice a461 n462 c463) 3 i2.toNat 0) H541) (by kernel_rfl) (u566.sq.ld g564 h560 (by kernel_rfl)) ?_
             refine s_rwk e542.wf [.int .i64 0, .int .i64 0, .int .i64 0] (by kernel_rfl) fun b567 H568 e569 hb570 r571 => ?_
             obtain ⟨H573, q574, e575, r576⟩ := Row.store (P := Try.prog) (t := 33) (p := 0) e569.wf r571 (.agg #[.int .i64 ((gt y445.2.1 i2).1), .int .i64 ((gt y445.2.1 i2).2.1), .int .i64 ((gt y445.2.1 i2).2.2)]) [.int .i64 ((gt y445.2.1 i2).1), .int .i64 ((gt y445.2.1 i2).2.1), .int .i64 ((gt y445.2.1 i2).2.2)] (by kernel_rfl) (by kernel_rfl) (one_cons (rfl) (one_cons (rfl) (one_cons (rfl) (one_nil)))) (Nat.le_of_ble_eq_true (by kernel_rfl)) [.int .i64 ((gt y445.2.1 i2).1), .int .i64 ((gt y445.2.1 i2).2.1), .int .i64 ((gt y445.2.1 i2).2.2)] (by kernel_rfl)
             refine s_ek (undef) (by kernel_rfl) (map_ok q574) ?_
             refine s_nil ?_
             refine k563 _ _ ?_
             refine w_reg (by kernel_rfl) ?_
             refine s_qk (.slice a555 n556 c557) (by kernel_rfl) ?_
             refine s_ql (.agg #[.int .i64 ((gt y445.2.1 i2).1), .int .i64 ((gt y445.2.1 i2).2.1), .int .i64 ((gt y445.2.1 i2).2.2)]) (x := aLoad Try.prog 33 (.pointer (some ⟨b567, 0, none⟩)) H573) (by kernel_rfl) (r576.ld (by kernel_rfl)) ?_
             have u577 := ((m544.ext e569).fr e575 (hb570.djn m544.lt))
             obtain ⟨y578, hy579, r580⟩ := bind_some r565
             refine s_ck 26 #[.slice a555 n556 c557, .agg #[.int .i64 ((gt y445.2.1 i2).1), .int .i64 ((gt y445.2.1 i2).2.1), .int .i64 ((gt y445.2.1 i2).2.2)]] (by kernel_rfl) (c_viaductref04_Put e575.wf u577.sq hy579) ?_
             rintro s581 H583 ⟨_, f582, rfl, e584, m585, i586⟩
             obtain ⟨a588, n589, c590, rfl⟩ := m585.form
             refine s_qk (.slice a588 n589 c590) (by kernel_rfl) ?_
             refine s_nil ?_
             refine k562 _ _ ?_
             refine w_reg (by kernel_rfl) ?_
             obtain ⟨g591, r592⟩ := G_some r580
             refine s_w ((i2 + 1)) (k := .i64) (x := (i2 + 1)) (by kernel_rfl) (wrap64 (by have := g591; omega)) ?_
             refine s_qk (.int .i64 (i2 + 1)) (by kernel_rfl) ?_
             refine s_nil ?_
             obtain rfl := Option.some.inj r592
             exact k554 n550 _ _ (Nat.lt_succ_self _) ⟨(i2 + 1), y578, (.slice a588 n589 c590), f582, hn553, ⟨by kernel_rfl, by kernel_rfl, by kernel_rfl, by kernel_rfl, by kernel_rfl, trivial⟩, (FrS.step e514.wf (FrS.step e514.wf ((FrS.step e514.wf (FrS.refl (W := []) e514.wf) e542 Inn.nil).extR e569) e575 (hb570.fresh e542.next)) e584 Inn.nil), m585, (i586.fresh (ntr (ntr e542.next e569.next) e575.next))⟩
            ·have r593 := ite_f h560 hz552
             refine w_exit (th_exit (th_exit (bl_eq ?_)))
             obtain rfl := Option.some.inj r593
             obtain rfl := it_inr hn553
             exact k537 _ _ ⟨(.slice a555 n556 c557), f546, ⟨by kernel_rfl, by kernel_rfl, trivial⟩, (FrS.step e514.wf (FrS.refl (W := []) e514.wf) e542 Inn.nil), m544, (Inn.trans Inn.refl' (Nat.le_refl _) i547)⟩
           ·obtain ⟨s534, f535, hh538, e531, m533, i536⟩ := hM
            obtain ⟨β, rfl⟩ := has_ex hh538
            clear hh538
            obtain ⟨a594, n595, c596, rfl⟩ := m533.form
            refine k523 _ _ ?_
            refine w_seqk fun K597 k597 => ?_
            refine w_reg (by kernel_rfl) ?_
            refine s_qk (.pointer (some ⟨b391, 1, none⟩)) (by kernel_rfl) ?_
            have u598 := (((((r440.frS e453 Dj.nil_l).ext e466).frS e472 (hb467.djn (r395.ltF.le (ntr (ntr (ntr e399.next e426.next) e439.next) e453.next)))).frS e514 Dj.nil_l).frS e531 Dj.nil_l)
            refine s_ql (.slice a434 n435 c436) (x := aLoad Try.prog 22 (.pointer (some ⟨b391, 1, none⟩)) H530) (by kernel_rfl) (u598.ld (by kernel_rfl)) ?_
            refine s_qk (.slice a594 n595 c596) (by kernel_rfl) ?_
            have u599 := ((((((m427.fr e439 (Dj.symm (i429.djn (r395.ltF.le e399.next)))).fr e453 Dj.nil_l).ext e466).fr e472 (hb467.djn (m427.lt.le (ntr e439.next e453.next)))).fr e514 Dj.nil_l).fr e531 Dj.nil_l)
            obtain ⟨y600, hy601, r602⟩ := bind_some r529
            refine s_ck 27 #[.slice a434 n435 c436, .slice a594 n595 c596] (by kernel_rfl) (c_viaductref03_SameArcs e531.wf u599.sq m533.sq hy601) ?_
            rintro _ _ ⟨rfl, rfl⟩
            refine s_qk (.bool y600) (by kernel_rfl) ?_
            refine s_nil ?_
            refine k597 _ _ ?_
            refine w_ret ?_
            refine b_ret (fn := Try.f4) (vs := [.bool y600]) (aRes_tmp (by kernel_rfl) (rfl)) ?_
            obtain rfl := Option.some.inj r602
            exact ⟨rfl, (FrS.step wf (FrS.step wf (FrS.step wf ((FrS.step wf (FrS.step wf (FrS.step wf (FrS.step wf ((FrS.step wf (FrS.step wf (FrS.step wf (FrS.step wf (FrS.step wf (FrS.step wf ((FrS.step wf (FrS.step wf ((FrS.step wf (FrS.step wf (((FrS.refl (W := []) wf).extR e4).extR e10) e23 Inn.nil) e84 Inn.nil).extR e97) e103 (hb98.fresh (ntr (ntr (ntr e4.next e10.next) e23.next) e84.next))) e117 Inn.nil).extR e130) e136 (hb131.fresh (ntr (ntr (ntr (ntr (ntr (ntr e4.next e10.next) e23.next) e84.next) e97.next) e103.next) e117.next))) e145 Inn.nil) e193 Inn.nil) e208 Inn.nil) e221 Inn.nil) e380 Inn.nil).extR e393) e399 (hb394.fresh (ntr (ntr (ntr (ntr (ntr (ntr (ntr (ntr (ntr (ntr (ntr (ntr (ntr e4.next e10.next) e23.next) e84.next) e97.next) e103.next) e117.next) e130.next) e136.next) e145.next) e193.next) e208.next) e221.next) e380.next))) e426 Inn.nil) e439 (hb394.fresh (ntr (ntr (ntr (ntr (ntr (ntr (ntr (ntr (ntr (ntr (ntr (ntr (ntr e4.next e10.next) e23.next) e84.next) e97.next) e103.next) e117.next) e130.next) e136.next) e145.next) e193.next) e208.next) e221.next) e380.next))) e453 Inn.nil).extR e466) e472 (hb467.fresh (ntr (ntr (ntr (ntr (ntr (ntr (ntr (ntr (ntr (ntr (ntr (ntr (ntr (ntr (ntr (ntr (ntr (ntr e4.next e10.next) e23.next) e84.next) e97.next) e103.next) e117.next) e130.next) e136.next) e145.next) e193.next) e208.next) e221.next) e380.next) e393.next) e399.next) e426.next) e439.next) e453.next))) e514 Inn.nil) e531 Inn.nil)⟩


end Go.Vd
