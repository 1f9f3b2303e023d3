/- The walks of the functions (printed by a program of ours). -/
import Derived.Test.YtccnpeeakadnoaaPcm1
import Derived.Test.YtccnpeeakadnoaaVeC
import Derived.Test.YtccnpeeakadnoaaICm
import Derived.Test.YtccnpeeakadnoaaVeN
import Derived.Test.YtccnpeeakadnoaaVeM
import Derived.Test.YtccnpeeakadnoaaSoA
import Derived.Test.YtccnpeeakadnoaaVeV
set_option linter.unusedVariables false
set_option linter.unusedSimpArgs false
set_option linter.unusedSectionVars false
/-! (KCm3) -/

set_option maxRecDepth 100000
set_option maxHeartbeats 4000000
set_option linter.unusedVariables false
namespace Go.Vd
open Go.Proofs
attribute [local irreducible] wpSeq wpOrd aWp
theorem c_viaductref03_DocCheck {H : AH} {hd_Arcs : Value} {fp_Arcs : Fp} {N_ : Int} {Arcs : List (Int × Int × Int)} {r : Int × List (Int × Int)}
  (wf : WF H) (h_Arcs : Sq enc_i64_i64_i64 3 H hd_Arcs Arcs fp_Arcs) (hr : z_viaductref03_DocCheck N_ Arcs = some r) :
  ACalls Try.prog 81 #[.agg #[.int .i64 N_, hd_Arcs]] H fun v H' => ∃ (s3 : Value) (f4 : Fp), v = .agg #[.int .i64 r.1, s3] ∧ FrS [] H H' ∧ Ow enc_i64_i64 2 H' s3 r.2 f4 ∧ Inn [] H f4 := by
 refine acalls_of_body mixed Try.func81 rfl (Nat.le_of_ble_eq_true rfl) ?_
 unfold z_viaductref03_DocCheck at hr
 refine w_seqk fun K6 k6 => ?_
 refine w_reg (by kernel_rfl) ?_
 refine s_rwl wf [.int .i64 N_, hd_Arcs] (one_cons (rfl) (one_cons (h_Arcs.one1) (one_nil))) (by kernel_rfl) fun b7 H8 e9 hb10 r11 => ?_
 refine s_rwk e9.wf [.int .i64 0, .slice none 0 0] (by kernel_rfl) fun b13 H14 e15 hb16 r17 => ?_
 refine s_nil ?_
 refine k6 _ _ ?_
 refine w_seqk fun K19 k19 => ?_
 refine w_seqk fun K20 k20 => ?_
 obtain ⟨o21, hx22, r23⟩ := bind_some hr
 refine w_mid (fun α H24 => Has α [(1, .pointer (some ⟨b7, 0, none⟩)), (2, .pointer (some ⟨b13, 0, none⟩)), (18, .bool o21)] ∧ H14 = H24) (fun K26 k26 => ?_) (fun α H24 hM => ?_)
 ·refine w_reg (by kernel_rfl) ?_
  refine s_qk (.pointer (some ⟨b7, 0, none⟩)) (by kernel_rfl) ?_
  have u28 := (r11.ext e15)
  refine s_ql (.int .i64 N_) (x := aLoad Try.prog 3 (.pointer (some ⟨b7, 0, none⟩)) H14) (by kernel_rfl) (u28.ld (by kernel_rfl)) ?_
  refine s_b (N_ < 0) (by kernel_rfl) (fun h29 => ?_) (fun h29 => ?_)
  ·have r30 := ite_t h29 hx22
   refine s_qk (.bool true) (by kernel_rfl) ?_
   refine s_no (by kernel_rfl) ?_
   refine s_no (by kernel_rfl) ?_
   refine s_no (by kernel_rfl) ?_
   refine s_qk (.bool true) (by kernel_rfl) ?_
   refine s_qk (.bool true) (by kernel_rfl) ?_
   refine s_no (by kernel_rfl) ?_
   refine s_no (by kernel_rfl) ?_
   refine s_no (by kernel_rfl) ?_
   refine s_no (by kernel_rfl) ?_
   refine s_qk (.bool true) (by kernel_rfl) ?_
   refine s_nil ?_
   obtain rfl := Option.some.inj r30
   exact k26 _ _ ⟨⟨by kernel_rfl, by kernel_rfl, by kernel_rfl, trivial⟩, rfl⟩
  ·have r31 := ite_f h29 hx22
   refine s_qk (.bool false) (by kernel_rfl) ?_
   refine s_qk (.pointer (some ⟨b7, 0, none⟩)) (by kernel_rfl) ?_
   refine s_ql (.int .i64 N_) (x := aLoad Try.prog 3 (.pointer (some ⟨b7, 0, none⟩)) H14) (by kernel_rfl) (u28.ld (by kernel_rfl)) ?_
   refine s_b (N_ > 65536) (by kernel_rfl) (fun h32 => ?_) (fun h32 => ?_)
   ·have r33 := ite_t h32 r31
    refine s_qk (.bool true) (by kernel_rfl) ?_
    refine s_qk (.bool true) (by kernel_rfl) ?_
    refine s_no (by kernel_rfl) ?_
    refine s_no (by kernel_rfl) ?_
    refine s_no (by kernel_rfl) ?_
    refine s_no (by kernel_rfl) ?_
    refine s_qk (.bool true) (by kernel_rfl) ?_
    refine s_nil ?_
    obtain rfl := Option.some.inj r33
    exact k26 _ _ ⟨⟨by kernel_rfl, by kernel_rfl, by kernel_rfl, trivial⟩, rfl⟩
   ·have r34 := ite_f h32 r31
    refine s_qk (.bool false) (by kernel_rfl) ?_
    refine s_qk (.bool false) (by kernel_rfl) ?_
    refine s_qk (.pointer (some ⟨b7, 1, none⟩)) (by kernel_rfl) ?_
    refine s_ql (hd_Arcs) (x := aLoad Try.prog 57 (.pointer (some ⟨b7, 1, none⟩)) H14) (by kernel_rfl) (u28.ld (by kernel_rfl)) ?_
    have u35 := ((h_Arcs.ext e9).ext e15)
    refine s_ql (.int .i64 (Arcs.length : Int)) (x := aLen Try.prog 57 hd_Arcs H14) (by kernel_rfl) (u35.lenb (by kernel_rfl)) ?_
    refine s_qk (.bool (decide ((Arcs.length : Int) > 262144))) (by kernel_rfl) ?_
    refine s_qk (.bool (decide ((Arcs.length : Int) > 262144))) (by kernel_rfl) ?_
    refine s_nil ?_
    obtain rfl := Option.some.inj r34
    exact k26 _ _ ⟨⟨by kernel_rfl, by kernel_rfl, by kernel_rfl, trivial⟩, rfl⟩
 ·obtain ⟨hh27, rfl⟩ := hM
  obtain ⟨β, rfl⟩ := has_ex hh27
  clear hh27
  refine k20 _ _ ?_
  refine w_cond (o21) (by kernel_rfl) rfl (fun h36 => ?_) (fun h36 => ?_)
  ·have r37 := ite_t h36 r23
   refine w_seqk fun K38 k38 => ?_
   refine w_reg (by kernel_rfl) ?_
   obtain ⟨y39, hy40, r41⟩ := bind_some r37
   refine s_ck 70 #[.int .i64 9] (by kernel_rfl) (c_viaductref01_E e15.wf hy40) ?_
   rintro _ H42 ⟨rfl, e43⟩
   have u48 := (r17.frS e43 Dj.nil_l)
   obtain ⟨H44, q45, e46, r47⟩ := Row.store (P := Try.prog) (t := 46) (p := 0) e43.wf u48 (.agg #[.int .i64 y39, .slice none 0 0]) [.int .i64 y39, .slice none 0 0] (by kernel_rfl) (by kernel_rfl) (one_cons (rfl) (one_cons (rfl) (one_nil))) (Nat.le_of_ble_eq_true (by kernel_rfl)) [.int .i64 y39, .slice none 0 0] (by kernel_rfl)
   refine s_ek (undef) (by kernel_rfl) (map_ok q45) ?_
   refine s_nil ?_
   refine k38 _ _ ?_
   refine w_ret (th_ret ?_)
   refine b_ret (fn := Try.f81) (vs := [.agg #[.int .i64 y39, .slice none 0 0]]) (aRes_cell (Eq.trans (b := aLoad Try.prog 46 (.pointer (some ⟨b13, 0, none⟩)) H44) (by kernel_rfl) (r47.ld (by kernel_rfl))) (rfl)) ?_
   obtain rfl := Option.some.inj r41
   exact ⟨(.slice none 0 0), [], rfl, (FrS.step wf (FrS.step wf (((FrS.refl (W := []) wf).extR e9).extR e15) e43 Inn.nil) e46 (hb16.fresh e9.next)), (Ow.nil (by decide)), Inn.nil⟩
  ·have r49 := ite_bf h36 r23
   refine w_skip ?_
   refine k19 _ _ ?_
   refine w_seqk fun K50 k50 => ?_
   refine w_seqk fun K51 k51 => ?_
   refine w_reg (by kernel_rfl) ?_
   refine s_qk (.pointer (some ⟨b7, 1, none⟩)) (by kernel_rfl) ?_
   have u52 := (r11.ext e15)
   refine s_ql (hd_Arcs) (x := aLoad Try.prog 57 (.pointer (some ⟨b7, 1, none⟩)) H14) (by kernel_rfl) (u52.ld (by kernel_rfl)) ?_
   have u53 := ((h_Arcs.ext e9).ext e15)
   refine s_ql (.int .i64 (Arcs.length : Int)) (x := aLen Try.prog 57 hd_Arcs H14) (by kernel_rfl) (u53.lenb (by kernel_rfl)) ?_
   refine s_qk (.int .i64 0) (by kernel_rfl) ?_
   refine s_nil ?_
   refine k51 _ _ ?_
   obtain ⟨z57, hx55, r56⟩ := bind_some r49
   refine w_mid (fun α H58 => ∃ o54, z57 = Sum.inr o54 ∧ Has α [(2, .pointer (some ⟨b13, 0, none⟩))] ∧ FrS [] H14 H58) (fun K60 k60 => ?_) (fun α H58 hM => ?_)
   ·refine w_block ?_
    obtain ⟨n62, hn63⟩ := loopO_iff.1 hx55
    refine w_loopn (fun n α H64 => ∃ (i0 : Int), iterO (fun zz_ => z_viaductref03_DocCheck_l0 N_ Arcs zz_) n i0 = some z57 ∧ Has α [(1, .pointer (some ⟨b7, 0, none⟩)), (2, .pointer (some ⟨b13, 0, none⟩)), (21, hd_Arcs), (22, .int .i64 (Arcs.length : Int)), (23, .int .i64 i0)] ∧ FrS [] H14 H64) n62 ⟨0, hn63, ⟨by kernel_rfl, by kernel_rfl, by kernel_rfl, by kernel_rfl, by kernel_rfl, trivial⟩, (FrS.refl (W := []) e15.wf)⟩ ?_
    rintro n62 α H64 ⟨i0, hi67, hh66, e65⟩ K72 k72
    obtain ⟨n68, z69, rfl, hz70, hn71⟩ := iter_succ hi67
    obtain ⟨β, rfl⟩ := has_ex hh66
    clear hh66
    replace hz70 : z_viaductref03_DocCheck_l0 N_ Arcs i0 = some z69 := hz70
    unfold z_viaductref03_DocCheck_l0 at hz70
    refine w_seqk fun K73 k73 => ?_
    refine w_reg (by kernel_rfl) ?_
    refine s_qk (.bool (decide (i0 < (Arcs.length : Int)))) (by kernel_rfl) ?_
    refine s_nil ?_
    refine k73 _ _ ?_
    refine w_seqk fun K74 k74 => ?_
    refine w_condp (i0 < (Arcs.length : Int)) (by kernel_rfl) rfl (fun h75 => ?_) (fun h75 => ?_)
    ·have r76 := ite_t h75 hz70
     refine w_skip ?_
     refine k74 _ _ ?_
     refine w_seqk fun K77 k77 => ?_
     refine w_block ?_
     refine w_seqk fun K78 k78 => ?_
     refine w_reg (by kernel_rfl) ?_
     refine s_qk (.int .i64 i0) (by kernel_rfl) ?_
     obtain ⟨g79, r80⟩ := G_some r76
     have u81 := (u53.fr e65 Dj.nil_l)
     refine s_ql (elp hd_Arcs 3 i0.toNat 0) (x := aIndexAddr Try.prog 57 hd_Arcs (.int .i64 i0)) (by kernel_rfl) (u81.idxb (by kernel_rfl) g79 h75) ?_
     refine s_ql (.agg #[.int .i64 ((gt Arcs i0).1), .int .i64 ((gt Arcs i0).2.1), .int .i64 ((gt Arcs i0).2.2)]) (x := aLoad Try.prog 73 (elp hd_Arcs 3 i0.toNat 0) H64) (by kernel_rfl) (u81.ld g79 h75 (by kernel_rfl)) ?_
     refine s_rwk e65.wf [.int .i64 0, .int .i64 0, .int .i64 0] (by kernel_rfl) fun b82 H83 e84 hb85 r86 => ?_
     refine s_qk (.int .i64 i0) (by kernel_rfl) ?_
     obtain ⟨H88, q89, e90, r91⟩ := Row.store (P := Try.prog) (t := 73) (p := 0) e84.wf r86 (.agg #[.int .i64 ((gt Arcs i0).1), .int .i64 ((gt Arcs i0).2.1), .int .i64 ((gt Arcs i0).2.2)]) [.int .i64 ((gt Arcs i0).1), .int .i64 ((gt Arcs i0).2.1), .int .i64 ((gt Arcs i0).2.2)] (by kernel_rfl) (by kernel_rfl) (one_cons (rfl) (one_cons (rfl) (one_cons (rfl) (one_nil)))) (Nat.le_of_ble_eq_true (by kernel_rfl)) [.int .i64 ((gt Arcs i0).1), .int .i64 ((gt Arcs i0).2.1), .int .i64 ((gt Arcs i0).2.2)] (by kernel_rfl)
     refine s_ek (undef) (by kernel_rfl) (map_ok q89) ?_
     refine s_nil ?_
     refine k78 _ _ ?_
     refine w_seqk fun K92 k92 => ?_
     refine w_seqk fun K93 k93 => ?_
     obtain ⟨o94, hx95, r96⟩ := bind_some r80
     refine w_mid (fun α H97 => Has α [(1, .pointer (some ⟨b7, 0, none⟩)), (2, .pointer (some ⟨b13, 0, none⟩)), (3, .int .i64 i0), (4, .pointer (some ⟨b82, 0, none⟩)), (21, hd_Arcs), (22, .int .i64 (Arcs.length : Int)), (23, .int .i64 i0), (49, .bool o94)] ∧ H88 = H97) (fun K99 k99 => ?_) (fun α H97 hM => ?_)
     ·refine w_reg (by kernel_rfl) ?_
      refine s_qk (.pointer (some ⟨b82, 0, none⟩)) (by kernel_rfl) ?_
      refine s_ql (.int .i64 ((gt Arcs i0).1)) (x := aLoad Try.prog 3 (.pointer (some ⟨b82, 0, none⟩)) H88) (by kernel_rfl) (r91.ld (by kernel_rfl)) ?_
      refine s_b (((gt Arcs i0).1) < 0) (by kernel_rfl) (fun h101 => ?_) (fun h101 => ?_)
      ·have r102 := ite_t h101 hx95
       refine s_qk (.bool true) (by kernel_rfl) ?_
       refine s_no (by kernel_rfl) ?_
       refine s_no (by kernel_rfl) ?_
       refine s_no (by kernel_rfl) ?_
       refine s_no (by kernel_rfl) ?_
       refine s_no (by kernel_rfl) ?_
       refine s_qk (.bool true) (by kernel_rfl) ?_
       refine s_qk (.bool true) (by kernel_rfl) ?_
       refine s_no (by kernel_rfl) ?_
       refine s_no (by kernel_rfl) ?_
       refine s_no (by kernel_rfl) ?_
       refine s_qk (.bool true) (by kernel_rfl) ?_
       refine s_qk (.bool true) (by kernel_rfl) ?_
       refine s_no (by kernel_rfl) ?_
       refine s_no (by kernel_rfl) ?_
       refine s_no (by kernel_rfl) ?_
       refine s_no (by kernel_rfl) ?_
       refine s_no (by kernel_rfl) ?_
       refine s_qk (.bool true) (by kernel_rfl) ?_
       refine s_nil ?_
       obtain rfl := Option.some.inj r102
       exact k99 _ _ ⟨⟨by kernel_rfl, by kernel_rfl, by kernel_rfl, by kernel_rfl, by kernel_rfl, by kernel_rfl, by kernel_rfl, by kernel_rfl, trivial⟩, rfl⟩
      ·have r103 := ite_f h101 hx95
       refine s_qk (.bool false) (by kernel_rfl) ?_
       refine s_qk (.pointer (some ⟨b82, 0, none⟩)) (by kernel_rfl) ?_
       refine s_ql (.int .i64 ((gt Arcs i0).1)) (x := aLoad Try.prog 3 (.pointer (some ⟨b82, 0, none⟩)) H88) (by kernel_rfl) (r91.ld (by kernel_rfl)) ?_
       refine s_qk (.pointer (some ⟨b7, 0, none⟩)) (by kernel_rfl) ?_
       have u104 := (((u52.frS e65 Dj.nil_l).ext e84).frS e90 (hb85.djn (r11.ltF.le (ntr e15.next e65.next))))
       refine s_ql (.int .i64 N_) (x := aLoad Try.prog 3 (.pointer (some ⟨b7, 0, none⟩)) H88) (by kernel_rfl) (u104.ld (by kernel_rfl)) ?_
       refine s_b (((gt Arcs i0).1) ≥ N_) (by kernel_rfl) (fun h105 => ?_) (fun h105 => ?_)
       ·have r106 := ite_t h105 r103
        refine s_qk (.bool true) (by kernel_rfl) ?_
        refine s_qk (.bool true) (by kernel_rfl) ?_
        refine s_no (by kernel_rfl) ?_
        refine s_no (by kernel_rfl) ?_
        refine s_no (by kernel_rfl) ?_
        refine s_qk (.bool true) (by kernel_rfl) ?_
        refine s_qk (.bool true) (by kernel_rfl) ?_
        refine s_no (by kernel_rfl) ?_
        refine s_no (by kernel_rfl) ?_
        refine s_no (by kernel_rfl) ?_
        refine s_no (by kernel_rfl) ?_
        refine s_no (by kernel_rfl) ?_
        refine s_qk (.bool true) (by kernel_rfl) ?_
        refine s_nil ?_
        obtain rfl := Option.some.inj r106
        exact k99 _ _ ⟨⟨by kernel_rfl, by kernel_rfl, by kernel_rfl, by kernel_rfl, by kernel_rfl, by kernel_rfl, by kernel_rfl, by kernel_rfl, trivial⟩, rfl⟩
       ·have r107 := ite_f h105 r103
        refine s_qk (.bool false) (by kernel_rfl) ?_
        refine s_qk (.bool false) (by kernel_rfl) ?_
        refine s_qk (.pointer (some ⟨b82, 1, none⟩)) (by kernel_rfl) ?_
        refine s_ql (.int .i64 ((gt Arcs i0).2.1)) (x := aLoad Try.prog 3 (.pointer (some ⟨b82, 1, none⟩)) H88) (by kernel_rfl) (r91.ld (by kernel_rfl)) ?_
        refine s_b (((gt Arcs i0).2.1) < 0) (by kernel_rfl) (fun h108 => ?_) (fun h108 => ?_)
        ·have r109 := ite_t h108 r107
         refine s_qk (.bool true) (by kernel_rfl) ?_
         refine s_qk (.bool true) (by kernel_rfl) ?_
         refine s_no (by kernel_rfl) ?_
         refine s_no (by kernel_rfl) ?_
         refine s_no (by kernel_rfl) ?_
         refine s_no (by kernel_rfl) ?_
         refine s_no (by kernel_rfl) ?_
         refine s_qk (.bool true) (by kernel_rfl) ?_
         refine s_nil ?_
         obtain rfl := Option.some.inj r109
         exact k99 _ _ ⟨⟨by kernel_rfl, by kernel_rfl, by kernel_rfl, by kernel_rfl, by kernel_rfl, by kernel_rfl, by kernel_rfl, by kernel_rfl, trivial⟩, rfl⟩
        ·have r110 := ite_f h108 r107
         refine s_qk (.bool false) (by kernel_rfl) ?_
         refine s_qk (.bool false) (by kernel_rfl) ?_
         refine s_qk (.pointer (some ⟨b82, 1, none⟩)) (by kernel_rfl) ?_
         refine s_ql (.int .i64 ((gt Arcs i0).2.1)) (x := aLoad Try.prog 3 (.pointer (some ⟨b82, 1, none⟩)) H88) (by kernel_rfl) (r91.ld (by kernel_rfl)) ?_
         refine s_qk (.pointer (some ⟨b7, 0, none⟩)) (by kernel_rfl) ?_
         refine s_ql (.int .i64 N_) (x := aLoad Try.prog 3 (.pointer (some ⟨b7, 0, none⟩)) H88) (by kernel_rfl) (u104.ld (by kernel_rfl)) ?_
         refine s_qk (.bool (decide (((gt Arcs i0).2.1) ≥ N_))) (by kernel_rfl) ?_
         refine s_qk (.bool (decide (((gt Arcs i0).2.1) ≥ N_))) (by kernel_rfl) ?_
         refine s_nil ?_
         obtain rfl := Option.some.inj r110
         exact k99 _ _ ⟨⟨by kernel_rfl, by kernel_rfl, by kernel_rfl, by kernel_rfl, by kernel_rfl, by kernel_rfl, by kernel_rfl, by kernel_rfl, trivial⟩, rfl⟩
     ·obtain ⟨hh100, rfl⟩ := hM
      obtain ⟨β, rfl⟩ := has_ex hh100
      clear hh100
      refine k93 _ _ ?_
      refine w_cond (o94) (by kernel_rfl) rfl (fun h111 => ?_) (fun h111 => ?_)
      ·have r112 := ite_t h111 r96
       refine w_seqk fun K113 k113 => ?_
       refine w_reg (by kernel_rfl) ?_
       refine s_qk (.int .i64 i0) (by kernel_rfl) ?_
       obtain ⟨y114, hy115, r116⟩ := bind_some r112
       refine s_ck 70 #[.int .i64 7] (by kernel_rfl) (c_viaductref01_E e90.wf hy115) ?_
       rintro _ H117 ⟨rfl, e118⟩
       obtain ⟨y119, hy120, r121⟩ := bind_some r116
       refine s_ck 111 #[.int .i64 4, .int .i64 i0, .agg #[.int .i64 y114, .slice none 0 0]] (by kernel_rfl) (c_viaductref01_At e118.wf (Sq.nil (enc := enc_i64_i64) (sz := 2) (by decide)) hy120) ?_
       rintro _ H124 ⟨s122, f123, rfl, e125, m126, i127⟩
       obtain ⟨a129, n130, c131, rfl⟩ := m126.form
       have u136 := (((((r17.frS e65 Dj.nil_l).ext e84).frS e90 (hb85.djn (r17.ltF.le e65.next))).frS e118 Dj.nil_l).frS e125 Dj.nil_l)
       obtain ⟨H132, q133, e134, r135⟩ := Row.store (P := Try.prog) (t := 46) (p := 0) e125.wf u136 (.agg #[.int .i64 y119.1, .slice a129 n130 c131]) [.int .i64 y119.1, .slice a129 n130 c131] (by kernel_rfl) (by kernel_rfl) (one_cons (rfl) (one_cons (m126.one1) (one_nil))) (Nat.le_of_ble_eq_true (by kernel_rfl)) [.int .i64 y119.1, .slice a129 n130 c131] (by kernel_rfl)
       refine s_ek (undef) (by kernel_rfl) (map_ok q133) ?_
       refine s_nil ?_
       refine k113 _ _ ?_
       refine w_ret (th_ret (bl_ret (th_ret (th_ret (bl_ret (th_ret (th_ret ?_)))))))
       obtain ⟨v137, hv138, hz139⟩ := map_some r121
       subst hz139
       obtain rfl := it_inr hn71
       have hq140 := elim_inl r56
       rw [hq140] at hv138
       refine b_ret (fn := Try.f81) (vs := [.agg #[.int .i64 y119.1, .slice a129 n130 c131]]) (aRes_cell (Eq.trans (b := aLoad Try.prog 46 (.pointer (some ⟨b13, 0, none⟩)) H132) (by kernel_rfl) (r135.ld (by kernel_rfl))) (rfl)) ?_
       have u141 := (m126.fr e134 (Dj.symm (i127.djn (r17.ltF.le (ntr (ntr (ntr e65.next e84.next) e90.next) e118.next)))))
       obtain rfl := Option.some.inj hv138
       exact ⟨(.slice a129 n130 c131), f123, rfl, (FrS.step wf (FrS.step wf (FrS.step wf (FrS.step wf ((FrS.step wf (((FrS.refl (W := []) wf).extR e9).extR e15) e65 Inn.nil).extR e84) e90 (hb85.fresh (ntr (ntr e9.next e15.next) e65.next))) e118 Inn.nil) e125 Inn.nil) e134 (hb16.fresh e9.next)), u141, (i127.fresh (ntr (ntr (ntr (ntr (ntr e9.next e15.next) e65.next) e84.next) e90.next) e118.next))⟩
      ·have r142 := ite_bf h111 r96
       refine w_skip ?_
       refine k92 _ _ ?_
       refine w_seqk fun K143 k143 => ?_
       obtain ⟨o144, hx145, r146⟩ := bind_some r142
       refine w_mid (fun α H147 => Has α [(1, .pointer (some ⟨b7, 0, none⟩)), (2, .pointer (some ⟨b13, 0, none⟩)), (3, .int .i64 i0), (21, hd_Arcs), (22, .int .i64 (Arcs.length : Int)), (23, .int .i64 i0), (60, .bool o144)] ∧ H88 = H147) (fun K149 k149 => ?_) (fun α H147 hM => ?_)
       ·refine w_reg (by kernel_rfl) ?_
        refine s_qk (.pointer (some ⟨b82, 2, none⟩)) (by kernel_rfl) ?_
        refine s_ql (.int .i64 ((gt Arcs i0).2.2)) (x := aLoad Try.prog 3 (.pointer (some ⟨b82, 2, none⟩)) H88) (by kernel_rfl) (r91.ld (by kernel_rfl)) ?_
        refine s_b (((gt Arcs i0).2.2) < 0) (by kernel_rfl) (fun h151 => ?_) (fun h151 => ?_)
        ·have r152 := ite_t h151 hx145
         refine s_qk (.bool true) (by kernel_rfl) ?_
         refine s_no (by kernel_rfl) ?_
         refine s_no (by kernel_rfl) ?_
         refine s_no (by kernel_rfl) ?_
         refine s_qk (.bool true) (by kernel_rfl) ?_
         refine s_nil ?_
         obtain rfl := Option.some.inj r152
         exact k149 _ _ ⟨⟨by kernel_rfl, by kernel_rfl, by kernel_rfl, by kernel_rfl, by kernel_rfl, by kernel_rfl, by kernel_rfl, trivial⟩, rfl⟩
        ·have r153 := ite_f h151 hx145
         refine s_qk (.bool false) (by kernel_rfl) ?_
         refine s_qk (.pointer (some ⟨b82, 2, none⟩)) (by kernel_rfl) ?_
         refine s_ql (.int .i64 ((gt Arcs i0).2.2)) (x := aLoad Try.prog 3 (.pointer (some ⟨b82, 2, none⟩)) H88) (by kernel_rfl) (r91.ld (by kernel_rfl)) ?_
         refine s_qk (.bool (decide (((gt Arcs i0).2.2) > 2147483647))) (by kernel_rfl) ?_
         refine s_qk (.bool (decide (((gt Arcs i0).2.2) > 2147483647))) (by kernel_rfl) ?_
         refine s_nil ?_
         obtain rfl := Option.some.inj r153
         exact k149 _ _ ⟨⟨by kernel_rfl, by kernel_rfl, by kernel_rfl, by kernel_rfl, by kernel_rfl, by kernel_rfl, by kernel_rfl, trivial⟩, rfl⟩
       ·obtain ⟨hh150, rfl⟩ := hM
        obtain ⟨β, rfl⟩ := has_ex hh150
        clear hh150
        refine k143 _ _ ?_
        refine w_cond (o144) (by kernel_rfl) rfl (fun h154 => ?_) (fun h154 => ?_)
        ·have r155 := ite_t h154 r146
         refine w_seqk fun K156 k156 => ?_
         refine w_reg (by kernel_rfl) ?_
         refine s_qk (.int .i64 i0) (by kernel_rfl) ?_
         obtain ⟨y157, hy158, r159⟩ := bind_some r155
         refine s_ck 70 #[.int .i64 8] (by kernel_rfl) (c_viaductref01_E e90.wf hy158) ?_
         rintro _ H160 ⟨rfl, e161⟩
         obtain ⟨y162, hy163, r164⟩ := bind_some r159
         refine s_ck 111 #[.int .i64 4, .int .i64 i0, .agg #[.int .i64 y157, .slice none 0 0]] (by kernel_rfl) (c_viaductref01_At e161.wf (Sq.nil (enc := enc_i64_i64) (sz := 2) (by decide)) hy163) ?_
         rintro _ H167 ⟨s165, f166, rfl, e168, m169, i170⟩
         obtain ⟨a172, n173, c174, rfl⟩ := m169.form
         have u179 := (((((r17.frS e65 Dj.nil_l).ext e84).frS e90 (hb85.djn (r17.ltF.le e65.next))).frS e161 Dj.nil_l).frS e168 Dj.nil_l)
         obtain ⟨H175, q176, e177, r178⟩ := Row.store (P := Try.prog) (t := 46) (p := 0) e168.wf u179 (.agg #[.int .i64 y162.1, .slice a172 n173 c174]) [.int .i64 y162.1, .slice a172 n173 c174] (by kernel_rfl) (by kernel_rfl) (one_cons (rfl) (one_cons (m169.one1) (one_nil))) (Nat.le_of_ble_eq_true (by kernel_rfl)) [.int .i64 y162.1, .slice a172 n173 c174] (by kernel_rfl)
         refine s_ek (undef) (by kernel_rfl) (map_ok q176) ?_
         refine s_nil ?_
         refine k156 _ _ ?_
         refine w_ret (bl_ret (th_ret (th_ret (bl_ret (th_ret (th_ret ?_))))))
         obtain ⟨v180, hv181, hz182⟩ := map_some r164
         subst hz182
         obtain rfl := it_inr hn71
         have hq183 := elim_inl r56
         rw [hq183] at hv181
         refine b_ret (fn := Try.f81) (vs := [.agg #[.int .i64 y162.1, .slice a172 n173 c174]]) (aRes_cell (Eq.trans (b := aLoad Try.prog 46 (.pointer (some ⟨b13, 0, none⟩)) H175) (by kernel_rfl) (r178.ld (by kernel_rfl))) (rfl)) ?_
         have u184 := (m169.fr e177 (Dj.symm (i170.djn (r17.ltF.le (ntr (ntr (ntr e65.next e84.next) e90.next) e161.next)))))
         obtain rfl := Option.some.inj hv181
         exact ⟨(.slice a172 n173 c174), f166, rfl, (FrS.step wf (FrS.step wf (FrS.step wf (FrS.step wf ((FrS.step wf (((FrS.refl (W := []) wf).extR e9).extR e15) e65 Inn.nil).extR e84) e90 (hb85.fresh (ntr (ntr e9.next e15.next) e65.next))) e161 Inn.nil) e168 Inn.nil) e177 (hb16.fresh e9.next)), u184, (i170.fresh (ntr (ntr (ntr (ntr (ntr e9.next e15.next) e65.next) e84.next) e90.next) e161.next))⟩
        ·have r185 := ite_bf h154 r146
         refine w_skip ?_
         refine k77 _ _ ?_
         refine w_reg (by kernel_rfl) ?_
         obtain ⟨g186, r187⟩ := G_some r185
         refine s_w ((i0 + 1)) (k := .i64) (x := (i0 + 1)) (by kernel_rfl) (wrap64 (by have := g186; omega)) ?_
         refine s_qk (.int .i64 (i0 + 1)) (by kernel_rfl) ?_
         refine s_nil ?_
         obtain rfl := Option.some.inj r187
         exact k72 n68 _ _ (Nat.lt_succ_self _) ⟨(i0 + 1), hn71, ⟨by kernel_rfl, by kernel_rfl, by kernel_rfl, by kernel_rfl, by kernel_rfl, trivial⟩, (FrS.step e15.wf ((FrS.step e15.wf (FrS.refl (W := []) e15.wf) e65 Inn.nil).extR e84) e90 (hb85.fresh e65.next))⟩
    ·have r188 := ite_f h75 hz70
     refine w_exit (th_exit (th_exit (bl_eq ?_)))
     obtain rfl := Option.some.inj r188
     obtain rfl := it_inr hn71
     exact k60 _ _ ⟨_, rfl, ⟨by kernel_rfl, trivial⟩, (FrS.step e15.wf (FrS.refl (W := []) e15.wf) e65 Inn.nil)⟩
   ·obtain ⟨o54, rfl, hh61, e59⟩ := hM
    have r189 := elim_inr r56
    obtain ⟨β, rfl⟩ := has_ex hh61
    clear hh61
    refine k50 _ _ ?_
    refine w_seqk fun K190 k190 => ?_
    refine w_reg (by kernel_rfl) ?_
    refine s_qk (.agg #[.int .i64 0, .slice none 0 0]) (by kernel_rfl) ?_
    have u195 := (r17.frS e59 Dj.nil_l)
    obtain ⟨H191, q192, e193, r194⟩ := Row.store (P := Try.prog) (t := 46) (p := 0) e59.wf u195 (.agg #[.int .i64 0, .slice none 0 0]) [.int .i64 0, .slice none 0 0] (by kernel_rfl) (by kernel_rfl) (one_cons (rfl) (one_cons (rfl) (one_nil))) (Nat.le_of_ble_eq_true (by kernel_rfl)) [.int .i64 0, .slice none 0 0] (by kernel_rfl)
    refine s_ek (undef) (by kernel_rfl) (map_ok q192) ?_
    refine s_nil ?_
    refine k190 _ _ ?_
    refine w_ret ?_
    refine b_ret (fn := Try.f81) (vs := [.agg #[.int .i64 0, .slice none 0 0]]) (aRes_cell (Eq.trans (b := aLoad Try.prog 46 (.pointer (some ⟨b13, 0, none⟩)) H191) (by kernel_rfl) (r194.ld (by kernel_rfl))) (rfl)) ?_
    obtain rfl := Option.some.inj r189
    exact ⟨(.slice none 0 0), [], rfl, (FrS.step wf (FrS.step wf (((FrS.refl (W := []) wf).extR e9).extR e15) e59 Inn.nil) e193 (hb16.fresh e9.next)), (Ow.nil (by decide)), Inn.nil⟩

theorem c_viaductref01_Err_Bad {H : AH} {hd_Places : Value} {fp_Places : Fp} {Code : Int} {Places : List (Int × Int)} {r : Bool}
  (wf : WF H) (h_Places : Sq enc_i64_i64 2 H hd_Places Places fp_Places) (hr : z_viaductref01_Err_Bad Code Places = some r) :
  ACalls Try.prog 56 #[.agg #[.int .i64 Code, hd_Places]] H fun v H' => v = .bool r ∧ FrS [] H H' := by
 refine acalls_of_body mixed Try.func56 rfl (Nat.le_of_ble_eq_true rfl) ?_
 unfold z_viaductref01_Err_Bad at hr
 refine w_seqk fun K1 k1 => ?_
 refine w_reg (by kernel_rfl) ?_
 refine s_rwl wf [.int .i64 Code, hd_Places] (one_cons (rfl) (one_cons (h_Places.one1) (one_nil))) (by kernel_rfl) fun b2 H3 e4 hb5 r6 => ?_
 refine s_qk (.bool false) (by kernel_rfl) ?_
 refine s_nil ?_
 refine k1 _ _ ?_
 refine w_seqk fun K8 k8 => ?_
 refine w_reg (by kernel_rfl) ?_
 refine s_qk (.pointer (some ⟨b2, 0, none⟩)) (by kernel_rfl) ?_
 refine s_ql (.int .i64 Code) (x := aLoad Try.prog 3 (.pointer (some ⟨b2, 0, none⟩)) H3) (by kernel_rfl) (r6.ld (by kernel_rfl)) ?_
 refine s_bn (Code = 0) (by kernel_rfl) (fun h9 => ?_) (fun h9 => ?_)
 ·have r10 := ite_t h9 hr
  refine s_qk (.bool false) (by kernel_rfl) ?_
  refine s_qk (.pointer (some ⟨b2, 1, none⟩)) (by kernel_rfl) ?_
  refine s_ql (hd_Places) (x := aLoad Try.prog 44 (.pointer (some ⟨b2, 1, none⟩)) H3) (by kernel_rfl) (r6.ld (by kernel_rfl)) ?_
  have u11 := (h_Places.ext e4)
  refine s_ql (.int .i64 (Places.length : Int)) (x := aLen Try.prog 44 hd_Places H3) (by kernel_rfl) (u11.lenb (by kernel_rfl)) ?_
  refine s_qk (.bool (decide ((Places.length : Int) > 0))) (by kernel_rfl) ?_
  refine s_qk (.bool (decide ((Places.length : Int) > 0))) (by kernel_rfl) ?_
  refine s_qk (.bool (decide ((Places.length : Int) > 0))) (by kernel_rfl) ?_
  refine s_nil ?_
  refine k8 _ _ ?_
  refine w_ret ?_
  refine b_ret (fn := Try.f56) (vs := [.bool (decide ((Places.length : Int) > 0))]) (aRes_tmp (by kernel_rfl) (rfl)) ?_
  obtain rfl := Option.some.inj r10
  exact ⟨rfl, ((FrS.refl (W := []) wf).extR e4)⟩
 ·have r12 := ite_f h9 hr
  refine s_qk (.bool true) (by kernel_rfl) ?_
  refine s_no (by kernel_rfl) ?_
  refine s_no (by kernel_rfl) ?_
  refine s_no (by kernel_rfl) ?_
  refine s_no (by kernel_rfl) ?_
  refine s_qk (.bool true) (by kernel_rfl) ?_
  refine s_qk (.bool true) (by kernel_rfl) ?_
  refine s_nil ?_
  refine k8 _ _ ?_
  refine w_ret ?_
  refine b_ret (fn := Try.f56) (vs := [.bool true]) (aRes_tmp (by kernel_rfl) (rfl)) ?_
  obtain rfl := Option.some.inj r12
  exact ⟨rfl, ((FrS.refl (W := []) wf).extR e4)⟩

theorem c_viaductref04_less {H : AH} {From : Int} {To : Int} {Weight : Int} {From_ : Int} {To_ : Int} {Weight_ : Int} {r : Bool}
  (wf : WF H) (hr : z_viaductref04_less From To Weight From_ To_ Weight_ = some r) :
  ACalls Try.prog 159 #[.agg #[.int .i64 From, .int .i64 To, .int .i64 Weight], .agg #[.int .i64 From_, .int .i64 To_, .int .i64 Weight_]] H fun v H' => v = .bool r ∧ FrS [] H H' := by
 refine acalls_of_body mixed Try.func159 rfl (Nat.le_of_ble_eq_true rfl) ?_
 unfold z_viaductref04_less at hr
 refine w_seqk fun K1 k1 => ?_
 refine w_reg (by kernel_rfl) ?_
 refine s_rwl wf [.int .i64 From, .int .i64 To, .int .i64 Weight] (one_cons (rfl) (one_cons (rfl) (one_cons (rfl) (one_nil)))) (by kernel_rfl) fun b2 H3 e4 hb5 r6 => ?_
 refine s_rwl e4.wf [.int .i64 From_, .int .i64 To_, .int .i64 Weight_] (one_cons (rfl) (one_cons (rfl) (one_cons (rfl) (one_nil)))) (by kernel_rfl) fun b8 H9 e10 hb11 r12 => ?_
 refine s_qk (.bool false) (by kernel_rfl) ?_
 refine s_nil ?_
 refine k1 _ _ ?_
 refine w_seqk fun K14 k14 => ?_
 refine w_reg (by kernel_rfl) ?_
 refine s_qk (.pointer (some ⟨b2, 0, none⟩)) (by kernel_rfl) ?_
 have u15 := (r6.ext e10)
 refine s_ql (.int .i64 From) (x := aLoad Try.prog 3 (.pointer (some ⟨b2, 0, none⟩)) H9) (by kernel_rfl) (u15.ld (by kernel_rfl)) ?_
 refine s_qk (.pointer (some ⟨b8, 0, none⟩)) (by kernel_rfl) ?_
 refine s_ql (.int .i64 From_) (x := aLoad Try.prog 3 (.pointer (some ⟨b8, 0, none⟩)) H9) (by kernel_rfl) (r12.ld (by kernel_rfl)) ?_
 refine s_b (From < From_) (by kernel_rfl) (fun h16 => ?_) (fun h16 => ?_)
 ·have r17 := ite_t h16 hr
  refine s_qk (.bool true) (by kernel_rfl) ?_
  refine s_no (by kernel_rfl) ?_
  refine s_no (by kernel_rfl) ?_
  refine s_no (by kernel_rfl) ?_
  refine s_no (by kernel_rfl) ?_
  refine s_no (by kernel_rfl) ?_
  refine s_no (by kernel_rfl) ?_
  refine s_no (by kernel_rfl) ?_
  refine s_no (by kernel_rfl) ?_
  refine s_no (by kernel_rfl) ?_
  refine s_no (by kernel_rfl) ?_
  refine s_no (by kernel_rfl) ?_
  refine s_no (by kernel_rfl) ?_
  refine s_qk (.bool true) (by kernel_rfl) ?_
  refine s_qk (.bool true) (by kernel_rfl) ?_
  refine s_nil ?_
  refine k14 _ _ ?_
  refine w_ret ?_
  refine b_ret (fn := Try.f159) (vs := [.bool true]) (aRes_tmp (by kernel_rfl) (rfl)) ?_
  obtain rfl := Option.some.inj r17
  exact ⟨rfl, (((FrS.refl (W := []) wf).extR e4).extR e10)⟩
 ·have r18 := ite_f h16 hr
  refine s_qk (.bool false) (by kernel_rfl) ?_
  refine s_qk (.pointer (some ⟨b2, 0, none⟩)) (by kernel_rfl) ?_
  refine s_ql (.int .i64 From) (x := aLoad Try.prog 3 (.pointer (some ⟨b2, 0, none⟩)) H9) (by kernel_rfl) (u15.ld (by kernel_rfl)) ?_
  refine s_qk (.pointer (some ⟨b8, 0, none⟩)) (by kernel_rfl) ?_
  refine s_ql (.int .i64 From_) (x := aLoad Try.prog 3 (.pointer (some ⟨b8, 0, none⟩)) H9) (by kernel_rfl) (r12.ld (by kernel_rfl)) ?_
  refine s_b (From = From_) (by kernel_rfl) (fun h19 => ?_) (fun h19 => ?_)
  ·have r20 := ite_t h19 r18
   refine s_qk (.bool true) (by kernel_rfl) ?_
   refine s_qk (.pointer (some ⟨b2, 1, none⟩)) (by kernel_rfl) ?_
   refine s_ql (.int .i64 To) (x := aLoad Try.prog 3 (.pointer (some ⟨b2, 1, none⟩)) H9) (by kernel_rfl) (u15.ld (by kernel_rfl)) ?_
   refine s_qk (.pointer (some ⟨b8, 1, none⟩)) (by kernel_rfl) ?_
   refine s_ql (.int .i64 To_) (x := aLoad Try.prog 3 (.pointer (some ⟨b8, 1, none⟩)) H9) (by kernel_rfl) (r12.ld (by kernel_rfl)) ?_
   refine s_qk (.bool (decide (To < To_))) (by kernel_rfl) ?_
   refine s_qk (.bool (decide (To < To_))) (by kernel_rfl) ?_
   refine s_qk (.bool (decide (To < To_))) (by kernel_rfl) ?_
   refine s_qk (.bool (decide (To < To_))) (by kernel_rfl) ?_
   refine s_nil ?_
   refine k14 _ _ ?_
   refine w_ret ?_
   refine b_ret (fn := Try.f159) (vs := [.bool (decide (To < To_))]) (aRes_tmp (by kernel_rfl) (rfl)) ?_
   obtain rfl := Option.some.inj r20
   exact ⟨rfl, (((FrS.refl (W := []) wf).extR e4).extR e10)⟩
  ·have r21 := ite_f h19 r18
   refine s_qk (.bool false) (by kernel_rfl) ?_
   refine s_no (by kernel_rfl) ?_
   refine s_no (by kernel_rfl) ?_
   refine s_no (by kernel_rfl) ?_
   refine s_no (by kernel_rfl) ?_
   refine s_no (by kernel_rfl) ?_
   refine s_qk (.bool false) (by kernel_rfl) ?_
   refine s_qk (.bool false) (by kernel_rfl) ?_
   refine s_qk (.bool false) (by kernel_rfl) ?_
   refine s_nil ?_
   refine k14 _ _ ?_
   refine w_ret ?_
   refine b_ret (fn := Try.f159) (vs := [.bool false]) (aRes_tmp (by kernel_rfl) (rfl)) ?_
   obtain rfl := Option.some.inj r21
   exact ⟨rfl, (((FrS.refl (W := []) wf).extR e4).extR e10)⟩

theorem c_viaductref04_Put {H : AH} {hd_l : Value} {fp_l : Fp} {l : List (Int × Int × Int)} {From : Int} {To : Int} {Weight : Int} {r : List (Int × Int × Int)}
  (wf : WF H) (h_l : Sq enc_i64_i64_i64 3 H hd_l l fp_l) (hr : z_viaductref04_Put l From To Weight = some r) :
  ACalls Try.prog 128 #[hd_l, .agg #[.int .i64 From, .int .i64 To, .int .i64 Weight]] H fun v H' => ∃ (s3 : Value) (f4 : Fp), v = s3 ∧ FrS [] H H' ∧ Ow enc_i64_i64_i64 3 H' s3 r f4 ∧ Inn [] H f4 := by
 refine acalls_of_body mixed Try.func128 rfl (Nat.le_of_ble_eq_true rfl) ?_
 unfold z_viaductref04_Put at hr
 refine w_seqk fun K6 k6 => ?_
 refine w_reg (by kernel_rfl) ?_
 refine s_rwl wf [.int .i64 From, .int .i64 To, .int .i64 Weight] (one_cons (rfl) (one_cons (rfl) (one_cons (rfl) (one_nil)))) (by kernel_rfl) fun b7 H8 e9 hb10 r11 => ?_
 refine s_qk (.slice none 0 0) (by kernel_rfl) ?_
 refine s_nil ?_
 refine k6 _ _ ?_
 refine w_seqk fun K13 k13 => ?_
 refine w_reg (by kernel_rfl) ?_
 refine s_qk (.int .i64 0) (by kernel_rfl) ?_
 refine s_nil ?_
 refine k13 _ _ ?_
 refine w_seqk fun K14 k14 => ?_
 obtain ⟨o15, hx16, r17⟩ := bind_some hr
 refine w_mid (fun α H18 => Has α [(0, hd_l), (3, .pointer (some ⟨b7, 0, none⟩)), (5, .int .i64 o15)] ∧ FrS [] H8 H18) (fun K20 k20 => ?_) (fun α H18 hM => ?_)
 ·refine w_block ?_
  obtain ⟨n22, hn23⟩ := loopO_iff.1 hx16
  refine w_loopn (fun n α H24 => ∃ (i0 : Int), iterO (fun zz_ => z_viaductref04_Put_l0 l From To Weight zz_) n i0 = some o15 ∧ Has α [(0, hd_l), (3, .pointer (some ⟨b7, 0, none⟩)), (5, .int .i64 i0)] ∧ FrS [] H8 H24) n22 ⟨0, hn23, ⟨by kernel_rfl, by kernel_rfl, by kernel_rfl, trivial⟩, (FrS.refl (W := []) e9.wf)⟩ ?_
  rintro n22 α H24 ⟨i0, hi27, hh26, e25⟩ K32 k32
  obtain ⟨n28, z29, rfl, hz30, hn31⟩ := iter_succ hi27
  obtain ⟨β, rfl⟩ := has_ex hh26
  clear hh26
  replace hz30 : z_viaductref04_Put_l0 l From To Weight i0 = some z29 := hz30
  unfold z_viaductref04_Put_l0 at hz30
  refine w_seqk fun K33 k33 => ?_
  refine w_seqk fun K34 k34 => ?_
  refine w_draw [0, 1, 2, 3, 4, 5, 6, 7, 8, 9, 10, 11] (by kernel_rfl) ?_
  refine d_qk (.int .i64 i0) (by kernel_rfl) ?_
  refine d_qk (hd_l) (by kernel_rfl) ?_
  have u35 := ((h_l.ext e9).fr e25 Dj.nil_l)
  refine d_ql (.int .i64 (l.length : Int)) (x := aLen Try.prog 57 hd_l H24) (by kernel_rfl) (u35.lenb (by kernel_rfl)) ?_
  refine d_b (i0 < (l.length : Int)) (by kernel_rfl) (fun h36 => ?_) (fun h36 => ?_)
  ·have r37 := ite_t h36 hz30
   refine d_qk (.bool true) (by kernel_rfl) ?_
   refine d_qk (hd_l) (by kernel_rfl) ?_
   refine d_qk (.int .i64 i0) (by kernel_rfl) ?_
   obtain ⟨g38, r39⟩ := G_some r37
   refine d_ql (elp hd_l 3 i0.toNat 0) (x := aIndexAddr Try.prog 57 hd_l (.int .i64 i0)) (by kernel_rfl) (u35.idxb (by kernel_rfl) g38 h36) ?_
   refine d_ql (.agg #[.int .i64 ((gt l i0).1), .int .i64 ((gt l i0).2.1), .int .i64 ((gt l i0).2.2)]) (x := aLoad Try.prog 73 (elp hd_l 3 i0.toNat 0) H24) (by kernel_rfl) (u35.ld g38 h36 (by kernel_rfl)) ?_
   have u40 := (r11.frS e25 Dj.nil_l)
   refine d_ql (.agg #[.int .i64 From, .int .i64 To, .int .i64 Weight]) (x := aLoad Try.prog 73 (.pointer (some ⟨b7, 0, none⟩)) H24) (by kernel_rfl) (u40.ld (by kernel_rfl)) ?_
   obtain ⟨y41, hy42, r43⟩ := bind_some r39
   refine d_ck 159 #[.agg #[.int .i64 ((gt l i0).1), .int .i64 ((gt l i0).2.1), .int .i64 ((gt l i0).2.2)], .agg #[.int .i64 From, .int .i64 To, .int .i64 Weight]] (by kernel_rfl) (c_viaductref04_less e25.wf hy42) ?_
   rintro _ H44 ⟨rfl, e45⟩
   refine ⟨st_nil, ?_⟩
   refine d_qk (.bool y41) (by kernel_rfl) ?_
   refine d_nil ?_
   refine k34 _ _ ?_
   refine w_cond (y41) (by kernel_rfl) rfl (fun h46 => ?_) (fun h46 => ?_)
   ·have r47 := ite_t h46 r43
    refine w_skip ?_
    refine k33 _ _ ?_
    refine w_block ?_
    refine w_reg (by kernel_rfl) ?_
    refine s_qk (.int .i64 i0) (by kernel_rfl) ?_
    obtain ⟨g48, r49⟩ := G_some r47
    refine s_w ((i0 + 1)) (k := .i64) (x := (i0 + 1)) (by kernel_rfl) (wrap64 (by have := g48; omega)) ?_
    refine s_qk (.int .i64 (i0 + 1)) (by kernel_rfl) ?_
    refine s_nil ?_
    obtain rfl := Option.some.inj r49
    exact k32 n28 _ _ (Nat.lt_succ_self _) ⟨(i0 + 1), hn31, ⟨by kernel_rfl, by kernel_rfl, by kernel_rfl, trivial⟩, (FrS.step e9.wf (FrS.step e9.wf (FrS.refl (W := []) e9.wf) e25 Inn.nil) e45 Inn.nil)⟩
   ·have r50 := ite_bf h46 r43
    refine w_exit (th_exit (th_exit (bl_eq ?_)))
    obtain rfl := Option.some.inj r50
    obtain rfl := it_inr hn31
    exact k20 _ _ ⟨⟨by kernel_rfl, by kernel_rfl, by kernel_rfl, trivial⟩, (FrS.step e9.wf (FrS.step e9.wf (FrS.refl (W := []) e9.wf) e25 Inn.nil) e45 Inn.nil)⟩
  ·have r51 := ite_f h36 hz30
   refine d_qk (.bool false) (by kernel_rfl) ?_
   refine d_idle (by kernel_rfl) ?_
   refine d_idle (by kernel_rfl) ?_
   refine d_idle (by kernel_rfl) ?_
   refine d_idle (by kernel_rfl) ?_
   refine d_idle (by kernel_rfl) ?_
   refine d_idle (by kernel_rfl) ?_
   refine d_qk (.bool false) (by kernel_rfl) ?_
   refine d_nil ?_
   refine k34 _ _ ?_
   refine w_cond false (by kernel_rfl) rfl (fun h => by cases h) (fun _ => ?_)
   refine w_exit (th_exit (th_exit (bl_eq ?_)))
   obtain rfl := Option.some.inj r51
   obtain rfl := it_inr hn31
   exact k20 _ _ ⟨⟨by kernel_rfl, by kernel_rfl, by kernel_rfl, trivial⟩, (FrS.step e9.wf (FrS.refl (W := []) e9.wf) e25 Inn.nil)⟩
 ·obtain ⟨hh21, e19⟩ := hM
  obtain ⟨β, rfl⟩ := has_ex hh21
  clear hh21
  refine k14 _ _ ?_
  refine w_seqk fun K52 k52 => ?_
  refine w_reg (by kernel_rfl) ?_
  refine s_qk (.slice none 0 0) (by kernel_rfl) ?_
  refine s_nil ?_
  refine k52 _ _ ?_
  refine w_seqk fun K53 k53 => ?_
  refine w_reg (by kernel_rfl) ?_
  refine s_qk (.slice none 0 0) (by kernel_rfl) ?_
  refine s_qk (hd_l) (by kernel_rfl) ?_
  refine s_qk (.int .i64 o15) (by kernel_rfl) ?_
  obtain ⟨g54, r55⟩ := G_some r17
  have u59 := ((h_l.ext e9).fr e19 Dj.nil_l)
  obtain ⟨s56, q57, hs58⟩ := Sq.cut (P := Try.prog) u59 (t := 57) (by kernel_rfl) (lo := none) (hi := (some (.int .i64 o15))) (l := 0) (r := o15.toNat) (rfl) (aBound_int _ (by have := g54; omega)) (by have := g54; omega) (by have := g54; omega)
  obtain ⟨a60, n61, c62, rfl⟩ := hs58.form
  refine s_ql (.slice a60 n61 c62) (by kernel_rfl) q57 ?_
  obtain ⟨g64, r65⟩ := G_some r55
  obtain ⟨s66, H67, f68, q72, e69, hm70, hf71⟩ := Ow.append (P := Try.prog) 24 e19.wf (Ow.nil (enc := enc_i64_i64_i64) (sz := 3) (by decide)) hs58 (fun _ _ => rfl) (at_ := #[57, 57]) rfl rfl (by kernel_rfl) (by kernel_rfl) (by decide) (by have := g64; first | omega | (simp only [List.length_cons, List.length_nil] at this ⊢; omega) | (simp at this ⊢; omega))
  obtain ⟨a73, n74, c75, rfl⟩ := hm70.form
  refine s_ek (.slice a73 n74 c75) (by kernel_rfl) (q72) ?_
  refine s_qk (.slice a73 n74 c75) (by kernel_rfl) ?_
  refine s_nil ?_
  refine k53 _ _ ?_
  refine w_seqk fun K77 k77 => ?_
  refine w_seqk fun K78 k78 => ?_
  obtain ⟨o79, hx80, r81⟩ := bind_some r65
  refine w_mid (fun α H82 => Has α [(0, hd_l), (3, .pointer (some ⟨b7, 0, none⟩)), (5, .int .i64 o15), (6, .slice a73 n74 c75), (49, .bool o79)] ∧ H67 = H82) (fun K84 k84 => ?_) (fun α H82 hM => ?_)
  ·refine w_draw [0, 1, 2, 3, 4, 5, 6, 7, 8, 9, 10, 11, 12, 13, 14, 15, 16, 17, 18, 19, 20, 21, 22, 23] (by kernel_rfl) ?_
   refine d_qk (.int .i64 o15) (by kernel_rfl) ?_
   refine d_qk (hd_l) (by kernel_rfl) ?_
   have u86 := (u59.fr e69 Dj.nil_l)
   refine d_ql (.int .i64 (l.length : Int)) (x := aLen Try.prog 57 hd_l H67) (by kernel_rfl) (u86.lenb (by kernel_rfl)) ?_
   refine d_b (o15 < (l.length : Int)) (by kernel_rfl) (fun h87 => ?_) (fun h87 => ?_)
   ·have r88 := ite_t h87 hx80
    refine d_qk (.bool true) (by kernel_rfl) ?_
    refine d_qk (hd_l) (by kernel_rfl) ?_
    refine d_qk (.int .i64 o15) (by kernel_rfl) ?_
    obtain ⟨g89, r90⟩ := G_some r88
    refine d_ql (elp hd_l 3 o15.toNat 0) (x := aIndexAddr Try.prog 57 hd_l (.int .i64 o15)) (by kernel_rfl) (u86.idxb (by kernel_rfl) g89 h87) ?_
    refine d_ql (elp hd_l 3 o15.toNat 0) (x := aFieldAddr Try.prog 73 (elp hd_l 3 o15.toNat 0) 0) (by kernel_rfl) (Sq.fldq (d := 0) u86 g89 h87 (by kernel_rfl)) ?_
    refine d_ql (.int .i64 ((gt l o15).1)) (x := aLoad Try.prog 3 (elp hd_l 3 o15.toNat 0) H67) (by kernel_rfl) (u86.ld g89 h87 (by kernel_rfl)) ?_
    refine d_qk (.pointer (some ⟨b7, 0, none⟩)) (by kernel_rfl) ?_
    have u91 := ((r11.frS e19 Dj.nil_l).frS e69 Dj.nil_l)
    refine d_ql (.int .i64 From) (x := aLoad Try.prog 3 (.pointer (some ⟨b7, 0, none⟩)) H67) (by kernel_rfl) (u91.ld (by kernel_rfl)) ?_
    refine d_b (((gt l o15).1) = From) (by kernel_rfl) (fun h92 => ?_) (fun h92 => ?_)
    ·have r93 := ite_t h92 r90
     refine d_qk (.bool true) (by kernel_rfl) ?_
     refine d_qk (.bool true) (by kernel_rfl) ?_
     refine d_qk (hd_l) (by kernel_rfl) ?_
     refine d_qk (.int .i64 o15) (by kernel_rfl) ?_
     refine d_ql (elp hd_l 3 o15.toNat 0) (x := aIndexAddr Try.prog 57 hd_l (.int .i64 o15)) (by kernel_rfl) (u86.idxb (by kernel_rfl) g89 h87) ?_
     refine d_ql (elp hd_l 3 o15.toNat 1) (x := aFieldAddr Try.prog 73 (elp hd_l 3 o15.toNat 0) 1) (by kernel_rfl) (Sq.fldq (d := 1) u86 g89 h87 (by kernel_rfl)) ?_
     refine d_ql (.int .i64 ((gt l o15).2.1)) (x := aLoad Try.prog 3 (elp hd_l 3 o15.toNat 1) H67) (by kernel_rfl) (u86.ld g89 h87 (by kernel_rfl)) ?_
     refine d_qk (.pointer (some ⟨b7, 1, none⟩)) (by kernel_rfl) ?_
     refine d_ql (.int .i64 To) (x := aLoad Try.prog 3 (.pointer (some ⟨b7, 1, none⟩)) H67) (by kernel_rfl) (u91.ld (by kernel_rfl)) ?_
     refine d_qk (.bool (decide (((gt l o15).2.1) = To))) (by kernel_rfl) ?_
     refine d_qk (.bool (decide (((gt l o15).2.1) = To))) (by kernel_rfl) ?_
     refine d_nil ?_
     obtain rfl := Option.some.inj r93
     exact k84 _ _ ⟨⟨by kernel_rfl, by kernel_rfl, by kernel_rfl, by kernel_rfl, by kernel_rfl, trivial⟩, rfl⟩
    ·have r94 := ite_f h92 r90
     refine d_qk (.bool false) (by kernel_rfl) ?_
     refine d_qk (.bool false) (by kernel_rfl) ?_
     refine d_idle (by kernel_rfl) ?_
     refine d_idle (by kernel_rfl) ?_
     refine d_idle (by kernel_rfl) ?_
     refine d_idle (by kernel_rfl) ?_
     refine d_idle (by kernel_rfl) ?_
     refine d_idle (by kernel_rfl) ?_
     refine d_idle (by kernel_rfl) ?_
     refine d_idle (by kernel_rfl) ?_
     refine d_qk (.bool false) (by kernel_rfl) ?_
     refine d_nil ?_
     obtain rfl := Option.some.inj r94
     exact k84 _ _ ⟨⟨by kernel_rfl, by kernel_rfl, by kernel_rfl, by kernel_rfl, by kernel_rfl, trivial⟩, rfl⟩
   ·have r95 := ite_f h87 hx80
    refine d_qk (.bool false) (by kernel_rfl) ?_
    refine d_idle (by kernel_rfl) ?_
    refine d_idle (by kernel_rfl) ?_
    refine d_idle (by kernel_rfl) ?_
    refine d_idle (by kernel_rfl) ?_
    refine d_idle (by kernel_rfl) ?_
    refine d_idle (by kernel_rfl) ?_
    refine d_idle (by kernel_rfl) ?_
    refine d_idle (by kernel_rfl) ?_
    refine d_qk (.bool false) (by kernel_rfl) ?_
    refine d_qk (.bool false) (by kernel_rfl) ?_
    refine d_idle (by kernel_rfl) ?_
    refine d_idle (by kernel_rfl) ?_
    refine d_idle (by kernel_rfl) ?_
    refine d_idle (by kernel_rfl) ?_
    refine d_idle (by kernel_rfl) ?_
    refine d_idle (by kernel_rfl) ?_
    refine d_idle (by kernel_rfl) ?_
    refine d_idle (by kernel_rfl) ?_
    refine d_qk (.bool false) (by kernel_rfl) ?_
    refine d_nil ?_
    obtain rfl := Option.some.inj r95
    exact k84 _ _ ⟨⟨by kernel_rfl, by kernel_rfl, by kernel_rfl, by kernel_rfl, by kernel_rfl, trivial⟩, rfl⟩
  ·obtain ⟨hh85, rfl⟩ := hM
   obtain ⟨β, rfl⟩ := has_ex hh85
   clear hh85
   refine k78 _ _ ?_
   refine w_cond (o79) (by kernel_rfl) rfl (fun h96 => ?_) (fun h96 => ?_)
   ·have r97 := ite_t h96 r81
    refine w_seqk fun K98 k98 => ?_
    refine w_draw [0, 1, 2, 3, 4, 5, 6, 7, 8, 9] (by kernel_rfl) ?_
    refine d_qk (.pointer (some ⟨b7, 2, none⟩)) (by kernel_rfl) ?_
    have u99 := ((r11.frS e19 Dj.nil_l).frS e69 Dj.nil_l)
    refine d_ql (.int .i64 Weight) (x := aLoad Try.prog 3 (.pointer (some ⟨b7, 2, none⟩)) H67) (by kernel_rfl) (u99.ld (by kernel_rfl)) ?_
    refine d_qk (hd_l) (by kernel_rfl) ?_
    refine d_qk (.int .i64 o15) (by kernel_rfl) ?_
    obtain ⟨g100, r101⟩ := G_some r97
    have u102 := (u59.fr e69 Dj.nil_l)
    refine d_ql (elp hd_l 3 o15.toNat 0) (x := aIndexAddr Try.prog 57 hd_l (.int .i64 o15)) (by kernel_rfl) (u102.idxb (by kernel_rfl) g100.1 g100.2) ?_
    refine d_ql (elp hd_l 3 o15.toNat 2) (x := aFieldAddr Try.prog 73 (elp hd_l 3 o15.toNat 0) 2) (by kernel_rfl) (Sq.fldq (d := 2) u102 g100.1 g100.2 (by kernel_rfl)) ?_
    refine d_ql (.int .i64 ((gt l o15).2.2)) (x := aLoad Try.prog 3 (elp hd_l 3 o15.toNat 2) H67) (by kernel_rfl) (u102.ld g100.1 g100.2 (by kernel_rfl)) ?_
    refine d_ql (.int .i64 (min Weight ((gt l o15).2.2))) (x := aMin Try.prog [.int .i64 Weight, .int .i64 ((gt l o15).2.2)]) (by kernel_rfl) (aMin_two _ _) ?_
    refine d_qk (.pointer (some ⟨b7, 2, none⟩)) (by kernel_rfl) ?_
    obtain ⟨H103, q104, e105, r106⟩ := Row.store (P := Try.prog) (t := 3) (p := 2) e69.wf u99 (.int .i64 (min Weight ((gt l o15).2.2))) [.int .i64 (min Weight ((gt l o15).2.2))] (by kernel_rfl) (by kernel_rfl) (one_cons (rfl) (one_nil)) (Nat.le_of_ble_eq_true (by kernel_rfl)) [.int .i64 From, .int .i64 To, .int .i64 (min Weight ((gt l o15).2.2))] (by kernel_rfl)
    refine d_ek (undef) (by kernel_rfl) (map_ok q104) (st_nil) ?_
    refine d_nil ?_
    refine k98 _ _ ?_
    refine w_seqk fun K107 k107 => ?_
    refine w_reg (by kernel_rfl) ?_
    refine s_qk (.slice a73 n74 c75) (by kernel_rfl) ?_
    refine s_ql (.agg #[.int .i64 From, .int .i64 To, .int .i64 (min Weight ((gt l o15).2.2))]) (x := aLoad Try.prog 73 (.pointer (some ⟨b7, 0, none⟩)) H103) (by kernel_rfl) (r106.ld (by kernel_rfl)) ?_
    refine s_owk (enc := enc_i64_i64_i64) (sz := 3) e105.wf [(From, To, (min Weight ((gt l o15).2.2)))] 1 (by decide) (fun _ _ => rfl) (fun _ _ => rfl) rfl (by kernel_rfl) fun s108 f109 H110 e111 hf112 hm113 => ?_
    obtain ⟨a114, n115, c116, rfl⟩ := hm113.form
    have u118 := ((hm70.fr e105 (Dj.symm (hf71.djn (r11.ltF.le e19.next)))).ext e111)
    obtain ⟨g119, r120⟩ := G_some r101
    obtain ⟨s121, H122, f123, q127, e124, hm125, hf126⟩ := Ow.append (P := Try.prog) 24 e111.wf u118 hm113.sq (fun _ _ => rfl) (at_ := #[57, 57]) rfl rfl (by kernel_rfl) (by kernel_rfl) (by decide) (by have := g119; first | omega | (simp only [List.length_cons, List.length_nil] at this ⊢; omega) | (simp at this ⊢; omega))
    obtain ⟨a128, n129, c130, rfl⟩ := hm125.form
    refine s_ek (.slice a128 n129 c130) (by kernel_rfl) (q127) ?_
    refine s_qk (.slice a128 n129 c130) (by kernel_rfl) ?_
    refine s_nil ?_
    refine k107 _ _ ?_
    refine w_seqk fun K132 k132 => ?_
    refine w_reg (by kernel_rfl) ?_
    refine s_qk (.slice a128 n129 c130) (by kernel_rfl) ?_
    refine s_qk (hd_l) (by kernel_rfl) ?_
    refine s_qk (.int .i64 o15) (by kernel_rfl) ?_
    obtain ⟨g133, r134⟩ := G_some r120
    refine s_w ((o15 + 1)) (k := .i64) (x := (o15 + 1)) (by kernel_rfl) (wrap64 (by have := g133; omega)) ?_
    obtain ⟨g135, r136⟩ := G_some r134
    have u140 := (((u102.fr e105 (hb10.djn h_l.lt)).ext e111).fr e124 (hf71.djn (h_l.lt.le (ntr e9.next e19.next))))
    obtain ⟨s137, q138, hs139⟩ := Sq.cut (P := Try.prog) u140 (t := 57) (by kernel_rfl) (lo := (some (.int .i64 (o15 + 1)))) (hi := none) (l := (o15 + 1).toNat) (r := l.length) (aBound_int _ (by have := g135; omega)) (rfl) (by have := g135; omega) (by have := g135; omega)
    obtain ⟨a141, n142, c143, rfl⟩ := hs139.form
    refine s_ql (.slice a141 n142 c143) (by kernel_rfl) q138 ?_
    obtain ⟨g145, r146⟩ := G_some r136
    obtain ⟨s147, H148, f149, q153, e150, hm151, hf152⟩ := Ow.append (P := Try.prog) 24 e124.wf hm125 hs139 (fun _ _ => rfl) (at_ := #[57, 57]) rfl rfl (by kernel_rfl) (by kernel_rfl) (by decide) (by have := g145; first | omega | (simp only [List.length_cons, List.length_nil] at this ⊢; omega) | (simp at this ⊢; omega))
    obtain ⟨a154, n155, c156, rfl⟩ := hm151.form
    refine s_ek (.slice a154 n155 c156) (by kernel_rfl) (q153) ?_
    refine s_qk (.slice a154 n155 c156) (by kernel_rfl) ?_
    refine s_nil ?_
    refine k132 _ _ ?_
    refine w_ret (th_ret ?_)
    refine b_ret (fn := Try.f128) (vs := [.slice a154 n155 c156]) (aRes_tmp (by kernel_rfl) (rfl)) ?_
    obtain rfl := Option.some.inj r146
    exact ⟨(.slice a154 n155 c156), f149, rfl, (FrS.step wf (FrS.step wf ((FrS.step wf (FrS.step wf (FrS.step wf ((FrS.refl (W := []) wf).extR e9) e19 Inn.nil) e69 Inn.nil) e105 (hb10.fresh (Nat.le_refl _))).extR e111) e124 (hf71.fresh (ntr e9.next e19.next))) e150 (Inn.trans (hf71.fresh (ntr e9.next e19.next)) (ntr (ntr (ntr (ntr e9.next e19.next) e69.next) e105.next) e111.next) hf126)), hm151, (Inn.trans (Inn.trans (hf71.fresh (ntr e9.next e19.next)) (ntr (ntr (ntr (ntr e9.next e19.next) e69.next) e105.next) e111.next) hf126) (ntr (ntr (ntr (ntr (ntr e9.next e19.next) e69.next) e105.next) e111.next) e124.next) hf152)⟩
   ·have r158 := ite_bf h96 r81
    refine w_skip ?_
    refine k77 _ _ ?_
    refine w_seqk fun K159 k159 => ?_
    refine w_reg (by kernel_rfl) ?_
    refine s_qk (.slice a73 n74 c75) (by kernel_rfl) ?_
    have u160 := ((r11.frS e19 Dj.nil_l).frS e69 Dj.nil_l)
    refine s_ql (.agg #[.int .i64 From, .int .i64 To, .int .i64 Weight]) (x := aLoad Try.prog 73 (.pointer (some ⟨b7, 0, none⟩)) H67) (by kernel_rfl) (u160.ld (by kernel_rfl)) ?_
    refine s_owk (enc := enc_i64_i64_i64) (sz := 3) e69.wf [(From, To, Weight)] 1 (by decide) (fun _ _ => rfl) (fun _ _ => rfl) rfl (by kernel_rfl) fun s161 f162 H163 e164 hf165 hm166 => ?_
    obtain ⟨a167, n168, c169, rfl⟩ := hm166.form
    have u171 := (hm70.ext e164)
    obtain ⟨g172, r173⟩ := G_some r158
    obtain ⟨s174, H175, f176, q180, e177, hm178, hf179⟩ := Ow.append (P := Try.prog) 24 e164.wf u171 hm166.sq (fun _ _ => rfl) (at_ := #[57, 57]) rfl rfl (by kernel_rfl) (by kernel_rfl) (by decide) (by have := g172; first | omega | (simp only [List.length_cons, List.length_nil] at this ⊢; omega) | (simp at this ⊢; omega))
    obtain ⟨a181, n182, c183, rfl⟩ := hm178.form
    refine s_ek (.slice a181 n182 c183) (by kernel_rfl) (q180) ?_
    refine s_qk (.slice a181 n182 c183) (by kernel_rfl) ?_
    refine s_nil ?_
    refine k159 _ _ ?_
    refine w_seqk fun K185 k185 => ?_
    refine w_reg (by kernel_rfl) ?_
    refine s_qk (.slice a181 n182 c183) (by kernel_rfl) ?_
    refine s_qk (hd_l) (by kernel_rfl) ?_
    refine s_qk (.int .i64 o15) (by kernel_rfl) ?_
    have u189 := (((u59.fr e69 Dj.nil_l).ext e164).fr e177 (hf71.djn (h_l.lt.le (ntr e9.next e19.next))))
    obtain ⟨s186, q187, hs188⟩ := Sq.cut (P := Try.prog) u189 (t := 57) (by kernel_rfl) (lo := (some (.int .i64 o15))) (hi := none) (l := o15.toNat) (r := l.length) (aBound_int _ (by have := g54; omega)) (rfl) (by have := g54; omega) (by have := g54; omega)
    obtain ⟨a190, n191, c192, rfl⟩ := hs188.form
    refine s_ql (.slice a190 n191 c192) (by kernel_rfl) q187 ?_
    obtain ⟨g194, r195⟩ := G_some r173
    obtain ⟨s196, H197, f198, q202, e199, hm200, hf201⟩ := Ow.append (P := Try.prog) 24 e177.wf hm178 hs188 (fun _ _ => rfl) (at_ := #[57, 57]) rfl rfl (by kernel_rfl) (by kernel_rfl) (by decide) (by have := g194; first | omega | (simp only [List.length_cons, List.length_nil] at this ⊢; omega) | (simp at this ⊢; omega))
    obtain ⟨a203, n204, c205, rfl⟩ := hm200.form
    refine s_ek (.slice a203 n204 c205) (by kernel_rfl) (q202) ?_
    refine s_qk (.slice a203 n204 c205) (by kernel_rfl) ?_
    refine s_nil ?_
    refine k185 _ _ ?_
    refine w_ret ?_
    refine b_ret (fn := Try.f128) (vs := [.slice a203 n204 c205]) (aRes_tmp (by kernel_rfl) (rfl)) ?_
    obtain rfl := Option.some.inj r195
    exact ⟨(.slice a203 n204 c205), f198, rfl, (FrS.step wf (FrS.step wf ((FrS.step wf (FrS.step wf ((FrS.refl (W := []) wf).extR e9) e19 Inn.nil) e69 Inn.nil).extR e164) e177 (hf71.fresh (ntr e9.next e19.next))) e199 (Inn.trans (hf71.fresh (ntr e9.next e19.next)) (ntr (ntr (ntr e9.next e19.next) e69.next) e164.next) hf179)), hm200, (Inn.trans (Inn.trans (hf71.fresh (ntr e9.next e19.next)) (ntr (ntr (ntr e9.next e19.next) e69.next) e164.next) hf179) (ntr (ntr (ntr (ntr e9.next e19.next) e69.next) e164.next) e177.next) hf201)⟩

theorem c_viaductref04_Of {H : AH} {hd_Arcs : Value} {fp_Arcs : Fp} {N_ : Int} {Arcs : List (Int × Int × Int)} {r : Int × List (Int × Int × Int)}
  (wf : WF H) (h_Arcs : Sq enc_i64_i64_i64 3 H hd_Arcs Arcs fp_Arcs) (hr : z_viaductref04_Of N_ Arcs = some r) :
  ACalls Try.prog 82 #[.agg #[.int .i64 N_, hd_Arcs]] H fun v H' => ∃ (s3 : Value) (f4 : Fp), v = .agg #[.int .i64 r.1, s3] ∧ FrS [] H H' ∧ Ow enc_i64_i64_i64 3 H' s3 r.2 f4 ∧ Inn [] H f4 := by
 refine acalls_of_body mixed Try.func82 rfl (Nat.le_of_ble_eq_true rfl) ?_
 unfold z_viaductref04_Of at hr
 refine w_seqk fun K6 k6 => ?_
 refine w_reg (by kernel_rfl) ?_
 refine s_rwl wf [.int .i64 N_, hd_Arcs] (one_cons (rfl) (one_cons (h_Arcs.one1) (one_nil))) (by kernel_rfl) fun b7 H8 e9 hb10 r11 => ?_
 refine s_rwk e9.wf [.int .i64 0, .slice none 0 0] (by kernel_rfl) fun b13 H14 e15 hb16 r17 => ?_
 refine s_nil ?_
 refine k6 _ _ ?_
 refine w_seqk fun K19 k19 => ?_
 refine w_reg (by kernel_rfl) ?_
 refine s_qk (.pointer (some ⟨b7, 0, none⟩)) (by kernel_rfl) ?_
 have u20 := (r11.ext e15)
 refine s_ql (.int .i64 N_) (x := aLoad Try.prog 3 (.pointer (some ⟨b7, 0, none⟩)) H14) (by kernel_rfl) (u20.ld (by kernel_rfl)) ?_
 refine s_qk (.agg #[.int .i64 N_, .slice none 0 0]) (by kernel_rfl) ?_
 refine s_rwk e15.wf [.int .i64 0, .slice none 0 0] (by kernel_rfl) fun b21 H22 e23 hb24 r25 => ?_
 obtain ⟨H27, q28, e29, r30⟩ := Row.store (P := Try.prog) (t := 59) (p := 0) e23.wf r25 (.agg #[.int .i64 N_, .slice none 0 0]) [.int .i64 N_, .slice none 0 0] (by kernel_rfl) (by kernel_rfl) (one_cons (rfl) (one_cons (rfl) (one_nil))) (Nat.le_of_ble_eq_true (by kernel_rfl)) [.int .i64 N_, .slice none 0 0] (by kernel_rfl)
 refine s_ek (undef) (by kernel_rfl) (map_ok q28) ?_
 refine s_nil ?_
 refine k19 _ _ ?_
 refine w_seqk fun K31 k31 => ?_
 refine w_seqk fun K32 k32 => ?_
 refine w_reg (by kernel_rfl) ?_
 refine s_qk (.pointer (some ⟨b7, 1, none⟩)) (by kernel_rfl) ?_
 have u33 := ((u20.ext e23).frS e29 (hb24.djn (r11.ltF.le e15.next)))
 refine s_ql (hd_Arcs) (x := aLoad Try.prog 57 (.pointer (some ⟨b7, 1, none⟩)) H27) (by kernel_rfl) (u33.ld (by kernel_rfl)) ?_
 have u34 := ((((h_Arcs.ext e9).ext e15).ext e23).fr e29 (hb24.djn (h_Arcs.lt.le (ntr e9.next e15.next))))
 refine s_ql (.int .i64 (Arcs.length : Int)) (x := aLen Try.prog 57 hd_Arcs H27) (by kernel_rfl) (u34.lenb (by kernel_rfl)) ?_
 refine s_qk (.int .i64 0) (by kernel_rfl) ?_
 refine s_nil ?_
 refine k32 _ _ ?_
 obtain ⟨o35, hx36, r37⟩ := bind_some hr
 refine w_mid (fun α H38 => ∃ (s42 : Value) (f43 : Fp), Has α [(2, .pointer (some ⟨b13, 0, none⟩)), (3, .pointer (some ⟨b21, 0, none⟩))] ∧ FrS [b21] H27 H38 ∧ Ow enc_i64_i64_i64 3 H38 s42 o35 f43 ∧ Row H38 b21 [.int .i64 N_, s42] ∧ Inn [] H27 f43) (fun K47 k47 => ?_) (fun α H38 hM => ?_)
 ·refine w_block ?_
  obtain ⟨n49, hn50⟩ := loopO_iff.1 hx36
  refine w_loopn (fun n α H51 => ∃ (i0 : Int), ∃ (c1 : List (Int × Int × Int)), ∃ (s55 : Value), ∃ (f56 : Fp), iterO (fun zz_ => z_viaductref04_Of_l0 Arcs zz_.1 zz_.2) n (i0, c1) = some o35 ∧ Has α [(2, .pointer (some ⟨b13, 0, none⟩)), (3, .pointer (some ⟨b21, 0, none⟩)), (10, hd_Arcs), (11, .int .i64 (Arcs.length : Int)), (12, .int .i64 i0)] ∧ FrS [b21] H27 H51 ∧ Ow enc_i64_i64_i64 3 H51 s55 c1 f56 ∧ Row H51 b21 [.int .i64 N_, s55] ∧ Inn [] H27 f56) n49 ⟨0, [], (.slice none 0 0), [], hn50, ⟨by kernel_rfl, by kernel_rfl, by kernel_rfl, by kernel_rfl, by kernel_rfl, trivial⟩, (FrS.refl (W := [b21]) e29.wf), (Ow.nil (by decide)), r30, Inn.nil⟩ ?_
  rintro n49 α H51 ⟨i0, c1, s55, f56, hi61, hh60, e52, m54, m58, i59⟩ K66 k66
  obtain ⟨n62, z63, rfl, hz64, hn65⟩ := iter_succ hi61
  obtain ⟨β, rfl⟩ := has_ex hh60
  clear hh60
  replace hz64 : z_viaductref04_Of_l0 Arcs i0 c1 = some z63 := hz64
  unfold z_viaductref04_Of_l0 at hz64
  obtain ⟨a67, n68, c69, rfl⟩ := m54.form
  refine w_seqk fun K70 k70 => ?_
  refine w_reg (by kernel_rfl) ?_
  refine s_qk (.bool (decide (i0 < (Arcs.length : Int)))) (by kernel_rfl) ?_
  refine s_nil ?_
  refine k70 _ _ ?_
  refine w_seqk fun K71 k71 => ?_
  refine w_condp (i0 < (Arcs.length : Int)) (by kernel_rfl) rfl (fun h72 => ?_) (fun h72 => ?_)
  ·have r73 := ite_t h72 hz64
   refine w_skip ?_
   refine k71 _ _ ?_
   refine w_seqk fun K74 k74 => ?_
   refine w_block ?_
   refine w_seqk fun K75 k75 => ?_
   refine w_reg (by kernel_rfl) ?_
   obtain ⟨g76, r77⟩ := G_some r73
   have u78 := (u34.fr e52 (hb24.djn (h_Arcs.lt.le (ntr e9.next e15.next))))
   refine s_ql (elp hd_Arcs 3 i0.toNat 0) (x := aIndexAddr Try.prog 57 hd_Arcs (.int .i64 i0)) (by kernel_rfl) (u78.idxb (by kernel_rfl) g76 h72) ?_
   refine s_ql (.agg #[.int .i64 ((gt Arcs i0).1), .int .i64 ((gt Arcs i0).2.1), .int .i64 ((gt Arcs i0).2.2)]) (x := aLoad Try.prog 73 (elp hd_Arcs 3 i0.toNat 0) H51) (by kernel_rfl) (u78.ld g76 h72 (by kernel_rfl)) ?_
   refine s_rwk e52.wf [.int .i64 0, .int .i64 0, .int .i64 0] (by kernel_rfl) fun b79 H80 e81 hb82 r83 => ?_
   obtain ⟨H85, q86, e87, r88⟩ := Row.store (P := Try.prog) (t := 73) (p := 0) e81.wf r83 (.agg #[.int .i64 ((gt Arcs i0).1), .int .i64 ((gt Arcs i0).2.1), .int .i64 ((gt Arcs i0).2.2)]) [.int .i64 ((gt Arcs i0).1), .int .i64 ((gt Arcs i0).2.1), .int .i64 ((gt Arcs i0).2.2)] (by kernel_rfl) (by kernel_rfl) (one_cons (rfl) (one_cons (rfl) (one_cons (rfl) (one_nil)))) (Nat.le_of_ble_eq_true (by kernel_rfl)) [.int .i64 ((gt Arcs i0).1), .int .i64 ((gt Arcs i0).2.1), .int .i64 ((gt Arcs i0).2.2)] (by kernel_rfl)
   refine s_ek (undef) (by kernel_rfl) (map_ok q86) ?_
   refine s_nil ?_
   refine k75 _ _ ?_
   refine w_seqk fun K89 k89 => ?_
   refine w_reg (by kernel_rfl) ?_
   refine s_qk (.pointer (some ⟨b79, 0, none⟩)) (by kernel_rfl) ?_
   refine s_ql (.int .i64 ((gt Arcs i0).1)) (x := aLoad Try.prog 3 (.pointer (some ⟨b79, 0, none⟩)) H85) (by kernel_rfl) (r88.ld (by kernel_rfl)) ?_
   refine s_qk (.pointer (some ⟨b79, 1, none⟩)) (by kernel_rfl) ?_
   refine s_ql (.int .i64 ((gt Arcs i0).2.1)) (x := aLoad Try.prog 3 (.pointer (some ⟨b79, 1, none⟩)) H85) (by kernel_rfl) (r88.ld (by kernel_rfl)) ?_
   refine s_qk (.bool (!decide (((gt Arcs i0).1) = ((gt Arcs i0).2.1)))) (by kernel_rfl) ?_
   refine s_nil ?_
   refine k89 _ _ ?_
   refine w_condn (((gt Arcs i0).1) = ((gt Arcs i0).2.1)) (by kernel_rfl) rfl (fun h90 => ?_) (fun h90 => ?_)
   ·have r91 := ite_f h90 r77
    refine w_reg (by kernel_rfl) ?_
    refine s_qk (.pointer (some ⟨b21, 1, none⟩)) (by kernel_rfl) ?_
    have u92 := ((m58.ext e81).frS e87 (hb82.djn (r25.ltF.le (ntr e29.next e52.next))))
    refine s_ql (.slice a67 n68 c69) (x := aLoad Try.prog 57 (.pointer (some ⟨b21, 1, none⟩)) H85) (by kernel_rfl) (u92.ld (by kernel_rfl)) ?_
    refine s_ql (.agg #[.int .i64 ((gt Arcs i0).1), .int .i64 ((gt Arcs i0).2.1), .int .i64 ((gt Arcs i0).2.2)]) (x := aLoad Try.prog 73 (.pointer (some ⟨b79, 0, none⟩)) H85) (by kernel_rfl) (r88.ld (by kernel_rfl)) ?_
    have u93 := ((m54.ext e81).fr e87 (hb82.djn m54.lt))
    obtain ⟨y94, hy95, r96⟩ := bind_some r91
    refine s_ck 128 #[.slice a67 n68 c69, .agg #[.int .i64 ((gt Arcs i0).1), .int .i64 ((gt Arcs i0).2.1), .int .i64 ((gt Arcs i0).2.2)]] (by kernel_rfl) (c_viaductref04_Put e87.wf u93.sq hy95) ?_
    rintro s97 H99 ⟨_, f98, rfl, e100, m101, i102⟩
    obtain ⟨a104, n105, c106, rfl⟩ := m101.form
    refine s_qk (.pointer (some ⟨b21, 1, none⟩)) (by kernel_rfl) ?_
    have u111 := (u92.frS e100 Dj.nil_l)
    obtain ⟨H107, q108, e109, r110⟩ := Row.store (P := Try.prog) (t := 57) (p := 1) e100.wf u111 (.slice a104 n105 c106) [.slice a104 n105 c106] (by kernel_rfl) (by kernel_rfl) (one_cons (m101.one1) (one_nil)) (Nat.le_of_ble_eq_true (by kernel_rfl)) [.int .i64 N_, .slice a104 n105 c106] (by kernel_rfl)
    refine s_ek (undef) (by kernel_rfl) (map_ok q108) ?_
    refine s_nil ?_
    refine k74 _ _ ?_
    refine w_reg (by kernel_rfl) ?_
    obtain ⟨g112, r113⟩ := G_some r96
    refine s_w ((i0 + 1)) (k := .i64) (x := (i0 + 1)) (by kernel_rfl) (wrap64 (by have := g112; omega)) ?_
    refine s_qk (.int .i64 (i0 + 1)) (by kernel_rfl) ?_
    refine s_nil ?_
    have u114 := (m101.fr e109 (Dj.symm (i102.djn (r25.ltF.le (ntr (ntr (ntr e29.next e52.next) e81.next) e87.next)))))
    obtain rfl := Option.some.inj r113
    exact k66 n62 _ _ (Nat.lt_succ_self _) ⟨(i0 + 1), y94, (.slice a104 n105 c106), f98, hn65, ⟨by kernel_rfl, by kernel_rfl, by kernel_rfl, by kernel_rfl, by kernel_rfl, trivial⟩, (FrS.step e29.wf (FrS.step e29.wf (FrS.step e29.wf ((FrS.step e29.wf (FrS.refl (W := [b21]) e29.wf) e52 Inn.refl').extR e81) e87 (hb82.fresh e52.next)) e100 Inn.nil) e109 Inn.refl'), u114, r110, (i102.fresh (ntr (ntr e52.next e81.next) e87.next))⟩
   ·have r115 := ite_t h90 r77
    refine w_skip ?_
    refine k74 _ _ ?_
    refine w_reg (by kernel_rfl) ?_
    obtain ⟨g116, r117⟩ := G_some r115
    refine s_w ((i0 + 1)) (k := .i64) (x := (i0 + 1)) (by kernel_rfl) (wrap64 (by have := g116; omega)) ?_
    refine s_qk (.int .i64 (i0 + 1)) (by kernel_rfl) ?_
    refine s_nil ?_
    have u118 := ((m54.ext e81).fr e87 (hb82.djn m54.lt))
    have u119 := ((m58.ext e81).frS e87 (hb82.djn (r25.ltF.le (ntr e29.next e52.next))))
    obtain rfl := Option.some.inj r117
    exact k66 n62 _ _ (Nat.lt_succ_self _) ⟨(i0 + 1), c1, (.slice a67 n68 c69), f56, hn65, ⟨by kernel_rfl, by kernel_rfl, by kernel_rfl, by kernel_rfl, by kernel_rfl, trivial⟩, (FrS.step e29.wf ((FrS.step e29.wf (FrS.refl (W := [b21]) e29.wf) e52 Inn.refl').extR e81) e87 (hb82.fresh e52.next)), u118, u119, (i59.fresh (Nat.le_refl _))⟩
  ·have r120 := ite_f h72 hz64
   refine w_exit (th_exit (th_exit (bl_eq ?_)))
   obtain rfl := Option.some.inj r120
   obtain rfl := it_inr hn65
   exact k47 _ _ ⟨(.slice a67 n68 c69), f56, ⟨by kernel_rfl, by kernel_rfl, trivial⟩, (FrS.step e29.wf (FrS.refl (W := [b21]) e29.wf) e52 Inn.refl'), m54, m58, (i59.fresh (Nat.le_refl _))⟩
 ·obtain ⟨s42, f43, hh48, e39, m41, m45, i46⟩ := hM
  obtain ⟨β, rfl⟩ := has_ex hh48
  clear hh48
  obtain ⟨a121, n122, c123, rfl⟩ := m41.form
  refine k31 _ _ ?_
  refine w_seqk fun K124 k124 => ?_
  refine w_reg (by kernel_rfl) ?_
  refine s_ql (.agg #[.int .i64 N_, .slice a121 n122 c123]) (x := aLoad Try.prog 59 (.pointer (some ⟨b21, 0, none⟩)) H38) (by kernel_rfl) (m45.ld (by kernel_rfl)) ?_
  have u129 := (((r17.ext e23).frS e29 (hb24.djn r17.ltF)).frS e39 (hb24.djn r17.ltF))
  obtain ⟨H125, q126, e127, r128⟩ := Row.store (P := Try.prog) (t := 59) (p := 0) e39.wf u129 (.agg #[.int .i64 N_, .slice a121 n122 c123]) [.int .i64 N_, .slice a121 n122 c123] (by kernel_rfl) (by kernel_rfl) (one_cons (rfl) (one_cons (m41.one1) (one_nil))) (Nat.le_of_ble_eq_true (by kernel_rfl)) [.int .i64 N_, .slice a121 n122 c123] (by kernel_rfl)
  refine s_ek (undef) (by kernel_rfl) (map_ok q126) ?_
  refine s_nil ?_
  refine k124 _ _ ?_
  refine w_ret ?_
  refine b_ret (fn := Try.f82) (vs := [.agg #[.int .i64 N_, .slice a121 n122 c123]]) (aRes_cell (Eq.trans (b := aLoad Try.prog 59 (.pointer (some ⟨b13, 0, none⟩)) H125) (by kernel_rfl) (r128.ld (by kernel_rfl))) (rfl)) ?_
  have u130 := (m41.fr e127 (Dj.symm (i46.djn (r17.ltF.le (ntr e23.next e29.next)))))
  obtain rfl := Option.some.inj r37
  exact ⟨(.slice a121 n122 c123), f43, rfl, (FrS.step wf (FrS.step wf (FrS.step wf ((((FrS.refl (W := []) wf).extR e9).extR e15).extR e23) e29 (hb24.fresh (ntr e9.next e15.next))) e39 (hb24.fresh (ntr e9.next e15.next))) e127 (hb16.fresh e9.next)), u130, (i46.fresh (ntr (ntr (ntr e9.next e15.next) e23.next) e29.next))⟩

theorem c_viaductref04_DocOf {H : AH} {hd_Arcs : Value} {fp_Arcs : Fp} {N_ : Int} {Arcs : List (Int × Int × Int)} {r : Int × List (Int × Int × Int) × Int × List (Int × Int)}
  (wf : WF H) (h_Arcs : Sq enc_i64_i64_i64 3 H hd_Arcs Arcs fp_Arcs) (hr : z_viaductref04_DocOf N_ Arcs = some r) :
  ACalls Try.prog 30 #[.agg #[.int .i64 N_, hd_Arcs]] H fun v H' => ∃ (s3 : Value) (f4 : Fp) (s7 : Value) (f8 : Fp), v = .tuple #[.agg #[.int .i64 r.1, s3], .agg #[.int .i64 r.2.2.1, s7]] ∧ FrS [] H H' ∧ Ow enc_i64_i64_i64 3 H' s3 r.2.1 f4 ∧ Ow enc_i64_i64 2 H' s7 r.2.2.2 f8 ∧ Inn [] H f4 ∧ Inn [] H f8 ∧ Dj f4 f8 := by
 refine acalls_of_body mixed Try.func30 rfl (Nat.le_of_ble_eq_true rfl) ?_
 unfold z_viaductref04_DocOf at hr
 refine w_seqk fun K12 k12 => ?_
 refine w_reg (by kernel_rfl) ?_
 refine s_rwl wf [.int .i64 N_, hd_Arcs] (one_cons (rfl) (one_cons (h_Arcs.one1) (one_nil))) (by kernel_rfl) fun b13 H14 e15 hb16 r17 => ?_
 refine s_rwk e15.wf [.int .i64 0, .slice none 0 0] (by kernel_rfl) fun b19 H20 e21 hb22 r23 => ?_
 refine s_rwk e21.wf [.int .i64 0, .slice none 0 0] (by kernel_rfl) fun b25 H26 e27 hb28 r29 => ?_
 refine s_nil ?_
 refine k12 _ _ ?_
 refine w_seqk fun K31 k31 => ?_
 refine w_seqk fun K32 k32 => ?_
 refine w_reg (by kernel_rfl) ?_
 have u33 := ((r17.ext e21).ext e27)
 refine s_ql (.agg #[.int .i64 N_, hd_Arcs]) (x := aLoad Try.prog 59 (.pointer (some ⟨b13, 0, none⟩)) H26) (by kernel_rfl) (u33.ld (by kernel_rfl)) ?_
 have u34 := (((h_Arcs.ext e15).ext e21).ext e27)
 obtain ⟨y35, hy36, r37⟩ := bind_some hr
 refine s_ck 81 #[.agg #[.int .i64 N_, hd_Arcs]] (by kernel_rfl) (c_viaductref03_DocCheck e27.wf u34 hy36) ?_
 rintro _ H40 ⟨s38, f39, rfl, e41, m42, i43⟩
 obtain ⟨a45, n46, c47, rfl⟩ := m42.form
 refine s_rwk e41.wf [.int .i64 0, .slice none 0 0] (by kernel_rfl) fun b48 H49 e50 hb51 r52 => ?_
 have u58 := (m42.ext e50)
 obtain ⟨H54, q55, e56, r57⟩ := Row.store (P := Try.prog) (t := 46) (p := 0) e50.wf r52 (.agg #[.int .i64 y35.1, .slice a45 n46 c47]) [.int .i64 y35.1, .slice a45 n46 c47] (by kernel_rfl) (by kernel_rfl) (one_cons (rfl) (one_cons (u58.one1) (one_nil))) (Nat.le_of_ble_eq_true (by kernel_rfl)) [.int .i64 y35.1, .slice a45 n46 c47] (by kernel_rfl)
 refine s_ek (undef) (by kernel_rfl) (map_ok q55) ?_
 refine s_nil ?_
 refine k32 _ _ ?_
 refine w_seqk fun K59 k59 => ?_
 refine w_reg (by kernel_rfl) ?_
 refine s_ql (.agg #[.int .i64 y35.1, .slice a45 n46 c47]) (x := aLoad Try.prog 46 (.pointer (some ⟨b48, 0, none⟩)) H54) (by kernel_rfl) (r57.ld (by kernel_rfl)) ?_
 have u60 := (u58.fr e56 (hb51.djn m42.lt))
 obtain ⟨y61, hy62, r63⟩ := bind_some r37
 refine s_ck 56 #[.agg #[.int .i64 y35.1, .slice a45 n46 c47]] (by kernel_rfl) (c_viaductref01_Err_Bad e56.wf u60.sq hy62) ?_
 rintro _ H64 ⟨rfl, e65⟩
 refine s_nil ?_
 refine k59 _ _ ?_
 refine w_cond (y61) (by kernel_rfl) rfl (fun h66 => ?_) (fun h66 => ?_)
 ·have r67 := ite_t h66 r63
  refine w_seqk fun K68 k68 => ?_
  refine w_draw [0, 1, 2, 3] (by kernel_rfl) ?_
  refine d_qk (.agg #[.int .i64 0, .slice none 0 0]) (by kernel_rfl) ?_
  have u69 := (r57.frS e65 Dj.nil_l)
  refine d_fl (.agg #[.int .i64 y35.1, .slice a45 n46 c47]) (x := aLoad Try.prog 46 (.pointer (some ⟨b48, 0, none⟩)) H64) (by kernel_rfl) (u69.ld (by kernel_rfl)) ?_
  have u74 := (((((r23.ext e27).frS e41 Dj.nil_l).ext e50).frS e56 (hb51.djn (r23.ltF.le (ntr e27.next e41.next)))).frS e65 Dj.nil_l)
  obtain ⟨H70, q71, e72, r73⟩ := Row.store (P := Try.prog) (t := 59) (p := 0) e65.wf u74 (.agg #[.int .i64 0, .slice none 0 0]) [.int .i64 0, .slice none 0 0] (by kernel_rfl) (by kernel_rfl) (one_cons (rfl) (one_cons (rfl) (one_nil))) (Nat.le_of_ble_eq_true (by kernel_rfl)) [.int .i64 0, .slice none 0 0] (by kernel_rfl)
  have u75 := (u69.frS e72 (Dj.symm (hb51.djn (r23.ltF.le (ntr e27.next e41.next)))))
  refine d_ek (undef) (by kernel_rfl) (map_ok q71) (st_ql (y := aLoad Try.prog 46 (.pointer (some ⟨b48, 0, none⟩)) H70) (by kernel_rfl) (u75.ld (by kernel_rfl)) (st_nil)) ?_
  have u80 := (((((r29.frS e41 Dj.nil_l).ext e50).frS e56 (hb51.djn (r29.ltF.le e41.next))).frS e65 Dj.nil_l).frS e72 (Dj.symm (hb28.djn r23.ltF)))
  have u81 := ((u60.fr e65 Dj.nil_l).fr e72 (Dj.symm (i43.djn (r23.ltF.le e27.next))))
  obtain ⟨H76, q77, e78, r79⟩ := Row.store (P := Try.prog) (t := 46) (p := 0) e72.wf u80 (.agg #[.int .i64 y35.1, .slice a45 n46 c47]) [.int .i64 y35.1, .slice a45 n46 c47] (by kernel_rfl) (by kernel_rfl) (one_cons (rfl) (one_cons (u81.one1) (one_nil))) (Nat.le_of_ble_eq_true (by kernel_rfl)) [.int .i64 y35.1, .slice a45 n46 c47] (by kernel_rfl)
  refine d_ek (undef) (by kernel_rfl) (map_ok q77) (st_anc (by kernel_rfl) (st_nil)) ?_
  refine d_nil ?_
  refine k68 _ _ ?_
  refine w_ret (th_ret ?_)
  have u82 := (r73.frS e78 (hb28.djn r23.ltF))
  refine b_ret (fn := Try.f30) (vs := [.agg #[.int .i64 0, .slice none 0 0], .agg #[.int .i64 y35.1, .slice a45 n46 c47]]) (aRes_cell (Eq.trans (b := aLoad Try.prog 59 (.pointer (some ⟨b19, 0, none⟩)) H76) (by kernel_rfl) (u82.ld (by kernel_rfl))) (aRes_cell (Eq.trans (b := aLoad Try.prog 46 (.pointer (some ⟨b25, 0, none⟩)) H76) (by kernel_rfl) (r79.ld (by kernel_rfl))) (rfl))) ?_
  have u83 := (u81.fr e78 (Dj.symm (i43.djn r29.ltF)))
  obtain rfl := Option.some.inj r67
  exact ⟨(.slice none 0 0), [], (.slice a45 n46 c47), f39, rfl, (FrS.step wf (FrS.step wf (FrS.step wf (FrS.step wf ((FrS.step wf ((((FrS.refl (W := []) wf).extR e15).extR e21).extR e27) e41 Inn.nil).extR e50) e56 (hb51.fresh (ntr (ntr (ntr e15.next e21.next) e27.next) e41.next))) e65 Inn.nil) e72 (hb22.fresh e15.next)) e78 (hb28.fresh (ntr e15.next e21.next))), (Ow.nil (by decide)), u83, Inn.nil, (i43.fresh (ntr (ntr e15.next e21.next) e27.next)), Dj.nil_l⟩
 ·have r84 := ite_bf h66 r63
  refine w_skip ?_
  refine k31 _ _ ?_
  refine w_seqk fun K85 k85 => ?_
  refine w_reg (by kernel_rfl) ?_
  have u86 := ((((u33.frS e41 Dj.nil_l).ext e50).frS e56 (hb51.djn (r17.ltF.le (ntr (ntr e21.next e27.next) e41.next)))).frS e65 Dj.nil_l)
  refine s_ql (.agg #[.int .i64 N_, hd_Arcs]) (x := aLoad Try.prog 59 (.pointer (some ⟨b13, 0, none⟩)) H64) (by kernel_rfl) (u86.ld (by kernel_rfl)) ?_
  have u87 := ((((u34.fr e41 Dj.nil_l).ext e50).fr e56 (hb51.djn (h_Arcs.lt.le (ntr (ntr (ntr e15.next e21.next) e27.next) e41.next)))).fr e65 Dj.nil_l)
  obtain ⟨y88, hy89, r90⟩ := bind_some r84
  refine s_ck 82 #[.agg #[.int .i64 N_, hd_Arcs]] (by kernel_rfl) (c_viaductref04_Of e65.wf u87 hy89) ?_
  rintro _ H93 ⟨s91, f92, rfl, e94, m95, i96⟩
  obtain ⟨a98, n99, c100, rfl⟩ := m95.form
  refine s_qk (.agg #[.int .i64 0, .slice none 0 0]) (by kernel_rfl) ?_
  have u105 := ((((((r23.ext e27).frS e41 Dj.nil_l).ext e50).frS e56 (hb51.djn (r23.ltF.le (ntr e27.next e41.next)))).frS e65 Dj.nil_l).frS e94 Dj.nil_l)
  obtain ⟨H101, q102, e103, r104⟩ := Row.store (P := Try.prog) (t := 59) (p := 0) e94.wf u105 (.agg #[.int .i64 y88.1, .slice a98 n99 c100]) [.int .i64 y88.1, .slice a98 n99 c100] (by kernel_rfl) (by kernel_rfl) (one_cons (rfl) (one_cons (m95.one1) (one_nil))) (Nat.le_of_ble_eq_true (by kernel_rfl)) [.int .i64 y88.1, .slice a98 n99 c100] (by kernel_rfl)
  refine s_ek (undef) (by kernel_rfl) (map_ok q102) ?_
  have u110 := ((((((r29.frS e41 Dj.nil_l).ext e50).frS e56 (hb51.djn (r29.ltF.le e41.next))).frS e65 Dj.nil_l).frS e94 Dj.nil_l).frS e103 (Dj.symm (hb28.djn r23.ltF)))
  obtain ⟨H106, q107, e108, r109⟩ := Row.store (P := Try.prog) (t := 46) (p := 0) e103.wf u110 (.agg #[.int .i64 0, .slice none 0 0]) [.int .i64 0, .slice none 0 0] (by kernel_rfl) (by kernel_rfl) (one_cons (rfl) (one_cons (rfl) (one_nil))) (Nat.le_of_ble_eq_true (by kernel_rfl)) [.int .i64 0, .slice none 0 0] (by kernel_rfl)
  refine s_ek (undef) (by kernel_rfl) (map_ok q107) ?_
  refine s_nil ?_
  refine k85 _ _ ?_
  refine w_ret ?_
  have u111 := (r104.frS e108 (hb28.djn r23.ltF))
  refine b_ret (fn := Try.f30) (vs := [.agg #[.int .i64 y88.1, .slice a98 n99 c100], .agg #[.int .i64 0, .slice none 0 0]]) (aRes_cell (Eq.trans (b := aLoad Try.prog 59 (.pointer (some ⟨b19, 0, none⟩)) H106) (by kernel_rfl) (u111.ld (by kernel_rfl))) (aRes_cell (Eq.trans (b := aLoad Try.prog 46 (.pointer (some ⟨b25, 0, none⟩)) H106) (by kernel_rfl) (r109.ld (by kernel_rfl))) (rfl))) ?_
  have u112 := ((m95.fr e103 (Dj.symm (i96.djn (r23.ltF.le (ntr (ntr (ntr (ntr e27.next e41.next) e50.next) e56.next) e65.next))))).fr e108 (Dj.symm (i96.djn (r29.ltF.le (ntr (ntr (ntr e41.next e50.next) e56.next) e65.next)))))
  obtain rfl := Option.some.inj r90
  exact ⟨(.slice a98 n99 c100), f92, (.slice none 0 0), [], rfl, (FrS.step wf (FrS.step wf (FrS.step wf (FrS.step wf (FrS.step wf ((FrS.step wf ((((FrS.refl (W := []) wf).extR e15).extR e21).extR e27) e41 Inn.nil).extR e50) e56 (hb51.fresh (ntr (ntr (ntr e15.next e21.next) e27.next) e41.next))) e65 Inn.nil) e94 Inn.nil) e103 (hb22.fresh e15.next)) e108 (hb28.fresh (ntr e15.next e21.next))), u112, (Ow.nil (by decide)), (i96.fresh (ntr (ntr (ntr (ntr (ntr (ntr e15.next e21.next) e27.next) e41.next) e50.next) e56.next) e65.next)), Inn.nil, Dj.nil_r⟩


end Go.Vd

/-! (KCm4) -/

set_option maxRecDepth 100000
set_option maxHeartbeats 4000000
set_option linter.unusedVariables false
namespace Go.Vd
open Go.Proofs
attribute [local irreducible] wpSeq wpOrd aWp
theorem c_viaductref05_Build {H : AH} {hd_Arcs : Value} {fp_Arcs : Fp} {N_ : Int} {Arcs : List (Int × Int × Int)} {r : List (Int) × List (Int) × List (Int)}
  (wf : WF H) (h_Arcs : Sq enc_i64_i64_i64 3 H hd_Arcs Arcs fp_Arcs) (hr : z_viaductref05_Build N_ Arcs = some r) :
  ACalls Try.prog 109 #[.agg #[.int .i64 N_, hd_Arcs]] H fun v H' => ∃ (s3 : Value) (f4 : Fp) (s7 : Value) (f8 : Fp) (s11 : Value) (f12 : Fp), v = .agg #[s3, s7, s11] ∧ FrS [] H H' ∧ Ow (encI .i64) 1 H' s3 r.1 f4 ∧ Ow (encI .i64) 1 H' s7 r.2.1 f8 ∧ Ow (encI .i64) 1 H' s11 r.2.2 f12 ∧ Inn [] H f4 ∧ Inn [] H f8 ∧ Inn [] H f12 ∧ Dj f4 f8 ∧ Dj f4 f12 ∧ Dj f8 f12 := by
 refine acalls_of_body mixed Try.func109 rfl (Nat.le_of_ble_eq_true rfl) ?_
 unfold z_viaductref05_Build at hr
 refine w_seqk fun K19 k19 => ?_
 refine w_reg (by kernel_rfl) ?_
 refine s_rwl wf [.int .i64 N_, hd_Arcs] (one_cons (rfl) (one_cons (h_Arcs.one1) (one_nil))) (by kernel_rfl) fun b20 H21 e22 hb23 r24 => ?_
 refine s_rwk e22.wf [.slice none 0 0, .slice none 0 0, .slice none 0 0] (by kernel_rfl) fun b26 H27 e28 hb29 r30 => ?_
 refine s_nil ?_
 refine k19 _ _ ?_
 refine w_seqk fun K32 k32 => ?_
 refine w_reg (by kernel_rfl) ?_
 refine s_owk (enc := (encI .i64)) (sz := 1) e28.wf [0] 1 (by decide) (fun _ _ => rfl) (fun _ _ => rfl) rfl (by kernel_rfl) fun s33 f34 H35 e36 hf37 hm38 => ?_
 obtain ⟨a39, n40, c41, rfl⟩ := hm38.form
 refine s_qk (.agg #[.slice a39 n40 c41, .slice none 0 0, .slice none 0 0]) (by kernel_rfl) ?_
 refine s_rwk e36.wf [.slice none 0 0, .slice none 0 0, .slice none 0 0] (by kernel_rfl) fun b43 H44 e45 hb46 r47 => ?_
 have u53 := (hm38.ext e45)
 obtain ⟨H49, q50, e51, r52⟩ := Row.store (P := Try.prog) (t := 24) (p := 0) e45.wf r47 (.agg #[.slice a39 n40 c41, .slice none 0 0, .slice none 0 0]) [.slice a39 n40 c41, .slice none 0 0, .slice none 0 0] (by kernel_rfl) (by kernel_rfl) (one_cons (u53.one1) (one_cons (rfl) (one_cons (rfl) (one_nil)))) (Nat.le_of_ble_eq_true (by kernel_rfl)) [.slice a39 n40 c41, .slice none 0 0, .slice none 0 0] (by kernel_rfl)
 refine s_ek (undef) (by kernel_rfl) (map_ok q50) ?_
 refine s_nil ?_
 refine k32 _ _ ?_
 refine w_seqk fun K54 k54 => ?_
 refine w_reg (by kernel_rfl) ?_
 refine s_qk (.int .i64 0) (by kernel_rfl) ?_
 refine s_nil ?_
 refine k54 _ _ ?_
 refine w_seqk fun K55 k55 => ?_
 refine w_seqk fun K56 k56 => ?_
 refine w_reg (by kernel_rfl) ?_
 refine s_qk (.int .i64 0) (by kernel_rfl) ?_
 refine s_nil ?_
 refine k56 _ _ ?_
 obtain ⟨o57, hx58, r59⟩ := bind_some hr
 refine w_mid (fun α H60 => ∃ (s64 : Value) (f65 : Fp) (s68 : Value) (f69 : Fp) (s72 : Value) (f73 : Fp), Has α [(2, .pointer (some ⟨b26, 0, none⟩)), (3, .pointer (some ⟨b43, 0, none⟩))] ∧ FrS ([b43] ++ f34) H49 H60 ∧ Ow (encI .i64) 1 H60 s64 o57.1 f65 ∧ Ow (encI .i64) 1 H60 s68 o57.2.1 f69 ∧ Ow (encI .i64) 1 H60 s72 o57.2.2 f73 ∧ Row H60 b43 [s64, s68, s72] ∧ Inn f34 H49 f65 ∧ Inn [] H49 f69 ∧ Inn [] H49 f73 ∧ Dj f65 f69 ∧ Dj f65 f73 ∧ Dj f69 f73) (fun K82 k82 => ?_) (fun α H60 hM => ?_)
 ·refine w_block ?_
  obtain ⟨n84, hn85⟩ := loopO_iff.1 hx58
  have u114 := (u53.fr e51 (hb46.djn hm38.lt))
  refine w_loopn (fun n α H86 => ∃ (c3 : List (Int)), ∃ (c4 : List (Int)), ∃ (c5 : List (Int)), ∃ (i6 : Int), ∃ (v7 : Int), ∃ (s90 : Value), ∃ (f91 : Fp), ∃ (s94 : Value), ∃ (f95 : Fp), ∃ (s98 : Value), ∃ (f99 : Fp), iterO (fun zz_ => z_viaductref05_Build_l1 N_ Arcs zz_.1 zz_.2.1 zz_.2.2.1 zz_.2.2.2.1 zz_.2.2.2.2) n (c3, c4, c5, i6, v7) = some o57 ∧ Has α [(1, .pointer (some ⟨b20, 0, none⟩)), (2, .pointer (some ⟨b26, 0, none⟩)), (3, .pointer (some ⟨b43, 0, none⟩)), (4, .int .i64 i6), (5, .int .i64 v7)] ∧ FrS ([b43] ++ f34) H49 H86 ∧ Ow (encI .i64) 1 H86 s90 c3 f91 ∧ Ow (encI .i64) 1 H86 s94 c4 f95 ∧ Ow (encI .i64) 1 H86 s98 c5 f99 ∧ Row H86 b43 [s90, s94, s98] ∧ Inn f34 H49 f91 ∧ Inn [] H49 f95 ∧ Inn [] H49 f99 ∧ Dj f91 f95 ∧ Dj f91 f99 ∧ Dj f95 f99) n84 ⟨[0], [], [], 0, 0, (.slice a39 n40 c41), f34, (.slice none 0 0), [], (.slice none 0 0), [], hn85, ⟨by kernel_rfl, by kernel_rfl, by kernel_rfl, by kernel_rfl, by kernel_rfl, trivial⟩, (FrS.refl (W := ([b43] ++ f34)) e51.wf), u114, (Ow.nil (by decide)), (Ow.nil (by decide)), r52, Inn.refl', Inn.nil, Inn.nil, Dj.nil_r, Dj.nil_r, Dj.nil_l⟩ ?_
  rintro n84 α H86 ⟨c3, c4, c5, i6, v7, s90, f91, s94, f95, s98, f99, hi109, hh108, e87, m89, m93, m97, m101, i102, i103, i104, d105, d106, d107⟩ K115 k115
  obtain ⟨n110, z111, rfl, hz112, hn113⟩ := iter_succ hi109
  obtain ⟨β, rfl⟩ := has_ex hh108
  clear hh108
  replace hz112 : z_viaductref05_Build_l1 N_ Arcs c3 c4 c5 i6 v7 = some z111 := hz112
  unfold z_viaductref05_Build_l1 at hz112
  obtain ⟨a116, n117, c118, rfl⟩ := m89.form
  obtain ⟨a119, n120, c121, rfl⟩ := m93.form
  obtain ⟨a122, n123, c124, rfl⟩ := m97.form
  refine w_seqk fun K125 k125 => ?_
  refine w_seqk fun K126 k126 => ?_
  refine w_reg (by kernel_rfl) ?_
  refine s_qk (.int .i64 v7) (by kernel_rfl) ?_
  refine s_qk (.pointer (some ⟨b20, 0, none⟩)) (by kernel_rfl) ?_
  have u127 := (((((r24.ext e28).ext e36).ext e45).frS e51 (hb46.djn (r24.ltF.le (ntr e28.next e36.next)))).frS e87 (Dj.app (hb46.djn (r24.ltF.le (ntr e28.next e36.next))) (hf37.djn (r24.ltF.le e28.next))))
  refine s_ql (.int .i64 N_) (x := aLoad Try.prog 3 (.pointer (some ⟨b20, 0, none⟩)) H86) (by kernel_rfl) (u127.ld (by kernel_rfl)) ?_
  refine s_qk (.bool (decide (v7 < N_))) (by kernel_rfl) ?_
  refine s_nil ?_
  refine k126 _ _ ?_
  refine w_condp (v7 < N_) (by kernel_rfl) rfl (fun h128 => ?_) (fun h128 => ?_)
  ·have r129 := ite_t h128 hz112
   refine w_skip ?_
   refine k125 _ _ ?_
   refine w_seqk fun K130 k130 => ?_
   refine w_block ?_
   refine w_seqk fun K131 k131 => ?_
   obtain ⟨o132, hx133, r134⟩ := bind_some r129
   refine w_mid (fun α H135 => ∃ (s139 : Value) (f140 : Fp) (s143 : Value) (f144 : Fp), Has α [(1, .pointer (some ⟨b20, 0, none⟩)), (2, .pointer (some ⟨b26, 0, none⟩)), (3, .pointer (some ⟨b43, 0, none⟩)), (4, .int .i64 o132.2.2), (5, .int .i64 v7)] ∧ FrS ([b43] ++ (f95 ++ f99)) H86 H135 ∧ Ow (encI .i64) 1 H135 s139 o132.1 f140 ∧ Ow (encI .i64) 1 H135 s143 o132.2.1 f144 ∧ Row H135 b43 [.slice a116 n117 c118, s139, s143] ∧ Inn f95 H86 f140 ∧ Inn f99 H86 f144 ∧ Dj f140 f144) (fun K150 k150 => ?_) (fun α H135 hM => ?_)
   ·refine w_block ?_
    obtain ⟨n152, hn153⟩ := loopO_iff.1 hx133
    refine w_loopn (fun n α H154 => ∃ (c0 : List (Int)), ∃ (c1 : List (Int)), ∃ (i2 : Int), ∃ (s158 : Value), ∃ (f159 : Fp), ∃ (s162 : Value), ∃ (f163 : Fp), iterO (fun zz_ => z_viaductref05_Build_l0 Arcs v7 zz_.1 zz_.2.1 zz_.2.2) n (c0, c1, i2) = some o132 ∧ Has α [(1, .pointer (some ⟨b20, 0, none⟩)), (2, .pointer (some ⟨b26, 0, none⟩)), (3, .pointer (some ⟨b43, 0, none⟩)), (4, .int .i64 i2), (5, .int .i64 v7)] ∧ FrS ([b43] ++ (f95 ++ f99)) H86 H154 ∧ Ow (encI .i64) 1 H154 s158 c0 f159 ∧ Ow (encI .i64) 1 H154 s162 c1 f163 ∧ Row H154 b43 [.slice a116 n117 c118, s158, s162] ∧ Inn f95 H86 f159 ∧ Inn f99 H86 f163 ∧ Dj f159 f163) n152 ⟨c4, c5, i6, (.slice a119 n120 c121), f95, (.slice a122 n123 c124), f99, hn153, ⟨by kernel_rfl, by kernel_rfl, by kernel_rfl, by kernel_rfl, by kernel_rfl, trivial⟩, (FrS.refl (W := ([b43] ++ (f95 ++ f99))) e87.wf), m93, m97, m101, Inn.refl', Inn.refl', d107⟩ ?_
    rintro n152 α H154 ⟨c0, c1, i2, s158, f159, s162, f163, hi170, hh169, e155, m157, m161, m165, i166, i167, d168⟩ K175 k175
    obtain ⟨n171, z172, rfl, hz173, hn174⟩ := iter_succ hi170
    obtain ⟨β, rfl⟩ := has_ex hh169
    clear hh169
    replace hz173 : z_viaductref05_Build_l0 Arcs v7 c0 c1 i2 = some z172 := hz173
    unfold z_viaductref05_Build_l0 at hz173
    obtain ⟨a176, n177, c178, rfl⟩ := m157.form
    obtain ⟨a179, n180, c181, rfl⟩ := m161.form
    refine w_seqk fun K182 k182 => ?_
    refine w_seqk fun K183 k183 => ?_
    obtain ⟨o184, hx185, r186⟩ := bind_some hz173
    refine w_mid (fun α H187 => Has α [(1, .pointer (some ⟨b20, 0, none⟩)), (2, .pointer (some ⟨b26, 0, none⟩)), (3, .pointer (some ⟨b43, 0, none⟩)), (4, .int .i64 i2), (5, .int .i64 v7), (28, .bool o184)] ∧ H154 = H187) (fun K189 k189 => ?_) (fun α H187 hM => ?_)
    ·refine w_reg (by kernel_rfl) ?_
     refine s_qk (.int .i64 i2) (by kernel_rfl) ?_
     refine s_qk (.pointer (some ⟨b20, 1, none⟩)) (by kernel_rfl) ?_
     have u191 := (u127.frS e155 (Dj.app (hb46.djn (r24.ltF.le (ntr e28.next e36.next))) (Dj.app (i103.djn (r24.ltF.le (ntr (ntr (ntr e28.next e36.next) e45.next) e51.next))) (i104.djn (r24.ltF.le (ntr (ntr (ntr e28.next e36.next) e45.next) e51.next))))))
     refine s_ql (hd_Arcs) (x := aLoad Try.prog 57 (.pointer (some ⟨b20, 1, none⟩)) H154) (by kernel_rfl) (u191.ld (by kernel_rfl)) ?_
     have u192 := (((((((h_Arcs.ext e22).ext e28).ext e36).ext e45).fr e51 (hb46.djn (h_Arcs.lt.le (ntr (ntr e22.next e28.next) e36.next)))).fr e87 (Dj.app (hb46.djn (h_Arcs.lt.le (ntr (ntr e22.next e28.next) e36.next))) (hf37.djn (h_Arcs.lt.le (ntr e22.next e28.next))))).fr e155 (Dj.app (hb46.djn (h_Arcs.lt.le (ntr (ntr e22.next e28.next) e36.next))) (Dj.app (i103.djn (h_Arcs.lt.le (ntr (ntr (ntr (ntr e22.next e28.next) e36.next) e45.next) e51.next))) (i104.djn (h_Arcs.lt.le (ntr (ntr (ntr (ntr e22.next e28.next) e36.next) e45.next) e51.next))))))
     refine s_ql (.int .i64 (Arcs.length : Int)) (x := aLen Try.prog 57 hd_Arcs H154) (by kernel_rfl) (u192.lenb (by kernel_rfl)) ?_
     refine s_b (i2 < (Arcs.length : Int)) (by kernel_rfl) (fun h193 => ?_) (fun h193 => ?_)
     ·have r194 := ite_t h193 hx185
      refine s_qk (.bool true) (by kernel_rfl) ?_
      refine s_qk (.pointer (some ⟨b20, 1, none⟩)) (by kernel_rfl) ?_
      refine s_ql (hd_Arcs) (x := aLoad Try.prog 57 (.pointer (some ⟨b20, 1, none⟩)) H154) (by kernel_rfl) (u191.ld (by kernel_rfl)) ?_
      refine s_qk (.int .i64 i2) (by kernel_rfl) ?_
      obtain ⟨g195, r196⟩ := G_some r194
      refine s_ql (elp hd_Arcs 3 i2.toNat 0) (x := aIndexAddr Try.prog 57 hd_Arcs (.int .i64 i2)) (by kernel_rfl) (u192.idxb (by kernel_rfl) g195 h193) ?_
      refine s_ql (elp hd_Arcs 3 i2.toNat 0) (x := aFieldAddr Try.prog 73 (elp hd_Arcs 3 i2.toNat 0) 0) (by kernel_rfl) (Sq.fldq (d := 0) u192 g195 h193 (by kernel_rfl)) ?_
      refine s_ql (.int .i64 ((gt Arcs i2).1)) (x := aLoad Try.prog 3 (elp hd_Arcs 3 i2.toNat 0) H154) (by kernel_rfl) (u192.ld g195 h193 (by kernel_rfl)) ?_
      refine s_qk (.int .i64 v7) (by kernel_rfl) ?_
      refine s_qk (.bool (decide (((gt Arcs i2).1) = v7))) (by kernel_rfl) ?_
      refine s_qk (.bool (decide (((gt Arcs i2).1) = v7))) (by kernel_rfl) ?_
      refine s_nil ?_
      obtain rfl := Option.some.inj r196
      exact k189 _ _ ⟨⟨by kernel_rfl, by kernel_rfl, by kernel_rfl, by kernel_rfl, by kernel_rfl, by kernel_rfl, trivial⟩, rfl⟩
     ·have r197 := ite_f h193 hx185
      refine s_qk (.bool false) (by kernel_rfl) ?_
      refine s_no (by kernel_rfl) ?_
      refine s_no (by kernel_rfl) ?_
      refine s_no (by kernel_rfl) ?_
      refine s_no (by kernel_rfl) ?_
      refine s_no (by kernel_rfl) ?_
      refine s_no (by kernel_rfl) ?_
      refine s_no (by kernel_rfl) ?_
      refine s_no (by kernel_rfl) ?_
      refine s_qk (.bool false) (by kernel_rfl) ?_
      refine s_nil ?_
      obtain rfl := Option.some.inj r197
      exact k189 _ _ ⟨⟨by kernel_rfl, by kernel_rfl, by kernel_rfl, by kernel_rfl, by kernel_rfl, by kernel_rfl, trivial⟩, rfl⟩
    ·obtain ⟨hh190, rfl⟩ := hM
     obtain ⟨β, rfl⟩ := has_ex hh190
     clear hh190
     refine k183 _ _ ?_
     refine w_cond (o184) (by kernel_rfl) rfl (fun h198 => ?_) (fun h198 => ?_)
     ·have r199 := ite_t h198 r186
      refine w_skip ?_
      refine k182 _ _ ?_
      refine w_block ?_
      refine w_seqk fun K200 k200 => ?_
      refine w_draw [0, 1, 2, 3, 4, 5, 6, 7, 8, 9, 10, 11] (by kernel_rfl) ?_
      refine d_qk (.pointer (some ⟨b43, 1, none⟩)) (by kernel_rfl) ?_
      refine d_ql (.slice a176 n177 c178) (x := aLoad Try.prog 22 (.pointer (some ⟨b43, 1, none⟩)) H154) (by kernel_rfl) (m165.ld (by kernel_rfl)) ?_
      refine d_qk (.pointer (some ⟨b20, 1, none⟩)) (by kernel_rfl) ?_
      have u201 := (u127.frS e155 (Dj.app (hb46.djn (r24.ltF.le (ntr e28.next e36.next))) (Dj.app (i103.djn (r24.ltF.le (ntr (ntr (ntr e28.next e36.next) e45.next) e51.next))) (i104.djn (r24.ltF.le (ntr (ntr (ntr e28.next e36.next) e45.next) e51.next))))))
      refine d_ql (hd_Arcs) (x := aLoad Try.prog 57 (.pointer (some ⟨b20, 1, none⟩)) H154) (by kernel_rfl) (u201.ld (by kernel_rfl)) ?_
      refine d_qk (.int .i64 i2) (by kernel_rfl) ?_
      obtain ⟨g202, r203⟩ := G_some r199
      have u204 := (((((((h_Arcs.ext e22).ext e28).ext e36).ext e45).fr e51 (hb46.djn (h_Arcs.lt.le (ntr (ntr e22.next e28.next) e36.next)))).fr e87 (Dj.app (hb46.djn (h_Arcs.lt.le (ntr (ntr e22.next e28.next) e36.next))) (hf37.djn (h_Arcs.lt.le (ntr e22.next e28.next))))).fr e155 (Dj.app (hb46.djn (h_Arcs.lt.le (ntr (ntr e22.next e28.next) e36.next))) (Dj.app (i103.djn (h_Arcs.lt.le (ntr (ntr (ntr (ntr e22.next e28.next) e36.next) e45.next) e51.next))) (i104.djn (h_Arcs.lt.le (ntr (ntr (ntr (ntr e22.next e28.next) e36.next) e45.next) e51.next))))))
      refine d_ql (elp hd_Arcs 3 i2.toNat 0) (x := aIndexAddr Try.prog 57 hd_Arcs (.int .i64 i2)) (by kernel_rfl) (u204.idxb (by kernel_rfl) g202.1 g202.2) ?_
      refine d_ql (elp hd_Arcs 3 i2.toNat 1) (x := aFieldAddr Try.prog 73 (elp hd_Arcs 3 i2.toNat 0) 1) (by kernel_rfl) (Sq.fldq (d := 1) u204 g202.1 g202.2 (by kernel_rfl)) ?_
      refine d_ql (.int .i64 ((gt Arcs i2).2.1)) (x := aLoad Try.prog 3 (elp hd_Arcs 3 i2.toNat 1) H154) (by kernel_rfl) (u204.ld g202.1 g202.2 (by kernel_rfl)) ?_
      refine d_owk (enc := (encI .i64)) (sz := 1) e155.wf [(gt Arcs i2).2.1] 1 (by decide) (fun _ _ => rfl) (fun _ _ => rfl) rfl (by kernel_rfl) fun s205 f206 H207 e208 hf209 hm210 => ?_
      obtain ⟨a211, n212, c213, rfl⟩ := hm210.form
      have u215 := (m157.ext e208)
      obtain ⟨g216, r217⟩ := G_some r203
      obtain ⟨s218, H219, f220, q224, e221, hm222, hf223⟩ := Ow.append (P := Try.prog) 8 e208.wf u215 hm210.sq (fun _ _ => rfl) (at_ := #[22, 22]) rfl rfl (by kernel_rfl) (by kernel_rfl) (by decide) (by have := g216; first | omega | (simp only [List.length_cons, List.length_nil] at this ⊢; omega) | (simp at this ⊢; omega))
      obtain ⟨a225, n226, c227, rfl⟩ := hm222.form
      refine d_ek (.slice a225 n226 c227) (by kernel_rfl) (q224) (st_nil) ?_
      refine d_qk (.pointer (some ⟨b43, 1, none⟩)) (by kernel_rfl) ?_
      have u233 := ((m165.ext e208).frS e221 (i166.dj (i103.djn (r47.ltF.le e51.next)) (r47.ltF.le (ntr e51.next e87.next))))
      obtain ⟨H229, q230, e231, r232⟩ := Row.store (P := Try.prog) (t := 22) (p := 1) e221.wf u233 (.slice a225 n226 c227) [.slice a225 n226 c227] (by kernel_rfl) (by kernel_rfl) (one_cons (hm222.one1) (one_nil)) (Nat.le_of_ble_eq_true (by kernel_rfl)) [.slice a116 n117 c118, .slice a225 n226 c227, .slice a179 n180 c181] (by kernel_rfl)
      refine d_ek (undef) (by kernel_rfl) (map_ok q230) (st_nil) ?_
      refine d_nil ?_
      refine k200 _ _ ?_
      refine w_seqk fun K234 k234 => ?_
      refine w_draw [0, 1, 2, 3, 4, 5, 6, 7, 8, 9, 10, 11] (by kernel_rfl) ?_
      refine d_qk (.pointer (some ⟨b43, 2, none⟩)) (by kernel_rfl) ?_
      refine d_ql (.slice a179 n180 c181) (x := aLoad Try.prog 22 (.pointer (some ⟨b43, 2, none⟩)) H229) (by kernel_rfl) (r232.ld (by kernel_rfl)) ?_
      refine d_qk (.pointer (some ⟨b20, 1, none⟩)) (by kernel_rfl) ?_
      have u235 := (((u201.ext e208).frS e221 (i166.dj (i103.djn (r24.ltF.le (ntr (ntr (ntr e28.next e36.next) e45.next) e51.next))) (r24.ltF.le (ntr (ntr (ntr (ntr e28.next e36.next) e45.next) e51.next) e87.next)))).frS e231 (hb46.djn (r24.ltF.le (ntr e28.next e36.next))))
      refine d_ql (hd_Arcs) (x := aLoad Try.prog 57 (.pointer (some ⟨b20, 1, none⟩)) H229) (by kernel_rfl) (u235.ld (by kernel_rfl)) ?_
      refine d_qk (.int .i64 i2) (by kernel_rfl) ?_
      have u236 := (((u204.ext e208).fr e221 (i166.dj (i103.djn (h_Arcs.lt.le (ntr (ntr (ntr (ntr e22.next e28.next) e36.next) e45.next) e51.next))) (h_Arcs.lt.le (ntr (ntr (ntr (ntr (ntr e22.next e28.next) e36.next) e45.next) e51.next) e87.next)))).fr e231 (hb46.djn (h_Arcs.lt.le (ntr (ntr e22.next e28.next) e36.next))))
      refine d_ql (elp hd_Arcs 3 i2.toNat 0) (x := aIndexAddr Try.prog 57 hd_Arcs (.int .i64 i2)) (by kernel_rfl) (u236.idxb (by kernel_rfl) g202.1 g202.2) ?_
      refine d_ql (elp hd_Arcs 3 i2.toNat 2) (x := aFieldAddr Try.prog 73 (elp hd_Arcs 3 i2.toNat 0) 2) (by kernel_rfl) (Sq.fldq (d := 2) u236 g202.1 g202.2 (by kernel_rfl)) ?_
      refine d_ql (.int .i64 ((gt Arcs i2).2.2)) (x := aLoad Try.prog 3 (elp hd_Arcs 3 i2.toNat 2) H229) (by kernel_rfl) (u236.ld g202.1 g202.2 (by kernel_rfl)) ?_
      refine d_owk (enc := (encI .i64)) (sz := 1) e231.wf [(gt Arcs i2).2.2] 1 (by decide) (fun _ _ => rfl) (fun _ _ => rfl) rfl (by kernel_rfl) fun s237 f238 H239 e240 hf241 hm242 => ?_
      obtain ⟨a243, n244, c245, rfl⟩ := hm242.form
      have u247 := ((((m161.ext e208).fr e221 d168).fr e231 (Dj.symm (i167.dj (i104.djn (r47.ltF.le e51.next)) (r47.ltF.le (ntr e51.next e87.next))))).ext e240)
      obtain ⟨g248, r249⟩ := G_some r217
      obtain ⟨s250, H251, f252, q256, e253, hm254, hf255⟩ := Ow.append (P := Try.prog) 8 e240.wf u247 hm242.sq (fun _ _ => rfl) (at_ := #[22, 22]) rfl rfl (by kernel_rfl) (by kernel_rfl) (by decide) (by have := g248; first | omega | (simp only [List.length_cons, List.length_nil] at this ⊢; omega) | (simp at this ⊢; omega))
      obtain ⟨a257, n258, c259, rfl⟩ := hm254.form
      refine d_ek (.slice a257 n258 c259) (by kernel_rfl) (q256) (st_nil) ?_
      refine d_qk (.pointer (some ⟨b43, 2, none⟩)) (by kernel_rfl) ?_
      have u265 := ((r232.ext e240).frS e253 (i167.dj (i104.djn (r47.ltF.le e51.next)) (r47.ltF.le (ntr e51.next e87.next))))
      obtain ⟨H261, q262, e263, r264⟩ := Row.store (P := Try.prog) (t := 22) (p := 2) e253.wf u265 (.slice a257 n258 c259) [.slice a257 n258 c259] (by kernel_rfl) (by kernel_rfl) (one_cons (hm254.one1) (one_nil)) (Nat.le_of_ble_eq_true (by kernel_rfl)) [.slice a116 n117 c118, .slice a225 n226 c227, .slice a257 n258 c259] (by kernel_rfl)
      refine d_ek (undef) (by kernel_rfl) (map_ok q262) (st_nil) ?_
      refine d_nil ?_
      refine k234 _ _ ?_
      refine w_reg (by kernel_rfl) ?_
      refine s_qk (.int .i64 i2) (by kernel_rfl) ?_
      obtain ⟨g266, r267⟩ := G_some r249
      refine s_w ((i2 + 1)) (k := .i64) (x := (i2 + 1)) (by kernel_rfl) (wrap64 (by have := g266; omega)) ?_
      refine s_qk (.int .i64 (i2 + 1)) (by kernel_rfl) ?_
      refine s_nil ?_
      have u268 := ((((hm222.fr e231 (Dj.symm (hf223.dj (i166.dj (i103.djn (r47.ltF.le e51.next)) (r47.ltF.le (ntr e51.next e87.next))) (r47.ltF.le (ntr (ntr (ntr e51.next e87.next) e155.next) e208.next))))).ext e240).fr e253 (Dj.symm (hf223.dj d168 (m161.lt.le e208.next)))).fr e263 (Dj.symm (hf223.dj (i166.dj (i103.djn (r47.ltF.le e51.next)) (r47.ltF.le (ntr e51.next e87.next))) (r47.ltF.le (ntr (ntr (ntr e51.next e87.next) e155.next) e208.next)))))
      have u269 := (hm254.fr e263 (Dj.symm (hf255.dj (i167.dj (i104.djn (r47.ltF.le e51.next)) (r47.ltF.le (ntr e51.next e87.next))) (r47.ltF.le (ntr (ntr (ntr (ntr (ntr (ntr e51.next e87.next) e155.next) e208.next) e221.next) e231.next) e240.next)))))
      obtain rfl := Option.some.inj r267
      exact k175 n171 _ _ (Nat.lt_succ_self _) ⟨(c0 ++ [(gt Arcs i2).2.1]), (c1 ++ [(gt Arcs i2).2.2]), (i2 + 1), (.slice a225 n226 c227), f220, (.slice a257 n258 c259), f252, hn174, ⟨by kernel_rfl, by kernel_rfl, by kernel_rfl, by kernel_rfl, by kernel_rfl, trivial⟩, (FrS.step e87.wf (FrS.step e87.wf ((FrS.step e87.wf (FrS.step e87.wf ((FrS.step e87.wf (FrS.refl (W := ([b43] ++ (f95 ++ f99))) e87.wf) e155 (Inn.app Inn.left (Inn.app (Inn.right Inn.left) (Inn.right (Inn.right Inn.refl'))))).extR e208) e221 (Inn.trans (Inn.right Inn.left) (Nat.le_refl _) i166)) e231 Inn.left).extR e240) e253 (Inn.trans (Inn.right (Inn.right Inn.refl')) (Nat.le_refl _) i167)) e263 Inn.left), u268, u269, r264, (Inn.trans (Inn.trans Inn.refl' (Nat.le_refl _) i166) (ntr e155.next e208.next) hf223), (Inn.trans (Inn.trans Inn.refl' (Nat.le_refl _) i167) (ntr (ntr (ntr (ntr e155.next e208.next) e221.next) e231.next) e240.next) hf255), (Dj.symm (hf255.dj (Dj.symm (hf223.dj d168 (m161.lt.le e208.next))) (hm222.lt.le (ntr e231.next e240.next))))⟩
     ·have r270 := ite_bf h198 r186
      refine w_exit (th_exit (th_exit (bl_eq ?_)))
      obtain rfl := Option.some.inj r270
      obtain rfl := it_inr hn174
      exact k150 _ _ ⟨(.slice a176 n177 c178), f159, (.slice a179 n180 c181), f163, ⟨by kernel_rfl, by kernel_rfl, by kernel_rfl, by kernel_rfl, by kernel_rfl, trivial⟩, (FrS.step e87.wf (FrS.refl (W := ([b43] ++ (f95 ++ f99))) e87.wf) e155 (Inn.app Inn.left (Inn.app (Inn.right Inn.left) (Inn.right (Inn.right Inn.refl'))))), m157, m161, m165, (Inn.trans Inn.refl' (Nat.le_refl _) i166), (Inn.trans Inn.refl' (Nat.le_refl _) i167), d168⟩
   ·obtain ⟨s139, f140, s143, f144, hh151, e136, m138, m142, m146, i147, i148, d149⟩ := hM
    obtain ⟨β, rfl⟩ := has_ex hh151
    clear hh151
    obtain ⟨a271, n272, c273, rfl⟩ := m138.form
    obtain ⟨a274, n275, c276, rfl⟩ := m142.form
    refine k131 _ _ ?_
    refine w_reg (by kernel_rfl) ?_
    refine s_qk (.pointer (some ⟨b43, 0, none⟩)) (by kernel_rfl) ?_
    refine s_ql (.slice a116 n117 c118) (x := aLoad Try.prog 22 (.pointer (some ⟨b43, 0, none⟩)) H135) (by kernel_rfl) (m146.ld (by kernel_rfl)) ?_
    refine s_qk (.int .i64 o132.2.2) (by kernel_rfl) ?_
    refine s_owk (enc := (encI .i64)) (sz := 1) e136.wf [o132.2.2] 1 (by decide) (fun _ _ => rfl) (fun _ _ => rfl) rfl (by kernel_rfl) fun s277 f278 H279 e280 hf281 hm282 => ?_
    obtain ⟨a283, n284, c285, rfl⟩ := hm282.form
    have u287 := ((m89.fr e136 (Dj.app (Dj.symm (i102.dj (Dj.symm (hb46.djn hm38.lt)) (r47.ltF.le e51.next))) (Dj.app (Dj.symm d105) (Dj.symm d106)))).ext e280)
    obtain ⟨g288, r289⟩ := G_some r134
    obtain ⟨s290, H291, f292, q296, e293, hm294, hf295⟩ := Ow.append (P := Try.prog) 8 e280.wf u287 hm282.sq (fun _ _ => rfl) (at_ := #[22, 22]) rfl rfl (by kernel_rfl) (by kernel_rfl) (by decide) (by have := g288; first | omega | (simp only [List.length_cons, List.length_nil] at this ⊢; omega) | (simp at this ⊢; omega))
    obtain ⟨a297, n298, c299, rfl⟩ := hm294.form
    refine s_ek (.slice a297 n298 c299) (by kernel_rfl) (q296) ?_
    refine s_qk (.pointer (some ⟨b43, 0, none⟩)) (by kernel_rfl) ?_
    have u305 := ((m146.ext e280).frS e293 (i102.dj (Dj.symm (hb46.djn hm38.lt)) (r47.ltF.le e51.next)))
    obtain ⟨H301, q302, e303, r304⟩ := Row.store (P := Try.prog) (t := 22) (p := 0) e293.wf u305 (.slice a297 n298 c299) [.slice a297 n298 c299] (by kernel_rfl) (by kernel_rfl) (one_cons (hm294.one1) (one_nil)) (Nat.le_of_ble_eq_true (by kernel_rfl)) [.slice a297 n298 c299, .slice a271 n272 c273, .slice a274 n275 c276] (by kernel_rfl)
    refine s_ek (undef) (by kernel_rfl) (map_ok q302) ?_
    refine s_nil ?_
    refine k130 _ _ ?_
    refine w_reg (by kernel_rfl) ?_
    refine s_qk (.int .i64 v7) (by kernel_rfl) ?_
    obtain ⟨g306, r307⟩ := G_some r289
    refine s_w ((v7 + 1)) (k := .i64) (x := (v7 + 1)) (by kernel_rfl) (wrap64 g306) ?_
    refine s_qk (.int .i64 (v7 + 1)) (by kernel_rfl) ?_
    refine s_nil ?_
    have u308 := (hm294.fr e303 (Dj.symm (hf295.dj (i102.dj (Dj.symm (hb46.djn hm38.lt)) (r47.ltF.le e51.next)) (r47.ltF.le (ntr (ntr (ntr e51.next e87.next) e136.next) e280.next)))))
    have u309 := (((m138.ext e280).fr e293 (Dj.symm (i147.dj (Dj.symm d105) m89.lt))).fr e303 (Dj.symm (i147.dj (i103.djn (r47.ltF.le e51.next)) (r47.ltF.le (ntr e51.next e87.next)))))
    have u310 := (((m142.ext e280).fr e293 (Dj.symm (i148.dj (Dj.symm d106) m89.lt))).fr e303 (Dj.symm (i148.dj (i104.djn (r47.ltF.le e51.next)) (r47.ltF.le (ntr e51.next e87.next)))))
    obtain rfl := Option.some.inj r307
    exact k115 n110 _ _ (Nat.lt_succ_self _) ⟨(c3 ++ [o132.2.2]), o132.1, o132.2.1, o132.2.2, (v7 + 1), (.slice a297 n298 c299), f292, (.slice a271 n272 c273), f140, (.slice a274 n275 c276), f144, hn113, ⟨by kernel_rfl, by kernel_rfl, by kernel_rfl, by kernel_rfl, by kernel_rfl, trivial⟩, (FrS.step e51.wf (FrS.step e51.wf ((FrS.step e51.wf (FrS.step e51.wf (FrS.refl (W := ([b43] ++ f34)) e51.wf) e87 (Inn.app Inn.left (Inn.right Inn.refl'))) e136 (Inn.app Inn.left (Inn.app (i103.fresh (Nat.le_refl _)) (i104.fresh (Nat.le_refl _))))).extR e280) e293 (Inn.trans (Inn.right Inn.refl') (Nat.le_refl _) i102)) e303 Inn.left), u308, u309, u310, r304, (Inn.trans (Inn.trans Inn.refl' (Nat.le_refl _) i102) (ntr (ntr e87.next e136.next) e280.next) hf295), (Inn.trans (i103.fresh (Nat.le_refl _)) e87.next i147), (Inn.trans (i104.fresh (Nat.le_refl _)) e87.next i148), (hf295.dj (Dj.symm (i147.dj (Dj.symm d105) m89.lt)) (m138.lt.le e280.next)), (hf295.dj (Dj.symm (i148.dj (Dj.symm d106) m89.lt)) (m142.lt.le e280.next)), d149⟩
  ·have r311 := ite_f h128 hz112
   refine w_exit (th_exit (th_exit (bl_eq ?_)))
   obtain rfl := Option.some.inj r311
   obtain rfl := it_inr hn113
   exact k82 _ _ ⟨(.slice a116 n117 c118), f91, (.slice a119 n120 c121), f95, (.slice a122 n123 c124), f99, ⟨by kernel_rfl, by kernel_rfl, trivial⟩, (FrS.step e51.wf (FrS.refl (W := ([b43] ++ f34)) e51.wf) e87 (Inn.app Inn.left (Inn.right Inn.refl'))), m89, m93, m97, m101, (Inn.trans Inn.refl' (Nat.le_refl _) i102), (i103.fresh (Nat.le_refl _)), (i104.fresh (Nat.le_refl _)), d105, d106, d107⟩
 ·obtain ⟨s64, f65, s68, f69, s72, f73, hh83, e61, m63, m67, m71, m75, i76, i77, i78, d79, d80, d81⟩ := hM
  obtain ⟨β, rfl⟩ := has_ex hh83
  clear hh83
  obtain ⟨a312, n313, c314, rfl⟩ := m63.form
  obtain ⟨a315, n316, c317, rfl⟩ := m67.form
  obtain ⟨a318, n319, c320, rfl⟩ := m71.form
  refine k55 _ _ ?_
  refine w_seqk fun K321 k321 => ?_
  refine w_reg (by kernel_rfl) ?_
  refine s_ql (.agg #[.slice a312 n313 c314, .slice a315 n316 c317, .slice a318 n319 c320]) (x := aLoad Try.prog 24 (.pointer (some ⟨b43, 0, none⟩)) H60) (by kernel_rfl) (m75.ld (by kernel_rfl)) ?_
  have u326 := ((((r30.ext e36).ext e45).frS e51 (hb46.djn (r30.ltF.le e36.next))).frS e61 (Dj.app (hb46.djn (r30.ltF.le e36.next)) (hf37.djn r30.ltF)))
  obtain ⟨H322, q323, e324, r325⟩ := Row.store (P := Try.prog) (t := 24) (p := 0) e61.wf u326 (.agg #[.slice a312 n313 c314, .slice a315 n316 c317, .slice a318 n319 c320]) [.slice a312 n313 c314, .slice a315 n316 c317, .slice a318 n319 c320] (by kernel_rfl) (by kernel_rfl) (one_cons (m63.one1) (one_cons (m67.one1) (one_cons (m71.one1) (one_nil)))) (Nat.le_of_ble_eq_true (by kernel_rfl)) [.slice a312 n313 c314, .slice a315 n316 c317, .slice a318 n319 c320] (by kernel_rfl)
  refine s_ek (undef) (by kernel_rfl) (map_ok q323) ?_
  refine s_nil ?_
  refine k321 _ _ ?_
  refine w_ret ?_
  refine b_ret (fn := Try.f109) (vs := [.agg #[.slice a312 n313 c314, .slice a315 n316 c317, .slice a318 n319 c320]]) (aRes_cell (Eq.trans (b := aLoad Try.prog 24 (.pointer (some ⟨b26, 0, none⟩)) H322) (by kernel_rfl) (r325.ld (by kernel_rfl))) (rfl)) ?_
  have u327 := (m63.fr e324 (Dj.symm (i76.dj (hf37.djn r30.ltF) (r30.ltF.le (ntr (ntr e36.next e45.next) e51.next)))))
  have u328 := (m67.fr e324 (Dj.symm (i77.djn (r30.ltF.le (ntr (ntr e36.next e45.next) e51.next)))))
  have u329 := (m71.fr e324 (Dj.symm (i78.djn (r30.ltF.le (ntr (ntr e36.next e45.next) e51.next)))))
  obtain rfl := Option.some.inj r59
  exact ⟨(.slice a312 n313 c314), f65, (.slice a315 n316 c317), f69, (.slice a318 n319 c320), f73, rfl, (FrS.step wf (FrS.step wf (FrS.step wf (((((FrS.refl (W := []) wf).extR e22).extR e28).extR e36).extR e45) e51 (hb46.fresh (ntr (ntr e22.next e28.next) e36.next))) e61 (Inn.app (hb46.fresh (ntr (ntr e22.next e28.next) e36.next)) (hf37.fresh (ntr e22.next e28.next)))) e324 (hb29.fresh e22.next)), u327, u328, u329, (Inn.trans (hf37.fresh (ntr e22.next e28.next)) (ntr (ntr (ntr (ntr e22.next e28.next) e36.next) e45.next) e51.next) i76), (i77.fresh (ntr (ntr (ntr (ntr e22.next e28.next) e36.next) e45.next) e51.next)), (i78.fresh (ntr (ntr (ntr (ntr e22.next e28.next) e36.next) e45.next) e51.next)), d79, d80, d81⟩

theorem c_viaductref05_DocBuild {H : AH} {hd_Arcs : Value} {fp_Arcs : Fp} {N_ : Int} {Arcs : List (Int × Int × Int)} {r : List (Int) × List (Int) × List (Int) × Int × List (Int × Int)}
  (wf : WF H) (h_Arcs : Sq enc_i64_i64_i64 3 H hd_Arcs Arcs fp_Arcs) (hr : z_viaductref05_DocBuild N_ Arcs = some r) :
  ACalls Try.prog 51 #[.agg #[.int .i64 N_, hd_Arcs]] H fun v H' => ∃ (s3 : Value) (f4 : Fp) (s7 : Value) (f8 : Fp) (s11 : Value) (f12 : Fp) (s15 : Value) (f16 : Fp), v = .tuple #[.agg #[s3, s7, s11], .agg #[.int .i64 r.2.2.2.1, s15]] ∧ FrS [] H H' ∧ Ow (encI .i64) 1 H' s3 r.1 f4 ∧ Ow (encI .i64) 1 H' s7 r.2.1 f8 ∧ Ow (encI .i64) 1 H' s11 r.2.2.1 f12 ∧ Ow enc_i64_i64 2 H' s15 r.2.2.2.2 f16 ∧ Inn [] H f4 ∧ Inn [] H f8 ∧ Inn [] H f12 ∧ Inn [] H f16 ∧ Dj f4 f8 ∧ Dj f4 f12 ∧ Dj f8 f12 ∧ Dj f4 f16 ∧ Dj f8 f16 ∧ Dj f12 f16 := by
 refine acalls_of_body mixed Try.func51 rfl (Nat.le_of_ble_eq_true rfl) ?_
 unfold z_viaductref05_DocBuild at hr
 refine w_seqk fun K27 k27 => ?_
 refine w_reg (by kernel_rfl) ?_
 refine s_rwl wf [.int .i64 N_, hd_Arcs] (one_cons (rfl) (one_cons (h_Arcs.one1) (one_nil))) (by kernel_rfl) fun b28 H29 e30 hb31 r32 => ?_
 refine s_rwk e30.wf [.slice none 0 0, .slice none 0 0, .slice none 0 0] (by kernel_rfl) fun b34 H35 e36 hb37 r38 => ?_
 refine s_rwk e36.wf [.int .i64 0, .slice none 0 0] (by kernel_rfl) fun b40 H41 e42 hb43 r44 => ?_
 refine s_nil ?_
 refine k27 _ _ ?_
 refine w_seqk fun K46 k46 => ?_
 refine w_reg (by kernel_rfl) ?_
 have u47 := ((r32.ext e36).ext e42)
 refine s_ql (.agg #[.int .i64 N_, hd_Arcs]) (x := aLoad Try.prog 59 (.pointer (some ⟨b28, 0, none⟩)) H41) (by kernel_rfl) (u47.ld (by kernel_rfl)) ?_
 have u48 := (((h_Arcs.ext e30).ext e36).ext e42)
 obtain ⟨y49, hy50, r51⟩ := bind_some hr
 refine s_ck 30 #[.agg #[.int .i64 N_, hd_Arcs]] (by kernel_rfl) (c_viaductref04_DocOf e42.wf u48 hy50) ?_
 rintro _ H56 ⟨s52, f53, s54, f55, rfl, e57, m58, m59, i60, i61, d62⟩
 obtain ⟨a65, n66, c67, rfl⟩ := m58.form
 obtain ⟨a68, n69, c70, rfl⟩ := m59.form
 refine s_qk (.tuple #[.agg #[.int .i64 y49.1, .slice a65 n66 c67], .agg #[.int .i64 y49.2.2.1, .slice a68 n69 c70]]) (by kernel_rfl) ?_
 refine s_qk (.agg #[.int .i64 y49.1, .slice a65 n66 c67]) (by kernel_rfl) ?_
 refine s_qk (.agg #[.int .i64 y49.2.2.1, .slice a68 n69 c70]) (by kernel_rfl) ?_
 refine s_rwk e57.wf [.int .i64 0, .slice none 0 0] (by kernel_rfl) fun b71 H72 e73 hb74 r75 => ?_
 refine s_rwk e73.wf [.int .i64 0, .slice none 0 0] (by kernel_rfl) fun b77 H78 e79 hb80 r81 => ?_
 have u87 := (r75.ext e79)
 have u88 := ((m58.ext e73).ext e79)
 obtain ⟨H83, q84, e85, r86⟩ := Row.store (P := Try.prog) (t := 59) (p := 0) e79.wf u87 (.agg #[.int .i64 y49.1, .slice a65 n66 c67]) [.int .i64 y49.1, .slice a65 n66 c67] (by kernel_rfl) (by kernel_rfl) (one_cons (rfl) (one_cons (u88.one1) (one_nil))) (Nat.le_of_ble_eq_true (by kernel_rfl)) [.int .i64 y49.1, .slice a65 n66 c67] (by kernel_rfl)
 refine s_ek (undef) (by kernel_rfl) (map_ok q84) ?_
 have u93 := (r81.frS e85 (Dj.symm (hb80.djn r75.ltF)))
 have u94 := (((m59.ext e73).ext e79).fr e85 (hb74.djn m59.lt))
 obtain ⟨H89, q90, e91, r92⟩ := Row.store (P := Try.prog) (t := 46) (p := 0) e85.wf u93 (.agg #[.int .i64 y49.2.2.1, .slice a68 n69 c70]) [.int .i64 y49.2.2.1, .slice a68 n69 c70] (by kernel_rfl) (by kernel_rfl) (one_cons (rfl) (one_cons (u94.one1) (one_nil))) (Nat.le_of_ble_eq_true (by kernel_rfl)) [.int .i64 y49.2.2.1, .slice a68 n69 c70] (by kernel_rfl)
 refine s_ek (undef) (by kernel_rfl) (map_ok q90) ?_
 refine s_nil ?_
 refine k46 _ _ ?_
 refine w_seqk fun K95 k95 => ?_
 refine w_seqk fun K96 k96 => ?_
 refine w_reg (by kernel_rfl) ?_
 refine s_ql (.agg #[.int .i64 y49.2.2.1, .slice a68 n69 c70]) (x := aLoad Try.prog 46 (.pointer (some ⟨b77, 0, none⟩)) H89) (by kernel_rfl) (r92.ld (by kernel_rfl)) ?_
 have u97 := (u94.fr e91 (hb80.djn (m59.lt.le e73.next)))
 obtain ⟨y98, hy99, r100⟩ := bind_some r51
 refine s_ck 56 #[.agg #[.int .i64 y49.2.2.1, .slice a68 n69 c70]] (by kernel_rfl) (c_viaductref01_Err_Bad e91.wf u97.sq hy99) ?_
 rintro _ H101 ⟨rfl, e102⟩
 refine s_nil ?_
 refine k96 _ _ ?_
 refine w_cond (y98) (by kernel_rfl) rfl (fun h103 => ?_) (fun h103 => ?_)
 ·have r104 := ite_t h103 r100
  refine w_seqk fun K105 k105 => ?_
  refine w_draw [0, 1, 2, 3] (by kernel_rfl) ?_
  refine d_qk (.agg #[.slice none 0 0, .slice none 0 0, .slice none 0 0]) (by kernel_rfl) ?_
  have u106 := (r92.frS e102 Dj.nil_l)
  refine d_fl (.agg #[.int .i64 y49.2.2.1, .slice a68 n69 c70]) (x := aLoad Try.prog 46 (.pointer (some ⟨b77, 0, none⟩)) H101) (by kernel_rfl) (u106.ld (by kernel_rfl)) ?_
  have u111 := (((((((r38.ext e42).frS e57 Dj.nil_l).ext e73).ext e79).frS e85 (hb74.djn (r38.ltF.le (ntr e42.next e57.next)))).frS e91 (hb80.djn (r38.ltF.le (ntr (ntr e42.next e57.next) e73.next)))).frS e102 Dj.nil_l)
  obtain ⟨H107, q108, e109, r110⟩ := Row.store (P := Try.prog) (t := 24) (p := 0) e102.wf u111 (.agg #[.slice none 0 0, .slice none 0 0, .slice none 0 0]) [.slice none 0 0, .slice none 0 0, .slice none 0 0] (by kernel_rfl) (by kernel_rfl) (one_cons (rfl) (one_cons (rfl) (one_cons (rfl) (one_nil)))) (Nat.le_of_ble_eq_true (by kernel_rfl)) [.slice none 0 0, .slice none 0 0, .slice none 0 0] (by kernel_rfl)
  have u112 := (u106.frS e109 (Dj.symm (hb80.djn (r38.ltF.le (ntr (ntr e42.next e57.next) e73.next)))))
  refine d_ek (undef) (by kernel_rfl) (map_ok q108) (st_ql (y := aLoad Try.prog 46 (.pointer (some ⟨b77, 0, none⟩)) H107) (by kernel_rfl) (u112.ld (by kernel_rfl)) (st_nil)) ?_
  have u117 := (((((((r44.frS e57 Dj.nil_l).ext e73).ext e79).frS e85 (hb74.djn (r44.ltF.le e57.next))).frS e91 (hb80.djn (r44.ltF.le (ntr e57.next e73.next)))).frS e102 Dj.nil_l).frS e109 (Dj.symm (hb43.djn r38.ltF)))
  have u118 := ((u97.fr e102 Dj.nil_l).fr e109 (Dj.symm (i61.djn (r38.ltF.le e42.next))))
  obtain ⟨H113, q114, e115, r116⟩ := Row.store (P := Try.prog) (t := 46) (p := 0) e109.wf u117 (.agg #[.int .i64 y49.2.2.1, .slice a68 n69 c70]) [.int .i64 y49.2.2.1, .slice a68 n69 c70] (by kernel_rfl) (by kernel_rfl) (one_cons (rfl) (one_cons (u118.one1) (one_nil))) (Nat.le_of_ble_eq_true (by kernel_rfl)) [.int .i64 y49.2.2.1, .slice a68 n69 c70] (by kernel_rfl)
  refine d_ek (undef) (by kernel_rfl) (map_ok q114) (st_anc (by kernel_rfl) (st_nil)) ?_
  refine d_nil ?_
  refine k105 _ _ ?_
  refine w_ret (th_ret ?_)
  have u119 := (r110.frS e115 (hb43.djn r38.ltF))
  refine b_ret (fn := Try.f51) (vs := [.agg #[.slice none 0 0, .slice none 0 0, .slice none 0 0], .agg #[.int .i64 y49.2.2.1, .slice a68 n69 c70]]) (aRes_cell (Eq.trans (b := aLoad Try.prog 24 (.pointer (some ⟨b34, 0, none⟩)) H113) (by kernel_rfl) (u119.ld (by kernel_rfl))) (aRes_cell (Eq.trans (b := aLoad Try.prog 46 (.pointer (some ⟨b40, 0, none⟩)) H113) (by kernel_rfl) (r116.ld (by kernel_rfl))) (rfl))) ?_
  have u120 := (u118.fr e115 (Dj.symm (i61.djn r44.ltF)))
  obtain rfl := Option.some.inj r104
  exact ⟨(.slice none 0 0), [], (.slice none 0 0), [], (.slice none 0 0), [], (.slice a68 n69 c70), f55, rfl, (FrS.step wf (FrS.step wf (FrS.step wf (FrS.step wf (FrS.step wf (((FrS.step wf ((((FrS.refl (W := []) wf).extR e30).extR e36).extR e42) e57 Inn.nil).extR e73).extR e79) e85 (hb74.fresh (ntr (ntr (ntr e30.next e36.next) e42.next) e57.next))) e91 (hb80.fresh (ntr (ntr (ntr (ntr e30.next e36.next) e42.next) e57.next) e73.next))) e102 Inn.nil) e109 (hb37.fresh e30.next)) e115 (hb43.fresh (ntr e30.next e36.next))), (Ow.nil (by decide)), (Ow.nil (by decide)), (Ow.nil (by decide)), u120, Inn.nil, Inn.nil, Inn.nil, (i61.fresh (ntr (ntr e30.next e36.next) e42.next)), Dj.nil_l, Dj.nil_l, Dj.nil_l, Dj.nil_l, Dj.nil_l, Dj.nil_l⟩
 ·have r121 := ite_bf h103 r100
  refine w_skip ?_
  refine k95 _ _ ?_
  refine w_seqk fun K122 k122 => ?_
  refine w_draw [0, 2, 1, 3, 4] (by kernel_rfl) ?_
  have u123 := ((r86.frS e91 (hb80.djn r75.ltF)).frS e102 Dj.nil_l)
  refine d_ql (.agg #[.int .i64 y49.1, .slice a65 n66 c67]) (x := aLoad Try.prog 59 (.pointer (some ⟨b71, 0, none⟩)) H101) (by kernel_rfl) (u123.ld (by kernel_rfl)) ?_
  have u124 := (r92.frS e102 Dj.nil_l)
  refine d_fl (.agg #[.int .i64 y49.2.2.1, .slice a68 n69 c70]) (x := aLoad Try.prog 46 (.pointer (some ⟨b77, 0, none⟩)) H101) (by kernel_rfl) (u124.ld (by kernel_rfl)) ?_
  have u125 := (((u88.fr e85 (hb74.djn m58.lt)).fr e91 (hb80.djn (m58.lt.le e73.next))).fr e102 Dj.nil_l)
  obtain ⟨y126, hy127, r128⟩ := bind_some r121
  refine d_ck 109 #[.agg #[.int .i64 y49.1, .slice a65 n66 c67]] (by kernel_rfl) (c_viaductref05_Build e102.wf u125.sq hy127) ?_
  rintro _ H135 ⟨s129, f130, s131, f132, s133, f134, rfl, e136, m137, m138, m139, i140, i141, i142, d143, d144, d145⟩
  obtain ⟨a149, n150, c151, rfl⟩ := m137.form
  obtain ⟨a152, n153, c154, rfl⟩ := m138.form
  obtain ⟨a155, n156, c157, rfl⟩ := m139.form
  have u158 := (u124.frS e136 Dj.nil_l)
  refine ⟨st_ql (y := aLoad Try.prog 46 (.pointer (some ⟨b77, 0, none⟩)) H135) (by kernel_rfl) (u158.ld (by kernel_rfl)) (st_nil), ?_⟩
  have u163 := ((((((((r38.ext e42).frS e57 Dj.nil_l).ext e73).ext e79).frS e85 (hb74.djn (r38.ltF.le (ntr e42.next e57.next)))).frS e91 (hb80.djn (r38.ltF.le (ntr (ntr e42.next e57.next) e73.next)))).frS e102 Dj.nil_l).frS e136 Dj.nil_l)
  obtain ⟨H159, q160, e161, r162⟩ := Row.store (P := Try.prog) (t := 24) (p := 0) e136.wf u163 (.agg #[.slice a149 n150 c151, .slice a152 n153 c154, .slice a155 n156 c157]) [.slice a149 n150 c151, .slice a152 n153 c154, .slice a155 n156 c157] (by kernel_rfl) (by kernel_rfl) (one_cons (m137.one1) (one_cons (m138.one1) (one_cons (m139.one1) (one_nil)))) (Nat.le_of_ble_eq_true (by kernel_rfl)) [.slice a149 n150 c151, .slice a152 n153 c154, .slice a155 n156 c157] (by kernel_rfl)
  have u164 := (u158.frS e161 (Dj.symm (hb80.djn (r38.ltF.le (ntr (ntr e42.next e57.next) e73.next)))))
  refine d_ek (undef) (by kernel_rfl) (map_ok q160) (st_ql (y := aLoad Try.prog 46 (.pointer (some ⟨b77, 0, none⟩)) H159) (by kernel_rfl) (u164.ld (by kernel_rfl)) (st_nil)) ?_
  have u169 := ((((((((r44.frS e57 Dj.nil_l).ext e73).ext e79).frS e85 (hb74.djn (r44.ltF.le e57.next))).frS e91 (hb80.djn (r44.ltF.le (ntr e57.next e73.next)))).frS e102 Dj.nil_l).frS e136 Dj.nil_l).frS e161 (Dj.symm (hb43.djn r38.ltF)))
  have u170 := (((u97.fr e102 Dj.nil_l).fr e136 Dj.nil_l).fr e161 (Dj.symm (i61.djn (r38.ltF.le e42.next))))
  obtain ⟨H165, q166, e167, r168⟩ := Row.store (P := Try.prog) (t := 46) (p := 0) e161.wf u169 (.agg #[.int .i64 y49.2.2.1, .slice a68 n69 c70]) [.int .i64 y49.2.2.1, .slice a68 n69 c70] (by kernel_rfl) (by kernel_rfl) (one_cons (rfl) (one_cons (u170.one1) (one_nil))) (Nat.le_of_ble_eq_true (by kernel_rfl)) [.int .i64 y49.2.2.1, .slice a68 n69 c70] (by kernel_rfl)
  refine d_ek (undef) (by kernel_rfl) (map_ok q166) (st_anc (by kernel_rfl) (st_nil)) ?_
  refine d_nil ?_
  refine k122 _ _ ?_
  refine w_ret ?_
  have u171 := (r162.frS e167 (hb43.djn r38.ltF))
  refine b_ret (fn := Try.f51) (vs := [.agg #[.slice a149 n150 c151, .slice a152 n153 c154, .slice a155 n156 c157], .agg #[.int .i64 y49.2.2.1, .slice a68 n69 c70]]) (aRes_cell (Eq.trans (b := aLoad Try.prog 24 (.pointer (some ⟨b34, 0, none⟩)) H165) (by kernel_rfl) (u171.ld (by kernel_rfl))) (aRes_cell (Eq.trans (b := aLoad Try.prog 46 (.pointer (some ⟨b40, 0, none⟩)) H165) (by kernel_rfl) (r168.ld (by kernel_rfl))) (rfl))) ?_
  have u172 := ((m137.fr e161 (Dj.symm (i140.djn (r38.ltF.le (ntr (ntr (ntr (ntr (ntr (ntr e42.next e57.next) e73.next) e79.next) e85.next) e91.next) e102.next))))).fr e167 (Dj.symm (i140.djn (r44.ltF.le (ntr (ntr (ntr (ntr (ntr e57.next e73.next) e79.next) e85.next) e91.next) e102.next)))))
  have u173 := ((m138.fr e161 (Dj.symm (i141.djn (r38.ltF.le (ntr (ntr (ntr (ntr (ntr (ntr e42.next e57.next) e73.next) e79.next) e85.next) e91.next) e102.next))))).fr e167 (Dj.symm (i141.djn (r44.ltF.le (ntr (ntr (ntr (ntr (ntr e57.next e73.next) e79.next) e85.next) e91.next) e102.next)))))
  have u174 := ((m139.fr e161 (Dj.symm (i142.djn (r38.ltF.le (ntr (ntr (ntr (ntr (ntr (ntr e42.next e57.next) e73.next) e79.next) e85.next) e91.next) e102.next))))).fr e167 (Dj.symm (i142.djn (r44.ltF.le (ntr (ntr (ntr (ntr (ntr e57.next e73.next) e79.next) e85.next) e91.next) e102.next)))))
  have u175 := (u170.fr e167 (Dj.symm (i61.djn r44.ltF)))
  obtain rfl := Option.some.inj r128
  exact ⟨(.slice a149 n150 c151), f130, (.slice a152 n153 c154), f132, (.slice a155 n156 c157), f134, (.slice a68 n69 c70), f55, rfl, (FrS.step wf (FrS.step wf (FrS.step wf (FrS.step wf (FrS.step wf (FrS.step wf (((FrS.step wf ((((FrS.refl (W := []) wf).extR e30).extR e36).extR e42) e57 Inn.nil).extR e73).extR e79) e85 (hb74.fresh (ntr (ntr (ntr e30.next e36.next) e42.next) e57.next))) e91 (hb80.fresh (ntr (ntr (ntr (ntr e30.next e36.next) e42.next) e57.next) e73.next))) e102 Inn.nil) e136 Inn.nil) e161 (hb37.fresh e30.next)) e167 (hb43.fresh (ntr e30.next e36.next))), u172, u173, u174, u175, (i140.fresh (ntr (ntr (ntr (ntr (ntr (ntr (ntr (ntr e30.next e36.next) e42.next) e57.next) e73.next) e79.next) e85.next) e91.next) e102.next)), (i141.fresh (ntr (ntr (ntr (ntr (ntr (ntr (ntr (ntr e30.next e36.next) e42.next) e57.next) e73.next) e79.next) e85.next) e91.next) e102.next)), (i142.fresh (ntr (ntr (ntr (ntr (ntr (ntr (ntr (ntr e30.next e36.next) e42.next) e57.next) e73.next) e79.next) e85.next) e91.next) e102.next)), (i61.fresh (ntr (ntr e30.next e36.next) e42.next)), d143, d144, d145, (i140.djn (m59.lt.le (ntr (ntr (ntr (ntr e73.next e79.next) e85.next) e91.next) e102.next))), (i141.djn (m59.lt.le (ntr (ntr (ntr (ntr e73.next e79.next) e85.next) e91.next) e102.next))), (i142.djn (m59.lt.le (ntr (ntr (ntr (ntr e73.next e79.next) e85.next) e91.next) e102.next)))⟩

theorem c_viaductref05_DocCheck {H : AH} {hd_First : Value} {fp_First : Fp} {hd_To : Value} {fp_To : Fp} {hd_Weight : Value} {fp_Weight : Fp} {First : List (Int)} {To : List (Int)} {Weight : List (Int)} {r : Int × List (Int × Int)}
  (wf : WF H) (h_First : Sq (encI .i64) 1 H hd_First First fp_First) (h_To : Sq (encI .i64) 1 H hd_To To fp_To) (h_Weight : Sq (encI .i64) 1 H hd_Weight Weight fp_Weight) (hr : z_viaductref05_DocCheck First To Weight = some r) :
  ACalls Try.prog 55 #[.agg #[hd_First, hd_To, hd_Weight]] H fun v H' => ∃ (s3 : Value) (f4 : Fp), v = .agg #[.int .i64 r.1, s3] ∧ FrS [] H H' ∧ Ow enc_i64_i64 2 H' s3 r.2 f4 ∧ Inn [] H f4 := by
 refine acalls_of_body mixed Try.func55 rfl (Nat.le_of_ble_eq_true rfl) ?_
 unfold z_viaductref05_DocCheck at hr
 refine w_seqk fun K6 k6 => ?_
 refine w_reg (by kernel_rfl) ?_
 refine s_rwl wf [hd_First, hd_To, hd_Weight] (one_cons (h_First.one1) (one_cons (h_To.one1) (one_cons (h_Weight.one1) (one_nil)))) (by kernel_rfl) fun b7 H8 e9 hb10 r11 => ?_
 refine s_rwk e9.wf [.int .i64 0, .slice none 0 0] (by kernel_rfl) fun b13 H14 e15 hb16 r17 => ?_
 refine s_nil ?_
 refine k6 _ _ ?_
 refine w_seqk fun K19 k19 => ?_
 refine w_draw [0, 1, 2, 3, 4, 5, 6, 7, 8] (by kernel_rfl) ?_
 refine d_qk (.pointer (some ⟨b7, 0, none⟩)) (by kernel_rfl) ?_
 have u20 := (r11.ext e15)
 refine d_ql (hd_First) (x := aLoad Try.prog 22 (.pointer (some ⟨b7, 0, none⟩)) H14) (by kernel_rfl) (u20.ld (by kernel_rfl)) ?_
 have u21 := ((h_First.ext e9).ext e15)
 refine d_ql (.int .i64 (First.length : Int)) (x := aLen Try.prog 22 hd_First H14) (by kernel_rfl) (u21.lenb (by kernel_rfl)) ?_
 obtain ⟨g22, r23⟩ := G_some hr
 refine d_w (((First.length : Int) - 1)) (k := .i64) (x := ((First.length : Int) - 1)) (by kernel_rfl) (wrap64 g22) ?_
 refine d_qk (.pointer (some ⟨b7, 1, none⟩)) (by kernel_rfl) ?_
 refine d_ql (hd_To) (x := aLoad Try.prog 22 (.pointer (some ⟨b7, 1, none⟩)) H14) (by kernel_rfl) (u20.ld (by kernel_rfl)) ?_
 have u24 := ((h_To.ext e9).ext e15)
 refine d_ql (.int .i64 (To.length : Int)) (x := aLen Try.prog 22 hd_To H14) (by kernel_rfl) (u24.lenb (by kernel_rfl)) ?_
 refine d_qk (.int .i64 ((First.length : Int) - 1)) (by kernel_rfl) ?_
 refine d_qk (.int .i64 (To.length : Int)) (by kernel_rfl) ?_
 refine d_nil ?_
 refine k19 _ _ ?_
 refine w_seqk fun K25 k25 => ?_
 refine w_seqk fun K26 k26 => ?_
 obtain ⟨o27, hx28, r29⟩ := bind_some r23
 refine w_mid (fun α H30 => Has α [(1, .pointer (some ⟨b7, 0, none⟩)), (2, .pointer (some ⟨b13, 0, none⟩)), (3, .int .i64 ((First.length : Int) - 1)), (4, .int .i64 (To.length : Int)), (40, .bool o27)] ∧ H14 = H30) (fun K32 k32 => ?_) (fun α H30 hM => ?_)
 ·refine w_reg (by kernel_rfl) ?_
  refine s_qk (.int .i64 ((First.length : Int) - 1)) (by kernel_rfl) ?_
  refine s_b (((First.length : Int) - 1) < 0) (by kernel_rfl) (fun h34 => ?_) (fun h34 => ?_)
  ·have r35 := ite_t h34 hx28
   refine s_qk (.bool true) (by kernel_rfl) ?_
   refine s_no (by kernel_rfl) ?_
   refine s_no (by kernel_rfl) ?_
   refine s_no (by kernel_rfl) ?_
   refine s_no (by kernel_rfl) ?_
   refine s_no (by kernel_rfl) ?_
   refine s_qk (.bool true) (by kernel_rfl) ?_
   refine s_qk (.bool true) (by kernel_rfl) ?_
   refine s_no (by kernel_rfl) ?_
   refine s_no (by kernel_rfl) ?_
   refine s_no (by kernel_rfl) ?_
   refine s_no (by kernel_rfl) ?_
   refine s_no (by kernel_rfl) ?_
   refine s_no (by kernel_rfl) ?_
   refine s_no (by kernel_rfl) ?_
   refine s_qk (.bool true) (by kernel_rfl) ?_
   refine s_qk (.bool true) (by kernel_rfl) ?_
   refine s_no (by kernel_rfl) ?_
   refine s_no (by kernel_rfl) ?_
   refine s_no (by kernel_rfl) ?_
   refine s_no (by kernel_rfl) ?_
   refine s_no (by kernel_rfl) ?_
   refine s_qk (.bool true) (by kernel_rfl) ?_
   refine s_nil ?_
   obtain rfl := Option.some.inj r35
   exact k32 _ _ ⟨⟨by kernel_rfl, by kernel_rfl, by kernel_rfl, by kernel_rfl, by kernel_rfl, trivial⟩, rfl⟩
  ·have r36 := ite_f h34 hx28
   refine s_qk (.bool false) (by kernel_rfl) ?_
   refine s_qk (.pointer (some ⟨b7, 0, none⟩)) (by kernel_rfl) ?_
   refine s_ql (hd_First) (x := aLoad Try.prog 22 (.pointer (some ⟨b7, 0, none⟩)) H14) (by kernel_rfl) (u20.ld (by kernel_rfl)) ?_
   obtain ⟨g37, r38⟩ := G_some r36
   refine s_ql (elp hd_First 1 (0 : Int).toNat 0) (x := aIndexAddr Try.prog 22 hd_First (.int .i64 0)) (by kernel_rfl) (u21.idxb (by kernel_rfl) (by decide) g37) ?_
   refine s_ql (.int .i64 (gt First 0)) (x := aLoad Try.prog 3 (elp hd_First 1 (0 : Int).toNat 0) H14) (by kernel_rfl) (u21.ld (by decide) g37 (by kernel_rfl)) ?_
   refine s_bn ((gt First 0) = 0) (by kernel_rfl) (fun h39 => ?_) (fun h39 => ?_)
   ·have r40 := ite_t h39 r38
    refine s_qk (.bool false) (by kernel_rfl) ?_
    refine s_qk (.bool false) (by kernel_rfl) ?_
    refine s_qk (.pointer (some ⟨b7, 0, none⟩)) (by kernel_rfl) ?_
    refine s_ql (hd_First) (x := aLoad Try.prog 22 (.pointer (some ⟨b7, 0, none⟩)) H14) (by kernel_rfl) (u20.ld (by kernel_rfl)) ?_
    refine s_qk (.int .i64 ((First.length : Int) - 1)) (by kernel_rfl) ?_
    obtain ⟨g41, r42⟩ := G_some r40
    refine s_ql (elp hd_First 1 ((First.length : Int) - 1).toNat 0) (x := aIndexAddr Try.prog 22 hd_First (.int .i64 ((First.length : Int) - 1))) (by kernel_rfl) (u21.idxb (by kernel_rfl) g41.1 g41.2) ?_
    refine s_ql (.int .i64 (gt First ((First.length : Int) - 1))) (x := aLoad Try.prog 3 (elp hd_First 1 ((First.length : Int) - 1).toNat 0) H14) (by kernel_rfl) (u21.ld g41.1 g41.2 (by kernel_rfl)) ?_
    refine s_qk (.int .i64 (To.length : Int)) (by kernel_rfl) ?_
    refine s_bn ((gt First ((First.length : Int) - 1)) = (To.length : Int)) (by kernel_rfl) (fun h43 => ?_) (fun h43 => ?_)
    ·have r44 := ite_t h43 r42
     refine s_qk (.bool false) (by kernel_rfl) ?_
     refine s_qk (.bool false) (by kernel_rfl) ?_
     refine s_qk (.pointer (some ⟨b7, 2, none⟩)) (by kernel_rfl) ?_
     refine s_ql (hd_Weight) (x := aLoad Try.prog 22 (.pointer (some ⟨b7, 2, none⟩)) H14) (by kernel_rfl) (u20.ld (by kernel_rfl)) ?_
     have u45 := ((h_Weight.ext e9).ext e15)
     refine s_ql (.int .i64 (Weight.length : Int)) (x := aLen Try.prog 22 hd_Weight H14) (by kernel_rfl) (u45.lenb (by kernel_rfl)) ?_
     refine s_qk (.int .i64 (To.length : Int)) (by kernel_rfl) ?_
     refine s_qk (.bool (!decide ((Weight.length : Int) = (To.length : Int)))) (by kernel_rfl) ?_
     refine s_qk (.bool (!decide ((Weight.length : Int) = (To.length : Int)))) (by kernel_rfl) ?_
     refine s_nil ?_
     obtain rfl := Option.some.inj r44
     exact k32 _ _ ⟨⟨by kernel_rfl, by kernel_rfl, by kernel_rfl, by kernel_rfl, by kernel_rfl, trivial⟩, rfl⟩
    ·have r46 := ite_f h43 r42
     refine s_qk (.bool true) (by kernel_rfl) ?_
     refine s_qk (.bool true) (by kernel_rfl) ?_
     refine s_no (by kernel_rfl) ?_
     refine s_no (by kernel_rfl) ?_
     refine s_no (by kernel_rfl) ?_
     refine s_no (by kernel_rfl) ?_
     refine s_no (by kernel_rfl) ?_
     refine s_qk (.bool true) (by kernel_rfl) ?_
     refine s_nil ?_
     obtain rfl := Option.some.inj r46
     exact k32 _ _ ⟨⟨by kernel_rfl, by kernel_rfl, by kernel_rfl, by kernel_rfl, by kernel_rfl, trivial⟩, rfl⟩
   ·have r47 := ite_f h39 r38
    refine s_qk (.bool true) (by kernel_rfl) ?_
    refine s_qk (.bool true) (by kernel_rfl) ?_
    refine s_no (by kernel_rfl) ?_
    refine s_no (by kernel_rfl) ?_
    refine s_no (by kernel_rfl) ?_
    refine s_no (by kernel_rfl) ?_
    refine s_no (by kernel_rfl) ?_
    refine s_no (by kernel_rfl) ?_
    refine s_no (by kernel_rfl) ?_
    refine s_qk (.bool true) (by kernel_rfl) ?_
    refine s_qk (.bool true) (by kernel_rfl) ?_
    refine s_no (by kernel_rfl) ?_
    refine s_no (by kernel_rfl) ?_
    refine s_no (by kernel_rfl) ?_
    refine s_no (by kernel_rfl) ?_
    refine s_no (by kernel_rfl) ?_
    refine s_qk (.bool true) (by kernel_rfl) ?_
    refine s_nil ?_
    obtain rfl := Option.some.inj r47
    exact k32 _ _ ⟨⟨by kernel_rfl, by kernel_rfl, by kernel_rfl, by kernel_rfl, by kernel_rfl, trivial⟩, rfl⟩
 ·obtain ⟨hh33, rfl⟩ := hM
  obtain ⟨β, rfl⟩ := has_ex hh33
  clear hh33
  refine k26 _ _ ?_
  refine w_cond (o27) (by kernel_rfl) rfl (fun h48 => ?_) (fun h48 => ?_)
  ·have r49 := ite_t h48 r29
   refine w_seqk fun K50 k50 => ?_
   refine w_reg (by kernel_rfl) ?_
   obtain ⟨y51, hy52, r53⟩ := bind_some r49
   refine s_ck 70 #[.int .i64 14] (by kernel_rfl) (c_viaductref01_E e15.wf hy52) ?_
   rintro _ H54 ⟨rfl, e55⟩
   have u60 := (r17.frS e55 Dj.nil_l)
   obtain ⟨H56, q57, e58, r59⟩ := Row.store (P := Try.prog) (t := 46) (p := 0) e55.wf u60 (.agg #[.int .i64 y51, .slice none 0 0]) [.int .i64 y51, .slice none 0 0] (by kernel_rfl) (by kernel_rfl) (one_cons (rfl) (one_cons (rfl) (one_nil))) (Nat.le_of_ble_eq_true (by kernel_rfl)) [.int .i64 y51, .slice none 0 0] (by kernel_rfl)
   refine s_ek (undef) (by kernel_rfl) (map_ok q57) ?_
   refine s_nil ?_
   refine k50 _ _ ?_
   refine w_ret (th_ret ?_)
   refine b_ret (fn := Try.f55) (vs := [.agg #[.int .i64 y51, .slice none 0 0]]) (aRes_cell (Eq.trans (b := aLoad Try.prog 46 (.pointer (some ⟨b13, 0, none⟩)) H56) (by kernel_rfl) (r59.ld (by kernel_rfl))) (rfl)) ?_
   obtain rfl := Option.some.inj r53
   exact ⟨(.slice none 0 0), [], rfl, (FrS.step wf (FrS.step wf (((FrS.refl (W := []) wf).extR e9).extR e15) e55 Inn.nil) e58 (hb16.fresh e9.next)), (Ow.nil (by decide)), Inn.nil⟩
  ·have r61 := ite_bf h48 r29
   refine w_skip ?_
   refine k25 _ _ ?_
   refine w_seqk fun K62 k62 => ?_
   refine w_seqk fun K63 k63 => ?_
   obtain ⟨o64, hx65, r66⟩ := bind_some r61
   refine w_mid (fun α H67 => Has α [(1, .pointer (some ⟨b7, 0, none⟩)), (2, .pointer (some ⟨b13, 0, none⟩)), (3, .int .i64 ((First.length : Int) - 1)), (4, .int .i64 (To.length : Int)), (47, .bool o64)] ∧ H14 = H67) (fun K69 k69 => ?_) (fun α H67 hM => ?_)
   ·refine w_reg (by kernel_rfl) ?_
    refine s_qk (.int .i64 ((First.length : Int) - 1)) (by kernel_rfl) ?_
    refine s_b (((First.length : Int) - 1) > 65536) (by kernel_rfl) (fun h71 => ?_) (fun h71 => ?_)
    ·have r72 := ite_t h71 hx65
     refine s_qk (.bool true) (by kernel_rfl) ?_
     refine s_no (by kernel_rfl) ?_
     refine s_no (by kernel_rfl) ?_
     refine s_qk (.bool true) (by kernel_rfl) ?_
     refine s_nil ?_
     obtain rfl := Option.some.inj r72
     exact k69 _ _ ⟨⟨by kernel_rfl, by kernel_rfl, by kernel_rfl, by kernel_rfl, by kernel_rfl, trivial⟩, rfl⟩
    ·have r73 := ite_f h71 hx65
     refine s_qk (.bool false) (by kernel_rfl) ?_
     refine s_qk (.int .i64 (To.length : Int)) (by kernel_rfl) ?_
     refine s_qk (.bool (decide ((To.length : Int) > 262144))) (by kernel_rfl) ?_
     refine s_qk (.bool (decide ((To.length : Int) > 262144))) (by kernel_rfl) ?_
     refine s_nil ?_
     obtain rfl := Option.some.inj r73
     exact k69 _ _ ⟨⟨by kernel_rfl, by kernel_rfl, by kernel_rfl, by kernel_rfl, by kernel_rfl, trivial⟩, rfl⟩
   ·obtain ⟨hh70, rfl⟩ := hM
    obtain ⟨β, rfl⟩ := has_ex hh70
    clear hh70
    refine k63 _ _ ?_
    refine w_cond (o64) (by kernel_rfl) rfl (fun h74 => ?_) (fun h74 => ?_)
    ·have r75 := ite_t h74 r66
     refine w_seqk fun K76 k76 => ?_
     refine w_reg (by kernel_rfl) ?_
     obtain ⟨y77, hy78, r79⟩ := bind_some r75
     refine s_ck 70 #[.int .i64 9] (by kernel_rfl) (c_viaductref01_E e15.wf hy78) ?_
     rintro _ H80 ⟨rfl, e81⟩
     have u86 := (r17.frS e81 Dj.nil_l)
     obtain ⟨H82, q83, e84, r85⟩ := Row.store (P := Try.prog) (t := 46) (p := 0) e81.wf u86 (.agg #[.int .i64 y77, .slice none 0 0]) [.int .i64 y77, .slice none 0 0] (by kernel_rfl) (by kernel_rfl) (one_cons (rfl) (one_cons (rfl) (one_nil))) (Nat.le_of_ble_eq_true (by kernel_rfl)) [.int .i64 y77, .slice none 0 0] (by kernel_rfl)
     refine s_ek (undef) (by kernel_rfl) (map_ok q83) ?_
     refine s_nil ?_
     refine k76 _ _ ?_
     refine w_ret (th_ret ?_)
     refine b_ret (fn := Try.f55) (vs := [.agg #[.int .i64 y77, .slice none 0 0]]) (aRes_cell (Eq.trans (b := aLoad Try.prog 46 (.pointer (some ⟨b13, 0, none⟩)) H82) (by kernel_rfl) (r85.ld (by kernel_rfl))) (rfl)) ?_
     obtain rfl := Option.some.inj r79
     exact ⟨(.slice none 0 0), [], rfl, (FrS.step wf (FrS.step wf (((FrS.refl (W := []) wf).extR e9).extR e15) e81 Inn.nil) e84 (hb16.fresh e9.next)), (Ow.nil (by decide)), Inn.nil⟩
    ·have r87 := ite_bf h74 r66
     refine w_skip ?_
     refine k62 _ _ ?_
     refine w_seqk fun K88 k88 => ?_
     refine w_seqk fun K89 k89 => ?_
     refine w_reg (by kernel_rfl) ?_
     refine s_qk (.int .i64 0) (by kernel_rfl) ?_
     refine s_nil ?_
     refine k89 _ _ ?_
     obtain ⟨z93, hx91, r92⟩ := bind_some r87
     refine w_mid (fun α H94 => ∃ o90, z93 = Sum.inr o90 ∧ Has α [(1, .pointer (some ⟨b7, 0, none⟩)), (2, .pointer (some ⟨b13, 0, none⟩)), (3, .int .i64 ((First.length : Int) - 1)), (4, .int .i64 (To.length : Int))] ∧ H14 = H94) (fun K96 k96 => ?_) (fun α H94 hM => ?_)
     ·refine w_block ?_
      obtain ⟨n98, hn99⟩ := loopO_iff.1 hx91
      refine w_loopn (fun n α H100 => ∃ (v0 : Int), iterO (fun zz_ => z_viaductref05_DocCheck_l0 First zz_) n v0 = some z93 ∧ Has α [(1, .pointer (some ⟨b7, 0, none⟩)), (2, .pointer (some ⟨b13, 0, none⟩)), (3, .int .i64 ((First.length : Int) - 1)), (4, .int .i64 (To.length : Int)), (5, .int .i64 v0)] ∧ H14 = H100) n98 ⟨0, hn99, ⟨by kernel_rfl, by kernel_rfl, by kernel_rfl, by kernel_rfl, by kernel_rfl, trivial⟩, rfl⟩ ?_
      rintro n98 α H100 ⟨v0, hi103, hh102, rfl⟩ K108 k108
      obtain ⟨n104, z105, rfl, hz106, hn107⟩ := iter_succ hi103
      obtain ⟨β, rfl⟩ := has_ex hh102
      clear hh102
      replace hz106 : z_viaductref05_DocCheck_l0 First v0 = some z105 := hz106
      unfold z_viaductref05_DocCheck_l0 at hz106
      refine w_seqk fun K109 k109 => ?_
      refine w_seqk fun K110 k110 => ?_
      refine w_reg (by kernel_rfl) ?_
      refine s_qk (.int .i64 v0) (by kernel_rfl) ?_
      refine s_qk (.int .i64 ((First.length : Int) - 1)) (by kernel_rfl) ?_
      refine s_qk (.bool (decide (v0 < ((First.length : Int) - 1)))) (by kernel_rfl) ?_
      refine s_nil ?_
      refine k110 _ _ ?_
      refine w_condp (v0 < ((First.length : Int) - 1)) (by kernel_rfl) rfl (fun h111 => ?_) (fun h111 => ?_)
      ·have r112 := ite_t h111 hz106
       refine w_skip ?_
       refine k109 _ _ ?_
       refine w_seqk fun K113 k113 => ?_
       refine w_block ?_
       refine w_seqk fun K114 k114 => ?_
       refine w_draw [0, 1, 2, 3, 4, 5, 6, 7, 8, 9, 10, 11] (by kernel_rfl) ?_
       refine d_qk (.pointer (some ⟨b7, 0, none⟩)) (by kernel_rfl) ?_
       refine d_ql (hd_First) (x := aLoad Try.prog 22 (.pointer (some ⟨b7, 0, none⟩)) H14) (by kernel_rfl) (u20.ld (by kernel_rfl)) ?_
       refine d_qk (.int .i64 v0) (by kernel_rfl) ?_
       obtain ⟨g115, r116⟩ := G_some r112
       refine d_w ((v0 + 1)) (k := .i64) (x := (v0 + 1)) (by kernel_rfl) (wrap64 g115) ?_
       obtain ⟨g117, r118⟩ := G_some r116
       refine d_ql (elp hd_First 1 (v0 + 1).toNat 0) (x := aIndexAddr Try.prog 22 hd_First (.int .i64 (v0 + 1))) (by kernel_rfl) (u21.idxb (by kernel_rfl) g117.1 g117.2) ?_
       refine d_ql (.int .i64 (gt First (v0 + 1))) (x := aLoad Try.prog 3 (elp hd_First 1 (v0 + 1).toNat 0) H14) (by kernel_rfl) (u21.ld g117.1 g117.2 (by kernel_rfl)) ?_
       refine d_qk (.pointer (some ⟨b7, 0, none⟩)) (by kernel_rfl) ?_
       refine d_ql (hd_First) (x := aLoad Try.prog 22 (.pointer (some ⟨b7, 0, none⟩)) H14) (by kernel_rfl) (u20.ld (by kernel_rfl)) ?_
       refine d_qk (.int .i64 v0) (by kernel_rfl) ?_
       obtain ⟨g119, r120⟩ := G_some r118
       refine d_ql (elp hd_First 1 v0.toNat 0) (x := aIndexAddr Try.prog 22 hd_First (.int .i64 v0)) (by kernel_rfl) (u21.idxb (by kernel_rfl) g119.1 g119.2) ?_
       refine d_ql (.int .i64 (gt First v0)) (x := aLoad Try.prog 3 (elp hd_First 1 v0.toNat 0) H14) (by kernel_rfl) (u21.ld g119.1 g119.2 (by kernel_rfl)) ?_
       refine d_qk (.bool (decide ((gt First (v0 + 1)) < (gt First v0)))) (by kernel_rfl) ?_
       refine d_nil ?_
       refine k114 _ _ ?_
       refine w_condp ((gt First (v0 + 1)) < (gt First v0)) (by kernel_rfl) rfl (fun h121 => ?_) (fun h121 => ?_)
       ·have r122 := ite_t h121 r120
        refine w_seqk fun K123 k123 => ?_
        refine w_reg (by kernel_rfl) ?_
        refine s_qk (.int .i64 v0) (by kernel_rfl) ?_
        obtain ⟨y124, hy125, r126⟩ := bind_some r122
        refine s_ck 70 #[.int .i64 14] (by kernel_rfl) (c_viaductref01_E e15.wf hy125) ?_
        rintro _ H127 ⟨rfl, e128⟩
        obtain ⟨y129, hy130, r131⟩ := bind_some r126
        refine s_ck 111 #[.int .i64 3, .int .i64 v0, .agg #[.int .i64 y124, .slice none 0 0]] (by kernel_rfl) (c_viaductref01_At e128.wf (Sq.nil (enc := enc_i64_i64) (sz := 2) (by decide)) hy130) ?_
        rintro _ H134 ⟨s132, f133, rfl, e135, m136, i137⟩
        obtain ⟨a139, n140, c141, rfl⟩ := m136.form
        have u146 := ((r17.frS e128 Dj.nil_l).frS e135 Dj.nil_l)
        obtain ⟨H142, q143, e144, r145⟩ := Row.store (P := Try.prog) (t := 46) (p := 0) e135.wf u146 (.agg #[.int .i64 y129.1, .slice a139 n140 c141]) [.int .i64 y129.1, .slice a139 n140 c141] (by kernel_rfl) (by kernel_rfl) (one_cons (rfl) (one_cons (m136.one1) (one_nil))) (Nat.le_of_ble_eq_true (by kernel_rfl)) [.int .i64 y129.1, .slice a139 n140 c141] (by kernel_rfl)
        refine s_ek (undef) (by kernel_rfl) (map_ok q143) ?_
        refine s_nil ?_
        refine k123 _ _ ?_
        refine w_ret (bl_ret (th_ret (th_ret (bl_ret (th_ret (th_ret ?_))))))
        obtain ⟨v147, hv148, hz149⟩ := map_some r131
        subst hz149
        obtain rfl := it_inr hn107
        have hq150 := elim_inl r92
        rw [hq150] at hv148
        refine b_ret (fn := Try.f55) (vs := [.agg #[.int .i64 y129.1, .slice a139 n140 c141]]) (aRes_cell (Eq.trans (b := aLoad Try.prog 46 (.pointer (some ⟨b13, 0, none⟩)) H142) (by kernel_rfl) (r145.ld (by kernel_rfl))) (rfl)) ?_
        have u151 := (m136.fr e144 (Dj.symm (i137.djn (r17.ltF.le e128.next))))
        obtain rfl := Option.some.inj hv148
        exact ⟨(.slice a139 n140 c141), f133, rfl, (FrS.step wf (FrS.step wf (FrS.step wf (((FrS.refl (W := []) wf).extR e9).extR e15) e128 Inn.nil) e135 Inn.nil) e144 (hb16.fresh e9.next)), u151, (i137.fresh (ntr (ntr e9.next e15.next) e128.next))⟩
       ·have r152 := ite_f h121 r120
        refine w_skip ?_
        refine k113 _ _ ?_
        refine w_reg (by kernel_rfl) ?_
        refine s_qk (.int .i64 v0) (by kernel_rfl) ?_
        obtain ⟨g153, r154⟩ := G_some r152
        refine s_w ((v0 + 1)) (k := .i64) (x := (v0 + 1)) (by kernel_rfl) (wrap64 (by have := g153; omega)) ?_
        refine s_qk (.int .i64 (v0 + 1)) (by kernel_rfl) ?_
        refine s_nil ?_
        obtain rfl := Option.some.inj r154
        exact k108 n104 _ _ (Nat.lt_succ_self _) ⟨(v0 + 1), hn107, ⟨by kernel_rfl, by kernel_rfl, by kernel_rfl, by kernel_rfl, by kernel_rfl, trivial⟩, rfl⟩
      ·have r155 := ite_f h111 hz106
       refine w_exit (th_exit (th_exit (bl_eq ?_)))
       obtain rfl := Option.some.inj r155
       obtain rfl := it_inr hn107
       exact k96 _ _ ⟨_, rfl, ⟨by kernel_rfl, by kernel_rfl, by kernel_rfl, by kernel_rfl, trivial⟩, rfl⟩
     ·obtain ⟨o90, rfl, hh97, rfl⟩ := hM
      have r156 := elim_inr r92
      obtain ⟨β, rfl⟩ := has_ex hh97
      clear hh97
      refine k88 _ _ ?_
      refine w_seqk fun K157 k157 => ?_
      refine w_reg (by kernel_rfl) ?_
      refine s_qk (.int .i64 0) (by kernel_rfl) ?_
      refine s_nil ?_
      refine k157 _ _ ?_
      refine w_seqk fun K158 k158 => ?_
      refine w_seqk fun K159 k159 => ?_
      refine w_reg (by kernel_rfl) ?_
      refine s_qk (.int .i64 0) (by kernel_rfl) ?_
      refine s_nil ?_
      refine k159 _ _ ?_
      obtain ⟨z163, hx161, r162⟩ := bind_some r156
      refine w_mid (fun α H164 => ∃ o160, z163 = Sum.inr o160 ∧ Has α [(2, .pointer (some ⟨b13, 0, none⟩))] ∧ H14 = H164) (fun K166 k166 => ?_) (fun α H164 hM => ?_)
      ·refine w_block ?_
       obtain ⟨n168, hn169⟩ := loopO_iff.1 hx161
       refine w_loopn (fun n α H170 => ∃ (v2 : Int), ∃ (i3 : Int), iterO (fun zz_ => z_viaductref05_DocCheck_l2 First To Weight zz_.1 zz_.2) n (v2, i3) = some z163 ∧ Has α [(1, .pointer (some ⟨b7, 0, none⟩)), (2, .pointer (some ⟨b13, 0, none⟩)), (3, .int .i64 ((First.length : Int) - 1)), (4, .int .i64 (To.length : Int)), (6, .int .i64 v2), (7, .int .i64 i3)] ∧ H14 = H170) n168 ⟨0, 0, hn169, ⟨by kernel_rfl, by kernel_rfl, by kernel_rfl, by kernel_rfl, by kernel_rfl, by kernel_rfl, trivial⟩, rfl⟩ ?_
       rintro n168 α H170 ⟨v2, i3, hi173, hh172, rfl⟩ K178 k178
       obtain ⟨n174, z175, rfl, hz176, hn177⟩ := iter_succ hi173
       obtain ⟨β, rfl⟩ := has_ex hh172
       clear hh172
       replace hz176 : z_viaductref05_DocCheck_l2 First To Weight v2 i3 = some z175 := hz176
       unfold z_viaductref05_DocCheck_l2 at hz176
       refine w_seqk fun K179 k179 => ?_
       refine w_seqk fun K180 k180 => ?_
       refine w_reg (by kernel_rfl) ?_
       refine s_qk (.int .i64 i3) (by kernel_rfl) ?_
       refine s_qk (.int .i64 (To.length : Int)) (by kernel_rfl) ?_
       refine s_qk (.bool (decide (i3 < (To.length : Int)))) (by kernel_rfl) ?_
       refine s_nil ?_
       refine k180 _ _ ?_
       refine w_condp (i3 < (To.length : Int)) (by kernel_rfl) rfl (fun h181 => ?_) (fun h181 => ?_)
       ·have r182 := ite_t h181 hz176
        refine w_skip ?_
        refine k179 _ _ ?_
        refine w_seqk fun K183 k183 => ?_
        refine w_block ?_
        refine w_seqk fun K184 k184 => ?_
        obtain ⟨o185, hx186, r187⟩ := bind_some r182
        refine w_mid (fun α H188 => Has α [(1, .pointer (some ⟨b7, 0, none⟩)), (2, .pointer (some ⟨b13, 0, none⟩)), (3, .int .i64 ((First.length : Int) - 1)), (4, .int .i64 (To.length : Int)), (6, .int .i64 o185), (7, .int .i64 i3)] ∧ H14 = H188) (fun K190 k190 => ?_) (fun α H188 hM => ?_)
        ·refine w_block ?_
         obtain ⟨n192, hn193⟩ := loopO_iff.1 hx186
         refine w_loopn (fun n α H194 => ∃ (v1 : Int), iterO (fun zz_ => z_viaductref05_DocCheck_l1 First i3 zz_) n v1 = some o185 ∧ Has α [(1, .pointer (some ⟨b7, 0, none⟩)), (2, .pointer (some ⟨b13, 0, none⟩)), (3, .int .i64 ((First.length : Int) - 1)), (4, .int .i64 (To.length : Int)), (6, .int .i64 v1), (7, .int .i64 i3)] ∧ H14 = H194) n192 ⟨v2, hn193, ⟨by kernel_rfl, by kernel_rfl, by kernel_rfl, by kernel_rfl, by kernel_rfl, by kernel_rfl, trivial⟩, rfl⟩ ?_
         rintro n192 α H194 ⟨v1, hi197, hh196, rfl⟩ K202 k202
         obtain ⟨n198, z199, rfl, hz200, hn201⟩ := iter_succ hi197
         obtain ⟨β, rfl⟩ := has_ex hh196
         clear hh196
         replace hz200 : z_viaductref05_DocCheck_l1 First i3 v1 = some z199 := hz200
         unfold z_viaductref05_DocCheck_l1 at hz200
         refine w_seqk fun K203 k203 => ?_
         refine w_seqk fun K204 k204 => ?_
         refine w_reg (by kernel_rfl) ?_
         refine s_qk (.pointer (some ⟨b7, 0, none⟩)) (by kernel_rfl) ?_
         refine s_ql (hd_First) (x := aLoad Try.prog 22 (.pointer (some ⟨b7, 0, none⟩)) H14) (by kernel_rfl) (u20.ld (by kernel_rfl)) ?_
         refine s_qk (.int .i64 v1) (by kernel_rfl) ?_
         obtain ⟨g205, r206⟩ := G_some hz200
         refine s_w ((v1 + 1)) (k := .i64) (x := (v1 + 1)) (by kernel_rfl) (wrap64 g205) ?_
         obtain ⟨g207, r208⟩ := G_some r206
         refine s_ql (elp hd_First 1 (v1 + 1).toNat 0) (x := aIndexAddr Try.prog 22 hd_First (.int .i64 (v1 + 1))) (by kernel_rfl) (u21.idxb (by kernel_rfl) g207.1 g207.2) ?_
         refine s_ql (.int .i64 (gt First (v1 + 1))) (x := aLoad Try.prog 3 (elp hd_First 1 (v1 + 1).toNat 0) H14) (by kernel_rfl) (u21.ld g207.1 g207.2 (by kernel_rfl)) ?_
         refine s_qk (.int .i64 i3) (by kernel_rfl) ?_
         refine s_qk (.bool (decide ((gt First (v1 + 1)) ≤ i3))) (by kernel_rfl) ?_
         refine s_nil ?_
         refine k204 _ _ ?_
         refine w_condp ((gt First (v1 + 1)) ≤ i3) (by kernel_rfl) rfl (fun h209 => ?_) (fun h209 => ?_)
         ·have r210 := ite_t h209 r208
          refine w_skip ?_
          refine k203 _ _ ?_
          refine w_block ?_
          refine w_reg (by kernel_rfl) ?_
          refine s_qk (.int .i64 v1) (by kernel_rfl) ?_
          obtain ⟨g211, r212⟩ := G_some r210
          refine s_w ((v1 + 1)) (k := .i64) (x := (v1 + 1)) (by kernel_rfl) (wrap64 (by have := g211; omega)) ?_
          refine s_qk (.int .i64 (v1 + 1)) (by kernel_rfl) ?_
          refine s_nil ?_
          obtain rfl := Option.some.inj r212
          exact k202 n198 _ _ (Nat.lt_succ_self _) ⟨(v1 + 1), hn201, ⟨by kernel_rfl, by kernel_rfl, by kernel_rfl, by kernel_rfl, by kernel_rfl, by kernel_rfl, trivial⟩, rfl⟩
         ·have r213 := ite_f h209 r208
          refine w_exit (th_exit (th_exit (bl_eq ?_)))
          obtain rfl := Option.some.inj r213
          obtain rfl := it_inr hn201
          exact k190 _ _ ⟨⟨by kernel_rfl, by kernel_rfl, by kernel_rfl, by kernel_rfl, by kernel_rfl, by kernel_rfl, trivial⟩, rfl⟩
        ·obtain ⟨hh191, rfl⟩ := hM
         obtain ⟨β, rfl⟩ := has_ex hh191
         clear hh191
         refine k184 _ _ ?_
         refine w_seqk fun K214 k214 => ?_
         refine w_reg (by kernel_rfl) ?_
         refine s_qk (.int .i64 0) (by kernel_rfl) ?_
         refine s_nil ?_
         refine k214 _ _ ?_
         refine w_seqk fun K215 k215 => ?_
         refine w_block ?_
         refine w_seqk fun K216 k216 => ?_
         obtain ⟨o217, hx218, r219⟩ := bind_some r187
         refine w_mid (fun α H220 => Has α [(1, .pointer (some ⟨b7, 0, none⟩)), (2, .pointer (some ⟨b13, 0, none⟩)), (3, .int .i64 ((First.length : Int) - 1)), (4, .int .i64 (To.length : Int)), (6, .int .i64 o185), (7, .int .i64 i3), (8, .int .i64 0), (84, .bool o217)] ∧ H14 = H220) (fun K222 k222 => ?_) (fun α H220 hM => ?_)
         ·refine w_reg (by kernel_rfl) ?_
          refine s_qk (.pointer (some ⟨b7, 1, none⟩)) (by kernel_rfl) ?_
          refine s_ql (hd_To) (x := aLoad Try.prog 22 (.pointer (some ⟨b7, 1, none⟩)) H14) (by kernel_rfl) (u20.ld (by kernel_rfl)) ?_
          refine s_qk (.int .i64 i3) (by kernel_rfl) ?_
          obtain ⟨g224, r225⟩ := G_some hx218
          refine s_ql (elp hd_To 1 i3.toNat 0) (x := aIndexAddr Try.prog 22 hd_To (.int .i64 i3)) (by kernel_rfl) (u24.idxb (by kernel_rfl) g224 h181) ?_
          refine s_ql (.int .i64 (gt To i3)) (x := aLoad Try.prog 3 (elp hd_To 1 i3.toNat 0) H14) (by kernel_rfl) (u24.ld g224 h181 (by kernel_rfl)) ?_
          refine s_b ((gt To i3) < 0) (by kernel_rfl) (fun h226 => ?_) (fun h226 => ?_)
          ·have r227 := ite_t h226 r225
           refine s_qk (.bool true) (by kernel_rfl) ?_
           refine s_no (by kernel_rfl) ?_
           refine s_no (by kernel_rfl) ?_
           refine s_no (by kernel_rfl) ?_
           refine s_no (by kernel_rfl) ?_
           refine s_no (by kernel_rfl) ?_
           refine s_no (by kernel_rfl) ?_
           refine s_no (by kernel_rfl) ?_
           refine s_qk (.bool true) (by kernel_rfl) ?_
           refine s_qk (.bool true) (by kernel_rfl) ?_
           refine s_nil ?_
           obtain rfl := Option.some.inj r227
           exact k222 _ _ ⟨⟨by kernel_rfl, by kernel_rfl, by kernel_rfl, by kernel_rfl, by kernel_rfl, by kernel_rfl, by kernel_rfl, by kernel_rfl, trivial⟩, rfl⟩
          ·have r228 := ite_f h226 r225
           refine s_qk (.bool false) (by kernel_rfl) ?_
           refine s_qk (.pointer (some ⟨b7, 1, none⟩)) (by kernel_rfl) ?_
           refine s_ql (hd_To) (x := aLoad Try.prog 22 (.pointer (some ⟨b7, 1, none⟩)) H14) (by kernel_rfl) (u20.ld (by kernel_rfl)) ?_
           refine s_qk (.int .i64 i3) (by kernel_rfl) ?_
           refine s_ql (elp hd_To 1 i3.toNat 0) (x := aIndexAddr Try.prog 22 hd_To (.int .i64 i3)) (by kernel_rfl) (u24.idxb (by kernel_rfl) g224 h181) ?_
           refine s_ql (.int .i64 (gt To i3)) (x := aLoad Try.prog 3 (elp hd_To 1 i3.toNat 0) H14) (by kernel_rfl) (u24.ld g224 h181 (by kernel_rfl)) ?_
           refine s_qk (.int .i64 ((First.length : Int) - 1)) (by kernel_rfl) ?_
           refine s_qk (.bool (decide ((gt To i3) ≥ ((First.length : Int) - 1)))) (by kernel_rfl) ?_
           refine s_qk (.bool (decide ((gt To i3) ≥ ((First.length : Int) - 1)))) (by kernel_rfl) ?_
           refine s_qk (.bool (decide ((gt To i3) ≥ ((First.length : Int) - 1)))) (by kernel_rfl) ?_
           refine s_nil ?_
           obtain rfl := Option.some.inj r228
           exact k222 _ _ ⟨⟨by kernel_rfl, by kernel_rfl, by kernel_rfl, by kernel_rfl, by kernel_rfl, by kernel_rfl, by kernel_rfl, by kernel_rfl, trivial⟩, rfl⟩
         ·obtain ⟨hh223, rfl⟩ := hM
          obtain ⟨β, rfl⟩ := has_ex hh223
          clear hh223
          refine k216 _ _ ?_
          obtain ⟨o229, hx230, r231⟩ := bind_some r219
          refine w_mid (fun α H232 => Has α [(1, .pointer (some ⟨b7, 0, none⟩)), (2, .pointer (some ⟨b13, 0, none⟩)), (3, .int .i64 ((First.length : Int) - 1)), (4, .int .i64 (To.length : Int)), (6, .int .i64 o185), (7, .int .i64 i3), (8, .int .i64 o229)] ∧ H14 = H232) (fun K234 k234 => ?_) (fun α H232 hM => ?_)
          ·refine w_cond (o217) (by kernel_rfl) rfl (fun h236 => ?_) (fun h236 => ?_)
           ·have r237 := ite_t h236 hx230
            refine w_reg (by kernel_rfl) ?_
            refine s_qk (.int .i64 7) (by kernel_rfl) ?_
            refine s_nil ?_
            obtain rfl := Option.some.inj r237
            exact k234 _ _ ⟨⟨by kernel_rfl, by kernel_rfl, by kernel_rfl, by kernel_rfl, by kernel_rfl, by kernel_rfl, by kernel_rfl, trivial⟩, rfl⟩
           ·have r238 := ite_bf h236 hx230
            refine w_seqk fun K239 k239 => ?_
            obtain ⟨o240, hx241, r242⟩ := bind_some r238
            refine w_mid (fun α H243 => Has α [(1, .pointer (some ⟨b7, 0, none⟩)), (2, .pointer (some ⟨b13, 0, none⟩)), (3, .int .i64 ((First.length : Int) - 1)), (4, .int .i64 (To.length : Int)), (6, .int .i64 o185), (7, .int .i64 i3), (8, .int .i64 0), (100, .bool o240)] ∧ H14 = H243) (fun K245 k245 => ?_) (fun α H243 hM => ?_)
            ·refine w_draw [0, 1, 2, 3, 4, 5, 6, 7, 8, 9, 10, 11, 12, 13, 14, 15, 16, 17, 18, 19, 20, 21, 22, 23, 24, 25, 26, 27, 28, 29, 30] (by kernel_rfl) ?_
             refine d_qk (.pointer (some ⟨b7, 1, none⟩)) (by kernel_rfl) ?_
             refine d_ql (hd_To) (x := aLoad Try.prog 22 (.pointer (some ⟨b7, 1, none⟩)) H14) (by kernel_rfl) (u20.ld (by kernel_rfl)) ?_
             refine d_qk (.int .i64 i3) (by kernel_rfl) ?_
             obtain ⟨g247, r248⟩ := G_some hx241
             refine d_ql (elp hd_To 1 i3.toNat 0) (x := aIndexAddr Try.prog 22 hd_To (.int .i64 i3)) (by kernel_rfl) (u24.idxb (by kernel_rfl) g247 h181) ?_
             refine d_ql (.int .i64 (gt To i3)) (x := aLoad Try.prog 3 (elp hd_To 1 i3.toNat 0) H14) (by kernel_rfl) (u24.ld g247 h181 (by kernel_rfl)) ?_
             refine d_qk (.int .i64 o185) (by kernel_rfl) ?_
             refine d_b ((gt To i3) = o185) (by kernel_rfl) (fun h249 => ?_) (fun h249 => ?_)
             ·have r250 := ite_t h249 r248
              refine d_qk (.bool true) (by kernel_rfl) ?_
              refine d_idle (by kernel_rfl) ?_
              refine d_idle (by kernel_rfl) ?_
              refine d_idle (by kernel_rfl) ?_
              refine d_idle (by kernel_rfl) ?_
              refine d_idle (by kernel_rfl) ?_
              refine d_idle (by kernel_rfl) ?_
              refine d_idle (by kernel_rfl) ?_
              refine d_idle (by kernel_rfl) ?_
              refine d_idle (by kernel_rfl) ?_
              refine d_idle (by kernel_rfl) ?_
              refine d_idle (by kernel_rfl) ?_
              refine d_idle (by kernel_rfl) ?_
              refine d_idle (by kernel_rfl) ?_
              refine d_idle (by kernel_rfl) ?_
              refine d_idle (by kernel_rfl) ?_
              refine d_idle (by kernel_rfl) ?_
              refine d_idle (by kernel_rfl) ?_
              refine d_idle (by kernel_rfl) ?_
              refine d_idle (by kernel_rfl) ?_
              refine d_idle (by kernel_rfl) ?_
              refine d_idle (by kernel_rfl) ?_
              refine d_qk (.bool true) (by kernel_rfl) ?_
              refine d_qk (.bool true) (by kernel_rfl) ?_
              refine d_nil ?_
              obtain rfl := Option.some.inj r250
              exact k245 _ _ ⟨⟨by kernel_rfl, by kernel_rfl, by kernel_rfl, by kernel_rfl, by kernel_rfl, by kernel_rfl, by kernel_rfl, by kernel_rfl, trivial⟩, rfl⟩
             ·have r251 := ite_f h249 r248
              refine d_qk (.bool false) (by kernel_rfl) ?_
              refine d_qk (.int .i64 i3) (by kernel_rfl) ?_
              refine d_qk (.pointer (some ⟨b7, 0, none⟩)) (by kernel_rfl) ?_
              refine d_ql (hd_First) (x := aLoad Try.prog 22 (.pointer (some ⟨b7, 0, none⟩)) H14) (by kernel_rfl) (u20.ld (by kernel_rfl)) ?_
              refine d_qk (.int .i64 o185) (by kernel_rfl) ?_
              obtain ⟨g252, r253⟩ := G_some r251
              refine d_ql (elp hd_First 1 o185.toNat 0) (x := aIndexAddr Try.prog 22 hd_First (.int .i64 o185)) (by kernel_rfl) (u21.idxb (by kernel_rfl) g252.1 g252.2) ?_
              refine d_ql (.int .i64 (gt First o185)) (x := aLoad Try.prog 3 (elp hd_First 1 o185.toNat 0) H14) (by kernel_rfl) (u21.ld g252.1 g252.2 (by kernel_rfl)) ?_
              refine d_b (i3 > (gt First o185)) (by kernel_rfl) (fun h254 => ?_) (fun h254 => ?_)
              ·have r255 := ite_t h254 r253
               refine d_qk (.bool true) (by kernel_rfl) ?_
               refine d_qk (.pointer (some ⟨b7, 1, none⟩)) (by kernel_rfl) ?_
               refine d_ql (hd_To) (x := aLoad Try.prog 22 (.pointer (some ⟨b7, 1, none⟩)) H14) (by kernel_rfl) (u20.ld (by kernel_rfl)) ?_
               refine d_qk (.int .i64 i3) (by kernel_rfl) ?_
               refine d_ql (elp hd_To 1 i3.toNat 0) (x := aIndexAddr Try.prog 22 hd_To (.int .i64 i3)) (by kernel_rfl) (u24.idxb (by kernel_rfl) g247 h181) ?_
               refine d_ql (.int .i64 (gt To i3)) (x := aLoad Try.prog 3 (elp hd_To 1 i3.toNat 0) H14) (by kernel_rfl) (u24.ld g247 h181 (by kernel_rfl)) ?_
               refine d_qk (.pointer (some ⟨b7, 1, none⟩)) (by kernel_rfl) ?_
               refine d_ql (hd_To) (x := aLoad Try.prog 22 (.pointer (some ⟨b7, 1, none⟩)) H14) (by kernel_rfl) (u20.ld (by kernel_rfl)) ?_
               refine d_qk (.int .i64 i3) (by kernel_rfl) ?_
               obtain ⟨g256, r257⟩ := G_some r255
               refine d_w ((i3 - 1)) (k := .i64) (x := (i3 - 1)) (by kernel_rfl) (wrap64 g256) ?_
               obtain ⟨g258, r259⟩ := G_some r257
               refine d_ql (elp hd_To 1 (i3 - 1).toNat 0) (x := aIndexAddr Try.prog 22 hd_To (.int .i64 (i3 - 1))) (by kernel_rfl) (u24.idxb (by kernel_rfl) g258.1 g258.2) ?_
               refine d_ql (.int .i64 (gt To (i3 - 1))) (x := aLoad Try.prog 3 (elp hd_To 1 (i3 - 1).toNat 0) H14) (by kernel_rfl) (u24.ld g258.1 g258.2 (by kernel_rfl)) ?_
               refine d_qk (.bool (decide ((gt To i3) ≤ (gt To (i3 - 1))))) (by kernel_rfl) ?_
               refine d_qk (.bool (decide ((gt To i3) ≤ (gt To (i3 - 1))))) (by kernel_rfl) ?_
               refine d_qk (.bool (decide ((gt To i3) ≤ (gt To (i3 - 1))))) (by kernel_rfl) ?_
               refine d_qk (.bool (decide ((gt To i3) ≤ (gt To (i3 - 1))))) (by kernel_rfl) ?_
               refine d_nil ?_
               obtain rfl := Option.some.inj r259
               exact k245 _ _ ⟨⟨by kernel_rfl, by kernel_rfl, by kernel_rfl, by kernel_rfl, by kernel_rfl, by kernel_rfl, by kernel_rfl, by kernel_rfl, trivial⟩, rfl⟩
              ·have r260 := ite_f h254 r253
               refine d_qk (.bool false) (by kernel_rfl) ?_
               refine d_idle (by kernel_rfl) ?_
               refine d_idle (by kernel_rfl) ?_
               refine d_idle (by kernel_rfl) ?_
               refine d_idle (by kernel_rfl) ?_
               refine d_idle (by kernel_rfl) ?_
               refine d_idle (by kernel_rfl) ?_
               refine d_idle (by kernel_rfl) ?_
               refine d_idle (by kernel_rfl) ?_
               refine d_idle (by kernel_rfl) ?_
               refine d_idle (by kernel_rfl) ?_
               refine d_idle (by kernel_rfl) ?_
               refine d_idle (by kernel_rfl) ?_
               refine d_qk (.bool false) (by kernel_rfl) ?_
               refine d_qk (.bool false) (by kernel_rfl) ?_
               refine d_qk (.bool false) (by kernel_rfl) ?_
               refine d_nil ?_
               obtain rfl := Option.some.inj r260
               exact k245 _ _ ⟨⟨by kernel_rfl, by kernel_rfl, by kernel_rfl, by kernel_rfl, by kernel_rfl, by kernel_rfl, by kernel_rfl, by kernel_rfl, trivial⟩, rfl⟩
            ·obtain ⟨hh246, rfl⟩ := hM
             obtain ⟨β, rfl⟩ := has_ex hh246
             clear hh246
             refine k239 _ _ ?_
             refine w_cond (o240) (by kernel_rfl) rfl (fun h261 => ?_) (fun h261 => ?_)
             ·have r262 := ite_t h261 r242
              refine w_reg (by kernel_rfl) ?_
              refine s_qk (.int .i64 14) (by kernel_rfl) ?_
              refine s_nil ?_
              obtain rfl := Option.some.inj r262
              exact k234 _ _ ⟨⟨by kernel_rfl, by kernel_rfl, by kernel_rfl, by kernel_rfl, by kernel_rfl, by kernel_rfl, by kernel_rfl, trivial⟩, rfl⟩
             ·have r263 := ite_bf h261 r242
              refine w_seqk fun K264 k264 => ?_
              refine w_reg (by kernel_rfl) ?_
              refine s_qk (.pointer (some ⟨b7, 2, none⟩)) (by kernel_rfl) ?_
              refine s_ql (hd_Weight) (x := aLoad Try.prog 22 (.pointer (some ⟨b7, 2, none⟩)) H14) (by kernel_rfl) (u20.ld (by kernel_rfl)) ?_
              refine s_qk (.int .i64 i3) (by kernel_rfl) ?_
              obtain ⟨g265, r266⟩ := G_some r263
              have u267 := ((h_Weight.ext e9).ext e15)
              refine s_ql (elp hd_Weight 1 i3.toNat 0) (x := aIndexAddr Try.prog 22 hd_Weight (.int .i64 i3)) (by kernel_rfl) (u267.idxb (by kernel_rfl) g265.1 g265.2) ?_
              refine s_ql (.int .i64 (gt Weight i3)) (x := aLoad Try.prog 3 (elp hd_Weight 1 i3.toNat 0) H14) (by kernel_rfl) (u267.ld g265.1 g265.2 (by kernel_rfl)) ?_
              refine s_b ((gt Weight i3) < 0) (by kernel_rfl) (fun h268 => ?_) (fun h268 => ?_)
              ·have r269 := ite_t h268 r266
               refine s_qk (.bool true) (by kernel_rfl) ?_
               refine s_no (by kernel_rfl) ?_
               refine s_no (by kernel_rfl) ?_
               refine s_no (by kernel_rfl) ?_
               refine s_no (by kernel_rfl) ?_
               refine s_no (by kernel_rfl) ?_
               refine s_no (by kernel_rfl) ?_
               refine s_qk (.bool true) (by kernel_rfl) ?_
               refine s_qk (.bool true) (by kernel_rfl) ?_
               refine s_nil ?_
               refine k264 _ _ ?_
               refine w_cond true (by kernel_rfl) rfl (fun _ => ?_) (fun h => by cases h)
               refine w_reg (by kernel_rfl) ?_
               refine s_qk (.int .i64 8) (by kernel_rfl) ?_
               refine s_nil ?_
               obtain rfl := Option.some.inj r269
               exact k234 _ _ ⟨⟨by kernel_rfl, by kernel_rfl, by kernel_rfl, by kernel_rfl, by kernel_rfl, by kernel_rfl, by kernel_rfl, trivial⟩, rfl⟩
              ·have r270 := ite_f h268 r266
               refine s_qk (.bool false) (by kernel_rfl) ?_
               refine s_qk (.pointer (some ⟨b7, 2, none⟩)) (by kernel_rfl) ?_
               refine s_ql (hd_Weight) (x := aLoad Try.prog 22 (.pointer (some ⟨b7, 2, none⟩)) H14) (by kernel_rfl) (u20.ld (by kernel_rfl)) ?_
               refine s_qk (.int .i64 i3) (by kernel_rfl) ?_
               refine s_ql (elp hd_Weight 1 i3.toNat 0) (x := aIndexAddr Try.prog 22 hd_Weight (.int .i64 i3)) (by kernel_rfl) (u267.idxb (by kernel_rfl) g265.1 g265.2) ?_
               refine s_ql (.int .i64 (gt Weight i3)) (x := aLoad Try.prog 3 (elp hd_Weight 1 i3.toNat 0) H14) (by kernel_rfl) (u267.ld g265.1 g265.2 (by kernel_rfl)) ?_
               refine s_qk (.bool (decide ((gt Weight i3) > 2147483647))) (by kernel_rfl) ?_
               refine s_qk (.bool (decide ((gt Weight i3) > 2147483647))) (by kernel_rfl) ?_
               refine s_qk (.bool (decide ((gt Weight i3) > 2147483647))) (by kernel_rfl) ?_
               refine s_nil ?_
               refine k264 _ _ ?_
               refine w_condp ((gt Weight i3) > 2147483647) (by kernel_rfl) rfl (fun h271 => ?_) (fun h271 => ?_)
               ·have r272 := ite_t h271 r270
                refine w_reg (by kernel_rfl) ?_
                refine s_qk (.int .i64 8) (by kernel_rfl) ?_
                refine s_nil ?_
                obtain rfl := Option.some.inj r272
                exact k234 _ _ ⟨⟨by kernel_rfl, by kernel_rfl, by kernel_rfl, by kernel_rfl, by kernel_rfl, by kernel_rfl, by kernel_rfl, trivial⟩, rfl⟩
               ·have r273 := ite_f h271 r270
                refine w_skip ?_
                obtain rfl := Option.some.inj r273
                exact k234 _ _ ⟨⟨by kernel_rfl, by kernel_rfl, by kernel_rfl, by kernel_rfl, by kernel_rfl, by kernel_rfl, by kernel_rfl, trivial⟩, rfl⟩
          ·obtain ⟨hh235, rfl⟩ := hM
           obtain ⟨β, rfl⟩ := has_ex hh235
           clear hh235
           refine k215 _ _ ?_
           refine w_seqk fun K274 k274 => ?_
           refine w_reg (by kernel_rfl) ?_
           refine s_qk (.int .i64 o229) (by kernel_rfl) ?_
           refine s_qk (.bool (!decide (o229 = 0))) (by kernel_rfl) ?_
           refine s_nil ?_
           refine k274 _ _ ?_
           refine w_condn (o229 = 0) (by kernel_rfl) rfl (fun h275 => ?_) (fun h275 => ?_)
           ·have r276 := ite_f h275 r231
            refine w_seqk fun K277 k277 => ?_
            refine w_reg (by kernel_rfl) ?_
            refine s_qk (.int .i64 i3) (by kernel_rfl) ?_
            refine s_qk (.int .i64 o229) (by kernel_rfl) ?_
            obtain ⟨y278, hy279, r280⟩ := bind_some r276
            refine s_ck 70 #[.int .i64 o229] (by kernel_rfl) (c_viaductref01_E e15.wf hy279) ?_
            rintro _ H281 ⟨rfl, e282⟩
            obtain ⟨y283, hy284, r285⟩ := bind_some r280
            refine s_ck 111 #[.int .i64 4, .int .i64 i3, .agg #[.int .i64 y278, .slice none 0 0]] (by kernel_rfl) (c_viaductref01_At e282.wf (Sq.nil (enc := enc_i64_i64) (sz := 2) (by decide)) hy284) ?_
            rintro _ H288 ⟨s286, f287, rfl, e289, m290, i291⟩
            obtain ⟨a293, n294, c295, rfl⟩ := m290.form
            have u300 := ((r17.frS e282 Dj.nil_l).frS e289 Dj.nil_l)
            obtain ⟨H296, q297, e298, r299⟩ := Row.store (P := Try.prog) (t := 46) (p := 0) e289.wf u300 (.agg #[.int .i64 y283.1, .slice a293 n294 c295]) [.int .i64 y283.1, .slice a293 n294 c295] (by kernel_rfl) (by kernel_rfl) (one_cons (rfl) (one_cons (m290.one1) (one_nil))) (Nat.le_of_ble_eq_true (by kernel_rfl)) [.int .i64 y283.1, .slice a293 n294 c295] (by kernel_rfl)
            refine s_ek (undef) (by kernel_rfl) (map_ok q297) ?_
            refine s_nil ?_
            refine k277 _ _ ?_
            refine w_ret (bl_ret (th_ret (th_ret (bl_ret (th_ret (th_ret ?_))))))
            obtain ⟨v301, hv302, hz303⟩ := map_some r285
            subst hz303
            obtain rfl := it_inr hn177
            have hq304 := elim_inl r162
            rw [hq304] at hv302
            refine b_ret (fn := Try.f55) (vs := [.agg #[.int .i64 y283.1, .slice a293 n294 c295]]) (aRes_cell (Eq.trans (b := aLoad Try.prog 46 (.pointer (some ⟨b13, 0, none⟩)) H296) (by kernel_rfl) (r299.ld (by kernel_rfl))) (rfl)) ?_
            have u305 := (m290.fr e298 (Dj.symm (i291.djn (r17.ltF.le e282.next))))
            obtain rfl := Option.some.inj hv302
            exact ⟨(.slice a293 n294 c295), f287, rfl, (FrS.step wf (FrS.step wf (FrS.step wf (((FrS.refl (W := []) wf).extR e9).extR e15) e282 Inn.nil) e289 Inn.nil) e298 (hb16.fresh e9.next)), u305, (i291.fresh (ntr (ntr e9.next e15.next) e282.next))⟩
           ·have r306 := ite_t h275 r231
            refine w_skip ?_
            refine k183 _ _ ?_
            refine w_reg (by kernel_rfl) ?_
            refine s_qk (.int .i64 i3) (by kernel_rfl) ?_
            obtain ⟨g307, r308⟩ := G_some r306
            refine s_w ((i3 + 1)) (k := .i64) (x := (i3 + 1)) (by kernel_rfl) (wrap64 g307) ?_
            refine s_qk (.int .i64 (i3 + 1)) (by kernel_rfl) ?_
            refine s_nil ?_
            obtain rfl := Option.some.inj r308
            exact k178 n174 _ _ (Nat.lt_succ_self _) ⟨o185, (i3 + 1), hn177, ⟨by kernel_rfl, by kernel_rfl, by kernel_rfl, by kernel_rfl, by kernel_rfl, by kernel_rfl, trivial⟩, rfl⟩
       ·have r309 := ite_f h181 hz176
        refine w_exit (th_exit (th_exit (bl_eq ?_)))
        obtain rfl := Option.some.inj r309
        obtain rfl := it_inr hn177
        exact k166 _ _ ⟨_, rfl, ⟨by kernel_rfl, trivial⟩, rfl⟩
      ·obtain ⟨o160, rfl, hh167, rfl⟩ := hM
       have r310 := elim_inr r162
       obtain ⟨β, rfl⟩ := has_ex hh167
       clear hh167
       refine k158 _ _ ?_
       refine w_seqk fun K311 k311 => ?_
       refine w_reg (by kernel_rfl) ?_
       refine s_qk (.agg #[.int .i64 0, .slice none 0 0]) (by kernel_rfl) ?_
       obtain ⟨H312, q313, e314, r315⟩ := Row.store (P := Try.prog) (t := 46) (p := 0) e15.wf r17 (.agg #[.int .i64 0, .slice none 0 0]) [.int .i64 0, .slice none 0 0] (by kernel_rfl) (by kernel_rfl) (one_cons (rfl) (one_cons (rfl) (one_nil))) (Nat.le_of_ble_eq_true (by kernel_rfl)) [.int .i64 0, .slice none 0 0] (by kernel_rfl)
       refine s_ek (undef) (by kernel_rfl) (map_ok q313) ?_
       refine s_nil ?_
       refine k311 _ _ ?_
       refine w_ret ?_
       refine b_ret (fn := Try.f55) (vs := [.agg #[.int .i64 0, .slice none 0 0]]) (aRes_cell (Eq.trans (b := aLoad Try.prog 46 (.pointer (some ⟨b13, 0, none⟩)) H312) (by kernel_rfl) (r315.ld (by kernel_rfl))) (rfl)) ?_
       obtain rfl := Option.some.inj r310
       exact ⟨(.slice none 0 0), [], rfl, (FrS.step wf (((FrS.refl (W := []) wf).extR e9).extR e15) e314 (hb16.fresh e9.next)), (Ow.nil (by decide)), Inn.nil⟩


end Go.Vd

/-! (KCm5) -/

set_option maxRecDepth 100000
set_option maxHeartbeats 4000000
set_option linter.unusedVariables false
namespace Go.Vd
open Go.Proofs
attribute [local irreducible] wpSeq wpOrd aWp
theorem c_viaductref05_Row {H : AH} {hd_First : Value} {fp_First : Fp} {hd_To : Value} {fp_To : Fp} {hd_Weight : Value} {fp_Weight : Fp} {First : List (Int)} {To : List (Int)} {Weight : List (Int)} {v_ : Int} {r : List (Int × Int × Int)}
  (wf : WF H) (h_First : Sq (encI .i64) 1 H hd_First First fp_First) (h_To : Sq (encI .i64) 1 H hd_To To fp_To) (h_Weight : Sq (encI .i64) 1 H hd_Weight Weight fp_Weight) (hr : z_viaductref05_Row First To Weight v_ = some r) :
  ACalls Try.prog 143 #[.agg #[hd_First, hd_To, hd_Weight], .int .i64 v_] H fun v H' => ∃ (s3 : Value) (f4 : Fp), v = s3 ∧ FrS [] H H' ∧ Ow enc_i64_i64_i64 3 H' s3 r f4 ∧ Inn [] H f4 := by
 refine acalls_of_body mixed Try.func143 rfl (Nat.le_of_ble_eq_true rfl) ?_
 unfold z_viaductref05_Row at hr
 refine w_seqk fun K6 k6 => ?_
 refine w_reg (by kernel_rfl) ?_
 refine s_rwl wf [hd_First, hd_To, hd_Weight] (one_cons (h_First.one1) (one_cons (h_To.one1) (one_cons (h_Weight.one1) (one_nil)))) (by kernel_rfl) fun b7 H8 e9 hb10 r11 => ?_
 refine s_qk (.slice none 0 0) (by kernel_rfl) ?_
 refine s_nil ?_
 refine k6 _ _ ?_
 refine w_seqk fun K13 k13 => ?_
 refine w_reg (by kernel_rfl) ?_
 refine s_qk (.slice none 0 0) (by kernel_rfl) ?_
 refine s_nil ?_
 refine k13 _ _ ?_
 refine w_seqk fun K14 k14 => ?_
 refine w_seqk fun K15 k15 => ?_
 refine w_reg (by kernel_rfl) ?_
 refine s_qk (.pointer (some ⟨b7, 0, none⟩)) (by kernel_rfl) ?_
 refine s_ql (hd_First) (x := aLoad Try.prog 22 (.pointer (some ⟨b7, 0, none⟩)) H8) (by kernel_rfl) (r11.ld (by kernel_rfl)) ?_
 refine s_qk (.int .i64 v_) (by kernel_rfl) ?_
 obtain ⟨g16, r17⟩ := G_some hr
 have u18 := (h_First.ext e9)
 refine s_ql (elp hd_First 1 v_.toNat 0) (x := aIndexAddr Try.prog 22 hd_First (.int .i64 v_)) (by kernel_rfl) (u18.idxb (by kernel_rfl) g16.1 g16.2) ?_
 refine s_ql (.int .i64 (gt First v_)) (x := aLoad Try.prog 3 (elp hd_First 1 v_.toNat 0) H8) (by kernel_rfl) (u18.ld g16.1 g16.2 (by kernel_rfl)) ?_
 refine s_qk (.int .i64 (gt First v_)) (by kernel_rfl) ?_
 refine s_nil ?_
 refine k15 _ _ ?_
 obtain ⟨o19, hx20, r21⟩ := bind_some r17
 refine w_mid (fun α H22 => ∃ (s26 : Value) (f27 : Fp), Has α [(5, s26)] ∧ FrS [] H8 H22 ∧ Ow enc_i64_i64_i64 3 H22 s26 o19 f27 ∧ Inn [] H8 f27) (fun K29 k29 => ?_) (fun α H22 hM => ?_)
 ·refine w_block ?_
  obtain ⟨n31, hn32⟩ := loopO_iff.1 hx20
  refine w_loopn (fun n α H33 => ∃ (l0 : List (Int × Int × Int)), ∃ (i1 : Int), ∃ (s37 : Value), ∃ (f38 : Fp), iterO (fun zz_ => z_viaductref05_Row_l0 First To Weight v_ zz_.1 zz_.2) n (l0, i1) = some o19 ∧ Has α [(1, .int .i64 v_), (2, .pointer (some ⟨b7, 0, none⟩)), (5, s37), (6, .int .i64 i1)] ∧ FrS [] H8 H33 ∧ Ow enc_i64_i64_i64 3 H33 s37 l0 f38 ∧ Inn [] H8 f38) n31 ⟨[], (gt First v_), (.slice none 0 0), [], hn32, ⟨by kernel_rfl, by kernel_rfl, by kernel_rfl, by kernel_rfl, trivial⟩, (FrS.refl (W := []) e9.wf), (Ow.nil (by decide)), Inn.nil⟩ ?_
  rintro n31 α H33 ⟨l0, i1, s37, f38, hi41, hh40, e34, m36, i39⟩ K46 k46
  obtain ⟨n42, z43, rfl, hz44, hn45⟩ := iter_succ hi41
  obtain ⟨β, rfl⟩ := has_ex hh40
  clear hh40
  replace hz44 : z_viaductref05_Row_l0 First To Weight v_ l0 i1 = some z43 := hz44
  unfold z_viaductref05_Row_l0 at hz44
  obtain ⟨a47, n48, c49, rfl⟩ := m36.form
  refine w_seqk fun K50 k50 => ?_
  refine w_seqk fun K51 k51 => ?_
  refine w_reg (by kernel_rfl) ?_
  refine s_qk (.int .i64 i1) (by kernel_rfl) ?_
  refine s_qk (.pointer (some ⟨b7, 0, none⟩)) (by kernel_rfl) ?_
  have u52 := (r11.frS e34 Dj.nil_l)
  refine s_ql (hd_First) (x := aLoad Try.prog 22 (.pointer (some ⟨b7, 0, none⟩)) H33) (by kernel_rfl) (u52.ld (by kernel_rfl)) ?_
  refine s_qk (.int .i64 v_) (by kernel_rfl) ?_
  obtain ⟨g53, r54⟩ := G_some hz44
  refine s_w ((v_ + 1)) (k := .i64) (x := (v_ + 1)) (by kernel_rfl) (wrap64 (by have := g53; omega)) ?_
  obtain ⟨g55, r56⟩ := G_some r54
  have u57 := (u18.fr e34 Dj.nil_l)
  refine s_ql (elp hd_First 1 (v_ + 1).toNat 0) (x := aIndexAddr Try.prog 22 hd_First (.int .i64 (v_ + 1))) (by kernel_rfl) (u57.idxb (by kernel_rfl) g55.1 g55.2) ?_
  refine s_ql (.int .i64 (gt First (v_ + 1))) (x := aLoad Try.prog 3 (elp hd_First 1 (v_ + 1).toNat 0) H33) (by kernel_rfl) (u57.ld g55.1 g55.2 (by kernel_rfl)) ?_
  refine s_qk (.bool (decide (i1 < (gt First (v_ + 1))))) (by kernel_rfl) ?_
  refine s_nil ?_
  refine k51 _ _ ?_
  refine w_condp (i1 < (gt First (v_ + 1))) (by kernel_rfl) rfl (fun h58 => ?_) (fun h58 => ?_)
  ·have r59 := ite_t h58 r56
   refine w_skip ?_
   refine k50 _ _ ?_
   refine w_seqk fun K60 k60 => ?_
   refine w_block ?_
   refine w_draw [0, 1, 2, 3, 4, 5, 6, 7, 8, 9, 10, 11, 12, 13, 14, 15] (by kernel_rfl) ?_
   refine d_qk (.slice a47 n48 c49) (by kernel_rfl) ?_
   refine d_qk (.int .i64 v_) (by kernel_rfl) ?_
   refine d_qk (.pointer (some ⟨b7, 1, none⟩)) (by kernel_rfl) ?_
   refine d_ql (hd_To) (x := aLoad Try.prog 22 (.pointer (some ⟨b7, 1, none⟩)) H33) (by kernel_rfl) (u52.ld (by kernel_rfl)) ?_
   refine d_qk (.int .i64 i1) (by kernel_rfl) ?_
   obtain ⟨g61, r62⟩ := G_some r59
   have u63 := ((h_To.ext e9).fr e34 Dj.nil_l)
   refine d_ql (elp hd_To 1 i1.toNat 0) (x := aIndexAddr Try.prog 22 hd_To (.int .i64 i1)) (by kernel_rfl) (u63.idxb (by kernel_rfl) g61.1 g61.2) ?_
   refine d_ql (.int .i64 (gt To i1)) (x := aLoad Try.prog 3 (elp hd_To 1 i1.toNat 0) H33) (by kernel_rfl) (u63.ld g61.1 g61.2 (by kernel_rfl)) ?_
   refine d_qk (.pointer (some ⟨b7, 2, none⟩)) (by kernel_rfl) ?_
   refine d_ql (hd_Weight) (x := aLoad Try.prog 22 (.pointer (some ⟨b7, 2, none⟩)) H33) (by kernel_rfl) (u52.ld (by kernel_rfl)) ?_
   refine d_qk (.int .i64 i1) (by kernel_rfl) ?_
   obtain ⟨g64, r65⟩ := G_some r62
   have u66 := ((h_Weight.ext e9).fr e34 Dj.nil_l)
   refine d_ql (elp hd_Weight 1 i1.toNat 0) (x := aIndexAddr Try.prog 22 hd_Weight (.int .i64 i1)) (by kernel_rfl) (u66.idxb (by kernel_rfl) g61.1 g64) ?_
   refine d_ql (.int .i64 (gt Weight i1)) (x := aLoad Try.prog 3 (elp hd_Weight 1 i1.toNat 0) H33) (by kernel_rfl) (u66.ld g61.1 g64 (by kernel_rfl)) ?_
   refine d_qk (.agg #[.int .i64 v_, .int .i64 (gt To i1), .int .i64 (gt Weight i1)]) (by kernel_rfl) ?_
   refine d_owk (enc := enc_i64_i64_i64) (sz := 3) e34.wf [(v_, (gt To i1), (gt Weight i1))] 1 (by decide) (fun _ _ => rfl) (fun _ _ => rfl) rfl (by kernel_rfl) fun s67 f68 H69 e70 hf71 hm72 => ?_
   obtain ⟨a73, n74, c75, rfl⟩ := hm72.form
   have u77 := (m36.ext e70)
   obtain ⟨g78, r79⟩ := G_some r65
   obtain ⟨s80, H81, f82, q86, e83, hm84, hf85⟩ := Ow.append (P := Try.prog) 24 e70.wf u77 hm72.sq (fun _ _ => rfl) (at_ := #[57, 57]) rfl rfl (by kernel_rfl) (by kernel_rfl) (by decide) (by have := g78; first | omega | (simp only [List.length_cons, List.length_nil] at this ⊢; omega) | (simp at this ⊢; omega))
   obtain ⟨a87, n88, c89, rfl⟩ := hm84.form
   refine d_ek (.slice a87 n88 c89) (by kernel_rfl) (q86) (st_nil) ?_
   refine d_qk (.slice a87 n88 c89) (by kernel_rfl) ?_
   refine d_nil ?_
   refine k60 _ _ ?_
   refine w_reg (by kernel_rfl) ?_
   refine s_qk (.int .i64 i1) (by kernel_rfl) ?_
   obtain ⟨g91, r92⟩ := G_some r79
   refine s_w ((i1 + 1)) (k := .i64) (x := (i1 + 1)) (by kernel_rfl) (wrap64 (by have := g91; omega)) ?_
   refine s_qk (.int .i64 (i1 + 1)) (by kernel_rfl) ?_
   refine s_nil ?_
   obtain rfl := Option.some.inj r92
   exact k46 n42 _ _ (Nat.lt_succ_self _) ⟨(l0 ++ [(v_, (gt To i1), (gt Weight i1))]), (i1 + 1), (.slice a87 n88 c89), f82, hn45, ⟨by kernel_rfl, by kernel_rfl, by kernel_rfl, by kernel_rfl, trivial⟩, (FrS.step e9.wf ((FrS.step e9.wf (FrS.refl (W := []) e9.wf) e34 Inn.nil).extR e70) e83 (i39.fresh (Nat.le_refl _))), hm84, (Inn.trans (i39.fresh (Nat.le_refl _)) (ntr e34.next e70.next) hf85)⟩
  ·have r93 := ite_f h58 r56
   refine w_exit (th_exit (th_exit (bl_eq ?_)))
   obtain rfl := Option.some.inj r93
   obtain rfl := it_inr hn45
   exact k29 _ _ ⟨(.slice a47 n48 c49), f38, ⟨by kernel_rfl, trivial⟩, (FrS.step e9.wf (FrS.refl (W := []) e9.wf) e34 Inn.nil), m36, (i39.fresh (Nat.le_refl _))⟩
 ·obtain ⟨s26, f27, hh30, e23, m25, i28⟩ := hM
  obtain ⟨β, rfl⟩ := has_ex hh30
  clear hh30
  obtain ⟨a94, n95, c96, rfl⟩ := m25.form
  refine k14 _ _ ?_
  refine w_seqk fun K97 k97 => ?_
  refine w_reg (by kernel_rfl) ?_
  refine s_qk (.slice a94 n95 c96) (by kernel_rfl) ?_
  refine s_qk (.slice a94 n95 c96) (by kernel_rfl) ?_
  refine s_nil ?_
  refine k97 _ _ ?_
  refine w_ret ?_
  refine b_ret (fn := Try.f143) (vs := [.slice a94 n95 c96]) (aRes_tmp (by kernel_rfl) (rfl)) ?_
  obtain rfl := Option.some.inj r21
  exact ⟨(.slice a94 n95 c96), f27, rfl, (FrS.step wf ((FrS.refl (W := []) wf).extR e9) e23 Inn.nil), m25, (i28.fresh e9.next)⟩

theorem c_viaductref05_Graph {H : AH} {hd_First : Value} {fp_First : Fp} {hd_To : Value} {fp_To : Fp} {hd_Weight : Value} {fp_Weight : Fp} {First : List (Int)} {To : List (Int)} {Weight : List (Int)} {r : Int × List (Int × Int × Int)}
  (wf : WF H) (h_First : Sq (encI .i64) 1 H hd_First First fp_First) (h_To : Sq (encI .i64) 1 H hd_To To fp_To) (h_Weight : Sq (encI .i64) 1 H hd_Weight Weight fp_Weight) (hr : z_viaductref05_Graph First To Weight = some r) :
  ACalls Try.prog 110 #[.agg #[hd_First, hd_To, hd_Weight]] H fun v H' => ∃ (s3 : Value) (f4 : Fp), v = .agg #[.int .i64 r.1, s3] ∧ FrS [] H H' ∧ Ow enc_i64_i64_i64 3 H' s3 r.2 f4 ∧ Inn [] H f4 := by
 refine acalls_of_body mixed Try.func110 rfl (Nat.le_of_ble_eq_true rfl) ?_
 unfold z_viaductref05_Graph at hr
 refine w_seqk fun K6 k6 => ?_
 refine w_reg (by kernel_rfl) ?_
 refine s_rwl wf [hd_First, hd_To, hd_Weight] (one_cons (h_First.one1) (one_cons (h_To.one1) (one_cons (h_Weight.one1) (one_nil)))) (by kernel_rfl) fun b7 H8 e9 hb10 r11 => ?_
 refine s_rwk e9.wf [.int .i64 0, .slice none 0 0] (by kernel_rfl) fun b13 H14 e15 hb16 r17 => ?_
 refine s_nil ?_
 refine k6 _ _ ?_
 refine w_seqk fun K19 k19 => ?_
 refine w_reg (by kernel_rfl) ?_
 refine s_qk (.pointer (some ⟨b7, 0, none⟩)) (by kernel_rfl) ?_
 have u20 := (r11.ext e15)
 refine s_ql (hd_First) (x := aLoad Try.prog 22 (.pointer (some ⟨b7, 0, none⟩)) H14) (by kernel_rfl) (u20.ld (by kernel_rfl)) ?_
 have u21 := ((h_First.ext e9).ext e15)
 refine s_ql (.int .i64 (First.length : Int)) (x := aLen Try.prog 22 hd_First H14) (by kernel_rfl) (u21.lenb (by kernel_rfl)) ?_
 obtain ⟨g22, r23⟩ := G_some hr
 refine s_w (((First.length : Int) - 1)) (k := .i64) (x := ((First.length : Int) - 1)) (by kernel_rfl) (wrap64 g22) ?_
 refine s_qk (.agg #[.int .i64 ((First.length : Int) - 1), .slice none 0 0]) (by kernel_rfl) ?_
 refine s_rwk e15.wf [.int .i64 0, .slice none 0 0] (by kernel_rfl) fun b24 H25 e26 hb27 r28 => ?_
 obtain ⟨H30, q31, e32, r33⟩ := Row.store (P := Try.prog) (t := 59) (p := 0) e26.wf r28 (.agg #[.int .i64 ((First.length : Int) - 1), .slice none 0 0]) [.int .i64 ((First.length : Int) - 1), .slice none 0 0] (by kernel_rfl) (by kernel_rfl) (one_cons (rfl) (one_cons (rfl) (one_nil))) (Nat.le_of_ble_eq_true (by kernel_rfl)) [.int .i64 ((First.length : Int) - 1), .slice none 0 0] (by kernel_rfl)
 refine s_ek (undef) (by kernel_rfl) (map_ok q31) ?_
 refine s_nil ?_
 refine k19 _ _ ?_
 refine w_seqk fun K34 k34 => ?_
 refine w_seqk fun K35 k35 => ?_
 refine w_reg (by kernel_rfl) ?_
 refine s_qk (.int .i64 0) (by kernel_rfl) ?_
 refine s_nil ?_
 refine k35 _ _ ?_
 obtain ⟨o36, hx37, r38⟩ := bind_some r23
 refine w_mid (fun α H39 => ∃ (s43 : Value) (f44 : Fp), Has α [(2, .pointer (some ⟨b13, 0, none⟩)), (3, .pointer (some ⟨b24, 0, none⟩))] ∧ FrS [b24] H30 H39 ∧ Ow enc_i64_i64_i64 3 H39 s43 o36 f44 ∧ Row H39 b24 [.int .i64 ((First.length : Int) - 1), s43] ∧ Inn [] H30 f44) (fun K48 k48 => ?_) (fun α H39 hM => ?_)
 ·refine w_block ?_
  obtain ⟨n50, hn51⟩ := loopO_iff.1 hx37
  refine w_loopn (fun n α H52 => ∃ (g0 : List (Int × Int × Int)), ∃ (v1 : Int), ∃ (s56 : Value), ∃ (f57 : Fp), iterO (fun zz_ => z_viaductref05_Graph_l0 First To Weight zz_.1 zz_.2) n (g0, v1) = some o36 ∧ Has α [(1, .pointer (some ⟨b7, 0, none⟩)), (2, .pointer (some ⟨b13, 0, none⟩)), (3, .pointer (some ⟨b24, 0, none⟩)), (4, .int .i64 v1)] ∧ FrS [b24] H30 H52 ∧ Ow enc_i64_i64_i64 3 H52 s56 g0 f57 ∧ Row H52 b24 [.int .i64 ((First.length : Int) - 1), s56] ∧ Inn [] H30 f57) n50 ⟨[], 0, (.slice none 0 0), [], hn51, ⟨by kernel_rfl, by kernel_rfl, by kernel_rfl, by kernel_rfl, trivial⟩, (FrS.refl (W := [b24]) e32.wf), (Ow.nil (by decide)), r33, Inn.nil⟩ ?_
  rintro n50 α H52 ⟨g0, v1, s56, f57, hi62, hh61, e53, m55, m59, i60⟩ K67 k67
  obtain ⟨n63, z64, rfl, hz65, hn66⟩ := iter_succ hi62
  obtain ⟨β, rfl⟩ := has_ex hh61
  clear hh61
  replace hz65 : z_viaductref05_Graph_l0 First To Weight g0 v1 = some z64 := hz65
  unfold z_viaductref05_Graph_l0 at hz65
  obtain ⟨a68, n69, c70, rfl⟩ := m55.form
  refine w_seqk fun K71 k71 => ?_
  refine w_seqk fun K72 k72 => ?_
  refine w_reg (by kernel_rfl) ?_
  refine s_qk (.int .i64 v1) (by kernel_rfl) ?_
  refine s_qk (.pointer (some ⟨b24, 0, none⟩)) (by kernel_rfl) ?_
  refine s_ql (.int .i64 ((First.length : Int) - 1)) (x := aLoad Try.prog 3 (.pointer (some ⟨b24, 0, none⟩)) H52) (by kernel_rfl) (m59.ld (by kernel_rfl)) ?_
  refine s_qk (.bool (decide (v1 < ((First.length : Int) - 1)))) (by kernel_rfl) ?_
  refine s_nil ?_
  refine k72 _ _ ?_
  refine w_condp (v1 < ((First.length : Int) - 1)) (by kernel_rfl) rfl (fun h73 => ?_) (fun h73 => ?_)
  ·have r74 := ite_t h73 hz65
   refine w_skip ?_
   refine k71 _ _ ?_
   refine w_seqk fun K75 k75 => ?_
   refine w_block ?_
   refine w_draw [0, 1, 2, 3, 4, 5, 6, 7] (by kernel_rfl) ?_
   refine d_qk (.pointer (some ⟨b24, 1, none⟩)) (by kernel_rfl) ?_
   refine d_fl (.slice a68 n69 c70) (x := aLoad Try.prog 57 (.pointer (some ⟨b24, 1, none⟩)) H52) (by kernel_rfl) (m59.ld (by kernel_rfl)) ?_
   have u76 := (((u20.ext e26).frS e32 (hb27.djn (r11.ltF.le e15.next))).frS e53 (hb27.djn (r11.ltF.le e15.next)))
   refine d_ql (.agg #[hd_First, hd_To, hd_Weight]) (x := aLoad Try.prog 24 (.pointer (some ⟨b7, 0, none⟩)) H52) (by kernel_rfl) (u76.ld (by kernel_rfl)) ?_
   refine d_qk (.int .i64 v1) (by kernel_rfl) ?_
   have u77 := (((u21.ext e26).fr e32 (hb27.djn (h_First.lt.le (ntr e9.next e15.next)))).fr e53 (hb27.djn (h_First.lt.le (ntr e9.next e15.next))))
   have u78 := (((((h_To.ext e9).ext e15).ext e26).fr e32 (hb27.djn (h_To.lt.le (ntr e9.next e15.next)))).fr e53 (hb27.djn (h_To.lt.le (ntr e9.next e15.next))))
   have u79 := (((((h_Weight.ext e9).ext e15).ext e26).fr e32 (hb27.djn (h_Weight.lt.le (ntr e9.next e15.next)))).fr e53 (hb27.djn (h_Weight.lt.le (ntr e9.next e15.next))))
   obtain ⟨y80, hy81, r82⟩ := bind_some r74
   refine d_ck 143 #[.agg #[hd_First, hd_To, hd_Weight], .int .i64 v1] (by kernel_rfl) (c_viaductref05_Row e53.wf u77 u78 u79 hy81) ?_
   rintro s83 H85 ⟨_, f84, rfl, e86, m87, i88⟩
   obtain ⟨a90, n91, c92, rfl⟩ := m87.form
   have u93 := (m59.frS e86 Dj.nil_l)
   refine ⟨st_ql (y := aLoad Try.prog 57 (.pointer (some ⟨b24, 1, none⟩)) H85) (by kernel_rfl) (u93.ld (by kernel_rfl)) (st_nil), ?_⟩
   have u94 := (m55.fr e86 Dj.nil_l)
   obtain ⟨g95, r96⟩ := G_some r82
   obtain ⟨s97, H98, f99, q103, e100, hm101, hf102⟩ := Ow.append (P := Try.prog) 24 e86.wf u94 m87.sq (fun _ _ => rfl) (at_ := #[57, 57]) rfl rfl (by kernel_rfl) (by kernel_rfl) (by decide) (by have := g95; first | omega | (simp only [List.length_cons, List.length_nil] at this ⊢; omega) | (simp at this ⊢; omega))
   obtain ⟨a104, n105, c106, rfl⟩ := hm101.form
   refine d_ek (.slice a104 n105 c106) (by kernel_rfl) (q103) (st_anc (by kernel_rfl) (st_nil)) ?_
   refine d_qk (.pointer (some ⟨b24, 1, none⟩)) (by kernel_rfl) ?_
   have u112 := (u93.frS e100 (i60.djn (r28.ltF.le e32.next)))
   obtain ⟨H108, q109, e110, r111⟩ := Row.store (P := Try.prog) (t := 57) (p := 1) e100.wf u112 (.slice a104 n105 c106) [.slice a104 n105 c106] (by kernel_rfl) (by kernel_rfl) (one_cons (hm101.one1) (one_nil)) (Nat.le_of_ble_eq_true (by kernel_rfl)) [.int .i64 ((First.length : Int) - 1), .slice a104 n105 c106] (by kernel_rfl)
   refine d_ek (undef) (by kernel_rfl) (map_ok q109) (st_anc (by kernel_rfl) (st_nil)) ?_
   refine d_nil ?_
   refine k75 _ _ ?_
   refine w_reg (by kernel_rfl) ?_
   refine s_qk (.int .i64 v1) (by kernel_rfl) ?_
   obtain ⟨g113, r114⟩ := G_some r96
   refine s_w ((v1 + 1)) (k := .i64) (x := (v1 + 1)) (by kernel_rfl) (wrap64 g113) ?_
   refine s_qk (.int .i64 (v1 + 1)) (by kernel_rfl) ?_
   refine s_nil ?_
   have u115 := (hm101.fr e110 (Dj.symm (hf102.dj (i60.djn (r28.ltF.le e32.next)) (r28.ltF.le (ntr (ntr e32.next e53.next) e86.next)))))
   obtain rfl := Option.some.inj r114
   exact k67 n63 _ _ (Nat.lt_succ_self _) ⟨(g0 ++ y80), (v1 + 1), (.slice a104 n105 c106), f99, hn66, ⟨by kernel_rfl, by kernel_rfl, by kernel_rfl, by kernel_rfl, trivial⟩, (FrS.step e32.wf (FrS.step e32.wf (FrS.step e32.wf (FrS.step e32.wf (FrS.refl (W := [b24]) e32.wf) e53 Inn.refl') e86 Inn.nil) e100 (i60.fresh (Nat.le_refl _))) e110 Inn.refl'), u115, r111, (Inn.trans (i60.fresh (Nat.le_refl _)) (ntr e53.next e86.next) hf102)⟩
  ·have r116 := ite_f h73 hz65
   refine w_exit (th_exit (th_exit (bl_eq ?_)))
   obtain rfl := Option.some.inj r116
   obtain rfl := it_inr hn66
   exact k48 _ _ ⟨(.slice a68 n69 c70), f57, ⟨by kernel_rfl, by kernel_rfl, trivial⟩, (FrS.step e32.wf (FrS.refl (W := [b24]) e32.wf) e53 Inn.refl'), m55, m59, (i60.fresh (Nat.le_refl _))⟩
 ·obtain ⟨s43, f44, hh49, e40, m42, m46, i47⟩ := hM
  obtain ⟨β, rfl⟩ := has_ex hh49
  clear hh49
  obtain ⟨a117, n118, c119, rfl⟩ := m42.form
  refine k34 _ _ ?_
  refine w_seqk fun K120 k120 => ?_
  refine w_reg (by kernel_rfl) ?_
  refine s_ql (.agg #[.int .i64 ((First.length : Int) - 1), .slice a117 n118 c119]) (x := aLoad Try.prog 59 (.pointer (some ⟨b24, 0, none⟩)) H39) (by kernel_rfl) (m46.ld (by kernel_rfl)) ?_
  have u125 := (((r17.ext e26).frS e32 (hb27.djn r17.ltF)).frS e40 (hb27.djn r17.ltF))
  obtain ⟨H121, q122, e123, r124⟩ := Row.store (P := Try.prog) (t := 59) (p := 0) e40.wf u125 (.agg #[.int .i64 ((First.length : Int) - 1), .slice a117 n118 c119]) [.int .i64 ((First.length : Int) - 1), .slice a117 n118 c119] (by kernel_rfl) (by kernel_rfl) (one_cons (rfl) (one_cons (m42.one1) (one_nil))) (Nat.le_of_ble_eq_true (by kernel_rfl)) [.int .i64 ((First.length : Int) - 1), .slice a117 n118 c119] (by kernel_rfl)
  refine s_ek (undef) (by kernel_rfl) (map_ok q122) ?_
  refine s_nil ?_
  refine k120 _ _ ?_
  refine w_ret ?_
  refine b_ret (fn := Try.f110) (vs := [.agg #[.int .i64 ((First.length : Int) - 1), .slice a117 n118 c119]]) (aRes_cell (Eq.trans (b := aLoad Try.prog 59 (.pointer (some ⟨b13, 0, none⟩)) H121) (by kernel_rfl) (r124.ld (by kernel_rfl))) (rfl)) ?_
  have u126 := (m42.fr e123 (Dj.symm (i47.djn (r17.ltF.le (ntr e26.next e32.next)))))
  obtain rfl := Option.some.inj r38
  exact ⟨(.slice a117 n118 c119), f44, rfl, (FrS.step wf (FrS.step wf (FrS.step wf ((((FrS.refl (W := []) wf).extR e9).extR e15).extR e26) e32 (hb27.fresh (ntr e9.next e15.next))) e40 (hb27.fresh (ntr e9.next e15.next))) e123 (hb16.fresh e9.next)), u126, (i47.fresh (ntr (ntr (ntr e9.next e15.next) e26.next) e32.next))⟩

theorem c_viaductref05_DocGraph {H : AH} {hd_First : Value} {fp_First : Fp} {hd_To : Value} {fp_To : Fp} {hd_Weight : Value} {fp_Weight : Fp} {First : List (Int)} {To : List (Int)} {Weight : List (Int)} {r : Int × List (Int × Int × Int) × Int × List (Int × Int)}
  (wf : WF H) (h_First : Sq (encI .i64) 1 H hd_First First fp_First) (h_To : Sq (encI .i64) 1 H hd_To To fp_To) (h_Weight : Sq (encI .i64) 1 H hd_Weight Weight fp_Weight) (hr : z_viaductref05_DocGraph First To Weight = some r) :
  ACalls Try.prog 52 #[.agg #[hd_First, hd_To, hd_Weight]] H fun v H' => ∃ (s3 : Value) (f4 : Fp) (s7 : Value) (f8 : Fp), v = .tuple #[.agg #[.int .i64 r.1, s3], .agg #[.int .i64 r.2.2.1, s7]] ∧ FrS [] H H' ∧ Ow enc_i64_i64_i64 3 H' s3 r.2.1 f4 ∧ Ow enc_i64_i64 2 H' s7 r.2.2.2 f8 ∧ Inn [] H f4 ∧ Inn [] H f8 ∧ Dj f4 f8 := by
 refine acalls_of_body mixed Try.func52 rfl (Nat.le_of_ble_eq_true rfl) ?_
 unfold z_viaductref05_DocGraph at hr
 refine w_seqk fun K12 k12 => ?_
 refine w_reg (by kernel_rfl) ?_
 refine s_rwl wf [hd_First, hd_To, hd_Weight] (one_cons (h_First.one1) (one_cons (h_To.one1) (one_cons (h_Weight.one1) (one_nil)))) (by kernel_rfl) fun b13 H14 e15 hb16 r17 => ?_
 refine s_rwk e15.wf [.int .i64 0, .slice none 0 0] (by kernel_rfl) fun b19 H20 e21 hb22 r23 => ?_
 refine s_rwk e21.wf [.int .i64 0, .slice none 0 0] (by kernel_rfl) fun b25 H26 e27 hb28 r29 => ?_
 refine s_nil ?_
 refine k12 _ _ ?_
 refine w_seqk fun K31 k31 => ?_
 refine w_seqk fun K32 k32 => ?_
 refine w_reg (by kernel_rfl) ?_
 have u33 := ((r17.ext e21).ext e27)
 refine s_ql (.agg #[hd_First, hd_To, hd_Weight]) (x := aLoad Try.prog 24 (.pointer (some ⟨b13, 0, none⟩)) H26) (by kernel_rfl) (u33.ld (by kernel_rfl)) ?_
 have u34 := (((h_First.ext e15).ext e21).ext e27)
 have u35 := (((h_To.ext e15).ext e21).ext e27)
 have u36 := (((h_Weight.ext e15).ext e21).ext e27)
 obtain ⟨y37, hy38, r39⟩ := bind_some hr
 refine s_ck 55 #[.agg #[hd_First, hd_To, hd_Weight]] (by kernel_rfl) (c_viaductref05_DocCheck e27.wf u34 u35 u36 hy38) ?_
 rintro _ H42 ⟨s40, f41, rfl, e43, m44, i45⟩
 obtain ⟨a47, n48, c49, rfl⟩ := m44.form
 refine s_rwk e43.wf [.int .i64 0, .slice none 0 0] (by kernel_rfl) fun b50 H51 e52 hb53 r54 => ?_
 have u60 := (m44.ext e52)
 obtain ⟨H56, q57, e58, r59⟩ := Row.store (P := Try.prog) (t := 46) (p := 0) e52.wf r54 (.agg #[.int .i64 y37.1, .slice a47 n48 c49]) [.int .i64 y37.1, .slice a47 n48 c49] (by kernel_rfl) (by kernel_rfl) (one_cons (rfl) (one_cons (u60.one1) (one_nil))) (Nat.le_of_ble_eq_true (by kernel_rfl)) [.int .i64 y37.1, .slice a47 n48 c49] (by kernel_rfl)
 refine s_ek (undef) (by kernel_rfl) (map_ok q57) ?_
 refine s_nil ?_
 refine k32 _ _ ?_
 refine w_seqk fun K61 k61 => ?_
 refine w_reg (by kernel_rfl) ?_
 refine s_ql (.agg #[.int .i64 y37.1, .slice a47 n48 c49]) (x := aLoad Try.prog 46 (.pointer (some ⟨b50, 0, none⟩)) H56) (by kernel_rfl) (r59.ld (by kernel_rfl)) ?_
 have u62 := (u60.fr e58 (hb53.djn m44.lt))
 obtain ⟨y63, hy64, r65⟩ := bind_some r39
 refine s_ck 56 #[.agg #[.int .i64 y37.1, .slice a47 n48 c49]] (by kernel_rfl) (c_viaductref01_Err_Bad e58.wf u62.sq hy64) ?_
 rintro _ H66 ⟨rfl, e67⟩
 refine s_nil ?_
 refine k61 _ _ ?_
 refine w_cond (y63) (by kernel_rfl) rfl (fun h68 => ?_) (fun h68 => ?_)
 ·have r69 := ite_t h68 r65
  refine w_seqk fun K70 k70 => ?_
  refine w_draw [0, 1, 2, 3] (by kernel_rfl) ?_
  refine d_qk (.agg #[.int .i64 0, .slice none 0 0]) (by kernel_rfl) ?_
  have u71 := (r59.frS e67 Dj.nil_l)
  refine d_fl (.agg #[.int .i64 y37.1, .slice a47 n48 c49]) (x := aLoad Try.prog 46 (.pointer (some ⟨b50, 0, none⟩)) H66) (by kernel_rfl) (u71.ld (by kernel_rfl)) ?_
  have u76 := (((((r23.ext e27).frS e43 Dj.nil_l).ext e52).frS e58 (hb53.djn (r23.ltF.le (ntr e27.next e43.next)))).frS e67 Dj.nil_l)
  obtain ⟨H72, q73, e74, r75⟩ := Row.store (P := Try.prog) (t := 59) (p := 0) e67.wf u76 (.agg #[.int .i64 0, .slice none 0 0]) [.int .i64 0, .slice none 0 0] (by kernel_rfl) (by kernel_rfl) (one_cons (rfl) (one_cons (rfl) (one_nil))) (Nat.le_of_ble_eq_true (by kernel_rfl)) [.int .i64 0, .slice none 0 0] (by kernel_rfl)
  have u77 := (u71.frS e74 (Dj.symm (hb53.djn (r23.ltF.le (ntr e27.next e43.next)))))
  refine d_ek (undef) (by kernel_rfl) (map_ok q73) (st_ql (y := aLoad Try.prog 46 (.pointer (some ⟨b50, 0, none⟩)) H72) (by kernel_rfl) (u77.ld (by kernel_rfl)) (st_nil)) ?_
  have u82 := (((((r29.frS e43 Dj.nil_l).ext e52).frS e58 (hb53.djn (r29.ltF.le e43.next))).frS e67 Dj.nil_l).frS e74 (Dj.symm (hb28.djn r23.ltF)))
  have u83 := ((u62.fr e67 Dj.nil_l).fr e74 (Dj.symm (i45.djn (r23.ltF.le e27.next))))
  obtain ⟨H78, q79, e80, r81⟩ := Row.store (P := Try.prog) (t := 46) (p := 0) e74.wf u82 (.agg #[.int .i64 y37.1, .slice a47 n48 c49]) [.int .i64 y37.1, .slice a47 n48 c49] (by kernel_rfl) (by kernel_rfl) (one_cons (rfl) (one_cons (u83.one1) (one_nil))) (Nat.le_of_ble_eq_true (by kernel_rfl)) [.int .i64 y37.1, .slice a47 n48 c49] (by kernel_rfl)
  refine d_ek (undef) (by kernel_rfl) (map_ok q79) (st_anc (by kernel_rfl) (st_nil)) ?_
  refine d_nil ?_
  refine k70 _ _ ?_
  refine w_ret (th_ret ?_)
  have u84 := (r75.frS e80 (hb28.djn r23.ltF))
  refine b_ret (fn := Try.f52) (vs := [.agg #[.int .i64 0, .slice none 0 0], .agg #[.int .i64 y37.1, .slice a47 n48 c49]]) (aRes_cell (Eq.trans (b := aLoad Try.prog 59 (.pointer (some ⟨b19, 0, none⟩)) H78) (by kernel_rfl) (u84.ld (by kernel_rfl))) (aRes_cell (Eq.trans (b := aLoad Try.prog 46 (.pointer (some ⟨b25, 0, none⟩)) H78) (by kernel_rfl) (r81.ld (by kernel_rfl))) (rfl))) ?_
  have u85 := (u83.fr e80 (Dj.symm (i45.djn r29.ltF)))
  obtain rfl := Option.some.inj r69
  exact ⟨(.slice none 0 0), [], (.slice a47 n48 c49), f41, rfl, (FrS.step wf (FrS.step wf (FrS.step wf (FrS.step wf ((FrS.step wf ((((FrS.refl (W := []) wf).extR e15).extR e21).extR e27) e43 Inn.nil).extR e52) e58 (hb53.fresh (ntr (ntr (ntr e15.next e21.next) e27.next) e43.next))) e67 Inn.nil) e74 (hb22.fresh e15.next)) e80 (hb28.fresh (ntr e15.next e21.next))), (Ow.nil (by decide)), u85, Inn.nil, (i45.fresh (ntr (ntr e15.next e21.next) e27.next)), Dj.nil_l⟩
 ·have r86 := ite_bf h68 r65
  refine w_skip ?_
  refine k31 _ _ ?_
  refine w_seqk fun K87 k87 => ?_
  refine w_reg (by kernel_rfl) ?_
  have u88 := ((((u33.frS e43 Dj.nil_l).ext e52).frS e58 (hb53.djn (r17.ltF.le (ntr (ntr e21.next e27.next) e43.next)))).frS e67 Dj.nil_l)
  refine s_ql (.agg #[hd_First, hd_To, hd_Weight]) (x := aLoad Try.prog 24 (.pointer (some ⟨b13, 0, none⟩)) H66) (by kernel_rfl) (u88.ld (by kernel_rfl)) ?_
  have u89 := ((((u34.fr e43 Dj.nil_l).ext e52).fr e58 (hb53.djn (h_First.lt.le (ntr (ntr (ntr e15.next e21.next) e27.next) e43.next)))).fr e67 Dj.nil_l)
  have u90 := ((((u35.fr e43 Dj.nil_l).ext e52).fr e58 (hb53.djn (h_To.lt.le (ntr (ntr (ntr e15.next e21.next) e27.next) e43.next)))).fr e67 Dj.nil_l)
  have u91 := ((((u36.fr e43 Dj.nil_l).ext e52).fr e58 (hb53.djn (h_Weight.lt.le (ntr (ntr (ntr e15.next e21.next) e27.next) e43.next)))).fr e67 Dj.nil_l)
  obtain ⟨y92, hy93, r94⟩ := bind_some r86
  refine s_ck 110 #[.agg #[hd_First, hd_To, hd_Weight]] (by kernel_rfl) (c_viaductref05_Graph e67.wf u89 u90 u91 hy93) ?_
  rintro _ H97 ⟨s95, f96, rfl, e98, m99, i100⟩
  obtain ⟨a102, n103, c104, rfl⟩ := m99.form
  refine s_qk (.agg #[.int .i64 0, .slice none 0 0]) (by kernel_rfl) ?_
  have u109 := ((((((r23.ext e27).frS e43 Dj.nil_l).ext e52).frS e58 (hb53.djn (r23.ltF.le (ntr e27.next e43.next)))).frS e67 Dj.nil_l).frS e98 Dj.nil_l)
  obtain ⟨H105, q106, e107, r108⟩ := Row.store (P := Try.prog) (t := 59) (p := 0) e98.wf u109 (.agg #[.int .i64 y92.1, .slice a102 n103 c104]) [.int .i64 y92.1, .slice a102 n103 c104] (by kernel_rfl) (by kernel_rfl) (one_cons (rfl) (one_cons (m99.one1) (one_nil))) (Nat.le_of_ble_eq_true (by kernel_rfl)) [.int .i64 y92.1, .slice a102 n103 c104] (by kernel_rfl)
  refine s_ek (undef) (by kernel_rfl) (map_ok q106) ?_
  have u114 := ((((((r29.frS e43 Dj.nil_l).ext e52).frS e58 (hb53.djn (r29.ltF.le e43.next))).frS e67 Dj.nil_l).frS e98 Dj.nil_l).frS e107 (Dj.symm (hb28.djn r23.ltF)))
  obtain ⟨H110, q111, e112, r113⟩ := Row.store (P := Try.prog) (t := 46) (p := 0) e107.wf u114 (.agg #[.int .i64 0, .slice none 0 0]) [.int .i64 0, .slice none 0 0] (by kernel_rfl) (by kernel_rfl) (one_cons (rfl) (one_cons (rfl) (one_nil))) (Nat.le_of_ble_eq_true (by kernel_rfl)) [.int .i64 0, .slice none 0 0] (by kernel_rfl)
  refine s_ek (undef) (by kernel_rfl) (map_ok q111) ?_
  refine s_nil ?_
  refine k87 _ _ ?_
  refine w_ret ?_
  have u115 := (r108.frS e112 (hb28.djn r23.ltF))
  refine b_ret (fn := Try.f52) (vs := [.agg #[.int .i64 y92.1, .slice a102 n103 c104], .agg #[.int .i64 0, .slice none 0 0]]) (aRes_cell (Eq.trans (b := aLoad Try.prog 59 (.pointer (some ⟨b19, 0, none⟩)) H110) (by kernel_rfl) (u115.ld (by kernel_rfl))) (aRes_cell (Eq.trans (b := aLoad Try.prog 46 (.pointer (some ⟨b25, 0, none⟩)) H110) (by kernel_rfl) (r113.ld (by kernel_rfl))) (rfl))) ?_
  have u116 := ((m99.fr e107 (Dj.symm (i100.djn (r23.ltF.le (ntr (ntr (ntr (ntr e27.next e43.next) e52.next) e58.next) e67.next))))).fr e112 (Dj.symm (i100.djn (r29.ltF.le (ntr (ntr (ntr e43.next e52.next) e58.next) e67.next)))))
  obtain rfl := Option.some.inj r94
  exact ⟨(.slice a102 n103 c104), f96, (.slice none 0 0), [], rfl, (FrS.step wf (FrS.step wf (FrS.step wf (FrS.step wf (FrS.step wf ((FrS.step wf ((((FrS.refl (W := []) wf).extR e15).extR e21).extR e27) e43 Inn.nil).extR e52) e58 (hb53.fresh (ntr (ntr (ntr e15.next e21.next) e27.next) e43.next))) e67 Inn.nil) e98 Inn.nil) e107 (hb22.fresh e15.next)) e112 (hb28.fresh (ntr e15.next e21.next))), u116, (Ow.nil (by decide)), (i100.fresh (ntr (ntr (ntr (ntr (ntr (ntr e15.next e21.next) e27.next) e43.next) e52.next) e58.next) e67.next)), Inn.nil, Dj.nil_r⟩

theorem c_viaductlaw05_of {H : AH} {hd_First : Value} {fp_First : Fp} {hd_To : Value} {fp_To : Fp} {hd_Weight : Value} {fp_Weight : Fp} {First : List (Int)} {To : List (Int)} {Weight : List (Int)} {r : Unit}
  (wf : WF H) (h_First : Sq (encI .i64) 1 H hd_First First fp_First) (h_To : Sq (encI .i64) 1 H hd_To To fp_To) (h_Weight : Sq (encI .i64) 1 H hd_Weight Weight fp_Weight) (hr : z_viaductlaw05_of First To Weight = some r) :
  ACalls Try.prog 53 #[.agg #[hd_First, hd_To, hd_Weight]] H fun v H' => v = .agg #[hd_First, hd_To, hd_Weight] ∧ FrS [] H H' := by
 refine acalls_of_body mixed Try.func53 rfl (Nat.le_of_ble_eq_true rfl) ?_
 unfold z_viaductlaw05_of at hr
 refine w_seqk fun K1 k1 => ?_
 refine w_reg (by kernel_rfl) ?_
 refine s_rwl wf [hd_First, hd_To, hd_Weight] (one_cons (h_First.one1) (one_cons (h_To.one1) (one_cons (h_Weight.one1) (one_nil)))) (by kernel_rfl) fun b2 H3 e4 hb5 r6 => ?_
 refine s_rwk e4.wf [.slice none 0 0, .slice none 0 0, .slice none 0 0] (by kernel_rfl) fun b8 H9 e10 hb11 r12 => ?_
 refine s_nil ?_
 refine k1 _ _ ?_
 refine w_seqk fun K14 k14 => ?_
 refine w_reg (by kernel_rfl) ?_
 refine s_qk (.pointer (some ⟨b2, 0, none⟩)) (by kernel_rfl) ?_
 have u15 := (r6.ext e10)
 refine s_ql (hd_First) (x := aLoad Try.prog 22 (.pointer (some ⟨b2, 0, none⟩)) H9) (by kernel_rfl) (u15.ld (by kernel_rfl)) ?_
 refine s_qk (.pointer (some ⟨b2, 1, none⟩)) (by kernel_rfl) ?_
 refine s_ql (hd_To) (x := aLoad Try.prog 22 (.pointer (some ⟨b2, 1, none⟩)) H9) (by kernel_rfl) (u15.ld (by kernel_rfl)) ?_
 refine s_qk (.pointer (some ⟨b2, 2, none⟩)) (by kernel_rfl) ?_
 refine s_ql (hd_Weight) (x := aLoad Try.prog 22 (.pointer (some ⟨b2, 2, none⟩)) H9) (by kernel_rfl) (u15.ld (by kernel_rfl)) ?_
 have u16 := ((h_First.ext e4).ext e10)
 obtain ⟨a17, n18, c19, rfl⟩ := u16.form
 have u20 := ((h_To.ext e4).ext e10)
 obtain ⟨a21, n22, c23, rfl⟩ := u20.form
 have u24 := ((h_Weight.ext e4).ext e10)
 obtain ⟨a25, n26, c27, rfl⟩ := u24.form
 refine s_qk (.agg #[.slice a17 n18 c19, .slice a21 n22 c23, .slice a25 n26 c27]) (by kernel_rfl) ?_
 obtain ⟨H28, q29, e30, r31⟩ := Row.store (P := Try.prog) (t := 24) (p := 0) e10.wf r12 (.agg #[.slice a17 n18 c19, .slice a21 n22 c23, .slice a25 n26 c27]) [.slice a17 n18 c19, .slice a21 n22 c23, .slice a25 n26 c27] (by kernel_rfl) (by kernel_rfl) (one_cons (u16.one1) (one_cons (u20.one1) (one_cons (u24.one1) (one_nil)))) (Nat.le_of_ble_eq_true (by kernel_rfl)) [.slice a17 n18 c19, .slice a21 n22 c23, .slice a25 n26 c27] (by kernel_rfl)
 refine s_ek (undef) (by kernel_rfl) (map_ok q29) ?_
 refine s_nil ?_
 refine k14 _ _ ?_
 refine w_ret ?_
 refine b_ret (fn := Try.f53) (vs := [.agg #[.slice a17 n18 c19, .slice a21 n22 c23, .slice a25 n26 c27]]) (aRes_cell (Eq.trans (b := aLoad Try.prog 24 (.pointer (some ⟨b8, 0, none⟩)) H28) (by kernel_rfl) (r31.ld (by kernel_rfl))) (rfl)) ?_
 obtain rfl := Option.some.inj hr
 exact ⟨rfl, (FrS.step wf (((FrS.refl (W := []) wf).extR e4).extR e10) e30 (hb11.fresh e4.next))⟩

theorem c_viaductref02_SameInts {H : AH} {hd_a : Value} {fp_a : Fp} {hd_b : Value} {fp_b : Fp} {a : List (Int)} {b : List (Int)} {r : Bool}
  (wf : WF H) (h_a : Sq (encI .i64) 1 H hd_a a fp_a) (h_b : Sq (encI .i64) 1 H hd_b b fp_b) (hr : z_viaductref02_SameInts a b = some r) :
  ACalls Try.prog 45 #[hd_a, hd_b] H fun v H' => v = .bool r ∧ H = H' := by
 refine acalls_of_body mixed Try.func45 rfl (Nat.le_of_ble_eq_true rfl) ?_
 unfold z_viaductref02_SameInts at hr
 refine w_seqk fun K1 k1 => ?_
 refine w_reg (by kernel_rfl) ?_
 refine s_qk (.bool false) (by kernel_rfl) ?_
 refine s_nil ?_
 refine k1 _ _ ?_
 refine w_seqk fun K2 k2 => ?_
 refine w_seqk fun K3 k3 => ?_
 refine w_reg (by kernel_rfl) ?_
 refine s_qk (hd_a) (by kernel_rfl) ?_
 refine s_ql (.int .i64 (a.length : Int)) (x := aLen Try.prog 22 hd_a H) (by kernel_rfl) (h_a.lenb (by kernel_rfl)) ?_
 refine s_qk (hd_b) (by kernel_rfl) ?_
 refine s_ql (.int .i64 (b.length : Int)) (x := aLen Try.prog 22 hd_b H) (by kernel_rfl) (h_b.lenb (by kernel_rfl)) ?_
 refine s_qk (.bool (!decide ((a.length : Int) = (b.length : Int)))) (by kernel_rfl) ?_
 refine s_nil ?_
 refine k3 _ _ ?_
 refine w_condn ((a.length : Int) = (b.length : Int)) (by kernel_rfl) rfl (fun h4 => ?_) (fun h4 => ?_)
 ·have r5 := ite_f h4 hr
  refine w_seqk fun K6 k6 => ?_
  refine w_reg (by kernel_rfl) ?_
  refine s_qk (.bool false) (by kernel_rfl) ?_
  refine s_nil ?_
  refine k6 _ _ ?_
  refine w_ret (th_ret ?_)
  refine b_ret (fn := Try.f45) (vs := [.bool false]) (aRes_tmp (by kernel_rfl) (rfl)) ?_
  obtain rfl := Option.some.inj r5
  exact ⟨rfl, rfl⟩
 ·have r7 := ite_t h4 hr
  refine w_skip ?_
  refine k2 _ _ ?_
  refine w_seqk fun K8 k8 => ?_
  refine w_seqk fun K9 k9 => ?_
  refine w_reg (by kernel_rfl) ?_
  refine s_qk (hd_a) (by kernel_rfl) ?_
  refine s_ql (.int .i64 (a.length : Int)) (x := aLen Try.prog 22 hd_a H) (by kernel_rfl) (h_a.lenb (by kernel_rfl)) ?_
  refine s_qk (.int .i64 0) (by kernel_rfl) ?_
  refine s_nil ?_
  refine k9 _ _ ?_
  obtain ⟨z13, hx11, r12⟩ := bind_some r7
  refine w_mid (fun α H14 => ∃ o10, z13 = Sum.inr o10 ∧ Has α [] ∧ H = H14) (fun K16 k16 => ?_) (fun α H14 hM => ?_)
  ·refine w_block ?_
   obtain ⟨n18, hn19⟩ := loopO_iff.1 hx11
   refine w_loopn (fun n α H20 => ∃ (i0 : Int), iterO (fun zz_ => z_viaductref02_SameInts_l0 a b zz_) n i0 = some z13 ∧ Has α [(0, hd_a), (1, hd_b), (12, .int .i64 (a.length : Int)), (13, .int .i64 i0)] ∧ H = H20) n18 ⟨0, hn19, ⟨by kernel_rfl, by kernel_rfl, by kernel_rfl, by kernel_rfl, trivial⟩, rfl⟩ ?_
   rintro n18 α H20 ⟨i0, hi23, hh22, rfl⟩ K28 k28
   obtain ⟨n24, z25, rfl, hz26, hn27⟩ := iter_succ hi23
   obtain ⟨β, rfl⟩ := has_ex hh22
   clear hh22
   replace hz26 : z_viaductref02_SameInts_l0 a b i0 = some z25 := hz26
   unfold z_viaductref02_SameInts_l0 at hz26
   refine w_seqk fun K29 k29 => ?_
   refine w_reg (by kernel_rfl) ?_
   refine s_qk (.bool (decide (i0 < (a.length : Int)))) (by kernel_rfl) ?_
   refine s_nil ?_
   refine k29 _ _ ?_
   refine w_seqk fun K30 k30 => ?_
   refine w_condp (i0 < (a.length : Int)) (by kernel_rfl) rfl (fun h31 => ?_) (fun h31 => ?_)
   ·have r32 := ite_t h31 hz26
    refine w_skip ?_
    refine k30 _ _ ?_
    refine w_seqk fun K33 k33 => ?_
    refine w_block ?_
    refine w_seqk fun K34 k34 => ?_
    refine w_reg (by kernel_rfl) ?_
    refine s_qk (.int .i64 i0) (by kernel_rfl) ?_
    refine s_qk (.int .i64 i0) (by kernel_rfl) ?_
    refine s_nil ?_
    refine k34 _ _ ?_
    refine w_seqk fun K35 k35 => ?_
    refine w_draw [0, 1, 2, 3, 4, 5, 6, 7, 8] (by kernel_rfl) ?_
    refine d_qk (hd_a) (by kernel_rfl) ?_
    refine d_qk (.int .i64 i0) (by kernel_rfl) ?_
    obtain ⟨g36, r37⟩ := G_some r32
    refine d_ql (elp hd_a 1 i0.toNat 0) (x := aIndexAddr Try.prog 22 hd_a (.int .i64 i0)) (by kernel_rfl) (h_a.idxb (by kernel_rfl) g36 h31) ?_
    refine d_ql (.int .i64 (gt a i0)) (x := aLoad Try.prog 3 (elp hd_a 1 i0.toNat 0) H) (by kernel_rfl) (h_a.ld g36 h31 (by kernel_rfl)) ?_
    refine d_qk (hd_b) (by kernel_rfl) ?_
    refine d_qk (.int .i64 i0) (by kernel_rfl) ?_
    obtain ⟨g38, r39⟩ := G_some r37
    refine d_ql (elp hd_b 1 i0.toNat 0) (x := aIndexAddr Try.prog 22 hd_b (.int .i64 i0)) (by kernel_rfl) (h_b.idxb (by kernel_rfl) g36 g38) ?_
    refine d_ql (.int .i64 (gt b i0)) (x := aLoad Try.prog 3 (elp hd_b 1 i0.toNat 0) H) (by kernel_rfl) (h_b.ld g36 g38 (by kernel_rfl)) ?_
    refine d_qk (.bool (!decide ((gt a i0) = (gt b i0)))) (by kernel_rfl) ?_
    refine d_nil ?_
    refine k35 _ _ ?_
    refine w_condn ((gt a i0) = (gt b i0)) (by kernel_rfl) rfl (fun h40 => ?_) (fun h40 => ?_)
    ·have r41 := ite_f h40 r39
     refine w_seqk fun K42 k42 => ?_
     refine w_reg (by kernel_rfl) ?_
     refine s_qk (.bool false) (by kernel_rfl) ?_
     refine s_nil ?_
     refine k42 _ _ ?_
     refine w_ret (bl_ret (th_ret (th_ret (bl_ret (th_ret (th_ret ?_))))))
     obtain ⟨v43, hv44, hz45⟩ := map_some r41
     subst hz45
     obtain rfl := it_inr hn27
     have hq46 := elim_inl r12
     rw [hq46] at hv44
     refine b_ret (fn := Try.f45) (vs := [.bool false]) (aRes_tmp (by kernel_rfl) (rfl)) ?_
     obtain rfl := Option.some.inj hv44
     exact ⟨rfl, rfl⟩
    ·have r47 := ite_t h40 r39
     refine w_skip ?_
     refine k33 _ _ ?_
     refine w_reg (by kernel_rfl) ?_
     obtain ⟨g48, r49⟩ := G_some r47
     refine s_w ((i0 + 1)) (k := .i64) (x := (i0 + 1)) (by kernel_rfl) (wrap64 (by have := g48; omega)) ?_
     refine s_qk (.int .i64 (i0 + 1)) (by kernel_rfl) ?_
     refine s_nil ?_
     obtain rfl := Option.some.inj r49
     exact k28 n24 _ _ (Nat.lt_succ_self _) ⟨(i0 + 1), hn27, ⟨by kernel_rfl, by kernel_rfl, by kernel_rfl, by kernel_rfl, trivial⟩, rfl⟩
   ·have r50 := ite_f h31 hz26
    refine w_exit (th_exit (th_exit (bl_eq ?_)))
    obtain rfl := Option.some.inj r50
    obtain rfl := it_inr hn27
    exact k16 _ _ ⟨_, rfl, trivial, rfl⟩
  ·obtain ⟨o10, rfl, hh17, rfl⟩ := hM
   have r51 := elim_inr r12
   obtain ⟨β, rfl⟩ := has_ex hh17
   clear hh17
   refine k8 _ _ ?_
   refine w_seqk fun K52 k52 => ?_
   refine w_reg (by kernel_rfl) ?_
   refine s_qk (.bool true) (by kernel_rfl) ?_
   refine s_nil ?_
   refine k52 _ _ ?_
   refine w_ret ?_
   refine b_ret (fn := Try.f45) (vs := [.bool true]) (aRes_tmp (by kernel_rfl) (rfl)) ?_
   obtain rfl := Option.some.inj r51
   exact ⟨rfl, rfl⟩

theorem c_viaductref05_Same {H : AH} {hd_First : Value} {fp_First : Fp} {hd_To : Value} {fp_To : Fp} {hd_Weight : Value} {fp_Weight : Fp} {hd_First_ : Value} {fp_First_ : Fp} {hd_To_ : Value} {fp_To_ : Fp} {hd_Weight_ : Value} {fp_Weight_ : Fp} {First : List (Int)} {To : List (Int)} {Weight : List (Int)} {First_ : List (Int)} {To_ : List (Int)} {Weight_ : List (Int)} {r : Bool}
  (wf : WF H) (h_First : Sq (encI .i64) 1 H hd_First First fp_First) (h_To : Sq (encI .i64) 1 H hd_To To fp_To) (h_Weight : Sq (encI .i64) 1 H hd_Weight Weight fp_Weight) (h_First_ : Sq (encI .i64) 1 H hd_First_ First_ fp_First_) (h_To_ : Sq (encI .i64) 1 H hd_To_ To_ fp_To_) (h_Weight_ : Sq (encI .i64) 1 H hd_Weight_ Weight_ fp_Weight_) (hr : z_viaductref05_Same First To Weight First_ To_ Weight_ = some r) :
  ACalls Try.prog 14 #[.agg #[hd_First, hd_To, hd_Weight], .agg #[hd_First_, hd_To_, hd_Weight_]] H fun v H' => v = .bool r ∧ FrS [] H H' := by
 refine acalls_of_body mixed Try.func14 rfl (Nat.le_of_ble_eq_true rfl) ?_
 unfold z_viaductref05_Same at hr
 refine w_seqk fun K1 k1 => ?_
 refine w_reg (by kernel_rfl) ?_
 refine s_rwl wf [hd_First, hd_To, hd_Weight] (one_cons (h_First.one1) (one_cons (h_To.one1) (one_cons (h_Weight.one1) (one_nil)))) (by kernel_rfl) fun b2 H3 e4 hb5 r6 => ?_
 have u13 := (h_Weight_.ext e4)
 have u14 := (h_To_.ext e4)
 have u15 := (h_First_.ext e4)
 refine s_rwl e4.wf [hd_First_, hd_To_, hd_Weight_] (one_cons (u15.one1) (one_cons (u14.one1) (one_cons (u13.one1) (one_nil)))) (by kernel_rfl) fun b8 H9 e10 hb11 r12 => ?_
 refine s_qk (.bool false) (by kernel_rfl) ?_
 refine s_nil ?_
 refine k1 _ _ ?_
 refine w_seqk fun K17 k17 => ?_
 refine w_reg (by kernel_rfl) ?_
 refine s_qk (.pointer (some ⟨b2, 0, none⟩)) (by kernel_rfl) ?_
 have u18 := (r6.ext e10)
 refine s_ql (hd_First) (x := aLoad Try.prog 22 (.pointer (some ⟨b2, 0, none⟩)) H9) (by kernel_rfl) (u18.ld (by kernel_rfl)) ?_
 refine s_qk (.pointer (some ⟨b8, 0, none⟩)) (by kernel_rfl) ?_
 refine s_ql (hd_First_) (x := aLoad Try.prog 22 (.pointer (some ⟨b8, 0, none⟩)) H9) (by kernel_rfl) (r12.ld (by kernel_rfl)) ?_
 have u19 := ((h_First.ext e4).ext e10)
 have u20 := (u15.ext e10)
 obtain ⟨y21, hy22, r23⟩ := bind_some hr
 refine s_ck 45 #[hd_First, hd_First_] (by kernel_rfl) (c_viaductref02_SameInts e10.wf u19 u20 hy22) ?_
 rintro _ _ ⟨rfl, rfl⟩
 by_cases h26 : y21 = true
 ·have r27 := ite_t h26 r23
  rw [h26]
  refine s_qk (.bool true) (by kernel_rfl) ?_
  refine s_qk (.pointer (some ⟨b2, 1, none⟩)) (by kernel_rfl) ?_
  refine s_ql (hd_To) (x := aLoad Try.prog 22 (.pointer (some ⟨b2, 1, none⟩)) H9) (by kernel_rfl) (u18.ld (by kernel_rfl)) ?_
  refine s_qk (.pointer (some ⟨b8, 1, none⟩)) (by kernel_rfl) ?_
  refine s_ql (hd_To_) (x := aLoad Try.prog 22 (.pointer (some ⟨b8, 1, none⟩)) H9) (by kernel_rfl) (r12.ld (by kernel_rfl)) ?_
  have u29 := ((h_To.ext e4).ext e10)
  have u30 := (u14.ext e10)
  obtain ⟨y31, hy32, r33⟩ := bind_some r27
  refine s_ck 45 #[hd_To, hd_To_] (by kernel_rfl) (c_viaductref02_SameInts e10.wf u29 u30 hy32) ?_
  rintro _ _ ⟨rfl, rfl⟩
  by_cases h36 : y31 = true
  ·have r37 := ite_t h36 r33
   rw [h36]
   refine s_qk (.bool true) (by kernel_rfl) ?_
   refine s_qk (.bool true) (by kernel_rfl) ?_
   refine s_qk (.pointer (some ⟨b2, 2, none⟩)) (by kernel_rfl) ?_
   refine s_ql (hd_Weight) (x := aLoad Try.prog 22 (.pointer (some ⟨b2, 2, none⟩)) H9) (by kernel_rfl) (u18.ld (by kernel_rfl)) ?_
   refine s_qk (.pointer (some ⟨b8, 2, none⟩)) (by kernel_rfl) ?_
   refine s_ql (hd_Weight_) (x := aLoad Try.prog 22 (.pointer (some ⟨b8, 2, none⟩)) H9) (by kernel_rfl) (r12.ld (by kernel_rfl)) ?_
   have u39 := ((h_Weight.ext e4).ext e10)
   have u40 := (u13.ext e10)
   obtain ⟨y41, hy42, r43⟩ := bind_some r37
   refine s_ck 45 #[hd_Weight, hd_Weight_] (by kernel_rfl) (c_viaductref02_SameInts e10.wf u39 u40 hy42) ?_
   rintro _ _ ⟨rfl, rfl⟩
   refine s_qk (.bool y41) (by kernel_rfl) ?_
   refine s_qk (.bool y41) (by kernel_rfl) ?_
   refine s_nil ?_
   refine k17 _ _ ?_
   refine w_ret ?_
   refine b_ret (fn := Try.f14) (vs := [.bool y41]) (aRes_tmp (by kernel_rfl) (rfl)) ?_
   obtain rfl := Option.some.inj r43
   exact ⟨rfl, (((FrS.refl (W := []) wf).extR e4).extR e10)⟩
  ·have r46 := ite_f h36 r33
   rw [nb h36]
   refine s_qk (.bool false) (by kernel_rfl) ?_
   refine s_qk (.bool false) (by kernel_rfl) ?_
   refine s_no (by kernel_rfl) ?_
   refine s_no (by kernel_rfl) ?_
   refine s_no (by kernel_rfl) ?_
   refine s_no (by kernel_rfl) ?_
   refine s_no (by kernel_rfl) ?_
   refine s_qk (.bool false) (by kernel_rfl) ?_
   refine s_qk (.bool false) (by kernel_rfl) ?_
   refine s_nil ?_
   refine k17 _ _ ?_
   refine w_ret ?_
   refine b_ret (fn := Try.f14) (vs := [.bool false]) (aRes_tmp (by kernel_rfl) (rfl)) ?_
   obtain rfl := Option.some.inj r46
   exact ⟨rfl, (((FrS.refl (W := []) wf).extR e4).extR e10)⟩
 ·have r48 := ite_f h26 r23
  rw [nb h26]
  refine s_qk (.bool false) (by kernel_rfl) ?_
  refine s_no (by kernel_rfl) ?_
  refine s_no (by kernel_rfl) ?_
  refine s_no (by kernel_rfl) ?_
  refine s_no (by kernel_rfl) ?_
  refine s_no (by kernel_rfl) ?_
  refine s_qk (.bool false) (by kernel_rfl) ?_
  refine s_qk (.bool false) (by kernel_rfl) ?_
  refine s_no (by kernel_rfl) ?_
  refine s_no (by kernel_rfl) ?_
  refine s_no (by kernel_rfl) ?_
  refine s_no (by kernel_rfl) ?_
  refine s_no (by kernel_rfl) ?_
  refine s_qk (.bool false) (by kernel_rfl) ?_
  refine s_qk (.bool false) (by kernel_rfl) ?_
  refine s_nil ?_
  refine k17 _ _ ?_
  refine w_ret ?_
  refine b_ret (fn := Try.f14) (vs := [.bool false]) (aRes_tmp (by kernel_rfl) (rfl)) ?_
  obtain rfl := Option.some.inj r48
  exact ⟨rfl, (((FrS.refl (W := []) wf).extR e4).extR e10)⟩

theorem c_viaductref03_Same {H : AH} {hd_Arcs : Value} {fp_Arcs : Fp} {hd_Arcs_ : Value} {fp_Arcs_ : Fp} {N_ : Int} {Arcs : List (Int × Int × Int)} {N_2 : Int} {Arcs_ : List (Int × Int × Int)} {r : Bool}
  (wf : WF H) (h_Arcs : Sq enc_i64_i64_i64 3 H hd_Arcs Arcs fp_Arcs) (h_Arcs_ : Sq enc_i64_i64_i64 3 H hd_Arcs_ Arcs_ fp_Arcs_) (hr : z_viaductref03_Same N_ Arcs N_2 Arcs_ = some r) :
  ACalls Try.prog 33 #[.agg #[.int .i64 N_, hd_Arcs], .agg #[.int .i64 N_2, hd_Arcs_]] H fun v H' => v = .bool r ∧ FrS [] H H' := by
 refine acalls_of_body mixed Try.func33 rfl (Nat.le_of_ble_eq_true rfl) ?_
 unfold z_viaductref03_Same at hr
 refine w_seqk fun K1 k1 => ?_
 refine w_reg (by kernel_rfl) ?_
 refine s_rwl wf [.int .i64 N_, hd_Arcs] (one_cons (rfl) (one_cons (h_Arcs.one1) (one_nil))) (by kernel_rfl) fun b2 H3 e4 hb5 r6 => ?_
 have u13 := (h_Arcs_.ext e4)
 refine s_rwl e4.wf [.int .i64 N_2, hd_Arcs_] (one_cons (rfl) (one_cons (u13.one1) (one_nil))) (by kernel_rfl) fun b8 H9 e10 hb11 r12 => ?_
 refine s_qk (.bool false) (by kernel_rfl) ?_
 refine s_nil ?_
 refine k1 _ _ ?_
 refine w_seqk fun K15 k15 => ?_
 refine w_reg (by kernel_rfl) ?_
 refine s_qk (.pointer (some ⟨b2, 0, none⟩)) (by kernel_rfl) ?_
 have u16 := (r6.ext e10)
 refine s_ql (.int .i64 N_) (x := aLoad Try.prog 3 (.pointer (some ⟨b2, 0, none⟩)) H9) (by kernel_rfl) (u16.ld (by kernel_rfl)) ?_
 refine s_qk (.pointer (some ⟨b8, 0, none⟩)) (by kernel_rfl) ?_
 refine s_ql (.int .i64 N_2) (x := aLoad Try.prog 3 (.pointer (some ⟨b8, 0, none⟩)) H9) (by kernel_rfl) (r12.ld (by kernel_rfl)) ?_
 refine s_b (N_ = N_2) (by kernel_rfl) (fun h17 => ?_) (fun h17 => ?_)
 ·have r18 := ite_t h17 hr
  refine s_qk (.bool true) (by kernel_rfl) ?_
  refine s_qk (.pointer (some ⟨b2, 1, none⟩)) (by kernel_rfl) ?_
  refine s_ql (hd_Arcs) (x := aLoad Try.prog 57 (.pointer (some ⟨b2, 1, none⟩)) H9) (by kernel_rfl) (u16.ld (by kernel_rfl)) ?_
  refine s_qk (.pointer (some ⟨b8, 1, none⟩)) (by kernel_rfl) ?_
  refine s_ql (hd_Arcs_) (x := aLoad Try.prog 57 (.pointer (some ⟨b8, 1, none⟩)) H9) (by kernel_rfl) (r12.ld (by kernel_rfl)) ?_
  have u19 := ((h_Arcs.ext e4).ext e10)
  have u20 := (u13.ext e10)
  obtain ⟨y21, hy22, r23⟩ := bind_some r18
  refine s_ck 80 #[hd_Arcs, hd_Arcs_] (by kernel_rfl) (c_viaductref03_SameArcs e10.wf u19 u20 hy22) ?_
  rintro _ _ ⟨rfl, rfl⟩
  refine s_qk (.bool y21) (by kernel_rfl) ?_
  refine s_qk (.bool y21) (by kernel_rfl) ?_
  refine s_nil ?_
  refine k15 _ _ ?_
  refine w_ret ?_
  refine b_ret (fn := Try.f33) (vs := [.bool y21]) (aRes_tmp (by kernel_rfl) (rfl)) ?_
  obtain rfl := Option.some.inj r23
  exact ⟨rfl, (((FrS.refl (W := []) wf).extR e4).extR e10)⟩
 ·have r26 := ite_f h17 hr
  refine s_qk (.bool false) (by kernel_rfl) ?_
  refine s_no (by kernel_rfl) ?_
  refine s_no (by kernel_rfl) ?_
  refine s_no (by kernel_rfl) ?_
  refine s_no (by kernel_rfl) ?_
  refine s_no (by kernel_rfl) ?_
  refine s_qk (.bool false) (by kernel_rfl) ?_
  refine s_qk (.bool false) (by kernel_rfl) ?_
  refine s_nil ?_
  refine k15 _ _ ?_
  refine w_ret ?_
  refine b_ret (fn := Try.f33) (vs := [.bool false]) (aRes_tmp (by kernel_rfl) (rfl)) ?_
  obtain rfl := Option.some.inj r26
  exact ⟨rfl, (((FrS.refl (W := []) wf).extR e4).extR e10)⟩


end Go.Vd
