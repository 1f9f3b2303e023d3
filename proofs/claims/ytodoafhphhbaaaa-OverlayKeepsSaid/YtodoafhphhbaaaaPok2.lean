/- The walks of the functions (printed by a program of ours). -/
import Derived.Test.YtodoafhphhbaaaaPok1
import Derived.Test.YtodoafhphhbaaaaPokVeC
import Derived.Test.YtodoafhphhbaaaaPokIOk
import Derived.Test.YtodoafhphhbaaaaPokVeN
import Derived.Test.YtodoafhphhbaaaaPokVeM
import Derived.Test.YtodoafhphhbaaaaPokVeG
import Derived.Test.YtodoafhphhbaaaaPokSoA
import Derived.Test.YtodoafhphhbaaaaPokVeV
set_option linter.unusedVariables false
set_option linter.unusedSimpArgs false
set_option linter.unusedSectionVars false
/-! (KOk4) -/

set_option maxRecDepth 100000
set_option maxHeartbeats 4000000
set_option linter.unusedVariables false
namespace Go.Vd
open Go.Proofs
attribute [local irreducible] wpSeq wpOrd aWp
theorem c_viaductlaw11_OverlayKeeps {H : AH} {hd_Arcs : Value} {fp_Arcs : Fp} {hd_script : Value} {fp_script : Fp} {N_ : Int} {Arcs : List (Int × Int × Int)} {script : List (Int × Int × Int × Int × Int)} {r : Bool}
    (wf : WF H) (h_Arcs : Sq enc_i64_i64_i64 3 H hd_Arcs Arcs fp_Arcs) (h_script : Sq enc_u8_i64_i64_u64_i64 5 H hd_script script fp_script) (hr : z_viaductlaw11_OverlayKeeps N_ Arcs script = some r) :
    ACalls Try.prog 4 #[.agg #[i_ N_, hd_Arcs], hd_script] H fun v H' => v = .bool r ∧ FrS [] H H' := by
 refine acalls_of_body mixed Try.func4 rfl (Nat.le_of_ble_eq_true rfl) ?_
 unfold z_viaductlaw11_OverlayKeeps at hr
 refine w_seqk fun _ k1 => ?_
 refine g_' ?_
 refine s_rwl wf [i_ N_, hd_Arcs] (one_cons (rfl) (one_cons (h_Arcs.one1) (one_nil))) (by kernel_rfl) fun b2 H3 e4 hb5 r6 => ?_
 refine q_ (.bool false) ?_
 refine s_nil (k1 _ _ ?_)
 refine w_seqk fun _ k8 => ?_
 refine w_seqk fun _ k9 => ?_
 refine g_' ?_
 obtain ⟨y10, hy11, r12⟩ := bind_some hr
 refine s_ck 9 #[] (by kernel_rfl) (c_viaductlaw11_awake e4.wf hy11) ?_
 rintro _ H13 ⟨rfl, e14⟩
 refine q_ (.bool (!y10)) ?_
 refine s_nil (k9 _ _ ?_)
 refine w_cond ((!y10)) (by kernel_rfl) rfl (fun h15 => ?_) (fun h15 => ?_)
 ·have r16 := ite_t h15 r12
  refine w_seqk fun _ k17 => ?_
  refine g_' ?_
  refine q_ (.bool false) ?_
  refine s_nil (k17 _ _ ?_)
  refine w_ret (th_ret ?_)
  refine b_ret (fn := Try.f4) (vs := [.bool false]) (aRes_tmp (by kernel_rfl) (rfl)) ?_
  obtain rfl := Option.some.inj r16
  exact ⟨rfl, (FrS.step wf ((FrS.refl (W := []) wf).extR e4) e14 Inn.nil)⟩
 have r18 := ite_bf h15 r12
 refine w_skip ?_
 refine k8 _ _ ?_
 refine w_seqk fun _ k19 => ?_
 refine w_seqk fun _ k20 => ?_
 obtain ⟨o21, hx22, r23⟩ := bind_some r18
 refine w_mid (fun α H24 => Has α [(1, hd_script), (2, pt_ b2 0), (28, .bool o21)] ∧ FrS [] H13 H24) (fun _ k26 => ?_) (fun α H24 hM => ?_)
 ·refine g_' ?_
  have u28 := (r6.frS e14 Dj.nil_l)
  refine l_' (.agg #[i_ N_, hd_Arcs]) (aLoad Try.prog 24 (pt_ b2 0) H13) (u28.ld (by kernel_rfl)) ?_
  have u29 := ((h_Arcs.ext e4).fr e14 Dj.nil_l)
  obtain ⟨y30, hy31, r32⟩ := bind_some hx22
  refine s_ck 10 #[.agg #[i_ N_, hd_Arcs], i_ 12] (by kernel_rfl) (c_viaductref04_Few e14.wf u29 hy31) ?_
  rintro _ H33 ⟨rfl, e34⟩
  by_cases h35 : y30 = true
  ·have r36 := ite_t h35 r32
   rw [h35]
   refine q_ (.bool false) ?_
   refine q_ (.bool false) ?_
   refine q_ (hd_script) ?_
   have u38 := (((h_script.ext e4).fr e14 Dj.nil_l).fr e34 Dj.nil_l)
   refine l_' (i_ (script.length : Int)) (aLen Try.prog 25 hd_script H33) (u38.lenb (by kernel_rfl)) ?_
   refine q_ (.bool (decide ((script.length : Int) > 60))) ?_
   refine q_ (.bool (decide ((script.length : Int) > 60))) ?_
   refine s_nil ?_
   obtain rfl := Option.some.inj r36
   exact k26 _ _ ⟨ha_, (FrS.step e14.wf (FrS.refl (W := []) e14.wf) e34 Inn.nil)⟩
  have r39 := ite_f h35 r32
  rw [nb h35]
  refine q_ (.bool true) ?_
  refine q_ (.bool true) ?_
  refine n_' ?_
  refine n_' ?_
  refine n_' ?_
  refine q_ (.bool true) ?_
  refine s_nil ?_
  obtain rfl := Option.some.inj r39
  exact k26 _ _ ⟨ha_, (FrS.step e14.wf (FrS.refl (W := []) e14.wf) e34 Inn.nil)⟩
 obtain ⟨hh27, e25⟩ := hM
 obtain ⟨β, rfl⟩ := has_ex hh27
 clear hh27
 refine k20 _ _ ?_
 refine w_cond (o21) (by kernel_rfl) rfl (fun h41 => ?_) (fun h41 => ?_)
 ·have r42 := ite_t h41 r23
  refine w_seqk fun _ k43 => ?_
  refine g_' ?_
  refine q_ (.bool true) ?_
  refine s_nil (k43 _ _ ?_)
  refine w_ret (th_ret ?_)
  refine b_ret (fn := Try.f4) (vs := [.bool true]) (aRes_tmp (by kernel_rfl) (rfl)) ?_
  obtain rfl := Option.some.inj r42
  exact ⟨rfl, (FrS.step wf (FrS.step wf ((FrS.refl (W := []) wf).extR e4) e14 Inn.nil) e25 Inn.nil)⟩
 have r44 := ite_bf h41 r23
 refine w_skip ?_
 refine k19 _ _ ?_
 refine w_seqk fun _ k45 => ?_
 refine g_' ?_
 have u46 := ((r6.frS e14 Dj.nil_l).frS e25 Dj.nil_l)
 refine l_' (.agg #[i_ N_, hd_Arcs]) (aLoad Try.prog 24 (pt_ b2 0) H24) (u46.ld (by kernel_rfl)) ?_
 have u47 := (((h_Arcs.ext e4).fr e14 Dj.nil_l).fr e25 Dj.nil_l)
 obtain ⟨y48, hy49, r50⟩ := bind_some r44
 rcases y48 with y51 | y52
 ·have r53 := elim_l r50
  refine s_ck 11 #[.agg #[i_ N_, hd_Arcs]] (by kernel_rfl) (c_overlay_New e25.wf u47 hy49) ?_
  rintro _ H56 ⟨v54, f55, rfl, e57, m58, i59⟩
  refine q_ (.tuple #[.pointer none, v54]) ?_
  refine q_ (.pointer none) ?_
  refine q_ (v54) ?_
  refine q_ (.pointer none) ?_
  refine q_ (v54) ?_
  refine s_nil (k45 _ _ ?_)
  refine w_seqk fun _ k61 => ?_
  refine w_seqk fun _ k62 => ?_
  refine g_' ?_
  refine q_ (v54) ?_
  rcases (m58).cases with ⟨h63, rfl⟩ | ⟨h63, t64, x65, rfl⟩
  ·have r66 := ite_t h63 r53
   refine q_ (.bool false) ?_
   refine s_nil (k62 _ _ ?_)
   refine w_cond false (by kernel_rfl) rfl (fun h => by cases h) (fun _ => ?_)
   refine w_skip ?_
   refine k61 _ _ ?_
   refine w_seqk fun _ k67 => ?_
   refine w_seqk fun _ k68 => ?_
   refine g_' ?_
   refine q_ (hd_script) ?_
   have u69 := ((((h_script.ext e4).fr e14 Dj.nil_l).fr e25 Dj.nil_l).fr e57 Dj.nil_l)
   refine l_' (i_ (script.length : Int)) (aLen Try.prog 25 hd_script H56) (u69.lenb (by kernel_rfl)) ?_
   refine q_ (i_ 0) ?_
   refine s_nil (k68 _ _ ?_)
   obtain ⟨o70, hx71, r72⟩ := bind_some r66
   refine w_mid (fun α H73 => Has α [] ∧ FrS [] H56 H73) (fun _ k75 => ?_) (fun α H73 hM => ?_)
   ·refine w_block ?_
    obtain ⟨n77, hn78⟩ := loopO_iff.1 hx71
    refine w_loopn (fun n α H79 => ∃ (i0 : Int), iterO (fun zz_ => z_viaductlaw11_OverlayKeeps_l0 script zz_) n i0 = some o70 ∧ Has α [(5, .pointer none), (36, hd_script), (37, i_ (script.length : Int)), (38, i_ i0)] ∧ FrS [] H56 H79) n77 ⟨0, hn78, ha_, (FrS.refl (W := []) e57.wf)⟩ ?_
    rintro n77 α H79 ⟨i0, hi82, hh81, e80⟩ K87 k87
    obtain ⟨n83, z84, rfl, hz85, hn86⟩ := iter_succ hi82
    obtain ⟨β, rfl⟩ := has_ex hh81
    clear hh81
    replace hz85 : z_viaductlaw11_OverlayKeeps_l0 script i0 = some z84 := hz85
    unfold z_viaductlaw11_OverlayKeeps_l0 at hz85
    refine w_seqk fun _ k88 => ?_
    refine g_' ?_
    refine q_ (.bool (decide (i0 < (script.length : Int)))) ?_
    refine s_nil (k88 _ _ ?_)
    refine w_seqk fun _ k89 => ?_
    refine w_condp (i0 < (script.length : Int)) (by kernel_rfl) rfl (fun h90 => ?_) (fun h90 => ?_)
    ·have r91 := ite_t h90 hz85
     refine w_skip ?_
     refine k89 _ _ ?_
     refine w_seqk fun _ k92 => ?_
     refine w_block ?_
     refine w_seqk fun _ k93 => ?_
     refine g_' ?_
     obtain ⟨g94, r95⟩ := G_some r91
     have u96 := (u69.fr e80 Dj.nil_l)
     refine l_' (elp hd_script 5 i0.toNat 0) (aIndexAddr Try.prog 25 hd_script (i_ i0)) (u96.idxb (by kernel_rfl) g94 h90) ?_
     refine l_' (.agg #[.int .u8 ((gt script i0).1), i_ ((gt script i0).2.1), i_ ((gt script i0).2.2.1), .int .u64 ((gt script i0).2.2.2.1), i_ ((gt script i0).2.2.2.2)]) (aLoad Try.prog 35 (elp hd_script 5 i0.toNat 0) H79) (u96.ld g94 h90 (by kernel_rfl)) ?_
     refine s_rwk e80.wf [.int .u8 0, i_ 0, i_ 0, .int .u64 0, i_ 0] (by kernel_rfl) fun b97 H98 e99 hb100 r101 => ?_
     obtain ⟨H103, q104, e105, r106⟩ := Row.store (P := Try.prog) (t := 35) (p := 0) e99.wf r101 (.agg #[.int .u8 ((gt script i0).1), i_ ((gt script i0).2.1), i_ ((gt script i0).2.2.1), .int .u64 ((gt script i0).2.2.2.1), i_ ((gt script i0).2.2.2.2)]) [.int .u8 ((gt script i0).1), i_ ((gt script i0).2.1), i_ ((gt script i0).2.2.1), .int .u64 ((gt script i0).2.2.2.1), i_ ((gt script i0).2.2.2.2)] (by kernel_rfl) (by kernel_rfl) (one_cons (rfl) (one_cons (rfl) (one_cons (rfl) (one_cons (rfl) (one_cons (rfl) (one_nil)))))) (Nat.le_of_ble_eq_true (by kernel_rfl)) [.int .u8 ((gt script i0).1), i_ ((gt script i0).2.1), i_ ((gt script i0).2.2.1), .int .u64 ((gt script i0).2.2.2.1), i_ ((gt script i0).2.2.2.2)] (by kernel_rfl)
     refine s_ek (undef) (by kernel_rfl) (map_ok q104) ?_
     refine s_nil (k93 _ _ ?_)
     refine w_seqk fun _ k107 => ?_
     refine g_' ?_
     refine q_ (.pointer none) ?_
     refine q_ (pt_ b97 1) ?_
     refine l_' (i_ ((gt script i0).2.1)) (aLoad Try.prog 3 (pt_ b97 1) H103) (r106.ld (by kernel_rfl)) ?_
     refine q_ (pt_ b97 2) ?_
     refine l_' (i_ ((gt script i0).2.2.1)) (aLoad Try.prog 3 (pt_ b97 2) H103) (r106.ld (by kernel_rfl)) ?_
     obtain ⟨y108, hy109, r110⟩ := bind_some r95
     refine s_ck 17 #[.pointer none, i_ ((gt script i0).2.1), i_ ((gt script i0).2.2.1)] (by kernel_rfl) (c_overlay_Overlay_Weight_1 e105.wf hy109) ?_
     rintro _ _ ⟨rfl, rfl⟩
     refine q_ (.tuple #[.int .u64 0, .bool false]) ?_
     refine q_ (.int .u64 0) ?_
     refine q_ (.bool false) ?_
     refine q_ (.int .u64 0) ?_
     refine q_ (.bool false) ?_
     refine s_nil (k107 _ _ ?_)
     refine w_seqk fun _ k113 => ?_
     refine g_' ?_
     refine q_ (.pointer none) ?_
     obtain ⟨y114, hy115, r116⟩ := bind_some r110
     refine s_ck 18 #[.pointer none] (by kernel_rfl) (c_overlay_Overlay_Arcs_1 e105.wf hy115) ?_
     rintro _ _ ⟨rfl, rfl⟩
     refine q_ (.pointer none) ?_
     obtain ⟨y119, hy120, r121⟩ := bind_some r116
     refine s_ck 19 #[.pointer none] (by kernel_rfl) (c_overlay_Overlay_Len_1 e105.wf hy120) ?_
     rintro _ _ ⟨rfl, rfl⟩
     refine q_ (i_ 0) ?_
     refine q_ (i_ 0) ?_
     refine s_nil (k113 _ _ ?_)
     refine w_seqk fun _ k124 => ?_
     refine g_' ?_
     refine q_ (pt_ b97 0) ?_
     refine l_' (.int .u8 ((gt script i0).1)) (aLoad Try.prog 5 (pt_ b97 0) H103) (r106.ld (by kernel_rfl)) ?_
     refine s_nil (k124 _ _ ?_)
     refine w_block ?_
     refine w_seqk fun _ k125 => ?_
     refine g_' ?_
     refine q_ (.bool (decide (((gt script i0).1) = 1))) ?_
     refine q_ (.bool (decide (((gt script i0).1) = 1))) ?_
     refine s_nil (k125 _ _ ?_)
     refine w_condp (((gt script i0).1) = 1) (by kernel_rfl) rfl (fun h126 => ?_) (fun h126 => ?_)
     ·have r127 := ite_t h126 r121
      refine w_seqk fun _ k128 => ?_
      refine g_' ?_
      refine q_ (.pointer none) ?_
      refine q_ (pt_ b97 1) ?_
      refine l_' (i_ ((gt script i0).2.1)) (aLoad Try.prog 3 (pt_ b97 1) H103) (r106.ld (by kernel_rfl)) ?_
      refine q_ (pt_ b97 2) ?_
      refine l_' (i_ ((gt script i0).2.2.1)) (aLoad Try.prog 3 (pt_ b97 2) H103) (r106.ld (by kernel_rfl)) ?_
      refine q_ (pt_ b97 3) ?_
      refine l_' (.int .u64 ((gt script i0).2.2.2.1)) (aLoad Try.prog 33 (pt_ b97 3) H103) (r106.ld (by kernel_rfl)) ?_
      refine q_ (pt_ b97 4) ?_
      refine l_' (i_ ((gt script i0).2.2.2.2)) (aLoad Try.prog 3 (pt_ b97 4) H103) (r106.ld (by kernel_rfl)) ?_
      obtain ⟨y129, hy130, r131⟩ := bind_some r127
      refine s_ck 12 #[.pointer none, i_ ((gt script i0).2.1), i_ ((gt script i0).2.2.1), .int .u64 ((gt script i0).2.2.2.1), i_ ((gt script i0).2.2.2.2)] (by kernel_rfl) (c_overlay_Overlay_Put_1 e105.wf hy130) ?_
      rintro _ _ ⟨rfl, rfl⟩
      refine q_ (.tuple #[.bool false, .iface 103 (i_ 19)]) ?_
      refine q_ (.bool false) ?_
      refine q_ (.iface 103 (i_ 19)) ?_
      refine q_ (.bool false) ?_
      refine q_ (.iface 103 (i_ 19)) ?_
      refine s_nil (k128 _ _ ?_)
      refine w_seqk fun _ k134 => ?_
      refine g_' ?_
      refine q_ (.pointer none) ?_
      refine q_ (pt_ b97 1) ?_
      refine l_' (i_ ((gt script i0).2.1)) (aLoad Try.prog 3 (pt_ b97 1) H103) (r106.ld (by kernel_rfl)) ?_
      refine q_ (pt_ b97 2) ?_
      refine l_' (i_ ((gt script i0).2.2.1)) (aLoad Try.prog 3 (pt_ b97 2) H103) (r106.ld (by kernel_rfl)) ?_
      obtain ⟨y135, hy136, r137⟩ := bind_some r131
      refine s_ck 17 #[.pointer none, i_ ((gt script i0).2.1), i_ ((gt script i0).2.2.1)] (by kernel_rfl) (c_overlay_Overlay_Weight_1 e105.wf hy136) ?_
      rintro _ _ ⟨rfl, rfl⟩
      refine q_ (.tuple #[.int .u64 0, .bool false]) ?_
      refine q_ (.int .u64 0) ?_
      refine q_ (.bool false) ?_
      refine q_ (.int .u64 0) ?_
      refine q_ (.bool false) ?_
      refine s_nil (k134 _ _ ?_)
      refine w_block ?_
      refine w_seqk fun _ k140 => ?_
      refine g_' ?_
      refine q_ (.bool false) ?_
      refine q_ (.bool false) ?_
      refine n_' ?_
      refine n_' ?_
      refine n_' ?_
      refine n_' ?_
      refine n_' ?_
      refine n_' ?_
      refine n_' ?_
      refine n_' ?_
      refine n_' ?_
      refine n_' ?_
      refine n_' ?_
      refine n_' ?_
      refine n_' ?_
      refine n_' ?_
      refine n_' ?_
      refine n_' ?_
      refine n_' ?_
      refine n_' ?_
      refine n_' ?_
      refine n_' ?_
      refine n_' ?_
      refine q_ (.bool false) ?_
      refine q_ (.bool false) ?_
      refine s_nil (k140 _ _ ?_)
      refine w_cond false (by kernel_rfl) rfl (fun h => by cases h) (fun _ => ?_)
      refine w_seqk fun _ k141 => ?_
      refine g_' ?_
      refine q_ (.bool false) ?_
      refine q_ (.bool true) ?_
      refine q_ (.bool true) ?_
      refine q_ (.bool false) ?_
      refine q_ (.bool false) ?_
      refine q_ (.bool false) ?_
      refine q_ (.bool false) ?_
      refine q_ (.int .u64 0) ?_
      refine q_ (.int .u64 0) ?_
      refine q_ (.bool false) ?_
      refine q_ (.bool false) ?_
      refine q_ (.bool false) ?_
      refine q_ (.pointer none) ?_
      obtain ⟨y142, hy143, r144⟩ := bind_some r137
      refine s_ck 18 #[.pointer none] (by kernel_rfl) (c_overlay_Overlay_Arcs_1 e105.wf hy143) ?_
      rintro _ _ ⟨rfl, rfl⟩
      refine q_ (i_ 0) ?_
      refine q_ (.bool false) ?_
      refine q_ (.bool false) ?_
      refine q_ (.bool false) ?_
      refine q_ (.bool false) ?_
      refine s_nil (k141 _ _ ?_)
      refine w_cond false (by kernel_rfl) rfl (fun h => by cases h) (fun _ => ?_)
      refine w_skip ?_
      refine k92 _ _ ?_
      refine g_' ?_
      obtain ⟨g147, r148⟩ := G_some r144
      refine s_w ((i0 + 1)) (k := .i64) (x := (i0 + 1)) (by kernel_rfl) (wrap64 (by have := g147; omega)) ?_
      refine q_ (i_ (i0 + 1)) ?_
      refine s_nil ?_
      obtain rfl := Option.some.inj r148
      exact k87 n83 _ _ (Nat.lt_succ_self _) ⟨(i0 + 1), hn86, ha_, (FrS.step e57.wf ((FrS.step e57.wf (FrS.refl (W := []) e57.wf) e80 Inn.nil).extR e99) e105 (hb100.fresh e80.next))⟩
     have r149 := ite_f h126 r121
     refine w_seqk fun _ k150 => ?_
     refine g_' ?_
     refine q_ (.bool (decide (((gt script i0).1) = 2))) ?_
     refine q_ (.bool (decide (((gt script i0).1) = 2))) ?_
     refine s_nil (k150 _ _ ?_)
     refine w_condp (((gt script i0).1) = 2) (by kernel_rfl) rfl (fun h151 => ?_) (fun h151 => ?_)
     ·have r152 := ite_t h151 r149
      refine w_seqk fun _ k153 => ?_
      refine w_draw [0, 1, 2, 5, 6, 7, 3, 4, 8, 9, 10, 11] (by kernel_rfl) ?_
      refine e_' (.pointer none) ?_
      refine e_' (pt_ b97 1) ?_
      refine m_' (i_ ((gt script i0).2.1)) (aLoad Try.prog 3 (pt_ b97 1) H103) (r106.ld (by kernel_rfl)) ?_
      refine e_' (.pointer none) ?_
      refine e_' (pt_ b97 1) ?_
      refine d_fl (i_ ((gt script i0).2.1)) (x := aLoad Try.prog 3 (pt_ b97 1) H103) (by kernel_rfl) (r106.ld (by kernel_rfl)) ?_
      obtain ⟨y154, hy155, r156⟩ := bind_some r152
      refine d_ck 14 #[.pointer none, i_ ((gt script i0).2.1)] (by kernel_rfl) (c_overlay_Overlay_Out_1 e105.wf hy155) ?_
      rintro _ _ ⟨rfl, rfl⟩
      refine ⟨st_ql (y := aLoad Try.prog 3 (pt_ b97 1) H103) (by kernel_rfl) (r106.ld (by kernel_rfl)) (st_nil), ?_⟩
      refine e_' (i_ 0) ?_
      obtain ⟨y159, hy160, r161⟩ := bind_some r156
      refine d_ck 15 #[.pointer none, i_ ((gt script i0).2.1)] (by kernel_rfl) (c_overlay_Overlay_In_1 e105.wf hy160) ?_
      rintro _ _ ⟨rfl, rfl⟩
      refine ⟨st_anc (by kernel_rfl) (st_nil), ?_⟩
      refine e_' (i_ 0) ?_
      refine e_' (i_ 0) ?_
      refine e_' (i_ 0) ?_
      refine d_nil ?_
      refine k153 _ _ ?_
      refine w_seqk fun _ k164 => ?_
      refine g_' ?_
      refine q_ (.pointer none) ?_
      refine q_ (pt_ b97 1) ?_
      refine l_' (i_ ((gt script i0).2.1)) (aLoad Try.prog 3 (pt_ b97 1) H103) (r106.ld (by kernel_rfl)) ?_
      obtain ⟨y165, hy166, r167⟩ := bind_some r161
      refine s_ck 13 #[.pointer none, i_ ((gt script i0).2.1)] (by kernel_rfl) (c_overlay_Overlay_Remove_1 e105.wf hy166) ?_
      rintro _ _ ⟨rfl, rfl⟩
      refine q_ (.iface 103 (i_ 19)) ?_
      refine s_nil (k164 _ _ ?_)
      refine w_seqk fun _ k170 => ?_
      refine g_' ?_
      refine q_ (.iface 103 (i_ 19)) ?_
      refine l_' (.bool true) (aBin Try.prog .neq 30 (.tmp 142) (.const .nilIface) (.iface 103 (i_ 19)) .nilIface) (aBin_nnil (by kernel_rfl)) ?_
      refine q_ (.bool true) ?_
      refine q_ (.pointer none) ?_
      obtain ⟨y171, hy172, r173⟩ := bind_some r167
      refine s_ck 18 #[.pointer none] (by kernel_rfl) (c_overlay_Overlay_Arcs_1 e105.wf hy172) ?_
      rintro _ _ ⟨rfl, rfl⟩
      refine q_ (i_ 0) ?_
      refine q_ (.bool false) ?_
      refine q_ (.bool false) ?_
      refine q_ (.pointer none) ?_
      obtain ⟨y176, hy177, r178⟩ := bind_some r173
      refine s_ck 19 #[.pointer none] (by kernel_rfl) (c_overlay_Overlay_Len_1 e105.wf hy177) ?_
      rintro _ _ ⟨rfl, rfl⟩
      refine q_ (i_ 0) ?_
      refine q_ (.bool false) ?_
      refine q_ (.bool false) ?_
      refine q_ (.bool false) ?_
      refine q_ (.bool false) ?_
      refine q_ (.iface 103 (i_ 19)) ?_
      refine l_' (.bool false) (aBin Try.prog .eql 30 (.tmp 157) (.const .nilIface) (.iface 103 (i_ 19)) .nilIface) (aBin_nil (by kernel_rfl)) ?_
      refine q_ (.bool false) ?_
      refine n_' ?_
      refine n_' ?_
      refine n_' ?_
      refine n_' ?_
      refine n_' ?_
      refine n_' ?_
      refine n_' ?_
      refine n_' ?_
      refine n_' ?_
      refine n_' ?_
      refine n_' ?_
      refine n_' ?_
      refine n_' ?_
      refine n_' ?_
      refine n_' ?_
      refine n_' ?_
      refine n_' ?_
      refine n_' ?_
      refine n_' ?_
      refine q_ (.bool false) ?_
      refine q_ (.bool false) ?_
      refine s_nil (k170 _ _ ?_)
      refine w_cond false (by kernel_rfl) rfl (fun h => by cases h) (fun _ => ?_)
      refine w_skip ?_
      refine k92 _ _ ?_
      refine g_' ?_
      obtain ⟨g181, r182⟩ := G_some r178
      refine s_w ((i0 + 1)) (k := .i64) (x := (i0 + 1)) (by kernel_rfl) (wrap64 (by have := g181; omega)) ?_
      refine q_ (i_ (i0 + 1)) ?_
      refine s_nil ?_
      obtain rfl := Option.some.inj r182
      exact k87 n83 _ _ (Nat.lt_succ_self _) ⟨(i0 + 1), hn86, ha_, (FrS.step e57.wf ((FrS.step e57.wf (FrS.refl (W := []) e57.wf) e80 Inn.nil).extR e99) e105 (hb100.fresh e80.next))⟩
     have r183 := ite_f h151 r149
     refine w_skip ?_
     refine k92 _ _ ?_
     refine g_' ?_
     obtain ⟨g184, r185⟩ := G_some r183
     refine s_w ((i0 + 1)) (k := .i64) (x := (i0 + 1)) (by kernel_rfl) (wrap64 (by have := g184; omega)) ?_
     refine q_ (i_ (i0 + 1)) ?_
     refine s_nil ?_
     obtain rfl := Option.some.inj r185
     exact k87 n83 _ _ (Nat.lt_succ_self _) ⟨(i0 + 1), hn86, ha_, (FrS.step e57.wf ((FrS.step e57.wf (FrS.refl (W := []) e57.wf) e80 Inn.nil).extR e99) e105 (hb100.fresh e80.next))⟩
    have r186 := ite_f h90 hz85
    refine w_exit (th_exit (th_exit (bl_eq ?_)))
    obtain rfl := Option.some.inj r186
    obtain rfl := it_inr hn86
    exact k75 _ _ ⟨trivial, (FrS.step e57.wf (FrS.refl (W := []) e57.wf) e80 Inn.nil)⟩
   obtain ⟨hh76, e74⟩ := hM
   obtain ⟨β, rfl⟩ := has_ex hh76
   clear hh76
   refine k67 _ _ ?_
   refine w_seqk fun _ k187 => ?_
   refine g_' ?_
   refine q_ (.bool true) ?_
   refine s_nil (k187 _ _ ?_)
   refine w_ret ?_
   refine b_ret (fn := Try.f4) (vs := [.bool true]) (aRes_tmp (by kernel_rfl) (rfl)) ?_
   obtain rfl := Option.some.inj r72
   exact ⟨rfl, (FrS.step wf (FrS.step wf (FrS.step wf (FrS.step wf ((FrS.refl (W := []) wf).extR e4) e14 Inn.nil) e25 Inn.nil) e57 Inn.nil) e74 Inn.nil)⟩
  have r188 := ite_f h63 r53
  refine l_' (.bool true) (aBin Try.prog .neq 30 (.tmp 34) (.const .nilIface) (.iface t64 x65) .nilIface) (aBin_nnil (by kernel_rfl)) ?_
  refine s_nil (k62 _ _ ?_)
  refine w_cond true (by kernel_rfl) rfl (fun _ => ?_) (fun h => by cases h)
  refine w_seqk fun _ k189 => ?_
  refine g_' ?_
  refine q_ (.bool false) ?_
  refine s_nil (k189 _ _ ?_)
  refine w_ret (th_ret ?_)
  refine b_ret (fn := Try.f4) (vs := [.bool false]) (aRes_tmp (by kernel_rfl) (rfl)) ?_
  obtain rfl := Option.some.inj r188
  exact ⟨rfl, (FrS.step wf (FrS.step wf (FrS.step wf ((FrS.refl (W := []) wf).extR e4) e14 Inn.nil) e25 Inn.nil) e57 Inn.nil)⟩
 have r190 := elim_r r50
 refine s_ck 11 #[.agg #[i_ N_, hd_Arcs]] (by kernel_rfl) (c_overlay_New e25.wf u47 hy49) ?_
 rintro _ H194 ⟨s191, f192, b193, rfl, e195, m196, m197, i198, i199, d200⟩
 obtain ⟨a203, n204, c205, rfl⟩ := m196.form
 refine q_ (.tuple #[pt_ b193 0, .nilIface]) ?_
 refine q_ (pt_ b193 0) ?_
 refine q_ (.nilIface) ?_
 refine q_ (pt_ b193 0) ?_
 refine q_ (.nilIface) ?_
 refine s_nil (k45 _ _ ?_)
 refine w_seqk fun _ k206 => ?_
 refine w_seqk fun _ k207 => ?_
 refine g_' ?_
 refine q_ (.nilIface) ?_
 refine q_ (.bool false) ?_
 refine s_nil (k207 _ _ ?_)
 refine w_cond false (by kernel_rfl) rfl (fun h => by cases h) (fun _ => ?_)
 refine w_skip ?_
 refine k206 _ _ ?_
 refine w_seqk fun _ k208 => ?_
 refine w_seqk fun _ k209 => ?_
 refine g_' ?_
 refine q_ (hd_script) ?_
 have u210 := ((((h_script.ext e4).fr e14 Dj.nil_l).fr e25 Dj.nil_l).fr e195 Dj.nil_l)
 refine l_' (i_ (script.length : Int)) (aLen Try.prog 25 hd_script H194) (u210.lenb (by kernel_rfl)) ?_
 refine q_ (i_ 0) ?_
 refine s_nil (k209 _ _ ?_)
 obtain ⟨z214, hx212, r213⟩ := bind_some r190
 refine w_mid (fun α H215 => ∃ o211, z214 = Sum.inr o211 ∧ Has α [] ∧ FrS ([b193] ++ f192) H194 H215) (fun _ k217 => ?_) (fun α H215 hM => ?_)
 ·refine w_block ?_
  obtain ⟨n219, hn220⟩ := loopO_iff.1 hx212
  refine w_loopn (fun n α H221 => ∃ (i0 : Int), ∃ (o1 : List (Bool × List (Int × Int × Int) × List (Int × Int × Int))), ∃ (o2 : Int), ∃ (o3 : Int), ∃ (f225 : Fp), iterO (fun zz_ => z_viaductlaw11_OverlayKeeps_l1 script zz_.1 zz_.2.1 zz_.2.2.1 zz_.2.2.2) n (i0, o1, o2, o3) = some z214 ∧ Has α [(5, pt_ b193 0), (36, hd_script), (37, i_ (script.length : Int)), (38, i_ i0)] ∧ FrS ([b193] ++ f192) H194 H221 ∧ Nd enc_i64_u64_i64 3 H221 (.slice a203 n204 c205) o1 f225 [] ∧ Row H221 b193 [.slice a203 n204 c205, i_ o2, i_ o3] ∧ Inn f192 H194 f225) n219 ⟨0, y52.1, y52.2.1, y52.2.2, f192, hn220, ha_, (FrS.refl (W := ([b193] ++ f192)) e195.wf), m196, m197, Inn.refl'⟩ ?_
  rintro n219 α H221 ⟨i0, o1, o2, o3, f225, hi230, hh229, e222, m224, m227, i228⟩ K235 k235
  obtain ⟨n231, z232, rfl, hz233, hn234⟩ := iter_succ hi230
  obtain ⟨β, rfl⟩ := has_ex hh229
  clear hh229
  replace hz233 : z_viaductlaw11_OverlayKeeps_l1 script i0 o1 o2 o3 = some z232 := hz233
  unfold z_viaductlaw11_OverlayKeeps_l1 at hz233
  refine w_seqk fun _ k236 => ?_
  refine g_' ?_
  refine q_ (.bool (decide (i0 < (script.length : Int)))) ?_
  refine s_nil (k236 _ _ ?_)
  refine w_seqk fun _ k237 => ?_
  refine w_condp (i0 < (script.length : Int)) (by kernel_rfl) rfl (fun h238 => ?_) (fun h238 => ?_)
  ·have r239 := ite_t h238 hz233
   refine w_skip ?_
   refine k237 _ _ ?_
   refine w_seqk fun _ k240 => ?_
   refine w_block ?_
   refine w_seqk fun _ k241 => ?_
   refine g_' ?_
   obtain ⟨g242, r243⟩ := G_some r239
   have u244 := (u210.fr e222 (Dj.app (i199.djn (h_script.lt.le (ntr (ntr e4.next e14.next) e25.next))) (i198.djn (h_script.lt.le (ntr (ntr e4.next e14.next) e25.next)))))
   refine l_' (elp hd_script 5 i0.toNat 0) (aIndexAddr Try.prog 25 hd_script (i_ i0)) (u244.idxb (by kernel_rfl) g242 h238) ?_
   refine l_' (.agg #[.int .u8 ((gt script i0).1), i_ ((gt script i0).2.1), i_ ((gt script i0).2.2.1), .int .u64 ((gt script i0).2.2.2.1), i_ ((gt script i0).2.2.2.2)]) (aLoad Try.prog 35 (elp hd_script 5 i0.toNat 0) H221) (u244.ld g242 h238 (by kernel_rfl)) ?_
   refine s_rwk e222.wf [.int .u8 0, i_ 0, i_ 0, .int .u64 0, i_ 0] (by kernel_rfl) fun b245 H246 e247 hb248 r249 => ?_
   obtain ⟨H251, q252, e253, r254⟩ := Row.store (P := Try.prog) (t := 35) (p := 0) e247.wf r249 (.agg #[.int .u8 ((gt script i0).1), i_ ((gt script i0).2.1), i_ ((gt script i0).2.2.1), .int .u64 ((gt script i0).2.2.2.1), i_ ((gt script i0).2.2.2.2)]) [.int .u8 ((gt script i0).1), i_ ((gt script i0).2.1), i_ ((gt script i0).2.2.1), .int .u64 ((gt script i0).2.2.2.1), i_ ((gt script i0).2.2.2.2)] (by kernel_rfl) (by kernel_rfl) (one_cons (rfl) (one_cons (rfl) (one_cons (rfl) (one_cons (rfl) (one_cons (rfl) (one_nil)))))) (Nat.le_of_ble_eq_true (by kernel_rfl)) [.int .u8 ((gt script i0).1), i_ ((gt script i0).2.1), i_ ((gt script i0).2.2.1), .int .u64 ((gt script i0).2.2.2.1), i_ ((gt script i0).2.2.2.2)] (by kernel_rfl)
   refine s_ek (undef) (by kernel_rfl) (map_ok q252) ?_
   refine s_nil (k241 _ _ ?_)
   refine w_seqk fun _ k255 => ?_
   refine g_' ?_
   refine q_ (pt_ b193 0) ?_
   refine q_ (pt_ b245 1) ?_
   refine l_' (i_ ((gt script i0).2.1)) (aLoad Try.prog 3 (pt_ b245 1) H251) (r254.ld (by kernel_rfl)) ?_
   refine q_ (pt_ b245 2) ?_
   refine l_' (i_ ((gt script i0).2.2.1)) (aLoad Try.prog 3 (pt_ b245 2) H251) (r254.ld (by kernel_rfl)) ?_
   have u256 := ((m224.ext e247).fr e253 (hb248.djn m224.lt))
   have u257 := ((m227.ext e247).frS e253 (hb248.djn (m197.ltF.le e222.next)))
   obtain ⟨y258, hy259, r260⟩ := bind_some r243
   refine s_ck 17 #[pt_ b193 0, i_ ((gt script i0).2.1), i_ ((gt script i0).2.2.1)] (by kernel_rfl) (c_overlay_Overlay_Weight e253.wf u256 u257 hy259) ?_
   rintro _ H261 ⟨rfl, e262⟩
   refine q_ (.tuple #[.int .u64 y258.1, .bool y258.2]) ?_
   refine q_ (.int .u64 y258.1) ?_
   refine q_ (.bool y258.2) ?_
   refine q_ (.int .u64 y258.1) ?_
   refine q_ (.bool y258.2) ?_
   refine s_nil (k255 _ _ ?_)
   refine w_seqk fun _ k263 => ?_
   refine g_' ?_
   refine q_ (pt_ b193 0) ?_
   have u264 := (u256.fr e262 Dj.nil_l)
   have u265 := (u257.frS e262 Dj.nil_l)
   obtain ⟨y266, hy267, r268⟩ := bind_some r260
   refine s_ck 18 #[pt_ b193 0] (by kernel_rfl) (c_overlay_Overlay_Arcs e262.wf u264 u265 hy267) ?_
   rintro _ _ ⟨rfl, rfl⟩
   refine q_ (pt_ b193 0) ?_
   obtain ⟨y271, hy272, r273⟩ := bind_some r268
   refine s_ck 19 #[pt_ b193 0] (by kernel_rfl) (c_overlay_Overlay_Len e262.wf u264 u265 hy272) ?_
   rintro _ _ ⟨rfl, rfl⟩
   refine q_ (i_ y266) ?_
   refine q_ (i_ y271) ?_
   refine s_nil (k263 _ _ ?_)
   refine w_seqk fun _ k276 => ?_
   refine g_' ?_
   refine q_ (pt_ b245 0) ?_
   have u277 := (r254.frS e262 Dj.nil_l)
   refine l_' (.int .u8 ((gt script i0).1)) (aLoad Try.prog 5 (pt_ b245 0) H261) (u277.ld (by kernel_rfl)) ?_
   refine s_nil (k276 _ _ ?_)
   refine w_block ?_
   refine w_seqk fun _ k278 => ?_
   refine g_' ?_
   refine q_ (.bool (decide (((gt script i0).1) = 1))) ?_
   refine q_ (.bool (decide (((gt script i0).1) = 1))) ?_
   refine s_nil (k278 _ _ ?_)
   refine w_condp (((gt script i0).1) = 1) (by kernel_rfl) rfl (fun h279 => ?_) (fun h279 => ?_)
   ·have r280 := ite_t h279 r273
    refine w_seqk fun _ k281 => ?_
    refine g_' ?_
    refine q_ (pt_ b193 0) ?_
    refine q_ (pt_ b245 1) ?_
    refine l_' (i_ ((gt script i0).2.1)) (aLoad Try.prog 3 (pt_ b245 1) H261) (u277.ld (by kernel_rfl)) ?_
    refine q_ (pt_ b245 2) ?_
    refine l_' (i_ ((gt script i0).2.2.1)) (aLoad Try.prog 3 (pt_ b245 2) H261) (u277.ld (by kernel_rfl)) ?_
    refine q_ (pt_ b245 3) ?_
    refine l_' (.int .u64 ((gt script i0).2.2.2.1)) (aLoad Try.prog 33 (pt_ b245 3) H261) (u277.ld (by kernel_rfl)) ?_
    refine q_ (pt_ b245 4) ?_
    refine l_' (i_ ((gt script i0).2.2.2.2)) (aLoad Try.prog 3 (pt_ b245 4) H261) (u277.ld (by kernel_rfl)) ?_
    obtain ⟨y282, hy283, r284⟩ := bind_some r280
    refine s_ck 12 #[pt_ b193 0, i_ ((gt script i0).2.1), i_ ((gt script i0).2.2.1), .int .u64 ((gt script i0).2.2.2.1), i_ ((gt script i0).2.2.2.2)] (by kernel_rfl) (c_overlay_Overlay_Put e262.wf u264 u265 (Dj.symm (i228.dj d200 m197.ltF)) hy283) ?_
    rintro _ H288 ⟨v285, f286, f287, rfl, e289, m290, m291, m292, i293, i294, d295⟩
    refine q_ (.tuple #[.bool y282.1, v285]) ?_
    refine q_ (.bool y282.1) ?_
    refine q_ (v285) ?_
    refine q_ (.bool y282.1) ?_
    refine q_ (v285) ?_
    refine s_nil (k281 _ _ ?_)
    refine w_seqk fun _ k297 => ?_
    refine g_' ?_
    refine q_ (pt_ b193 0) ?_
    refine q_ (pt_ b245 1) ?_
    have u298 := (u277.frS e289 (Dj.app (Dj.symm (hb248.djn (m197.ltF.le e222.next))) (Dj.symm (hb248.djn m224.lt))))
    refine l_' (i_ ((gt script i0).2.1)) (aLoad Try.prog 3 (pt_ b245 1) H288) (u298.ld (by kernel_rfl)) ?_
    refine q_ (pt_ b245 2) ?_
    refine l_' (i_ ((gt script i0).2.2.1)) (aLoad Try.prog 3 (pt_ b245 2) H288) (u298.ld (by kernel_rfl)) ?_
    obtain ⟨y299, hy300, r301⟩ := bind_some r284
    refine s_ck 17 #[pt_ b193 0, i_ ((gt script i0).2.1), i_ ((gt script i0).2.2.1)] (by kernel_rfl) (c_overlay_Overlay_Weight e289.wf m291 m292 hy300) ?_
    rintro _ H302 ⟨rfl, e303⟩
    refine q_ (.tuple #[.int .u64 y299.1, .bool y299.2]) ?_
    refine q_ (.int .u64 y299.1) ?_
    refine q_ (.bool y299.2) ?_
    refine q_ (.int .u64 y299.1) ?_
    refine q_ (.bool y299.2) ?_
    refine s_nil (k297 _ _ ?_)
    refine w_block ?_
    refine w_seqk fun _ k304 => ?_
    obtain ⟨o305, hx306, r307⟩ := bind_some r301
    refine w_mid (fun α H308 => Has α [(5, pt_ b193 0), (9, .int .u64 y258.1), (10, .bool o305.1), (11, i_ y266), (13, .bool o305.2.1), (15, .int .u64 y299.1), (16, .bool y299.2), (36, hd_script), (37, i_ (script.length : Int)), (38, i_ i0), (81, .bool o305.2.2)] ∧ H302 = H308) (fun _ k310 => ?_) (fun α H308 hM => ?_)
    ·refine g_' ?_
     refine q_ (.bool y282.1) ?_
     refine q_ (.bool y282.1) ?_
     by_cases h312 : y282.1 = true
     ·have r313 := ite_t h312 hx306
      rw [h312]
      refine q_ (v285) ?_
      have u317 := (m290.fr e303 Dj.nil_l)
      rcases (u317).cases with ⟨h314, rfl⟩ | ⟨h314, t315, x316, rfl⟩
      ·have r318 := ite_t h314 r313
       refine q_ (.bool false) ?_
       refine q_ (.bool false) ?_
       refine q_ (.bool y299.2) ?_
       refine q_ (.bool (!y299.2)) ?_
       refine q_ (.bool (!y299.2)) ?_
       refine q_ (.bool (!y299.2)) ?_
       by_cases h319 : (!y299.2) = true
       ·have r320 := ite_t h319 r318
        rw [h319]
        refine n_' ?_
        refine n_' ?_
        refine n_' ?_
        refine n_' ?_
        refine q_ (.bool true) ?_
        refine q_ (.bool true) ?_
        refine n_' ?_
        refine n_' ?_
        refine n_' ?_
        refine n_' ?_
        refine n_' ?_
        refine n_' ?_
        refine n_' ?_
        refine q_ (.bool true) ?_
        refine q_ (.bool true) ?_
        refine q_ (.bool true) ?_
        refine s_nil ?_
        obtain rfl := Option.some.inj r320
        exact k310 _ _ ⟨ha_, rfl⟩
       have r321 := ite_f h319 r318
       rw [nb h319]
       refine q_ (.int .u64 y299.1) ?_
       refine q_ (pt_ b245 3) ?_
       have u322 := (u298.frS e303 Dj.nil_l)
       refine l_' (.int .u64 ((gt script i0).2.2.2.1)) (aLoad Try.prog 33 (pt_ b245 3) H302) (u322.ld (by kernel_rfl)) ?_
       refine s_bn (y299.1 = ((gt script i0).2.2.2.1)) (by kernel_rfl) (fun h323 => ?_) (fun h323 => ?_)
       ·have r324 := ite_t h323 r321
        refine q_ (.bool false) ?_
        refine q_ (.bool false) ?_
        refine q_ (.bool y258.2) ?_
        refine q_ (.bool y258.2) ?_
        by_cases h325 : y258.2 = true
        ·have r326 := ite_t h325 r324
         rw [h325]
         refine q_ (.int .u64 y258.1) ?_
         refine q_ (pt_ b245 3) ?_
         refine l_' (.int .u64 ((gt script i0).2.2.2.1)) (aLoad Try.prog 33 (pt_ b245 3) H302) (u322.ld (by kernel_rfl)) ?_
         refine q_ (.bool (decide (y258.1 ≤ ((gt script i0).2.2.2.1)))) ?_
         refine q_ (.bool (decide (y258.1 ≤ ((gt script i0).2.2.2.1)))) ?_
         refine q_ (.bool (decide (y258.1 ≤ ((gt script i0).2.2.2.1)))) ?_
         refine q_ (.bool (decide (y258.1 ≤ ((gt script i0).2.2.2.1)))) ?_
         refine q_ (.bool (decide (y258.1 ≤ ((gt script i0).2.2.2.1)))) ?_
         refine s_nil ?_
         obtain rfl := Option.some.inj r326
         exact k310 _ _ ⟨ha_, rfl⟩
        have r327 := ite_f h325 r324
        rw [nb h325]
        refine n_' ?_
        refine n_' ?_
        refine n_' ?_
        refine n_' ?_
        refine q_ (.bool false) ?_
        refine q_ (.bool false) ?_
        refine q_ (.bool false) ?_
        refine q_ (.bool false) ?_
        refine s_nil ?_
        obtain rfl := Option.some.inj r327
        exact k310 _ _ ⟨ha_, rfl⟩
       have r328 := ite_f h323 r321
       refine q_ (.bool true) ?_
       refine q_ (.bool true) ?_
       refine n_' ?_
       refine n_' ?_
       refine n_' ?_
       refine n_' ?_
       refine n_' ?_
       refine n_' ?_
       refine n_' ?_
       refine q_ (.bool true) ?_
       refine q_ (.bool true) ?_
       refine q_ (.bool true) ?_
       refine s_nil ?_
       obtain rfl := Option.some.inj r328
       exact k310 _ _ ⟨ha_, rfl⟩
      have r329 := ite_f h314 r313
      refine l_' (.bool true) (aBin Try.prog .neq 30 (.tmp 84) (.const .nilIface) (.iface t315 x316) .nilIface) (aBin_nnil (by kernel_rfl)) ?_
      refine q_ (.bool true) ?_
      refine n_' ?_
      refine n_' ?_
      refine q_ (.bool true) ?_
      refine q_ (.bool true) ?_
      refine n_' ?_
      refine n_' ?_
      refine n_' ?_
      refine n_' ?_
      refine q_ (.bool true) ?_
      refine q_ (.bool true) ?_
      refine n_' ?_
      refine n_' ?_
      refine n_' ?_
      refine n_' ?_
      refine n_' ?_
      refine n_' ?_
      refine n_' ?_
      refine q_ (.bool true) ?_
      refine q_ (.bool true) ?_
      refine q_ (.bool true) ?_
      refine s_nil ?_
      obtain rfl := Option.some.inj r329
      exact k310 _ _ ⟨ha_, rfl⟩
     have r330 := ite_f h312 hx306
     rw [nb h312]
     refine n_' ?_
     refine n_' ?_
     refine n_' ?_
     refine n_' ?_
     refine n_' ?_
     refine n_' ?_
     refine n_' ?_
     refine n_' ?_
     refine n_' ?_
     refine n_' ?_
     refine n_' ?_
     refine n_' ?_
     refine n_' ?_
     refine n_' ?_
     refine n_' ?_
     refine n_' ?_
     refine n_' ?_
     refine n_' ?_
     refine n_' ?_
     refine n_' ?_
     refine n_' ?_
     refine q_ (.bool false) ?_
     refine q_ (.bool false) ?_
     refine s_nil ?_
     obtain rfl := Option.some.inj r330
     exact k310 _ _ ⟨ha_, rfl⟩
    obtain ⟨hh311, rfl⟩ := hM
    obtain ⟨β, rfl⟩ := has_ex hh311
    clear hh311
    refine k304 _ _ ?_
    refine w_cond (o305.2.2) (by kernel_rfl) rfl (fun h331 => ?_) (fun h331 => ?_)
    ·have r332 := ite_t h331 r307
     refine w_seqk fun _ k333 => ?_
     refine g_' ?_
     refine q_ (.bool false) ?_
     refine s_nil (k333 _ _ ?_)
     refine w_ret (bl_ret (bl_ret (bl_ret (th_ret (th_ret (bl_ret (th_ret (th_ret ?_))))))))
     obtain ⟨v334, hv335, hz336⟩ := map_some r332
     subst hz336
     obtain rfl := it_inr hn234
     have hq337 := elim_inl r213
     rw [hq337] at hv335
     refine b_ret (fn := Try.f4) (vs := [.bool false]) (aRes_tmp (by kernel_rfl) (rfl)) ?_
     obtain rfl := Option.some.inj hv335
     exact ⟨rfl, (FrS.step wf (FrS.step wf (FrS.step wf (FrS.step wf ((FrS.step wf (FrS.step wf (FrS.step wf (FrS.step wf ((FrS.refl (W := []) wf).extR e4) e14 Inn.nil) e25 Inn.nil) e195 Inn.nil) e222 (Inn.app (i199.fresh (ntr (ntr e4.next e14.next) e25.next)) (i198.fresh (ntr (ntr e4.next e14.next) e25.next)))).extR e247) e253 (hb248.fresh (ntr (ntr (ntr (ntr e4.next e14.next) e25.next) e195.next) e222.next))) e262 Inn.nil) e289 (Inn.app (i199.fresh (ntr (ntr e4.next e14.next) e25.next)) (Inn.trans (i198.fresh (ntr (ntr e4.next e14.next) e25.next)) (ntr (ntr (ntr e4.next e14.next) e25.next) e195.next) i228))) e303 Inn.nil)⟩
    have r338 := ite_bf h331 r307
    refine w_seqk fun _ k339 => ?_
    refine g_' ?_
    refine q_ (.bool o305.2.1) ?_
    refine q_ (.bool (!o305.2.1)) ?_
    refine q_ (.bool (!o305.2.1)) ?_
    by_cases h340 : (!o305.2.1) = true
    ·have r341 := ite_t h340 r338
     rw [h340]
     refine q_ (.bool y299.2) ?_
     refine q_ (.bool o305.1) ?_
     refine s_bn (y299.2 = o305.1) (by kernel_rfl) (fun h342 => ?_) (fun h342 => ?_)
     ·have r343 := ite_t h342 r341
      refine q_ (.bool false) ?_
      refine q_ (.int .u64 y299.1) ?_
      refine q_ (.int .u64 y258.1) ?_
      refine s_bn (y299.1 = y258.1) (by kernel_rfl) (fun h344 => ?_) (fun h344 => ?_)
      ·have r345 := ite_t h344 r343
       refine q_ (.bool false) ?_
       refine q_ (.bool false) ?_
       refine q_ (pt_ b193 0) ?_
       have u346 := (m291.fr e303 Dj.nil_l)
       have u347 := (m292.frS e303 Dj.nil_l)
       obtain ⟨y348, hy349, r350⟩ := bind_some r345
       refine s_ck 18 #[pt_ b193 0] (by kernel_rfl) (c_overlay_Overlay_Arcs e303.wf u346 u347 hy349) ?_
       rintro _ _ ⟨rfl, rfl⟩
       refine q_ (i_ y266) ?_
       refine q_ (.bool (!decide (y348 = y266))) ?_
       refine q_ (.bool (!decide (y348 = y266))) ?_
       refine q_ (.bool (!decide (y348 = y266))) ?_
       refine q_ (.bool (!decide (y348 = y266))) ?_
       refine s_nil (k339 _ _ ?_)
       refine w_condn (y348 = y266) (by kernel_rfl) rfl (fun h353 => ?_) (fun h353 => ?_)
       ·have r354 := ite_f h353 r350
        refine w_seqk fun _ k355 => ?_
        refine g_' ?_
        refine q_ (.bool false) ?_
        refine s_nil (k355 _ _ ?_)
        refine w_ret (bl_ret (bl_ret (bl_ret (th_ret (th_ret (bl_ret (th_ret (th_ret ?_))))))))
        obtain ⟨v356, hv357, hz358⟩ := map_some r354
        subst hz358
        obtain rfl := it_inr hn234
        have hq359 := elim_inl r213
        rw [hq359] at hv357
        refine b_ret (fn := Try.f4) (vs := [.bool false]) (aRes_tmp (by kernel_rfl) (rfl)) ?_
        obtain rfl := Option.some.inj hv357
        exact ⟨rfl, (FrS.step wf (FrS.step wf (FrS.step wf (FrS.step wf ((FrS.step wf (FrS.step wf (FrS.step wf (FrS.step wf ((FrS.refl (W := []) wf).extR e4) e14 Inn.nil) e25 Inn.nil) e195 Inn.nil) e222 (Inn.app (i199.fresh (ntr (ntr e4.next e14.next) e25.next)) (i198.fresh (ntr (ntr e4.next e14.next) e25.next)))).extR e247) e253 (hb248.fresh (ntr (ntr (ntr (ntr e4.next e14.next) e25.next) e195.next) e222.next))) e262 Inn.nil) e289 (Inn.app (i199.fresh (ntr (ntr e4.next e14.next) e25.next)) (Inn.trans (i198.fresh (ntr (ntr e4.next e14.next) e25.next)) (ntr (ntr (ntr e4.next e14.next) e25.next) e195.next) i228))) e303 Inn.nil)⟩
       have r360 := ite_t h353 r350
       refine w_skip ?_
       refine k240 _ _ ?_
       refine g_' ?_
       obtain ⟨g361, r362⟩ := G_some r360
       refine s_w ((i0 + 1)) (k := .i64) (x := (i0 + 1)) (by kernel_rfl) (wrap64 (by have := g361; omega)) ?_
       refine q_ (i_ (i0 + 1)) ?_
       refine s_nil ?_
       obtain rfl := Option.some.inj r362
       exact k235 n231 _ _ (Nat.lt_succ_self _) ⟨(i0 + 1), y282.2.2.1, o2, y282.2.2.2, f287, hn234, ha_, (FrS.step e195.wf (FrS.step e195.wf (FrS.step e195.wf (FrS.step e195.wf ((FrS.step e195.wf (FrS.refl (W := ([b193] ++ f192)) e195.wf) e222 (Inn.app Inn.left (Inn.right Inn.refl'))).extR e247) e253 (hb248.fresh e222.next)) e262 Inn.nil) e289 (Inn.app Inn.left (Inn.trans (Inn.right Inn.refl') (Nat.le_refl _) i228))) e303 Inn.nil), u346, u347, (Inn.trans (Inn.trans Inn.refl' (Nat.le_refl _) i228) (ntr (ntr (ntr e222.next e247.next) e253.next) e262.next) i294)⟩
      have r363 := ite_f h344 r343
      refine q_ (.bool true) ?_
      refine q_ (.bool true) ?_
      refine n_' ?_
      refine n_' ?_
      refine n_' ?_
      refine n_' ?_
      refine q_ (.bool true) ?_
      refine q_ (.bool true) ?_
      refine q_ (.bool true) ?_
      refine s_nil (k339 _ _ ?_)
      refine w_cond true (by kernel_rfl) rfl (fun _ => ?_) (fun h => by cases h)
      refine w_seqk fun _ k364 => ?_
      refine g_' ?_
      refine q_ (.bool false) ?_
      refine s_nil (k364 _ _ ?_)
      refine w_ret (bl_ret (bl_ret (bl_ret (th_ret (th_ret (bl_ret (th_ret (th_ret ?_))))))))
      obtain ⟨v365, hv366, hz367⟩ := map_some r363
      subst hz367
      obtain rfl := it_inr hn234
      have hq368 := elim_inl r213
      rw [hq368] at hv366
      refine b_ret (fn := Try.f4) (vs := [.bool false]) (aRes_tmp (by kernel_rfl) (rfl)) ?_
      obtain rfl := Option.some.inj hv366
      exact ⟨rfl, (FrS.step wf (FrS.step wf (FrS.step wf (FrS.step wf ((FrS.step wf (FrS.step wf (FrS.step wf (FrS.step wf ((FrS.refl (W := []) wf).extR e4) e14 Inn.nil) e25 Inn.nil) e195 Inn.nil) e222 (Inn.app (i199.fresh (ntr (ntr e4.next e14.next) e25.next)) (i198.fresh (ntr (ntr e4.next e14.next) e25.next)))).extR e247) e253 (hb248.fresh (ntr (ntr (ntr (ntr e4.next e14.next) e25.next) e195.next) e222.next))) e262 Inn.nil) e289 (Inn.app (i199.fresh (ntr (ntr e4.next e14.next) e25.next)) (Inn.trans (i198.fresh (ntr (ntr e4.next e14.next) e25.next)) (ntr (ntr (ntr e4.next e14.next) e25.next) e195.next) i228))) e303 Inn.nil)⟩
     have r369 := ite_f h342 r341
     refine q_ (.bool true) ?_
     refine n_' ?_
     refine n_' ?_
     refine n_' ?_
     refine q_ (.bool true) ?_
     refine q_ (.bool true) ?_
     refine n_' ?_
     refine n_' ?_
     refine n_' ?_
     refine n_' ?_
     refine q_ (.bool true) ?_
     refine q_ (.bool true) ?_
     refine q_ (.bool true) ?_
     refine s_nil (k339 _ _ ?_)
     refine w_cond true (by kernel_rfl) rfl (fun _ => ?_) (fun h => by cases h)
     refine w_seqk fun _ k370 => ?_
     refine g_' ?_
     refine q_ (.bool false) ?_
     refine s_nil (k370 _ _ ?_)
     refine w_ret (bl_ret (bl_ret (bl_ret (th_ret (th_ret (bl_ret (th_ret (th_ret ?_))))))))
     obtain ⟨v371, hv372, hz373⟩ := map_some r369
     subst hz373
     obtain rfl := it_inr hn234
     have hq374 := elim_inl r213
     rw [hq374] at hv372
     refine b_ret (fn := Try.f4) (vs := [.bool false]) (aRes_tmp (by kernel_rfl) (rfl)) ?_
     obtain rfl := Option.some.inj hv372
     exact ⟨rfl, (FrS.step wf (FrS.step wf (FrS.step wf (FrS.step wf ((FrS.step wf (FrS.step wf (FrS.step wf (FrS.step wf ((FrS.refl (W := []) wf).extR e4) e14 Inn.nil) e25 Inn.nil) e195 Inn.nil) e222 (Inn.app (i199.fresh (ntr (ntr e4.next e14.next) e25.next)) (i198.fresh (ntr (ntr e4.next e14.next) e25.next)))).extR e247) e253 (hb248.fresh (ntr (ntr (ntr (ntr e4.next e14.next) e25.next) e195.next) e222.next))) e262 Inn.nil) e289 (Inn.app (i199.fresh (ntr (ntr e4.next e14.next) e25.next)) (Inn.trans (i198.fresh (ntr (ntr e4.next e14.next) e25.next)) (ntr (ntr (ntr e4.next e14.next) e25.next) e195.next) i228))) e303 Inn.nil)⟩
    have r375 := ite_f h340 r338
    rw [nb h340]
    refine n_' ?_
    refine n_' ?_
    refine n_' ?_
    refine n_' ?_
    refine n_' ?_
    refine n_' ?_
    refine n_' ?_
    refine n_' ?_
    refine n_' ?_
    refine n_' ?_
    refine n_' ?_
    refine n_' ?_
    refine n_' ?_
    refine n_' ?_
    refine q_ (.bool false) ?_
    refine q_ (.bool false) ?_
    refine s_nil (k339 _ _ ?_)
    refine w_cond false (by kernel_rfl) rfl (fun h => by cases h) (fun _ => ?_)
    refine w_skip ?_
    refine k240 _ _ ?_
    refine g_' ?_
    obtain ⟨g376, r377⟩ := G_some r375
    refine s_w ((i0 + 1)) (k := .i64) (x := (i0 + 1)) (by kernel_rfl) (wrap64 (by have := g376; omega)) ?_
    refine q_ (i_ (i0 + 1)) ?_
    refine s_nil ?_
    have u378 := (m291.fr e303 Dj.nil_l)
    have u379 := (m292.frS e303 Dj.nil_l)
    obtain rfl := Option.some.inj r377
    exact k235 n231 _ _ (Nat.lt_succ_self _) ⟨(i0 + 1), y282.2.2.1, o2, y282.2.2.2, f287, hn234, ha_, (FrS.step e195.wf (FrS.step e195.wf (FrS.step e195.wf (FrS.step e195.wf ((FrS.step e195.wf (FrS.refl (W := ([b193] ++ f192)) e195.wf) e222 (Inn.app Inn.left (Inn.right Inn.refl'))).extR e247) e253 (hb248.fresh e222.next)) e262 Inn.nil) e289 (Inn.app Inn.left (Inn.trans (Inn.right Inn.refl') (Nat.le_refl _) i228))) e303 Inn.nil), u378, u379, (Inn.trans (Inn.trans Inn.refl' (Nat.le_refl _) i228) (ntr (ntr (ntr e222.next e247.next) e253.next) e262.next) i294)⟩
   have r380 := ite_f h279 r273
   refine w_seqk fun _ k381 => ?_
   refine g_' ?_
   refine q_ (.bool (decide (((gt script i0).1) = 2))) ?_
   refine q_ (.bool (decide (((gt script i0).1) = 2))) ?_
   refine s_nil (k381 _ _ ?_)
   refine w_condp (((gt script i0).1) = 2) (by kernel_rfl) rfl (fun h382 => ?_) (fun h382 => ?_)
   ·have r383 := ite_t h382 r380
    refine w_seqk fun _ k384 => ?_
    refine w_draw [0, 1, 2, 5, 6, 7, 3, 4, 8, 9, 10, 11] (by kernel_rfl) ?_
    refine e_' (pt_ b193 0) ?_
    refine e_' (pt_ b245 1) ?_
    refine m_' (i_ ((gt script i0).2.1)) (aLoad Try.prog 3 (pt_ b245 1) H261) (u277.ld (by kernel_rfl)) ?_
    refine e_' (pt_ b193 0) ?_
    refine e_' (pt_ b245 1) ?_
    refine d_fl (i_ ((gt script i0).2.1)) (x := aLoad Try.prog 3 (pt_ b245 1) H261) (by kernel_rfl) (u277.ld (by kernel_rfl)) ?_
    obtain ⟨y385, hy386, r387⟩ := bind_some r383
    refine d_ck 14 #[pt_ b193 0, i_ ((gt script i0).2.1)] (by kernel_rfl) (c_overlay_Overlay_Out e262.wf u264 u265 hy386) ?_
    rintro s388 H390 ⟨_, f389, rfl, e391, m392, i393⟩
    obtain ⟨a395, n396, c397, rfl⟩ := m392.form
    have u398 := (u277.frS e391 Dj.nil_l)
    refine ⟨st_ql (y := aLoad Try.prog 3 (pt_ b245 1) H390) (by kernel_rfl) (u398.ld (by kernel_rfl)) (st_nil), ?_⟩
    refine m_' (i_ (y385.length : Int)) (aLen Try.prog 39 (.slice a395 n396 c397) H390) (m392.sq.lenb (by kernel_rfl)) ?_
    have u399 := (u264.fr e391 Dj.nil_l)
    have u400 := (u265.frS e391 Dj.nil_l)
    obtain ⟨y401, hy402, r403⟩ := bind_some r387
    refine d_ck 15 #[pt_ b193 0, i_ ((gt script i0).2.1)] (by kernel_rfl) (c_overlay_Overlay_In e391.wf u399 u400 hy402) ?_
    rintro s404 H406 ⟨_, f405, rfl, e407, m408, i409⟩
    obtain ⟨a411, n412, c413, rfl⟩ := m408.form
    refine ⟨st_anc (by kernel_rfl) (st_nil), ?_⟩
    refine m_' (i_ (y401.length : Int)) (aLen Try.prog 39 (.slice a411 n412 c413) H406) (m408.sq.lenb (by kernel_rfl)) ?_
    obtain ⟨g414, r415⟩ := G_some r403
    refine d_w (((y385.length : Int) + (y401.length : Int))) (k := .i64) (x := ((y385.length : Int) + (y401.length : Int))) (by kernel_rfl) (wrap64 g414) ?_
    refine e_' (i_ ((y385.length : Int) + (y401.length : Int))) ?_
    refine d_nil ?_
    refine k384 _ _ ?_
    refine w_seqk fun _ k416 => ?_
    refine g_' ?_
    refine q_ (pt_ b193 0) ?_
    refine q_ (pt_ b245 1) ?_
    have u417 := (u398.frS e407 Dj.nil_l)
    refine l_' (i_ ((gt script i0).2.1)) (aLoad Try.prog 3 (pt_ b245 1) H406) (u417.ld (by kernel_rfl)) ?_
    have u418 := (u399.fr e407 Dj.nil_l)
    have u419 := (u400.frS e407 Dj.nil_l)
    obtain ⟨y420, hy421, r422⟩ := bind_some r415
    refine s_ck 13 #[pt_ b193 0, i_ ((gt script i0).2.1)] (by kernel_rfl) (c_overlay_Overlay_Remove e407.wf u418 u419 (i228.dj d200 m197.ltF) hy421) ?_
    rintro v423 H426 ⟨_, f424, f425, rfl, e427, m428, m429, m430, i431, i432, d433⟩
    refine q_ (v423) ?_
    refine s_nil (k416 _ _ ?_)
    refine w_seqk fun _ k435 => ?_
    refine g_' ?_
    refine q_ (v423) ?_
    rcases (m428).cases with ⟨h436, rfl⟩ | ⟨h436, t437, x438, rfl⟩
    ·have r439 := ite_t h436 r422
     refine q_ (.bool false) ?_
     refine q_ (.bool false) ?_
     refine n_' ?_
     refine n_' ?_
     refine n_' ?_
     refine n_' ?_
     refine n_' ?_
     refine n_' ?_
     refine n_' ?_
     refine n_' ?_
     refine n_' ?_
     refine n_' ?_
     refine q_ (.bool false) ?_
     refine q_ (.bool false) ?_
     refine q_ (.nilIface) ?_
     refine q_ (.bool true) ?_
     refine q_ (.bool true) ?_
     refine q_ (pt_ b193 0) ?_
     obtain ⟨y440, hy441, r442⟩ := bind_some r439
     refine s_ck 18 #[pt_ b193 0] (by kernel_rfl) (c_overlay_Overlay_Arcs e427.wf m429 m430 hy441) ?_
     rintro _ _ ⟨rfl, rfl⟩
     refine q_ (i_ y266) ?_
     refine q_ (i_ ((y385.length : Int) + (y401.length : Int))) ?_
     obtain ⟨g445, r446⟩ := G_some r442
     refine s_w ((y266 - ((y385.length : Int) + (y401.length : Int)))) (k := .i64) (x := (y266 - ((y385.length : Int) + (y401.length : Int)))) (by kernel_rfl) (wrap64 g445) ?_
     refine s_bn (y440 = (y266 - ((y385.length : Int) + (y401.length : Int)))) (by kernel_rfl) (fun h447 => ?_) (fun h447 => ?_)
     ·have r448 := ite_t h447 r446
      refine q_ (.bool false) ?_
      refine q_ (pt_ b193 0) ?_
      obtain ⟨y449, hy450, r451⟩ := bind_some r448
      refine s_ck 19 #[pt_ b193 0] (by kernel_rfl) (c_overlay_Overlay_Len e427.wf m429 m430 hy450) ?_
      rintro _ _ ⟨rfl, rfl⟩
      refine q_ (i_ y271) ?_
      obtain ⟨g454, r455⟩ := G_some r451
      refine s_w ((y271 - 1)) (k := .i64) (x := (y271 - 1)) (by kernel_rfl) (wrap64 g454) ?_
      refine s_bn (y449 = (y271 - 1)) (by kernel_rfl) (fun h456 => ?_) (fun h456 => ?_)
      ·have r457 := ite_t h456 r455
       refine q_ (.bool false) ?_
       refine q_ (.bool false) ?_
       refine q_ (pt_ b193 0) ?_
       refine q_ (pt_ b245 1) ?_
       have u458 := (u417.frS e427 (Dj.app (Dj.symm (hb248.djn (m197.ltF.le e222.next))) (Dj.symm (hb248.djn m224.lt))))
       refine l_' (i_ ((gt script i0).2.1)) (aLoad Try.prog 3 (pt_ b245 1) H426) (u458.ld (by kernel_rfl)) ?_
       obtain ⟨y459, hy460, r461⟩ := bind_some r457
       refine s_ck 16 #[pt_ b193 0, i_ ((gt script i0).2.1)] (by kernel_rfl) (c_overlay_Overlay_Alive e427.wf m429 m430 hy460) ?_
       rintro _ _ ⟨rfl, rfl⟩
       refine q_ (.bool y459) ?_
       refine q_ (.bool y459) ?_
       refine q_ (.bool y459) ?_
       refine s_nil (k435 _ _ ?_)
       refine w_cond (y459) (by kernel_rfl) rfl (fun h464 => ?_) (fun h464 => ?_)
       ·have r465 := ite_t h464 r461
        refine w_seqk fun _ k466 => ?_
        refine g_' ?_
        refine q_ (.bool false) ?_
        refine s_nil (k466 _ _ ?_)
        refine w_ret (bl_ret (bl_ret (th_ret (th_ret (bl_ret (th_ret (th_ret ?_)))))))
        obtain ⟨v467, hv468, hz469⟩ := map_some r465
        subst hz469
        obtain rfl := it_inr hn234
        have hq470 := elim_inl r213
        rw [hq470] at hv468
        refine b_ret (fn := Try.f4) (vs := [.bool false]) (aRes_tmp (by kernel_rfl) (rfl)) ?_
        obtain rfl := Option.some.inj hv468
        exact ⟨rfl, (FrS.step wf (FrS.step wf (FrS.step wf (FrS.step wf (FrS.step wf ((FrS.step wf (FrS.step wf (FrS.step wf (FrS.step wf ((FrS.refl (W := []) wf).extR e4) e14 Inn.nil) e25 Inn.nil) e195 Inn.nil) e222 (Inn.app (i199.fresh (ntr (ntr e4.next e14.next) e25.next)) (i198.fresh (ntr (ntr e4.next e14.next) e25.next)))).extR e247) e253 (hb248.fresh (ntr (ntr (ntr (ntr e4.next e14.next) e25.next) e195.next) e222.next))) e262 Inn.nil) e391 Inn.nil) e407 Inn.nil) e427 (Inn.app (i199.fresh (ntr (ntr e4.next e14.next) e25.next)) (Inn.trans (i198.fresh (ntr (ntr e4.next e14.next) e25.next)) (ntr (ntr (ntr e4.next e14.next) e25.next) e195.next) i228)))⟩
       have r471 := ite_bf h464 r461
       refine w_skip ?_
       refine k240 _ _ ?_
       refine g_' ?_
       obtain ⟨g472, r473⟩ := G_some r471
       refine s_w ((i0 + 1)) (k := .i64) (x := (i0 + 1)) (by kernel_rfl) (wrap64 (by have := g472; omega)) ?_
       refine q_ (i_ (i0 + 1)) ?_
       refine s_nil ?_
       obtain rfl := Option.some.inj r473
       exact k235 n231 _ _ (Nat.lt_succ_self _) ⟨(i0 + 1), y420.2.1, y420.2.2.1, y420.2.2.2, f425, hn234, ha_, (FrS.step e195.wf (FrS.step e195.wf (FrS.step e195.wf (FrS.step e195.wf (FrS.step e195.wf ((FrS.step e195.wf (FrS.refl (W := ([b193] ++ f192)) e195.wf) e222 (Inn.app Inn.left (Inn.right Inn.refl'))).extR e247) e253 (hb248.fresh e222.next)) e262 Inn.nil) e391 Inn.nil) e407 Inn.nil) e427 (Inn.app Inn.left (Inn.trans (Inn.right Inn.refl') (Nat.le_refl _) i228))), m429, m430, (Inn.trans (Inn.trans Inn.refl' (Nat.le_refl _) i228) (ntr (ntr (ntr (ntr (ntr e222.next e247.next) e253.next) e262.next) e391.next) e407.next) i432)⟩
      have r474 := ite_f h456 r455
      refine q_ (.bool true) ?_
      refine q_ (.bool true) ?_
      refine n_' ?_
      refine n_' ?_
      refine n_' ?_
      refine n_' ?_
      refine q_ (.bool true) ?_
      refine q_ (.bool true) ?_
      refine q_ (.bool true) ?_
      refine s_nil (k435 _ _ ?_)
      refine w_cond true (by kernel_rfl) rfl (fun _ => ?_) (fun h => by cases h)
      refine w_seqk fun _ k475 => ?_
      refine g_' ?_
      refine q_ (.bool false) ?_
      refine s_nil (k475 _ _ ?_)
      refine w_ret (bl_ret (bl_ret (th_ret (th_ret (bl_ret (th_ret (th_ret ?_)))))))
      obtain ⟨v476, hv477, hz478⟩ := map_some r474
      subst hz478
      obtain rfl := it_inr hn234
      have hq479 := elim_inl r213
      rw [hq479] at hv477
      refine b_ret (fn := Try.f4) (vs := [.bool false]) (aRes_tmp (by kernel_rfl) (rfl)) ?_
      obtain rfl := Option.some.inj hv477
      exact ⟨rfl, (FrS.step wf (FrS.step wf (FrS.step wf (FrS.step wf (FrS.step wf ((FrS.step wf (FrS.step wf (FrS.step wf (FrS.step wf ((FrS.refl (W := []) wf).extR e4) e14 Inn.nil) e25 Inn.nil) e195 Inn.nil) e222 (Inn.app (i199.fresh (ntr (ntr e4.next e14.next) e25.next)) (i198.fresh (ntr (ntr e4.next e14.next) e25.next)))).extR e247) e253 (hb248.fresh (ntr (ntr (ntr (ntr e4.next e14.next) e25.next) e195.next) e222.next))) e262 Inn.nil) e391 Inn.nil) e407 Inn.nil) e427 (Inn.app (i199.fresh (ntr (ntr e4.next e14.next) e25.next)) (Inn.trans (i198.fresh (ntr (ntr e4.next e14.next) e25.next)) (ntr (ntr (ntr e4.next e14.next) e25.next) e195.next) i228)))⟩
     have r480 := ite_f h447 r446
     refine q_ (.bool true) ?_
     refine n_' ?_
     refine n_' ?_
     refine n_' ?_
     refine n_' ?_
     refine n_' ?_
     refine q_ (.bool true) ?_
     refine q_ (.bool true) ?_
     refine n_' ?_
     refine n_' ?_
     refine n_' ?_
     refine n_' ?_
     refine q_ (.bool true) ?_
     refine q_ (.bool true) ?_
     refine q_ (.bool true) ?_
     refine s_nil (k435 _ _ ?_)
     refine w_cond true (by kernel_rfl) rfl (fun _ => ?_) (fun h => by cases h)
     refine w_seqk fun _ k481 => ?_
     refine g_' ?_
     refine q_ (.bool false) ?_
     refine s_nil (k481 _ _ ?_)
     refine w_ret (bl_ret (bl_ret (th_ret (th_ret (bl_ret (th_ret (th_ret ?_)))))))
     obtain ⟨v482, hv483, hz484⟩ := map_some r480
     subst hz484
     obtain rfl := it_inr hn234
     have hq485 := elim_inl r213
     rw [hq485] at hv483
     refine b_ret (fn := Try.f4) (vs := [.bool false]) (aRes_tmp (by kernel_rfl) (rfl)) ?_
     obtain rfl := Option.some.inj hv483
     exact ⟨rfl, (FrS.step wf (FrS.step wf (FrS.step wf (FrS.step wf (FrS.step wf ((FrS.step wf (FrS.step wf (FrS.step wf (FrS.step wf ((FrS.refl (W := []) wf).extR e4) e14 Inn.nil) e25 Inn.nil) e195 Inn.nil) e222 (Inn.app (i199.fresh (ntr (ntr e4.next e14.next) e25.next)) (i198.fresh (ntr (ntr e4.next e14.next) e25.next)))).extR e247) e253 (hb248.fresh (ntr (ntr (ntr (ntr e4.next e14.next) e25.next) e195.next) e222.next))) e262 Inn.nil) e391 Inn.nil) e407 Inn.nil) e427 (Inn.app (i199.fresh (ntr (ntr e4.next e14.next) e25.next)) (Inn.trans (i198.fresh (ntr (ntr e4.next e14.next) e25.next)) (ntr (ntr (ntr e4.next e14.next) e25.next) e195.next) i228)))⟩
    have r486 := ite_f h436 r422
    refine l_' (.bool true) (aBin Try.prog .neq 30 (.tmp 142) (.const .nilIface) (.iface t437 x438) .nilIface) (aBin_nnil (by kernel_rfl)) ?_
    refine q_ (.bool true) ?_
    refine q_ (pt_ b193 0) ?_
    obtain ⟨y487, hy488, r489⟩ := bind_some r486
    refine s_ck 18 #[pt_ b193 0] (by kernel_rfl) (c_overlay_Overlay_Arcs e427.wf m429 m430 hy488) ?_
    rintro _ _ ⟨rfl, rfl⟩
    refine q_ (i_ y266) ?_
    refine s_bn (y487 = y266) (by kernel_rfl) (fun h492 => ?_) (fun h492 => ?_)
    ·have r493 := ite_t h492 r489
     refine q_ (.bool false) ?_
     refine q_ (pt_ b193 0) ?_
     obtain ⟨y494, hy495, r496⟩ := bind_some r493
     refine s_ck 19 #[pt_ b193 0] (by kernel_rfl) (c_overlay_Overlay_Len e427.wf m429 m430 hy495) ?_
     rintro _ _ ⟨rfl, rfl⟩
     refine q_ (i_ y271) ?_
     refine s_bn (y494 = y271) (by kernel_rfl) (fun h499 => ?_) (fun h499 => ?_)
     ·have r500 := ite_t h499 r496
      refine q_ (.bool false) ?_
      refine q_ (.bool false) ?_
      refine q_ (.bool false) ?_
      refine q_ (.iface t437 x438) ?_
      refine l_' (.bool false) (aBin Try.prog .eql 30 (.tmp 157) (.const .nilIface) (.iface t437 x438) .nilIface) (aBin_nil (by kernel_rfl)) ?_
      refine q_ (.bool false) ?_
      refine n_' ?_
      refine n_' ?_
      refine n_' ?_
      refine n_' ?_
      refine n_' ?_
      refine n_' ?_
      refine n_' ?_
      refine n_' ?_
      refine n_' ?_
      refine n_' ?_
      refine n_' ?_
      refine n_' ?_
      refine n_' ?_
      refine n_' ?_
      refine n_' ?_
      refine n_' ?_
      refine n_' ?_
      refine n_' ?_
      refine n_' ?_
      refine q_ (.bool false) ?_
      refine q_ (.bool false) ?_
      refine s_nil (k435 _ _ ?_)
      refine w_cond false (by kernel_rfl) rfl (fun h => by cases h) (fun _ => ?_)
      refine w_skip ?_
      refine k240 _ _ ?_
      refine g_' ?_
      obtain ⟨g501, r502⟩ := G_some r500
      refine s_w ((i0 + 1)) (k := .i64) (x := (i0 + 1)) (by kernel_rfl) (wrap64 (by have := g501; omega)) ?_
      refine q_ (i_ (i0 + 1)) ?_
      refine s_nil ?_
      obtain rfl := Option.some.inj r502
      exact k235 n231 _ _ (Nat.lt_succ_self _) ⟨(i0 + 1), y420.2.1, y420.2.2.1, y420.2.2.2, f425, hn234, ha_, (FrS.step e195.wf (FrS.step e195.wf (FrS.step e195.wf (FrS.step e195.wf (FrS.step e195.wf ((FrS.step e195.wf (FrS.refl (W := ([b193] ++ f192)) e195.wf) e222 (Inn.app Inn.left (Inn.right Inn.refl'))).extR e247) e253 (hb248.fresh e222.next)) e262 Inn.nil) e391 Inn.nil) e407 Inn.nil) e427 (Inn.app Inn.left (Inn.trans (Inn.right Inn.refl') (Nat.le_refl _) i228))), m429, m430, (Inn.trans (Inn.trans Inn.refl' (Nat.le_refl _) i228) (ntr (ntr (ntr (ntr (ntr e222.next e247.next) e253.next) e262.next) e391.next) e407.next) i432)⟩
     have r503 := ite_f h499 r496
     refine q_ (.bool true) ?_
     refine q_ (.bool true) ?_
     refine q_ (.bool true) ?_
     refine n_' ?_
     refine n_' ?_
     refine n_' ?_
     refine n_' ?_
     refine n_' ?_
     refine n_' ?_
     refine n_' ?_
     refine n_' ?_
     refine n_' ?_
     refine n_' ?_
     refine n_' ?_
     refine n_' ?_
     refine n_' ?_
     refine n_' ?_
     refine n_' ?_
     refine n_' ?_
     refine n_' ?_
     refine n_' ?_
     refine n_' ?_
     refine n_' ?_
     refine n_' ?_
     refine n_' ?_
     refine n_' ?_
     refine q_ (.bool true) ?_
     refine s_nil (k435 _ _ ?_)
     refine w_cond true (by kernel_rfl) rfl (fun _ => ?_) (fun h => by cases h)
     refine w_seqk fun _ k504 => ?_
     refine g_' ?_
     refine q_ (.bool false) ?_
     refine s_nil (k504 _ _ ?_)
     refine w_ret (bl_ret (bl_ret (th_ret (th_ret (bl_ret (th_ret (th_ret ?_)))))))
     obtain ⟨v505, hv506, hz507⟩ := map_some r503
     subst hz507
     obtain rfl := it_inr hn234
     have hq508 := elim_inl r213
     rw [hq508] at hv506
     refine b_ret (fn := Try.f4) (vs := [.bool false]) (aRes_tmp (by kernel_rfl) (rfl)) ?_
     obtain rfl := Option.some.inj hv506
     exact ⟨rfl, (FrS.step wf (FrS.step wf (FrS.step wf (FrS.step wf (FrS.step wf ((FrS.step wf (FrS.step wf (FrS.step wf (FrS.step wf ((FrS.refl (W := []) wf).extR e4) e14 Inn.nil) e25 Inn.nil) e195 Inn.nil) e222 (Inn.app (i199.fresh (ntr (ntr e4.next e14.next) e25.next)) (i198.fresh (ntr (ntr e4.next e14.next) e25.next)))).extR e247) e253 (hb248.fresh (ntr (ntr (ntr (ntr e4.next e14.next) e25.next) e195.next) e222.next))) e262 Inn.nil) e391 Inn.nil) e407 Inn.nil) e427 (Inn.app (i199.fresh (ntr (ntr e4.next e14.next) e25.next)) (Inn.trans (i198.fresh (ntr (ntr e4.next e14.next) e25.next)) (ntr (ntr (ntr e4.next e14.next) e25.next) e195.next) i228)))⟩
    have r509 := ite_f h492 r489
    refine q_ (.bool true) ?_
    refine n_' ?_
    refine n_' ?_
    refine n_' ?_
    refine n_' ?_
    refine q_ (.bool true) ?_
    refine q_ (.bool true) ?_
    refine q_ (.bool true) ?_
    refine n_' ?_
    refine n_' ?_
    refine n_' ?_
    refine n_' ?_
    refine n_' ?_
    refine n_' ?_
    refine n_' ?_
    refine n_' ?_
    refine n_' ?_
    refine n_' ?_
    refine n_' ?_
    refine n_' ?_
    refine n_' ?_
    refine n_' ?_
    refine n_' ?_
    refine n_' ?_
    refine n_' ?_
    refine n_' ?_
    refine n_' ?_
    refine n_' ?_
    refine n_' ?_
    refine n_' ?_
    refine n_' ?_
    refine q_ (.bool true) ?_
    refine s_nil (k435 _ _ ?_)
    refine w_cond true (by kernel_rfl) rfl (fun _ => ?_) (fun h => by cases h)
    refine w_seqk fun _ k510 => ?_
    refine g_' ?_
    refine q_ (.bool false) ?_
    refine s_nil (k510 _ _ ?_)
    refine w_ret (bl_ret (bl_ret (th_ret (th_ret (bl_ret (th_ret (th_ret ?_)))))))
    obtain ⟨v511, hv512, hz513⟩ := map_some r509
    subst hz513
    obtain rfl := it_inr hn234
    have hq514 := elim_inl r213
    rw [hq514] at hv512
    refine b_ret (fn := Try.f4) (vs := [.bool false]) (aRes_tmp (by kernel_rfl) (rfl)) ?_
    obtain rfl := Option.some.inj hv512
    exact ⟨rfl, (FrS.step wf (FrS.step wf (FrS.step wf (FrS.step wf (FrS.step wf ((FrS.step wf (FrS.step wf (FrS.step wf (FrS.step wf ((FrS.refl (W := []) wf).extR e4) e14 Inn.nil) e25 Inn.nil) e195 Inn.nil) e222 (Inn.app (i199.fresh (ntr (ntr e4.next e14.next) e25.next)) (i198.fresh (ntr (ntr e4.next e14.next) e25.next)))).extR e247) e253 (hb248.fresh (ntr (ntr (ntr (ntr e4.next e14.next) e25.next) e195.next) e222.next))) e262 Inn.nil) e391 Inn.nil) e407 Inn.nil) e427 (Inn.app (i199.fresh (ntr (ntr e4.next e14.next) e25.next)) (Inn.trans (i198.fresh (ntr (ntr e4.next e14.next) e25.next)) (ntr (ntr (ntr e4.next e14.next) e25.next) e195.next) i228)))⟩
   have r515 := ite_f h382 r380
   refine w_skip ?_
   refine k240 _ _ ?_
   refine g_' ?_
   obtain ⟨g516, r517⟩ := G_some r515
   refine s_w ((i0 + 1)) (k := .i64) (x := (i0 + 1)) (by kernel_rfl) (wrap64 (by have := g516; omega)) ?_
   refine q_ (i_ (i0 + 1)) ?_
   refine s_nil ?_
   obtain rfl := Option.some.inj r517
   exact k235 n231 _ _ (Nat.lt_succ_self _) ⟨(i0 + 1), o1, o2, o3, f225, hn234, ha_, (FrS.step e195.wf (FrS.step e195.wf ((FrS.step e195.wf (FrS.refl (W := ([b193] ++ f192)) e195.wf) e222 (Inn.app Inn.left (Inn.right Inn.refl'))).extR e247) e253 (hb248.fresh e222.next)) e262 Inn.nil), u264, u265, (Inn.trans Inn.refl' (Nat.le_refl _) i228)⟩
  have r518 := ite_f h238 hz233
  refine w_exit (th_exit (th_exit (bl_eq ?_)))
  obtain rfl := Option.some.inj r518
  obtain rfl := it_inr hn234
  exact k217 _ _ ⟨_, rfl, trivial, (FrS.step e195.wf (FrS.refl (W := ([b193] ++ f192)) e195.wf) e222 (Inn.app Inn.left (Inn.right Inn.refl')))⟩
 obtain ⟨o211, rfl, hh218, e216⟩ := hM
 have r519 := elim_inr r213
 obtain ⟨β, rfl⟩ := has_ex hh218
 clear hh218
 refine k208 _ _ ?_
 refine w_seqk fun _ k520 => ?_
 refine g_' ?_
 refine q_ (.bool true) ?_
 refine s_nil (k520 _ _ ?_)
 refine w_ret ?_
 refine b_ret (fn := Try.f4) (vs := [.bool true]) (aRes_tmp (by kernel_rfl) (rfl)) ?_
 obtain rfl := Option.some.inj r519
 exact ⟨rfl, (FrS.step wf (FrS.step wf (FrS.step wf (FrS.step wf ((FrS.refl (W := []) wf).extR e4) e14 Inn.nil) e25 Inn.nil) e195 Inn.nil) e216 (Inn.app (i199.fresh (ntr (ntr e4.next e14.next) e25.next)) (i198.fresh (ntr (ntr e4.next e14.next) e25.next))))⟩


end Go.Vd
