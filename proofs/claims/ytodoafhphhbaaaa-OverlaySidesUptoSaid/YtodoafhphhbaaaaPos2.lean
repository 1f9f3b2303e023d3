/- The walks of the functions (printed by a program of ours). -/
import Derived.Test.YtodoafhphhbaaaaPos1
import Derived.Test.YtodoafhphhbaaaaPosVeC
import Derived.Test.YtodoafhphhbaaaaPosIOs
import Derived.Test.YtodoafhphhbaaaaPosVeN
import Derived.Test.YtodoafhphhbaaaaPosVeM
import Derived.Test.YtodoafhphhbaaaaPosVeG
import Derived.Test.YtodoafhphhbaaaaPosSoA
import Derived.Test.YtodoafhphhbaaaaPosVeV
set_option linter.unusedVariables false
set_option linter.unusedSimpArgs false
set_option linter.unusedSectionVars false
/-! (KOs4) -/

set_option maxRecDepth 100000
set_option maxHeartbeats 4000000
set_option linter.unusedVariables false
namespace Go.Vd
open Go.Proofs
attribute [local irreducible] wpSeq wpOrd aWp
theorem c_viaductlaw11_OverlaySides {H : AH} {hd_Arcs : Value} {fp_Arcs : Fp} {hd_script : Value} {fp_script : Fp} {N_ : Int} {Arcs : List (Int × Int × Int)} {script : List (Int × Int × Int × Int × Int)} {r : Bool}
    (wf : WF H) (h_Arcs : Sq enc_i64_i64_i64 3 H hd_Arcs Arcs fp_Arcs) (h_script : Sq enc_u8_i64_i64_u64_i64 5 H hd_script script fp_script) (hr : z_viaductlaw11_OverlaySides N_ Arcs script = some r) :
    ACalls Try.prog 3 #[.agg #[i_ N_, hd_Arcs], hd_script] H fun v H' => v = .bool r ∧ FrS [] H H' := by
 refine acalls_of_body mixed Try.func3 rfl (Nat.le_of_ble_eq_true rfl) ?_
 unfold z_viaductlaw11_OverlaySides at hr
 refine w_seqk fun _ k1 => ?_
 refine g_' ?_
 refine s_rwl wf [i_ N_, hd_Arcs] (one_cons (rfl) (one_cons (h_Arcs.one1) (one_nil))) (by kernel_rfl) fun b2 H3 e4 hb5 r6 => ?_
 refine q_ (.bool false) ?_
 refine s_nil (k1 _ _ ?_)
 refine w_seqk fun _ k8 => ?_
 refine w_seqk fun _ k9 => ?_
 refine g_' ?_
 obtain ⟨y10, hy11, r12⟩ := bind_some hr
 refine s_ck 9 #[] (by kernel_rfl) (c_viaductlaw11_awake e4.wf hy11) ?_
 rintro _ H13 ⟨rfl, e14⟩
 refine q_ (.bool (!y10)) ?_
 refine s_nil (k9 _ _ ?_)
 refine w_cond ((!y10)) (by kernel_rfl) rfl (fun h15 => ?_) (fun h15 => ?_)
 ·have r16 := ite_t h15 r12
  refine w_seqk fun _ k17 => ?_
  refine g_' ?_
  refine q_ (.bool false) ?_
  refine s_nil (k17 _ _ ?_)
  refine w_ret (th_ret ?_)
  refine b_ret (fn := Try.f3) (vs := [.bool false]) (aRes_tmp (by kernel_rfl) (rfl)) ?_
  obtain rfl := Option.some.inj r16
  exact ⟨rfl, (FrS.step wf ((FrS.refl (W := []) wf).extR e4) e14 Inn.nil)⟩
 have r18 := ite_bf h15 r12
 refine w_skip ?_
 refine k8 _ _ ?_
 refine w_seqk fun _ k19 => ?_
 refine w_seqk fun _ k20 => ?_
 obtain ⟨o21, hx22, r23⟩ := bind_some r18
 refine w_mid (fun α H24 => Has α [(1, hd_script), (2, pt_ b2 0), (34, .bool o21)] ∧ FrS [] H13 H24) (fun _ k26 => ?_) (fun α H24 hM => ?_)
 ·refine g_' ?_
  have u28 := (r6.frS e14 Dj.nil_l)
  refine l_' (.agg #[i_ N_, hd_Arcs]) (aLoad Try.prog 24 (pt_ b2 0) H13) (u28.ld (by kernel_rfl)) ?_
  have u29 := ((h_Arcs.ext e4).fr e14 Dj.nil_l)
  obtain ⟨y30, hy31, r32⟩ := bind_some hx22
  refine s_ck 10 #[.agg #[i_ N_, hd_Arcs], i_ 30] (by kernel_rfl) (c_viaductref04_Few e14.wf u29 hy31) ?_
  rintro _ H33 ⟨rfl, e34⟩
  by_cases h35 : y30 = true
  ·have r36 := ite_t h35 r32
   rw [h35]
   refine q_ (.bool false) ?_
   refine q_ (.bool false) ?_
   refine q_ (hd_script) ?_
   have u38 := (((h_script.ext e4).fr e14 Dj.nil_l).fr e34 Dj.nil_l)
   refine l_' (i_ (script.length : Int)) (aLen Try.prog 25 hd_script H33) (u38.lenb (by kernel_rfl)) ?_
   refine q_ (.bool (decide ((script.length : Int) > 300))) ?_
   refine q_ (.bool (decide ((script.length : Int) > 300))) ?_
   refine s_nil ?_
   obtain rfl := Option.some.inj r36
   exact k26 _ _ ⟨ha_, (FrS.step e14.wf (FrS.refl (W := []) e14.wf) e34 Inn.nil)⟩
  have r39 := ite_f h35 r32
  rw [nb h35]
  refine q_ (.bool true) ?_
  refine q_ (.bool true) ?_
  refine n_' ?_
  refine n_' ?_
  refine n_' ?_
  refine q_ (.bool true) ?_
  refine s_nil ?_
  obtain rfl := Option.some.inj r39
  exact k26 _ _ ⟨ha_, (FrS.step e14.wf (FrS.refl (W := []) e14.wf) e34 Inn.nil)⟩
 obtain ⟨hh27, e25⟩ := hM
 obtain ⟨β, rfl⟩ := has_ex hh27
 clear hh27
 refine k20 _ _ ?_
 refine w_cond (o21) (by kernel_rfl) rfl (fun h41 => ?_) (fun h41 => ?_)
 ·have r42 := ite_t h41 r23
  refine w_seqk fun _ k43 => ?_
  refine g_' ?_
  refine q_ (.bool true) ?_
  refine s_nil (k43 _ _ ?_)
  refine w_ret (th_ret ?_)
  refine b_ret (fn := Try.f3) (vs := [.bool true]) (aRes_tmp (by kernel_rfl) (rfl)) ?_
  obtain rfl := Option.some.inj r42
  exact ⟨rfl, (FrS.step wf (FrS.step wf ((FrS.refl (W := []) wf).extR e4) e14 Inn.nil) e25 Inn.nil)⟩
 have r44 := ite_bf h41 r23
 refine w_skip ?_
 refine k19 _ _ ?_
 refine w_seqk fun _ k45 => ?_
 refine g_' ?_
 have u46 := ((r6.frS e14 Dj.nil_l).frS e25 Dj.nil_l)
 refine l_' (.agg #[i_ N_, hd_Arcs]) (aLoad Try.prog 24 (pt_ b2 0) H24) (u46.ld (by kernel_rfl)) ?_
 have u47 := (((h_Arcs.ext e4).fr e14 Dj.nil_l).fr e25 Dj.nil_l)
 obtain ⟨y48, hy49, r50⟩ := bind_some r44
 rcases y48 with y51 | y52
 ·have r53 := elim_l r50
  refine s_ck 11 #[.agg #[i_ N_, hd_Arcs]] (by kernel_rfl) (c_overlay_New e25.wf u47 hy49) ?_
  rintro _ H56 ⟨v54, f55, rfl, e57, m58, i59⟩
  refine q_ (.tuple #[.pointer none, v54]) ?_
  refine q_ (.pointer none) ?_
  refine q_ (v54) ?_
  refine q_ (.pointer none) ?_
  refine q_ (v54) ?_
  refine s_nil (k45 _ _ ?_)
  refine w_seqk fun _ k61 => ?_
  refine w_seqk fun _ k62 => ?_
  refine g_' ?_
  refine q_ (v54) ?_
  rcases (m58).cases with ⟨h63, rfl⟩ | ⟨h63, t64, x65, rfl⟩
  ·have r66 := ite_t h63 r53
   refine q_ (.bool false) ?_
   refine s_nil (k62 _ _ ?_)
   refine w_cond false (by kernel_rfl) rfl (fun h => by cases h) (fun _ => ?_)
   refine w_skip ?_
   refine k61 _ _ ?_
   refine w_seqk fun _ k67 => ?_
   refine w_seqk fun _ k68 => ?_
   refine g_' ?_
   refine q_ (hd_script) ?_
   have u69 := ((((h_script.ext e4).fr e14 Dj.nil_l).fr e25 Dj.nil_l).fr e57 Dj.nil_l)
   refine l_' (i_ (script.length : Int)) (aLen Try.prog 25 hd_script H56) (u69.lenb (by kernel_rfl)) ?_
   refine q_ (i_ 0) ?_
   refine s_nil (k68 _ _ ?_)
   obtain ⟨o70, hx71, r72⟩ := bind_some r66
   refine w_mid (fun α H73 => Has α [(2, pt_ b2 0), (5, .pointer none)] ∧ FrS [] H56 H73) (fun _ k75 => ?_) (fun α H73 hM => ?_)
   ·refine w_block ?_
    obtain ⟨n77, hn78⟩ := loopO_iff.1 hx71
    refine w_loopn (fun n α H79 => ∃ (i0 : Int), iterO (fun zz_ => z_viaductlaw11_OverlaySides_l0 script zz_) n i0 = some o70 ∧ Has α [(2, pt_ b2 0), (5, .pointer none), (42, hd_script), (43, i_ (script.length : Int)), (44, i_ i0)] ∧ FrS [] H56 H79) n77 ⟨0, hn78, ha_, (FrS.refl (W := []) e57.wf)⟩ ?_
    rintro n77 α H79 ⟨i0, hi82, hh81, e80⟩ K87 k87
    obtain ⟨n83, z84, rfl, hz85, hn86⟩ := iter_succ hi82
    obtain ⟨β, rfl⟩ := has_ex hh81
    clear hh81
    replace hz85 : z_viaductlaw11_OverlaySides_l0 script i0 = some z84 := hz85
    unfold z_viaductlaw11_OverlaySides_l0 at hz85
    refine w_seqk fun _ k88 => ?_
    refine g_' ?_
    refine q_ (.bool (decide (i0 < (script.length : Int)))) ?_
    refine s_nil (k88 _ _ ?_)
    refine w_seqk fun _ k89 => ?_
    refine w_condp (i0 < (script.length : Int)) (by kernel_rfl) rfl (fun h90 => ?_) (fun h90 => ?_)
    ·have r91 := ite_t h90 hz85
     refine w_skip ?_
     refine k89 _ _ ?_
     refine w_seqk fun _ k92 => ?_
     refine w_block ?_
     refine w_seqk fun _ k93 => ?_
     refine g_' ?_
     obtain ⟨g94, r95⟩ := G_some r91
     have u96 := (u69.fr e80 Dj.nil_l)
     refine l_' (elp hd_script 5 i0.toNat 0) (aIndexAddr Try.prog 25 hd_script (i_ i0)) (u96.idxb (by kernel_rfl) g94 h90) ?_
     refine l_' (.agg #[.int .u8 ((gt script i0).1), i_ ((gt script i0).2.1), i_ ((gt script i0).2.2.1), .int .u64 ((gt script i0).2.2.2.1), i_ ((gt script i0).2.2.2.2)]) (aLoad Try.prog 35 (elp hd_script 5 i0.toNat 0) H79) (u96.ld g94 h90 (by kernel_rfl)) ?_
     refine s_rwk e80.wf [.int .u8 0, i_ 0, i_ 0, .int .u64 0, i_ 0] (by kernel_rfl) fun b97 H98 e99 hb100 r101 => ?_
     obtain ⟨H103, q104, e105, r106⟩ := Row.store (P := Try.prog) (t := 35) (p := 0) e99.wf r101 (.agg #[.int .u8 ((gt script i0).1), i_ ((gt script i0).2.1), i_ ((gt script i0).2.2.1), .int .u64 ((gt script i0).2.2.2.1), i_ ((gt script i0).2.2.2.2)]) [.int .u8 ((gt script i0).1), i_ ((gt script i0).2.1), i_ ((gt script i0).2.2.1), .int .u64 ((gt script i0).2.2.2.1), i_ ((gt script i0).2.2.2.2)] (by kernel_rfl) (by kernel_rfl) (one_cons (rfl) (one_cons (rfl) (one_cons (rfl) (one_cons (rfl) (one_cons (rfl) (one_nil)))))) (Nat.le_of_ble_eq_true (by kernel_rfl)) [.int .u8 ((gt script i0).1), i_ ((gt script i0).2.1), i_ ((gt script i0).2.2.1), .int .u64 ((gt script i0).2.2.2.1), i_ ((gt script i0).2.2.2.2)] (by kernel_rfl)
     refine s_ek (undef) (by kernel_rfl) (map_ok q104) ?_
     refine s_nil (k93 _ _ ?_)
     refine w_seqk fun _ k107 => ?_
     refine w_seqk fun _ k108 => ?_
     refine g_' ?_
     refine q_ (pt_ b97 0) ?_
     refine l_' (.int .u8 ((gt script i0).1)) (aLoad Try.prog 5 (pt_ b97 0) H103) (r106.ld (by kernel_rfl)) ?_
     refine q_ (.bool (decide (((gt script i0).1) = 1))) ?_
     refine s_nil (k108 _ _ ?_)
     obtain ⟨o109, hx110, r111⟩ := bind_some r95
     refine w_mid (fun α H112 => Has α [(2, pt_ b2 0), (5, .pointer none), (8, pt_ b97 0), (42, hd_script), (43, i_ (script.length : Int)), (44, i_ i0)] ∧ H103 = H112) (fun _ k114 => ?_) (fun α H112 hM => ?_)
     ·refine w_condp (((gt script i0).1) = 1) (by kernel_rfl) rfl (fun h116 => ?_) (fun h116 => ?_)
      ·have r117 := ite_t h116 hx110
       refine g_' ?_
       refine q_ (.pointer none) ?_
       refine q_ (pt_ b97 1) ?_
       refine l_' (i_ ((gt script i0).2.1)) (aLoad Try.prog 3 (pt_ b97 1) H103) (r106.ld (by kernel_rfl)) ?_
       refine q_ (pt_ b97 2) ?_
       refine l_' (i_ ((gt script i0).2.2.1)) (aLoad Try.prog 3 (pt_ b97 2) H103) (r106.ld (by kernel_rfl)) ?_
       refine q_ (pt_ b97 3) ?_
       refine l_' (.int .u64 ((gt script i0).2.2.2.1)) (aLoad Try.prog 33 (pt_ b97 3) H103) (r106.ld (by kernel_rfl)) ?_
       refine q_ (pt_ b97 4) ?_
       refine l_' (i_ ((gt script i0).2.2.2.2)) (aLoad Try.prog 3 (pt_ b97 4) H103) (r106.ld (by kernel_rfl)) ?_
       obtain ⟨y118, hy119, r120⟩ := bind_some r117
       refine s_ck 12 #[.pointer none, i_ ((gt script i0).2.1), i_ ((gt script i0).2.2.1), .int .u64 ((gt script i0).2.2.2.1), i_ ((gt script i0).2.2.2.2)] (by kernel_rfl) (c_overlay_Overlay_Put_1 e105.wf hy119) ?_
       rintro _ _ ⟨rfl, rfl⟩
       refine s_nil ?_
       obtain rfl := Option.some.inj r120
       exact k114 _ _ ⟨ha_, rfl⟩
      have r123 := ite_f h116 hx110
      refine w_skip ?_
      obtain rfl := Option.some.inj r123
      exact k114 _ _ ⟨ha_, rfl⟩
     obtain ⟨hh115, rfl⟩ := hM
     obtain ⟨β, rfl⟩ := has_ex hh115
     clear hh115
     refine k107 _ _ ?_
     refine w_seqk fun _ k124 => ?_
     refine g_' ?_
     refine q_ (pt_ b97 0) ?_
     refine l_' (.int .u8 ((gt script i0).1)) (aLoad Try.prog 5 (pt_ b97 0) H103) (r106.ld (by kernel_rfl)) ?_
     refine q_ (.bool (decide (((gt script i0).1) = 2))) ?_
     refine s_nil (k124 _ _ ?_)
     refine w_condp (((gt script i0).1) = 2) (by kernel_rfl) rfl (fun h125 => ?_) (fun h125 => ?_)
     ·have r126 := ite_t h125 r111
      refine g_' ?_
      refine q_ (.pointer none) ?_
      refine q_ (pt_ b97 1) ?_
      refine l_' (i_ ((gt script i0).2.1)) (aLoad Try.prog 3 (pt_ b97 1) H103) (r106.ld (by kernel_rfl)) ?_
      obtain ⟨y127, hy128, r129⟩ := bind_some r126
      refine s_ck 13 #[.pointer none, i_ ((gt script i0).2.1)] (by kernel_rfl) (c_overlay_Overlay_Remove_1 e105.wf hy128) ?_
      rintro _ _ ⟨rfl, rfl⟩
      refine s_nil (k92 _ _ ?_)
      refine g_' ?_
      obtain ⟨g132, r133⟩ := G_some r129
      refine s_w ((i0 + 1)) (k := .i64) (x := (i0 + 1)) (by kernel_rfl) (wrap64 (by have := g132; omega)) ?_
      refine q_ (i_ (i0 + 1)) ?_
      refine s_nil ?_
      obtain rfl := Option.some.inj r133
      exact k87 n83 _ _ (Nat.lt_succ_self _) ⟨(i0 + 1), hn86, ha_, (FrS.step e57.wf ((FrS.step e57.wf (FrS.refl (W := []) e57.wf) e80 Inn.nil).extR e99) e105 (hb100.fresh e80.next))⟩
     have r134 := ite_f h125 r111
     refine w_skip ?_
     refine k92 _ _ ?_
     refine g_' ?_
     obtain ⟨g135, r136⟩ := G_some r134
     refine s_w ((i0 + 1)) (k := .i64) (x := (i0 + 1)) (by kernel_rfl) (wrap64 (by have := g135; omega)) ?_
     refine q_ (i_ (i0 + 1)) ?_
     refine s_nil ?_
     obtain rfl := Option.some.inj r136
     exact k87 n83 _ _ (Nat.lt_succ_self _) ⟨(i0 + 1), hn86, ha_, (FrS.step e57.wf ((FrS.step e57.wf (FrS.refl (W := []) e57.wf) e80 Inn.nil).extR e99) e105 (hb100.fresh e80.next))⟩
    have r137 := ite_f h90 hz85
    refine w_exit (th_exit (th_exit (bl_eq ?_)))
    obtain rfl := Option.some.inj r137
    obtain rfl := it_inr hn86
    exact k75 _ _ ⟨ha_, (FrS.step e57.wf (FrS.refl (W := []) e57.wf) e80 Inn.nil)⟩
   obtain ⟨hh76, e74⟩ := hM
   obtain ⟨β, rfl⟩ := has_ex hh76
   clear hh76
   refine k67 _ _ ?_
   refine w_seqk fun _ k138 => ?_
   refine g_' ?_
   refine q_ (i_ 0) ?_
   refine q_ (i_ 0) ?_
   refine s_nil (k138 _ _ ?_)
   refine w_seqk fun _ k139 => ?_
   refine w_seqk fun _ k140 => ?_
   refine g_' ?_
   refine q_ (pt_ b2 0) ?_
   have u141 := ((u46.frS e57 Dj.nil_l).frS e74 Dj.nil_l)
   refine l_' (i_ N_) (aLoad Try.prog 3 (pt_ b2 0) H73) (u141.ld (by kernel_rfl)) ?_
   refine q_ (i_ 0) ?_
   refine s_nil (k140 _ _ ?_)
   obtain ⟨o142, hx143, r144⟩ := bind_some r72
   refine w_mid (fun α H145 => Has α [(5, .pointer none), (9, i_ 0), (10, i_ 0)] ∧ H73 = H145) (fun _ k147 => ?_) (fun α H145 hM => ?_)
   ·refine w_block ?_
    obtain ⟨n149, hn150⟩ := loopO_iff.1 hx143
    refine w_loopn (fun n α H151 => ∃ (i1 : Int), iterO (fun zz_ => z_viaductlaw11_OverlaySides_l2 N_ zz_) n i1 = some o142 ∧ Has α [(5, .pointer none), (9, i_ 0), (10, i_ 0), (70, i_ N_), (71, i_ i1)] ∧ H73 = H151) n149 ⟨0, hn150, ha_, rfl⟩ ?_
    rintro n149 α H151 ⟨i1, hi154, hh153, rfl⟩ K159 k159
    obtain ⟨n155, z156, rfl, hz157, hn158⟩ := iter_succ hi154
    obtain ⟨β, rfl⟩ := has_ex hh153
    clear hh153
    replace hz157 : z_viaductlaw11_OverlaySides_l2 N_ i1 = some z156 := hz157
    unfold z_viaductlaw11_OverlaySides_l2 at hz157
    refine w_seqk fun _ k160 => ?_
    refine g_' ?_
    refine q_ (.bool (decide (i1 < N_))) ?_
    refine s_nil (k160 _ _ ?_)
    refine w_seqk fun _ k161 => ?_
    refine w_condp (i1 < N_) (by kernel_rfl) rfl (fun h162 => ?_) (fun h162 => ?_)
    ·have r163 := ite_t h162 hz157
     refine w_skip ?_
     refine k161 _ _ ?_
     refine w_seqk fun _ k164 => ?_
     refine w_block ?_
     refine w_seqk fun _ k165 => ?_
     refine g_' ?_
     refine q_ (i_ i1) ?_
     refine q_ (i_ i1) ?_
     refine s_nil (k165 _ _ ?_)
     refine w_seqk fun _ k166 => ?_
     refine g_' ?_
     refine q_ (.pointer none) ?_
     refine q_ (i_ i1) ?_
     obtain ⟨y167, hy168, r169⟩ := bind_some r163
     refine s_ck 14 #[.pointer none, i_ i1] (by kernel_rfl) (c_overlay_Overlay_Out_1 e74.wf hy168) ?_
     rintro _ _ ⟨rfl, rfl⟩
     refine q_ (.pointer none) ?_
     refine q_ (i_ i1) ?_
     obtain ⟨y172, hy173, r174⟩ := bind_some r169
     refine s_ck 15 #[.pointer none, i_ i1] (by kernel_rfl) (c_overlay_Overlay_In_1 e74.wf hy173) ?_
     rintro _ _ ⟨rfl, rfl⟩
     refine q_ (.slice none 0 0) ?_
     refine q_ (.slice none 0 0) ?_
     refine s_nil (k166 _ _ ?_)
     refine w_seqk fun _ k177 => ?_
     refine w_seqk fun _ k178 => ?_
     refine g_' ?_
     refine q_ (.pointer none) ?_
     refine q_ (i_ i1) ?_
     obtain ⟨y179, hy180, r181⟩ := bind_some r174
     refine s_ck 16 #[.pointer none, i_ i1] (by kernel_rfl) (c_overlay_Overlay_Alive_1 e74.wf hy180) ?_
     rintro _ _ ⟨rfl, rfl⟩
     refine s_nil (k178 _ _ ?_)
     refine w_cond false (by kernel_rfl) rfl (fun h => by cases h) (fun _ => ?_)
     refine w_seqk fun _ k184 => ?_
     refine g_' ?_
     refine q_ (.slice none 0 0) ?_
     refine q_ (i_ 0) ?_
     refine q_ (.slice none 0 0) ?_
     refine q_ (i_ 0) ?_
     refine q_ (i_ 0) ?_
     refine q_ (.bool false) ?_
     refine s_nil (k184 _ _ ?_)
     refine w_cond false (by kernel_rfl) rfl (fun h => by cases h) (fun _ => ?_)
     refine w_skip ?_
     refine k177 _ _ ?_
     refine w_seqk fun _ k185 => ?_
     refine g_' ?_
     refine q_ (i_ 0) ?_
     refine q_ (.slice none 0 0) ?_
     refine q_ (i_ 0) ?_
     refine q_ (i_ 0) ?_
     refine q_ (i_ 0) ?_
     refine s_nil (k185 _ _ ?_)
     refine w_seqk fun _ k186 => ?_
     refine w_seqk fun _ k187 => ?_
     refine g_' ?_
     refine q_ (.slice none 0 0) ?_
     refine q_ (i_ 0) ?_
     refine q_ (i_ 0) ?_
     refine s_nil (k187 _ _ ?_)
     obtain ⟨o188, hx189, r190⟩ := bind_some r181
     refine w_mid (fun α H191 => Has α [(5, .pointer none), (9, i_ 0), (10, i_ 0), (11, i_ i1), (13, .slice none 0 0), (70, i_ N_), (71, i_ i1)] ∧ H73 = H191) (fun _ k193 => ?_) (fun α H191 hM => ?_)
     ·refine w_block ?_
      obtain ⟨n195, hn196⟩ := loopO_iff.1 hx189
      refine w_loopn (fun n α H197 => iterO (fun _ : Unit => z_viaductlaw11_OverlaySides_l1) n () = some o188 ∧ Has α [(5, .pointer none), (9, i_ 0), (10, i_ 0), (11, i_ i1), (12, .slice none 0 0), (13, .slice none 0 0), (70, i_ N_), (71, i_ i1), (95, .slice none 0 0), (96, i_ 0), (97, i_ 0)] ∧ H73 = H197) n195 ⟨hn196, ha_, rfl⟩ ?_
      rintro n195 α H197 ⟨hi200, hh199, rfl⟩ K205 k205
      obtain ⟨n201, z202, rfl, hz203, hn204⟩ := iter_succ hi200
      obtain ⟨β, rfl⟩ := has_ex hh199
      clear hh199
      replace hz203 : z_viaductlaw11_OverlaySides_l1 = some z202 := hz203
      unfold z_viaductlaw11_OverlaySides_l1 at hz203
      refine w_seqk fun _ k206 => ?_
      refine g_' ?_
      refine q_ (.bool false) ?_
      refine s_nil (k206 _ _ ?_)
      refine w_seqk fun _ k207 => ?_
      refine w_cond false (by kernel_rfl) rfl (fun h => by cases h) (fun _ => ?_)
      refine w_exit (th_exit (th_exit (bl_eq ?_)))
      obtain rfl := Option.some.inj hz203
      obtain rfl := it_inr hn204
      exact k193 _ _ ⟨ha_, rfl⟩
     obtain ⟨hh194, rfl⟩ := hM
     obtain ⟨β, rfl⟩ := has_ex hh194
     clear hh194
     refine k186 _ _ ?_
     refine w_seqk fun _ k208 => ?_
     refine g_' ?_
     refine q_ (.slice none 0 0) ?_
     refine q_ (i_ 0) ?_
     refine q_ (i_ 0) ?_
     refine s_nil (k208 _ _ ?_)
     obtain ⟨o209, hx210, r211⟩ := bind_some r190
     refine w_mid (fun α H212 => Has α [(5, .pointer none), (9, i_ 0), (10, i_ 0), (70, i_ N_), (71, i_ i1)] ∧ H73 = H212) (fun _ k214 => ?_) (fun α H212 hM => ?_)
     ·refine w_block ?_
      obtain ⟨n216, hn217⟩ := loopO_iff.1 hx210
      refine w_loopn (fun n α H218 => iterO (fun _ : Unit => z_viaductlaw11_OverlaySides_l1) n () = some o209 ∧ Has α [(5, .pointer none), (9, i_ 0), (10, i_ 0), (11, i_ i1), (13, .slice none 0 0), (70, i_ N_), (71, i_ i1), (180, .slice none 0 0), (181, i_ 0), (182, i_ 0)] ∧ H73 = H218) n216 ⟨hn217, ha_, rfl⟩ ?_
      rintro n216 α H218 ⟨hi221, hh220, rfl⟩ K226 k226
      obtain ⟨n222, z223, rfl, hz224, hn225⟩ := iter_succ hi221
      obtain ⟨β, rfl⟩ := has_ex hh220
      clear hh220
      replace hz224 : z_viaductlaw11_OverlaySides_l1 = some z223 := hz224
      unfold z_viaductlaw11_OverlaySides_l1 at hz224
      refine w_seqk fun _ k227 => ?_
      refine g_' ?_
      refine q_ (.bool false) ?_
      refine s_nil (k227 _ _ ?_)
      refine w_seqk fun _ k228 => ?_
      refine w_cond false (by kernel_rfl) rfl (fun h => by cases h) (fun _ => ?_)
      refine w_exit (th_exit (th_exit (bl_eq ?_)))
      obtain rfl := Option.some.inj hz224
      obtain rfl := it_inr hn225
      exact k214 _ _ ⟨ha_, rfl⟩
     obtain ⟨hh215, rfl⟩ := hM
     obtain ⟨β, rfl⟩ := has_ex hh215
     clear hh215
     refine k164 _ _ ?_
     refine g_' ?_
     obtain ⟨g229, r230⟩ := G_some r211
     refine s_w ((i1 + 1)) (k := .i64) (x := (i1 + 1)) (by kernel_rfl) (wrap64 g229) ?_
     refine q_ (i_ (i1 + 1)) ?_
     refine s_nil ?_
     obtain rfl := Option.some.inj r230
     exact k159 n155 _ _ (Nat.lt_succ_self _) ⟨(i1 + 1), hn158, ha_, rfl⟩
    have r231 := ite_f h162 hz157
    refine w_exit (th_exit (th_exit (bl_eq ?_)))
    obtain rfl := Option.some.inj r231
    obtain rfl := it_inr hn158
    exact k147 _ _ ⟨ha_, rfl⟩
   obtain ⟨hh148, rfl⟩ := hM
   obtain ⟨β, rfl⟩ := has_ex hh148
   clear hh148
   refine k139 _ _ ?_
   refine w_seqk fun _ k232 => ?_
   refine g_' ?_
   refine q_ (i_ 0) ?_
   refine q_ (.pointer none) ?_
   obtain ⟨y233, hy234, r235⟩ := bind_some r144
   refine s_ck 18 #[.pointer none] (by kernel_rfl) (c_overlay_Overlay_Arcs_1 e74.wf hy234) ?_
   rintro _ _ ⟨rfl, rfl⟩
   refine q_ (.bool true) ?_
   refine q_ (.bool true) ?_
   refine q_ (i_ 0) ?_
   refine q_ (.pointer none) ?_
   obtain ⟨y238, hy239, r240⟩ := bind_some r235
   refine s_ck 19 #[.pointer none] (by kernel_rfl) (c_overlay_Overlay_Len_1 e74.wf hy239) ?_
   rintro _ _ ⟨rfl, rfl⟩
   refine q_ (.bool true) ?_
   refine q_ (.bool true) ?_
   refine q_ (.bool true) ?_
   refine s_nil (k232 _ _ ?_)
   refine w_ret ?_
   refine b_ret (fn := Try.f3) (vs := [.bool true]) (aRes_tmp (by kernel_rfl) (rfl)) ?_
   obtain rfl := Option.some.inj r240
   exact ⟨rfl, (FrS.step wf (FrS.step wf (FrS.step wf (FrS.step wf ((FrS.refl (W := []) wf).extR e4) e14 Inn.nil) e25 Inn.nil) e57 Inn.nil) e74 Inn.nil)⟩
  have r243 := ite_f h63 r53
  refine l_' (.bool true) (aBin Try.prog .neq 30 (.tmp 40) (.const .nilIface) (.iface t64 x65) .nilIface) (aBin_nnil (by kernel_rfl)) ?_
  refine s_nil (k62 _ _ ?_)
  refine w_cond true (by kernel_rfl) rfl (fun _ => ?_) (fun h => by cases h)
  refine w_seqk fun _ k244 => ?_
  refine g_' ?_
  refine q_ (.bool false) ?_
  refine s_nil (k244 _ _ ?_)
  refine w_ret (th_ret ?_)
  refine b_ret (fn := Try.f3) (vs := [.bool false]) (aRes_tmp (by kernel_rfl) (rfl)) ?_
  obtain rfl := Option.some.inj r243
  exact ⟨rfl, (FrS.step wf (FrS.step wf (FrS.step wf ((FrS.refl (W := []) wf).extR e4) e14 Inn.nil) e25 Inn.nil) e57 Inn.nil)⟩
 have r245 := elim_r r50
 refine s_ck 11 #[.agg #[i_ N_, hd_Arcs]] (by kernel_rfl) (c_overlay_New e25.wf u47 hy49) ?_
 rintro _ H249 ⟨s246, f247, b248, rfl, e250, m251, m252, i253, i254, d255⟩
 obtain ⟨a258, n259, c260, rfl⟩ := m251.form
 refine q_ (.tuple #[pt_ b248 0, .nilIface]) ?_
 refine q_ (pt_ b248 0) ?_
 refine q_ (.nilIface) ?_
 refine q_ (pt_ b248 0) ?_
 refine q_ (.nilIface) ?_
 refine s_nil (k45 _ _ ?_)
 refine w_seqk fun _ k261 => ?_
 refine w_seqk fun _ k262 => ?_
 refine g_' ?_
 refine q_ (.nilIface) ?_
 refine q_ (.bool false) ?_
 refine s_nil (k262 _ _ ?_)
 refine w_cond false (by kernel_rfl) rfl (fun h => by cases h) (fun _ => ?_)
 refine w_skip ?_
 refine k261 _ _ ?_
 refine w_seqk fun _ k263 => ?_
 refine w_seqk fun _ k264 => ?_
 refine g_' ?_
 refine q_ (hd_script) ?_
 have u265 := ((((h_script.ext e4).fr e14 Dj.nil_l).fr e25 Dj.nil_l).fr e250 Dj.nil_l)
 refine l_' (i_ (script.length : Int)) (aLen Try.prog 25 hd_script H249) (u265.lenb (by kernel_rfl)) ?_
 refine q_ (i_ 0) ?_
 refine s_nil (k264 _ _ ?_)
 obtain ⟨o266, hx267, r268⟩ := bind_some r245
 refine w_mid (fun α H269 => ∃ (f273 : Fp), Has α [(2, pt_ b2 0), (5, pt_ b248 0)] ∧ FrS ([b248] ++ f247) H249 H269 ∧ Nd enc_i64_u64_i64 3 H269 (.slice a258 n259 c260) o266.1 f273 [] ∧ Row H269 b248 [.slice a258 n259 c260, i_ o266.2.1, i_ o266.2.2] ∧ Inn f247 H249 f273) (fun _ k277 => ?_) (fun α H269 hM => ?_)
 ·refine w_block ?_
  obtain ⟨n279, hn280⟩ := loopO_iff.1 hx267
  refine w_loopn (fun n α H281 => ∃ (i0 : Int), ∃ (o2 : List (Bool × List (Int × Int × Int) × List (Int × Int × Int))), ∃ (o3 : Int), ∃ (o4 : Int), ∃ (f285 : Fp), iterO (fun zz_ => z_viaductlaw11_OverlaySides_l3 script zz_.1 zz_.2.1 zz_.2.2.1 zz_.2.2.2) n (i0, o2, o3, o4) = some o266 ∧ Has α [(2, pt_ b2 0), (5, pt_ b248 0), (42, hd_script), (43, i_ (script.length : Int)), (44, i_ i0)] ∧ FrS ([b248] ++ f247) H249 H281 ∧ Nd enc_i64_u64_i64 3 H281 (.slice a258 n259 c260) o2 f285 [] ∧ Row H281 b248 [.slice a258 n259 c260, i_ o3, i_ o4] ∧ Inn f247 H249 f285) n279 ⟨0, y52.1, y52.2.1, y52.2.2, f247, hn280, ha_, (FrS.refl (W := ([b248] ++ f247)) e250.wf), m251, m252, Inn.refl'⟩ ?_
  rintro n279 α H281 ⟨i0, o2, o3, o4, f285, hi290, hh289, e282, m284, m287, i288⟩ K295 k295
  obtain ⟨n291, z292, rfl, hz293, hn294⟩ := iter_succ hi290
  obtain ⟨β, rfl⟩ := has_ex hh289
  clear hh289
  replace hz293 : z_viaductlaw11_OverlaySides_l3 script i0 o2 o3 o4 = some z292 := hz293
  unfold z_viaductlaw11_OverlaySides_l3 at hz293
  refine w_seqk fun _ k296 => ?_
  refine g_' ?_
  refine q_ (.bool (decide (i0 < (script.length : Int)))) ?_
  refine s_nil (k296 _ _ ?_)
  refine w_seqk fun _ k297 => ?_
  refine w_condp (i0 < (script.length : Int)) (by kernel_rfl) rfl (fun h298 => ?_) (fun h298 => ?_)
  ·have r299 := ite_t h298 hz293
   refine w_skip ?_
   refine k297 _ _ ?_
   refine w_seqk fun _ k300 => ?_
   refine w_block ?_
   refine w_seqk fun _ k301 => ?_
   refine g_' ?_
   obtain ⟨g302, r303⟩ := G_some r299
   have u304 := (u265.fr e282 (Dj.app (i254.djn (h_script.lt.le (ntr (ntr e4.next e14.next) e25.next))) (i253.djn (h_script.lt.le (ntr (ntr e4.next e14.next) e25.next)))))
   refine l_' (elp hd_script 5 i0.toNat 0) (aIndexAddr Try.prog 25 hd_script (i_ i0)) (u304.idxb (by kernel_rfl) g302 h298) ?_
   refine l_' (.agg #[.int .u8 ((gt script i0).1), i_ ((gt script i0).2.1), i_ ((gt script i0).2.2.1), .int .u64 ((gt script i0).2.2.2.1), i_ ((gt script i0).2.2.2.2)]) (aLoad Try.prog 35 (elp hd_script 5 i0.toNat 0) H281) (u304.ld g302 h298 (by kernel_rfl)) ?_
   refine s_rwk e282.wf [.int .u8 0, i_ 0, i_ 0, .int .u64 0, i_ 0] (by kernel_rfl) fun b305 H306 e307 hb308 r309 => ?_
   obtain ⟨H311, q312, e313, r314⟩ := Row.store (P := Try.prog) (t := 35) (p := 0) e307.wf r309 (.agg #[.int .u8 ((gt script i0).1), i_ ((gt script i0).2.1), i_ ((gt script i0).2.2.1), .int .u64 ((gt script i0).2.2.2.1), i_ ((gt script i0).2.2.2.2)]) [.int .u8 ((gt script i0).1), i_ ((gt script i0).2.1), i_ ((gt script i0).2.2.1), .int .u64 ((gt script i0).2.2.2.1), i_ ((gt script i0).2.2.2.2)] (by kernel_rfl) (by kernel_rfl) (one_cons (rfl) (one_cons (rfl) (one_cons (rfl) (one_cons (rfl) (one_cons (rfl) (one_nil)))))) (Nat.le_of_ble_eq_true (by kernel_rfl)) [.int .u8 ((gt script i0).1), i_ ((gt script i0).2.1), i_ ((gt script i0).2.2.1), .int .u64 ((gt script i0).2.2.2.1), i_ ((gt script i0).2.2.2.2)] (by kernel_rfl)
   refine s_ek (undef) (by kernel_rfl) (map_ok q312) ?_
   refine s_nil (k301 _ _ ?_)
   refine w_seqk fun _ k315 => ?_
   refine w_seqk fun _ k316 => ?_
   refine g_' ?_
   refine q_ (pt_ b305 0) ?_
   refine l_' (.int .u8 ((gt script i0).1)) (aLoad Try.prog 5 (pt_ b305 0) H311) (r314.ld (by kernel_rfl)) ?_
   refine q_ (.bool (decide (((gt script i0).1) = 1))) ?_
   refine s_nil (k316 _ _ ?_)
   obtain ⟨o317, hx318, r319⟩ := bind_some r303
   refine w_mid (fun α H320 => ∃ (f324 : Fp), Has α [(2, pt_ b2 0), (5, pt_ b248 0), (8, pt_ b305 0), (42, hd_script), (43, i_ (script.length : Int)), (44, i_ i0)] ∧ FrS ([b248] ++ f285) H311 H320 ∧ Nd enc_i64_u64_i64 3 H320 (.slice a258 n259 c260) o317.1 f324 [] ∧ Row H320 b248 [.slice a258 n259 c260, i_ o3, i_ o317.2] ∧ Inn f285 H311 f324) (fun _ k328 => ?_) (fun α H320 hM => ?_)
   ·refine w_condp (((gt script i0).1) = 1) (by kernel_rfl) rfl (fun h330 => ?_) (fun h330 => ?_)
    ·have r331 := ite_t h330 hx318
     refine g_' ?_
     refine q_ (pt_ b248 0) ?_
     refine q_ (pt_ b305 1) ?_
     refine l_' (i_ ((gt script i0).2.1)) (aLoad Try.prog 3 (pt_ b305 1) H311) (r314.ld (by kernel_rfl)) ?_
     refine q_ (pt_ b305 2) ?_
     refine l_' (i_ ((gt script i0).2.2.1)) (aLoad Try.prog 3 (pt_ b305 2) H311) (r314.ld (by kernel_rfl)) ?_
     refine q_ (pt_ b305 3) ?_
     refine l_' (.int .u64 ((gt script i0).2.2.2.1)) (aLoad Try.prog 33 (pt_ b305 3) H311) (r314.ld (by kernel_rfl)) ?_
     refine q_ (pt_ b305 4) ?_
     refine l_' (i_ ((gt script i0).2.2.2.2)) (aLoad Try.prog 3 (pt_ b305 4) H311) (r314.ld (by kernel_rfl)) ?_
     have u332 := ((m284.ext e307).fr e313 (hb308.djn m284.lt))
     have u333 := ((m287.ext e307).frS e313 (hb308.djn (m252.ltF.le e282.next)))
     obtain ⟨y334, hy335, r336⟩ := bind_some r331
     refine s_ck 12 #[pt_ b248 0, i_ ((gt script i0).2.1), i_ ((gt script i0).2.2.1), .int .u64 ((gt script i0).2.2.2.1), i_ ((gt script i0).2.2.2.2)] (by kernel_rfl) (c_overlay_Overlay_Put e313.wf u332 u333 (Dj.symm (i288.dj d255 m252.ltF)) hy335) ?_
     rintro _ H340 ⟨v337, f338, f339, rfl, e341, m342, m343, m344, i345, i346, d347⟩
     refine s_nil ?_
     obtain rfl := Option.some.inj r336
     exact k328 _ _ ⟨f339, ha_, (FrS.step e313.wf (FrS.refl (W := ([b248] ++ f285)) e313.wf) e341 (Inn.app Inn.left (Inn.right Inn.refl'))), m343, m344, (Inn.trans Inn.refl' (Nat.le_refl _) i346)⟩
    have r349 := ite_f h330 hx318
    refine w_skip ?_
    have u350 := ((m284.ext e307).fr e313 (hb308.djn m284.lt))
    have u351 := ((m287.ext e307).frS e313 (hb308.djn (m252.ltF.le e282.next)))
    obtain rfl := Option.some.inj r349
    exact k328 _ _ ⟨f285, ha_, (FrS.refl (W := ([b248] ++ f285)) e313.wf), u350, u351, Inn.refl'⟩
   obtain ⟨f324, hh329, e321, m323, m326, i327⟩ := hM
   obtain ⟨β, rfl⟩ := has_ex hh329
   clear hh329
   refine k315 _ _ ?_
   refine w_seqk fun _ k352 => ?_
   refine g_' ?_
   refine q_ (pt_ b305 0) ?_
   have u353 := (r314.frS e321 (Dj.app (Dj.symm (hb308.djn (m252.ltF.le e282.next))) (Dj.symm (hb308.djn m284.lt))))
   refine l_' (.int .u8 ((gt script i0).1)) (aLoad Try.prog 5 (pt_ b305 0) H320) (u353.ld (by kernel_rfl)) ?_
   refine q_ (.bool (decide (((gt script i0).1) = 2))) ?_
   refine s_nil (k352 _ _ ?_)
   refine w_condp (((gt script i0).1) = 2) (by kernel_rfl) rfl (fun h354 => ?_) (fun h354 => ?_)
   ·have r355 := ite_t h354 r319
    refine g_' ?_
    refine q_ (pt_ b248 0) ?_
    refine q_ (pt_ b305 1) ?_
    refine l_' (i_ ((gt script i0).2.1)) (aLoad Try.prog 3 (pt_ b305 1) H320) (u353.ld (by kernel_rfl)) ?_
    obtain ⟨y356, hy357, r358⟩ := bind_some r355
    refine s_ck 13 #[pt_ b248 0, i_ ((gt script i0).2.1)] (by kernel_rfl) (c_overlay_Overlay_Remove e321.wf m323 m326 (i327.dj (i288.dj d255 m252.ltF) (m252.ltF.le (ntr (ntr e282.next e307.next) e313.next))) hy357) ?_
    rintro v359 H362 ⟨_, f360, f361, rfl, e363, m364, m365, m366, i367, i368, d369⟩
    refine s_nil (k300 _ _ ?_)
    refine g_' ?_
    obtain ⟨g371, r372⟩ := G_some r358
    refine s_w ((i0 + 1)) (k := .i64) (x := (i0 + 1)) (by kernel_rfl) (wrap64 (by have := g371; omega)) ?_
    refine q_ (i_ (i0 + 1)) ?_
    refine s_nil ?_
    obtain rfl := Option.some.inj r372
    exact k295 n291 _ _ (Nat.lt_succ_self _) ⟨(i0 + 1), y356.2.1, y356.2.2.1, y356.2.2.2, f361, hn294, ha_, (FrS.step e250.wf (FrS.step e250.wf (FrS.step e250.wf ((FrS.step e250.wf (FrS.refl (W := ([b248] ++ f247)) e250.wf) e282 (Inn.app Inn.left (Inn.right Inn.refl'))).extR e307) e313 (hb308.fresh e282.next)) e321 (Inn.app Inn.left (Inn.trans (Inn.right Inn.refl') (Nat.le_refl _) i288))) e363 (Inn.app Inn.left (Inn.trans (Inn.trans (Inn.right Inn.refl') (Nat.le_refl _) i288) (ntr (ntr e282.next e307.next) e313.next) i327))), m365, m366, (Inn.trans (Inn.trans (Inn.trans Inn.refl' (Nat.le_refl _) i288) (ntr (ntr e282.next e307.next) e313.next) i327) (ntr (ntr (ntr e282.next e307.next) e313.next) e321.next) i368)⟩
   have r373 := ite_f h354 r319
   refine w_skip ?_
   refine k300 _ _ ?_
   refine g_' ?_
   obtain ⟨g374, r375⟩ := G_some r373
   refine s_w ((i0 + 1)) (k := .i64) (x := (i0 + 1)) (by kernel_rfl) (wrap64 (by have := g374; omega)) ?_
   refine q_ (i_ (i0 + 1)) ?_
   refine s_nil ?_
   obtain rfl := Option.some.inj r375
   exact k295 n291 _ _ (Nat.lt_succ_self _) ⟨(i0 + 1), o317.1, o3, o317.2, f324, hn294, ha_, (FrS.step e250.wf (FrS.step e250.wf ((FrS.step e250.wf (FrS.refl (W := ([b248] ++ f247)) e250.wf) e282 (Inn.app Inn.left (Inn.right Inn.refl'))).extR e307) e313 (hb308.fresh e282.next)) e321 (Inn.app Inn.left (Inn.trans (Inn.right Inn.refl') (Nat.le_refl _) i288))), m323, m326, (Inn.trans (Inn.trans Inn.refl' (Nat.le_refl _) i288) (ntr (ntr e282.next e307.next) e313.next) i327)⟩
  have r376 := ite_f h298 hz293
  refine w_exit (th_exit (th_exit (bl_eq ?_)))
  obtain rfl := Option.some.inj r376
  obtain rfl := it_inr hn294
  exact k277 _ _ ⟨f285, ha_, (FrS.step e250.wf (FrS.refl (W := ([b248] ++ f247)) e250.wf) e282 (Inn.app Inn.left (Inn.right Inn.refl'))), m284, m287, (Inn.trans Inn.refl' (Nat.le_refl _) i288)⟩
 obtain ⟨f273, hh278, e270, m272, m275, i276⟩ := hM
 obtain ⟨β, rfl⟩ := has_ex hh278
 clear hh278
 refine k263 _ _ ?_
 refine w_seqk fun _ k377 => ?_
 refine g_' ?_
 refine q_ (i_ 0) ?_
 refine q_ (i_ 0) ?_
 refine s_nil (k377 _ _ ?_)
 refine w_seqk fun _ k378 => ?_
 refine w_seqk fun _ k379 => ?_
 refine g_' ?_
 refine q_ (pt_ b2 0) ?_
 have u380 := ((u46.frS e250 Dj.nil_l).frS e270 (Dj.app (i254.djn (r6.ltF.le (ntr e14.next e25.next))) (i253.djn (r6.ltF.le (ntr e14.next e25.next)))))
 refine l_' (i_ N_) (aLoad Try.prog 3 (pt_ b2 0) H269) (u380.ld (by kernel_rfl)) ?_
 refine q_ (i_ 0) ?_
 refine s_nil (k379 _ _ ?_)
 obtain ⟨z384, hx382, r383⟩ := bind_some r268
 refine w_mid (fun α H385 => ∃ o381, z384 = Sum.inr o381 ∧ Has α [(5, pt_ b248 0), (9, i_ o381.2), (10, i_ o381.1)] ∧ FrS [] H269 H385) (fun _ k387 => ?_) (fun α H385 hM => ?_)
 ·refine w_block ?_
  obtain ⟨n389, hn390⟩ := loopO_iff.1 hx382
  refine w_loopn (fun n α H391 => ∃ (alive1 : Int), ∃ (i9 : Int), ∃ (arcs10 : Int), iterO (fun zz_ => z_viaductlaw11_OverlaySides_l7 N_ o266 zz_.1 zz_.2.1 zz_.2.2) n (alive1, i9, arcs10) = some z384 ∧ Has α [(5, pt_ b248 0), (9, i_ arcs10), (10, i_ alive1), (70, i_ N_), (71, i_ i9)] ∧ FrS [] H269 H391) n389 ⟨0, 0, 0, hn390, ha_, (FrS.refl (W := []) e270.wf)⟩ ?_
  rintro n389 α H391 ⟨alive1, i9, arcs10, hi394, hh393, e392⟩ K399 k399
  obtain ⟨n395, z396, rfl, hz397, hn398⟩ := iter_succ hi394
  obtain ⟨β, rfl⟩ := has_ex hh393
  clear hh393
  replace hz397 : z_viaductlaw11_OverlaySides_l7 N_ o266 alive1 i9 arcs10 = some z396 := hz397
  unfold z_viaductlaw11_OverlaySides_l7 at hz397
  refine w_seqk fun _ k400 => ?_
  refine g_' ?_
  refine q_ (.bool (decide (i9 < N_))) ?_
  refine s_nil (k400 _ _ ?_)
  refine w_seqk fun _ k401 => ?_
  refine w_condp (i9 < N_) (by kernel_rfl) rfl (fun h402 => ?_) (fun h402 => ?_)
  ·have r403 := ite_t h402 hz397
   refine w_skip ?_
   refine k401 _ _ ?_
   refine w_seqk fun _ k404 => ?_
   refine w_block ?_
   refine w_seqk fun _ k405 => ?_
   refine g_' ?_
   refine q_ (i_ i9) ?_
   refine q_ (i_ i9) ?_
   refine s_nil (k405 _ _ ?_)
   refine w_seqk fun _ k406 => ?_
   refine g_' ?_
   refine q_ (pt_ b248 0) ?_
   refine q_ (i_ i9) ?_
   have u407 := (m272.fr e392 Dj.nil_l)
   have u408 := (m275.frS e392 Dj.nil_l)
   obtain ⟨y409, hy410, r411⟩ := bind_some r403
   refine s_ck 14 #[pt_ b248 0, i_ i9] (by kernel_rfl) (c_overlay_Overlay_Out e392.wf u407 u408 hy410) ?_
   rintro s412 H414 ⟨_, f413, rfl, e415, m416, i417⟩
   obtain ⟨a419, n420, c421, rfl⟩ := m416.form
   refine q_ (pt_ b248 0) ?_
   refine q_ (i_ i9) ?_
   have u422 := (u407.fr e415 Dj.nil_l)
   have u423 := (u408.frS e415 Dj.nil_l)
   obtain ⟨y424, hy425, r426⟩ := bind_some r411
   refine s_ck 15 #[pt_ b248 0, i_ i9] (by kernel_rfl) (c_overlay_Overlay_In e415.wf u422 u423 hy425) ?_
   rintro s427 H429 ⟨_, f428, rfl, e430, m431, i432⟩
   obtain ⟨a434, n435, c436, rfl⟩ := m431.form
   refine q_ (.slice a419 n420 c421) ?_
   refine q_ (.slice a434 n435 c436) ?_
   refine s_nil (k406 _ _ ?_)
   refine w_seqk fun _ k437 => ?_
   refine w_seqk fun _ k438 => ?_
   refine g_' ?_
   refine q_ (pt_ b248 0) ?_
   refine q_ (i_ i9) ?_
   have u439 := (u422.fr e430 Dj.nil_l)
   have u440 := (u423.frS e430 Dj.nil_l)
   obtain ⟨y441, hy442, r443⟩ := bind_some r426
   refine s_ck 16 #[pt_ b248 0, i_ i9] (by kernel_rfl) (c_overlay_Overlay_Alive e430.wf u439 u440 hy442) ?_
   rintro _ _ ⟨rfl, rfl⟩
   refine s_nil (k438 _ _ ?_)
   obtain ⟨z451, hx447, r448⟩ := bind_some r443
   refine w_mid (fun α H449 => ∃ o446, z451 = Sum.inr o446 ∧ Has α [(5, pt_ b248 0), (9, i_ arcs10), (10, i_ o446), (11, i_ i9), (12, .slice a419 n420 c421), (13, .slice a434 n435 c436), (70, i_ N_), (71, i_ i9)] ∧ H429 = H449) (fun _ k452 => ?_) (fun α H449 hM => ?_)
   ·refine w_cond (y441) (by kernel_rfl) rfl (fun h454 => ?_) (fun h454 => ?_)
    ·have r455 := ite_t h454 hx447
     refine g_' ?_
     refine q_ (i_ alive1) ?_
     obtain ⟨g456, r457⟩ := G_some r455
     refine s_w ((alive1 + 1)) (k := .i64) (x := (alive1 + 1)) (by kernel_rfl) (wrap64 g456) ?_
     refine q_ (i_ (alive1 + 1)) ?_
     refine s_nil ?_
     obtain rfl := Option.some.inj r457
     exact k452 _ _ ⟨_, rfl, ha_, rfl⟩
    have r458 := ite_bf h454 hx447
    refine w_seqk fun _ k459 => ?_
    refine g_' ?_
    refine q_ (.slice a419 n420 c421) ?_
    have u460 := (m416.fr e430 Dj.nil_l)
    refine l_' (i_ (y409.length : Int)) (aLen Try.prog 39 (.slice a419 n420 c421) H429) (u460.sq.lenb (by kernel_rfl)) ?_
    refine q_ (.slice a434 n435 c436) ?_
    refine l_' (i_ (y424.length : Int)) (aLen Try.prog 39 (.slice a434 n435 c436) H429) (m431.sq.lenb (by kernel_rfl)) ?_
    obtain ⟨g461, r462⟩ := G_some r458
    refine s_w (((y409.length : Int) + (y424.length : Int))) (k := .i64) (x := ((y409.length : Int) + (y424.length : Int))) (by kernel_rfl) (wrap64 g461) ?_
    refine q_ (.bool (decide (((y409.length : Int) + (y424.length : Int)) > 0))) ?_
    refine s_nil (k459 _ _ ?_)
    refine w_condp (((y409.length : Int) + (y424.length : Int)) > 0) (by kernel_rfl) rfl (fun h463 => ?_) (fun h463 => ?_)
    ·have r464 := ite_t h463 r462
     refine w_seqk fun _ k465 => ?_
     refine g_' ?_
     refine q_ (.bool false) ?_
     refine s_nil (k465 _ _ ?_)
     refine w_ret (th_ret (th_ret (bl_ret (th_ret (th_ret (bl_ret (th_ret (th_ret ?_))))))))
     obtain ⟨v466, hv467, hz468⟩ := map_some r464
     subst hz468
     have hq469 := elim_inl r448
     rw [hq469] at hv467
     obtain ⟨v470, hv471, hz472⟩ := map_some hv467
     subst hz472
     obtain rfl := it_inr hn398
     have hq473 := elim_inl r383
     rw [hq473] at hv471
     refine b_ret (fn := Try.f3) (vs := [.bool false]) (aRes_tmp (by kernel_rfl) (rfl)) ?_
     obtain rfl := Option.some.inj hv471
     exact ⟨rfl, (FrS.step wf (FrS.step wf (FrS.step wf (FrS.step wf (FrS.step wf (FrS.step wf (FrS.step wf ((FrS.refl (W := []) wf).extR e4) e14 Inn.nil) e25 Inn.nil) e250 Inn.nil) e270 (Inn.app (i254.fresh (ntr (ntr e4.next e14.next) e25.next)) (i253.fresh (ntr (ntr e4.next e14.next) e25.next)))) e392 Inn.nil) e415 Inn.nil) e430 Inn.nil)⟩
    have r474 := ite_f h463 r462
    refine w_skip ?_
    obtain rfl := Option.some.inj r474
    exact k452 _ _ ⟨_, rfl, ha_, rfl⟩
   obtain ⟨o446, rfl, hh453, rfl⟩ := hM
   have r475 := elim_inr r448
   obtain ⟨β, rfl⟩ := has_ex hh453
   clear hh453
   refine k437 _ _ ?_
   refine w_seqk fun _ k476 => ?_
   refine g_' ?_
   refine q_ (i_ arcs10) ?_
   refine q_ (.slice a419 n420 c421) ?_
   have u477 := (m416.fr e430 Dj.nil_l)
   refine l_' (i_ (y409.length : Int)) (aLen Try.prog 39 (.slice a419 n420 c421) H429) (u477.sq.lenb (by kernel_rfl)) ?_
   obtain ⟨g478, r479⟩ := G_some r475
   refine s_w ((arcs10 + (y409.length : Int))) (k := .i64) (x := (arcs10 + (y409.length : Int))) (by kernel_rfl) (wrap64 g478) ?_
   refine q_ (i_ (arcs10 + (y409.length : Int))) ?_
   refine s_nil (k476 _ _ ?_)
   refine w_seqk fun _ k480 => ?_
   refine w_seqk fun _ k481 => ?_
   refine g_' ?_
   refine q_ (.slice a419 n420 c421) ?_
   refine l_' (i_ (y409.length : Int)) (aLen Try.prog 39 (.slice a419 n420 c421) H429) (u477.sq.lenb (by kernel_rfl)) ?_
   refine q_ (i_ 0) ?_
   refine s_nil (k481 _ _ ?_)
   obtain ⟨z485, hx483, r484⟩ := bind_some r479
   refine w_mid (fun α H486 => ∃ o482, z485 = Sum.inr o482 ∧ Has α [(5, pt_ b248 0), (9, i_ (arcs10 + (y409.length : Int))), (10, i_ o446), (11, i_ i9), (13, .slice a434 n435 c436), (70, i_ N_), (71, i_ i9)] ∧ FrS [] H429 H486) (fun _ k488 => ?_) (fun α H486 hM => ?_)
   ·refine w_block ?_
    obtain ⟨n490, hn491⟩ := loopO_iff.1 hx483
    refine w_loopn (fun n α H492 => ∃ (i7 : Int), iterO (fun zz_ => z_viaductlaw11_OverlaySides_l5 o266 i9 y409 zz_) n i7 = some z485 ∧ Has α [(5, pt_ b248 0), (9, i_ (arcs10 + (y409.length : Int))), (10, i_ o446), (11, i_ i9), (12, .slice a419 n420 c421), (13, .slice a434 n435 c436), (70, i_ N_), (71, i_ i9), (95, .slice a419 n420 c421), (96, i_ (y409.length : Int)), (97, i_ i7)] ∧ FrS [] H429 H492) n490 ⟨0, hn491, ha_, (FrS.refl (W := []) e430.wf)⟩ ?_
    rintro n490 α H492 ⟨i7, hi495, hh494, e493⟩ K500 k500
    obtain ⟨n496, z497, rfl, hz498, hn499⟩ := iter_succ hi495
    obtain ⟨β, rfl⟩ := has_ex hh494
    clear hh494
    replace hz498 : z_viaductlaw11_OverlaySides_l5 o266 i9 y409 i7 = some z497 := hz498
    unfold z_viaductlaw11_OverlaySides_l5 at hz498
    refine w_seqk fun _ k501 => ?_
    refine g_' ?_
    refine q_ (.bool (decide (i7 < (y409.length : Int)))) ?_
    refine s_nil (k501 _ _ ?_)
    refine w_seqk fun _ k502 => ?_
    refine w_condp (i7 < (y409.length : Int)) (by kernel_rfl) rfl (fun h503 => ?_) (fun h503 => ?_)
    ·have r504 := ite_t h503 hz498
     refine w_skip ?_
     refine k502 _ _ ?_
     refine w_seqk fun _ k505 => ?_
     refine w_block ?_
     refine w_seqk fun _ k506 => ?_
     refine g_' ?_
     refine q_ (i_ i7) ?_
     obtain ⟨g507, r508⟩ := G_some r504
     have u509 := (u477.fr e493 Dj.nil_l)
     refine l_' (elp (.slice a419 n420 c421) 3 i7.toNat 0) (aIndexAddr Try.prog 39 (.slice a419 n420 c421) (i_ i7)) (u509.sq.idxb (by kernel_rfl) g507 h503) ?_
     refine l_' (.agg #[i_ ((gt y409 i7).1), .int .u64 ((gt y409 i7).2.1), i_ ((gt y409 i7).2.2)]) (aLoad Try.prog 43 (elp (.slice a419 n420 c421) 3 i7.toNat 0) H492) (u509.sq.ld g507 h503 (by kernel_rfl)) ?_
     refine s_rwk e493.wf [i_ 0, .int .u64 0, i_ 0] (by kernel_rfl) fun b510 H511 e512 hb513 r514 => ?_
     refine q_ (i_ i7) ?_
     obtain ⟨H516, q517, e518, r519⟩ := Row.store (P := Try.prog) (t := 43) (p := 0) e512.wf r514 (.agg #[i_ ((gt y409 i7).1), .int .u64 ((gt y409 i7).2.1), i_ ((gt y409 i7).2.2)]) [i_ ((gt y409 i7).1), .int .u64 ((gt y409 i7).2.1), i_ ((gt y409 i7).2.2)] (by kernel_rfl) (by kernel_rfl) (one_cons (rfl) (one_cons (rfl) (one_cons (rfl) (one_nil)))) (Nat.le_of_ble_eq_true (by kernel_rfl)) [i_ ((gt y409 i7).1), .int .u64 ((gt y409 i7).2.1), i_ ((gt y409 i7).2.2)] (by kernel_rfl)
     refine s_ek (undef) (by kernel_rfl) (map_ok q517) ?_
     refine s_nil (k506 _ _ ?_)
     refine w_seqk fun _ k520 => ?_
     refine w_seqk fun _ k521 => ?_
     obtain ⟨o522, hx523, r524⟩ := bind_some r508
     refine w_mid (fun α H525 => Has α [(5, pt_ b248 0), (9, i_ (arcs10 + (y409.length : Int))), (10, i_ o446), (11, i_ i9), (12, .slice a419 n420 c421), (13, .slice a434 n435 c436), (15, pt_ b510 0), (70, i_ N_), (71, i_ i9), (95, .slice a419 n420 c421), (96, i_ (y409.length : Int)), (97, i_ i7), (127, .bool o522)] ∧ H516 = H525) (fun _ k527 => ?_) (fun α H525 hM => ?_)
     ·refine w_draw [0, 1, 2, 3, 4, 5, 6, 7, 8, 9, 10, 11, 12, 13, 14, 15, 16, 17, 18, 19, 20, 21, 22, 23, 24, 25] (by kernel_rfl) ?_
      refine e_' (i_ i7) ?_
      refine d_b (i7 > 0) (by kernel_rfl) (fun h529 => ?_) (fun h529 => ?_)
      ·have r530 := ite_t h529 hx523
       refine e_' (.bool true) ?_
       refine e_' (.slice a419 n420 c421) ?_
       refine e_' (i_ i7) ?_
       obtain ⟨g531, r532⟩ := G_some r530
       refine d_w ((i7 - 1)) (k := .i64) (x := (i7 - 1)) (by kernel_rfl) (wrap64 g531) ?_
       obtain ⟨g533, r534⟩ := G_some r532
       have u535 := ((u509.ext e512).fr e518 (hb513.djn (m416.lt.le (ntr e430.next e493.next))))
       refine m_' (elp (.slice a419 n420 c421) 3 (i7 - 1).toNat 0) (aIndexAddr Try.prog 39 (.slice a419 n420 c421) (i_ (i7 - 1))) (u535.sq.idxb (by kernel_rfl) g533.1 g533.2) ?_
       refine m_' (elp (.slice a419 n420 c421) 3 (i7 - 1).toNat 0) (aFieldAddr Try.prog 43 (elp (.slice a419 n420 c421) 3 (i7 - 1).toNat 0) 0) (Sq.fldq (d := 0) u535.sq g533.1 g533.2 (by kernel_rfl)) ?_
       refine m_' (i_ ((gt y409 (i7 - 1)).1)) (aLoad Try.prog 3 (elp (.slice a419 n420 c421) 3 (i7 - 1).toNat 0) H516) (u535.sq.ld g533.1 g533.2 (by kernel_rfl)) ?_
       refine e_' (pt_ b510 0) ?_
       refine m_' (i_ ((gt y409 i7).1)) (aLoad Try.prog 3 (pt_ b510 0) H516) (r519.ld (by kernel_rfl)) ?_
       refine d_b (((gt y409 (i7 - 1)).1) ≥ ((gt y409 i7).1)) (by kernel_rfl) (fun h536 => ?_) (fun h536 => ?_)
       ·have r537 := ite_t h536 r534
        refine e_' (.bool true) ?_
        refine e_' (.bool true) ?_
        refine j_' ?_
        refine j_' ?_
        refine j_' ?_
        refine j_' ?_
        refine e_' (.bool true) ?_
        refine e_' (.bool true) ?_
        refine j_' ?_
        refine j_' ?_
        refine j_' ?_
        refine j_' ?_
        refine j_' ?_
        refine e_' (.bool true) ?_
        refine d_nil ?_
        obtain rfl := Option.some.inj r537
        exact k527 _ _ ⟨ha_, rfl⟩
       have r538 := ite_f h536 r534
       refine e_' (.bool false) ?_
       refine e_' (.bool false) ?_
       refine e_' (pt_ b510 0) ?_
       refine m_' (i_ ((gt y409 i7).1)) (aLoad Try.prog 3 (pt_ b510 0) H516) (r519.ld (by kernel_rfl)) ?_
       refine e_' (i_ i9) ?_
       refine d_b (((gt y409 i7).1) = i9) (by kernel_rfl) (fun h539 => ?_) (fun h539 => ?_)
       ·have r540 := ite_t h539 r538
        refine e_' (.bool true) ?_
        refine e_' (.bool true) ?_
        refine j_' ?_
        refine j_' ?_
        refine j_' ?_
        refine j_' ?_
        refine j_' ?_
        refine e_' (.bool true) ?_
        refine d_nil ?_
        obtain rfl := Option.some.inj r540
        exact k527 _ _ ⟨ha_, rfl⟩
       have r541 := ite_f h539 r538
       refine e_' (.bool false) ?_
       refine e_' (.bool false) ?_
       refine e_' (pt_ b248 0) ?_
       refine e_' (pt_ b510 0) ?_
       refine m_' (i_ ((gt y409 i7).1)) (aLoad Try.prog 3 (pt_ b510 0) H516) (r519.ld (by kernel_rfl)) ?_
       have u542 := (((u439.fr e493 Dj.nil_l).ext e512).fr e518 (hb513.djn (m272.lt.le (ntr (ntr (ntr e392.next e415.next) e430.next) e493.next))))
       have u543 := (((u440.frS e493 Dj.nil_l).ext e512).frS e518 (hb513.djn (m252.ltF.le (ntr (ntr (ntr (ntr e270.next e392.next) e415.next) e430.next) e493.next))))
       obtain ⟨y544, hy545, r546⟩ := bind_some r541
       refine d_ck 16 #[pt_ b248 0, i_ ((gt y409 i7).1)] (by kernel_rfl) (c_overlay_Overlay_Alive e518.wf u542 u543 hy545) ?_
       rintro _ _ ⟨rfl, rfl⟩
       refine ⟨st_nil, ?_⟩
       refine e_' (.bool (!y544)) ?_
       refine e_' (.bool (!y544)) ?_
       refine d_nil ?_
       obtain rfl := Option.some.inj r546
       exact k527 _ _ ⟨ha_, rfl⟩
      have r549 := ite_f h529 hx523
      refine e_' (.bool false) ?_
      refine j_' ?_
      refine j_' ?_
      refine j_' ?_
      refine j_' ?_
      refine j_' ?_
      refine j_' ?_
      refine j_' ?_
      refine j_' ?_
      refine j_' ?_
      refine e_' (.bool false) ?_
      refine e_' (.bool false) ?_
      refine e_' (pt_ b510 0) ?_
      refine m_' (i_ ((gt y409 i7).1)) (aLoad Try.prog 3 (pt_ b510 0) H516) (r519.ld (by kernel_rfl)) ?_
      refine e_' (i_ i9) ?_
      refine d_b (((gt y409 i7).1) = i9) (by kernel_rfl) (fun h550 => ?_) (fun h550 => ?_)
      ·have r551 := ite_t h550 r549
       refine e_' (.bool true) ?_
       refine e_' (.bool true) ?_
       refine j_' ?_
       refine j_' ?_
       refine j_' ?_
       refine j_' ?_
       refine j_' ?_
       refine e_' (.bool true) ?_
       refine d_nil ?_
       obtain rfl := Option.some.inj r551
       exact k527 _ _ ⟨ha_, rfl⟩
      have r552 := ite_f h550 r549
      refine e_' (.bool false) ?_
      refine e_' (.bool false) ?_
      refine e_' (pt_ b248 0) ?_
      refine e_' (pt_ b510 0) ?_
      refine m_' (i_ ((gt y409 i7).1)) (aLoad Try.prog 3 (pt_ b510 0) H516) (r519.ld (by kernel_rfl)) ?_
      have u553 := (((u439.fr e493 Dj.nil_l).ext e512).fr e518 (hb513.djn (m272.lt.le (ntr (ntr (ntr e392.next e415.next) e430.next) e493.next))))
      have u554 := (((u440.frS e493 Dj.nil_l).ext e512).frS e518 (hb513.djn (m252.ltF.le (ntr (ntr (ntr (ntr e270.next e392.next) e415.next) e430.next) e493.next))))
      obtain ⟨y555, hy556, r557⟩ := bind_some r552
      refine d_ck 16 #[pt_ b248 0, i_ ((gt y409 i7).1)] (by kernel_rfl) (c_overlay_Overlay_Alive e518.wf u553 u554 hy556) ?_
      rintro _ _ ⟨rfl, rfl⟩
      refine ⟨st_nil, ?_⟩
      refine e_' (.bool (!y555)) ?_
      refine e_' (.bool (!y555)) ?_
      refine d_nil ?_
      obtain rfl := Option.some.inj r557
      exact k527 _ _ ⟨ha_, rfl⟩
     obtain ⟨hh528, rfl⟩ := hM
     obtain ⟨β, rfl⟩ := has_ex hh528
     clear hh528
     refine k521 _ _ ?_
     refine w_cond (o522) (by kernel_rfl) rfl (fun h560 => ?_) (fun h560 => ?_)
     ·have r561 := ite_t h560 r524
      refine w_seqk fun _ k562 => ?_
      refine g_' ?_
      refine q_ (.bool false) ?_
      refine s_nil (k562 _ _ ?_)
      refine w_ret (th_ret (bl_ret (th_ret (th_ret (bl_ret (th_ret (th_ret (bl_ret (th_ret (th_ret (bl_ret (th_ret (th_ret ?_)))))))))))))
      obtain ⟨v563, hv564, hz565⟩ := map_some r561
      subst hz565
      obtain rfl := it_inr hn499
      have hq566 := elim_inl r484
      rw [hq566] at hv564
      obtain ⟨v567, hv568, hz569⟩ := map_some hv564
      subst hz569
      obtain rfl := it_inr hn398
      have hq570 := elim_inl r383
      rw [hq570] at hv568
      refine b_ret (fn := Try.f3) (vs := [.bool false]) (aRes_tmp (by kernel_rfl) (rfl)) ?_
      obtain rfl := Option.some.inj hv568
      exact ⟨rfl, (FrS.step wf ((FrS.step wf (FrS.step wf (FrS.step wf (FrS.step wf (FrS.step wf (FrS.step wf (FrS.step wf (FrS.step wf ((FrS.refl (W := []) wf).extR e4) e14 Inn.nil) e25 Inn.nil) e250 Inn.nil) e270 (Inn.app (i254.fresh (ntr (ntr e4.next e14.next) e25.next)) (i253.fresh (ntr (ntr e4.next e14.next) e25.next)))) e392 Inn.nil) e415 Inn.nil) e430 Inn.nil) e493 Inn.nil).extR e512) e518 (hb513.fresh (ntr (ntr (ntr (ntr (ntr (ntr (ntr (ntr e4.next e14.next) e25.next) e250.next) e270.next) e392.next) e415.next) e430.next) e493.next)))⟩
     have r571 := ite_bf h560 r524
     refine w_skip ?_
     refine k520 _ _ ?_
     refine w_seqk fun _ k572 => ?_
     refine g_' ?_
     refine q_ (pt_ b248 0) ?_
     refine q_ (i_ i9) ?_
     refine q_ (pt_ b510 0) ?_
     refine l_' (i_ ((gt y409 i7).1)) (aLoad Try.prog 3 (pt_ b510 0) H516) (r519.ld (by kernel_rfl)) ?_
     have u573 := (((u439.fr e493 Dj.nil_l).ext e512).fr e518 (hb513.djn (m272.lt.le (ntr (ntr (ntr e392.next e415.next) e430.next) e493.next))))
     have u574 := (((u440.frS e493 Dj.nil_l).ext e512).frS e518 (hb513.djn (m252.ltF.le (ntr (ntr (ntr (ntr e270.next e392.next) e415.next) e430.next) e493.next))))
     obtain ⟨y575, hy576, r577⟩ := bind_some r571
     refine s_ck 17 #[pt_ b248 0, i_ i9, i_ ((gt y409 i7).1)] (by kernel_rfl) (c_overlay_Overlay_Weight e518.wf u573 u574 hy576) ?_
     rintro _ H578 ⟨rfl, e579⟩
     refine q_ (.tuple #[.int .u64 y575.1, .bool y575.2]) ?_
     refine q_ (.int .u64 y575.1) ?_
     refine q_ (.bool y575.2) ?_
     refine q_ (.int .u64 y575.1) ?_
     refine q_ (.bool y575.2) ?_
     refine s_nil (k572 _ _ ?_)
     refine w_seqk fun _ k580 => ?_
     refine g_' ?_
     refine q_ (.bool false) ?_
     refine s_nil (k580 _ _ ?_)
     refine w_seqk fun _ k581 => ?_
     refine w_seqk fun _ k582 => ?_
     refine g_' ?_
     refine q_ (pt_ b248 0) ?_
     refine q_ (pt_ b510 0) ?_
     have u583 := (r519.frS e579 Dj.nil_l)
     refine l_' (i_ ((gt y409 i7).1)) (aLoad Try.prog 3 (pt_ b510 0) H578) (u583.ld (by kernel_rfl)) ?_
     have u584 := (u573.fr e579 Dj.nil_l)
     have u585 := (u574.frS e579 Dj.nil_l)
     obtain ⟨y586, hy587, r588⟩ := bind_some r577
     refine s_ck 15 #[pt_ b248 0, i_ ((gt y409 i7).1)] (by kernel_rfl) (c_overlay_Overlay_In e579.wf u584 u585 hy587) ?_
     rintro s589 H591 ⟨_, f590, rfl, e592, m593, i594⟩
     obtain ⟨a596, n597, c598, rfl⟩ := m593.form
     refine l_' (i_ (y586.length : Int)) (aLen Try.prog 39 (.slice a596 n597 c598) H591) (m593.sq.lenb (by kernel_rfl)) ?_
     refine q_ (i_ 0) ?_
     refine s_nil (k582 _ _ ?_)
     obtain ⟨o599, hx600, r601⟩ := bind_some r588
     refine w_mid (fun α H602 => Has α [(5, pt_ b248 0), (9, i_ (arcs10 + (y409.length : Int))), (10, i_ o446), (11, i_ i9), (12, .slice a419 n420 c421), (13, .slice a434 n435 c436), (15, pt_ b510 0), (16, .int .u64 y575.1), (17, .bool y575.2), (18, .bool o599), (70, i_ N_), (71, i_ i9), (95, .slice a419 n420 c421), (96, i_ (y409.length : Int)), (97, i_ i7)] ∧ FrS [] H591 H602) (fun _ k604 => ?_) (fun α H602 hM => ?_)
     ·refine w_block ?_
      obtain ⟨n606, hn607⟩ := loopO_iff.1 hx600
      refine w_loopn (fun n α H608 => ∃ (i5 : Int), ∃ (seen6 : Bool), iterO (fun zz_ => z_viaductlaw11_OverlaySides_l4 i9 y409 i7 y586 zz_.1 zz_.2) n (i5, seen6) = some o599 ∧ Has α [(5, pt_ b248 0), (9, i_ (arcs10 + (y409.length : Int))), (10, i_ o446), (11, i_ i9), (12, .slice a419 n420 c421), (13, .slice a434 n435 c436), (15, pt_ b510 0), (16, .int .u64 y575.1), (17, .bool y575.2), (18, .bool seen6), (70, i_ N_), (71, i_ i9), (95, .slice a419 n420 c421), (96, i_ (y409.length : Int)), (97, i_ i7), (139, .slice a596 n597 c598), (140, i_ (y586.length : Int)), (141, i_ i5)] ∧ FrS [] H591 H608) n606 ⟨0, false, hn607, ha_, (FrS.refl (W := []) e592.wf)⟩ ?_
      rintro n606 α H608 ⟨i5, seen6, hi611, hh610, e609⟩ K616 k616
      obtain ⟨n612, z613, rfl, hz614, hn615⟩ := iter_succ hi611
      obtain ⟨β, rfl⟩ := has_ex hh610
      clear hh610
      replace hz614 : z_viaductlaw11_OverlaySides_l4 i9 y409 i7 y586 i5 seen6 = some z613 := hz614
      unfold z_viaductlaw11_OverlaySides_l4 at hz614
      refine w_seqk fun _ k617 => ?_
      refine g_' ?_
      refine q_ (.bool (decide (i5 < (y586.length : Int)))) ?_
      refine s_nil (k617 _ _ ?_)
      refine w_seqk fun _ k618 => ?_
      refine w_condp (i5 < (y586.length : Int)) (by kernel_rfl) rfl (fun h619 => ?_) (fun h619 => ?_)
      ·have r620 := ite_t h619 hz614
       refine w_skip ?_
       refine k618 _ _ ?_
       refine w_seqk fun _ k621 => ?_
       refine w_block ?_
       refine w_seqk fun _ k622 => ?_
       refine g_' ?_
       obtain ⟨g623, r624⟩ := G_some r620
       have u625 := (m593.fr e609 Dj.nil_l)
       refine l_' (elp (.slice a596 n597 c598) 3 i5.toNat 0) (aIndexAddr Try.prog 39 (.slice a596 n597 c598) (i_ i5)) (u625.sq.idxb (by kernel_rfl) g623 h619) ?_
       refine l_' (.agg #[i_ ((gt y586 i5).1), .int .u64 ((gt y586 i5).2.1), i_ ((gt y586 i5).2.2)]) (aLoad Try.prog 43 (elp (.slice a596 n597 c598) 3 i5.toNat 0) H608) (u625.sq.ld g623 h619 (by kernel_rfl)) ?_
       refine s_rwk e609.wf [i_ 0, .int .u64 0, i_ 0] (by kernel_rfl) fun b626 H627 e628 hb629 r630 => ?_
       obtain ⟨H632, q633, e634, r635⟩ := Row.store (P := Try.prog) (t := 43) (p := 0) e628.wf r630 (.agg #[i_ ((gt y586 i5).1), .int .u64 ((gt y586 i5).2.1), i_ ((gt y586 i5).2.2)]) [i_ ((gt y586 i5).1), .int .u64 ((gt y586 i5).2.1), i_ ((gt y586 i5).2.2)] (by kernel_rfl) (by kernel_rfl) (one_cons (rfl) (one_cons (rfl) (one_cons (rfl) (one_nil)))) (Nat.le_of_ble_eq_true (by kernel_rfl)) [i_ ((gt y586 i5).1), .int .u64 ((gt y586 i5).2.1), i_ ((gt y586 i5).2.2)] (by kernel_rfl)
       refine s_ek (undef) (by kernel_rfl) (map_ok q633) ?_
       refine s_nil (k622 _ _ ?_)
       refine g_' ?_
       refine q_ (.bool seen6) ?_
       refine q_ (.bool seen6) ?_
       by_cases h636 : seen6 = true
       ·have r637 := ite_t h636 r624
        rw [h636]
        refine n_' ?_
        refine n_' ?_
        refine n_' ?_
        refine n_' ?_
        refine n_' ?_
        refine n_' ?_
        refine n_' ?_
        refine n_' ?_
        refine n_' ?_
        refine n_' ?_
        refine n_' ?_
        refine n_' ?_
        refine n_' ?_
        refine n_' ?_
        refine n_' ?_
        refine n_' ?_
        refine n_' ?_
        refine n_' ?_
        refine q_ (.bool true) ?_
        refine q_ (.bool true) ?_
        refine s_nil (k621 _ _ ?_)
        refine g_' ?_
        obtain ⟨g638, r639⟩ := G_some r637
        refine s_w ((i5 + 1)) (k := .i64) (x := (i5 + 1)) (by kernel_rfl) (wrap64 (by have := g638; omega)) ?_
        refine q_ (i_ (i5 + 1)) ?_
        refine s_nil ?_
        obtain rfl := Option.some.inj r639
        exact k616 n612 _ _ (Nat.lt_succ_self _) ⟨(i5 + 1), true, hn615, ha_, (FrS.step e592.wf ((FrS.step e592.wf (FrS.refl (W := []) e592.wf) e609 Inn.nil).extR e628) e634 (hb629.fresh e609.next))⟩
       have r640 := ite_f h636 r624
       rw [nb h636]
       refine q_ (pt_ b626 0) ?_
       refine l_' (i_ ((gt y586 i5).1)) (aLoad Try.prog 3 (pt_ b626 0) H632) (r635.ld (by kernel_rfl)) ?_
       refine q_ (i_ i9) ?_
       refine s_b (((gt y586 i5).1) = i9) (by kernel_rfl) (fun h641 => ?_) (fun h641 => ?_)
       ·have r642 := ite_t h641 r640
        refine q_ (.bool true) ?_
        refine q_ (pt_ b626 1) ?_
        refine l_' (.int .u64 ((gt y586 i5).2.1)) (aLoad Try.prog 33 (pt_ b626 1) H632) (r635.ld (by kernel_rfl)) ?_
        refine q_ (pt_ b510 1) ?_
        have u643 := ((((u583.frS e592 Dj.nil_l).frS e609 Dj.nil_l).ext e628).frS e634 (hb629.djn (r514.ltF.le (ntr (ntr (ntr e518.next e579.next) e592.next) e609.next))))
        refine l_' (.int .u64 ((gt y409 i7).2.1)) (aLoad Try.prog 33 (pt_ b510 1) H632) (u643.ld (by kernel_rfl)) ?_
        refine s_b (((gt y586 i5).2.1) = ((gt y409 i7).2.1)) (by kernel_rfl) (fun h644 => ?_) (fun h644 => ?_)
        ·have r645 := ite_t h644 r642
         refine q_ (.bool true) ?_
         refine q_ (.bool true) ?_
         refine q_ (pt_ b626 2) ?_
         refine l_' (i_ ((gt y586 i5).2.2)) (aLoad Try.prog 3 (pt_ b626 2) H632) (r635.ld (by kernel_rfl)) ?_
         refine q_ (pt_ b510 2) ?_
         refine l_' (i_ ((gt y409 i7).2.2)) (aLoad Try.prog 3 (pt_ b510 2) H632) (u643.ld (by kernel_rfl)) ?_
         refine s_b (((gt y586 i5).2.2) = ((gt y409 i7).2.2)) (by kernel_rfl) (fun h646 => ?_) (fun h646 => ?_)
         ·have r647 := ite_t h646 r645
          refine q_ (.bool true) ?_
          refine q_ (.bool true) ?_
          refine q_ (.bool true) ?_
          refine s_nil (k621 _ _ ?_)
          refine g_' ?_
          obtain ⟨g648, r649⟩ := G_some r647
          refine s_w ((i5 + 1)) (k := .i64) (x := (i5 + 1)) (by kernel_rfl) (wrap64 (by have := g648; omega)) ?_
          refine q_ (i_ (i5 + 1)) ?_
          refine s_nil ?_
          obtain rfl := Option.some.inj r649
          exact k616 n612 _ _ (Nat.lt_succ_self _) ⟨(i5 + 1), true, hn615, ha_, (FrS.step e592.wf ((FrS.step e592.wf (FrS.refl (W := []) e592.wf) e609 Inn.nil).extR e628) e634 (hb629.fresh e609.next))⟩
         have r650 := ite_f h646 r645
         refine q_ (.bool false) ?_
         refine q_ (.bool false) ?_
         refine q_ (.bool false) ?_
         refine s_nil (k621 _ _ ?_)
         refine g_' ?_
         obtain ⟨g651, r652⟩ := G_some r650
         refine s_w ((i5 + 1)) (k := .i64) (x := (i5 + 1)) (by kernel_rfl) (wrap64 (by have := g651; omega)) ?_
         refine q_ (i_ (i5 + 1)) ?_
         refine s_nil ?_
         obtain rfl := Option.some.inj r652
         exact k616 n612 _ _ (Nat.lt_succ_self _) ⟨(i5 + 1), false, hn615, ha_, (FrS.step e592.wf ((FrS.step e592.wf (FrS.refl (W := []) e592.wf) e609 Inn.nil).extR e628) e634 (hb629.fresh e609.next))⟩
        have r653 := ite_f h644 r642
        refine q_ (.bool false) ?_
        refine q_ (.bool false) ?_
        refine n_' ?_
        refine n_' ?_
        refine n_' ?_
        refine n_' ?_
        refine n_' ?_
        refine q_ (.bool false) ?_
        refine q_ (.bool false) ?_
        refine q_ (.bool false) ?_
        refine s_nil (k621 _ _ ?_)
        refine g_' ?_
        obtain ⟨g654, r655⟩ := G_some r653
        refine s_w ((i5 + 1)) (k := .i64) (x := (i5 + 1)) (by kernel_rfl) (wrap64 (by have := g654; omega)) ?_
        refine q_ (i_ (i5 + 1)) ?_
        refine s_nil ?_
        obtain rfl := Option.some.inj r655
        exact k616 n612 _ _ (Nat.lt_succ_self _) ⟨(i5 + 1), false, hn615, ha_, (FrS.step e592.wf ((FrS.step e592.wf (FrS.refl (W := []) e592.wf) e609 Inn.nil).extR e628) e634 (hb629.fresh e609.next))⟩
       have r656 := ite_f h641 r640
       refine q_ (.bool false) ?_
       refine n_' ?_
       refine n_' ?_
       refine n_' ?_
       refine n_' ?_
       refine n_' ?_
       refine q_ (.bool false) ?_
       refine q_ (.bool false) ?_
       refine n_' ?_
       refine n_' ?_
       refine n_' ?_
       refine n_' ?_
       refine n_' ?_
       refine q_ (.bool false) ?_
       refine q_ (.bool false) ?_
       refine q_ (.bool false) ?_
       refine s_nil (k621 _ _ ?_)
       refine g_' ?_
       obtain ⟨g657, r658⟩ := G_some r656
       refine s_w ((i5 + 1)) (k := .i64) (x := (i5 + 1)) (by kernel_rfl) (wrap64 (by have := g657; omega)) ?_
       refine q_ (i_ (i5 + 1)) ?_
       refine s_nil ?_
       obtain rfl := Option.some.inj r658
       exact k616 n612 _ _ (Nat.lt_succ_self _) ⟨(i5 + 1), false, hn615, ha_, (FrS.step e592.wf ((FrS.step e592.wf (FrS.refl (W := []) e592.wf) e609 Inn.nil).extR e628) e634 (hb629.fresh e609.next))⟩
      have r659 := ite_f h619 hz614
      refine w_exit (th_exit (th_exit (bl_eq ?_)))
      obtain rfl := Option.some.inj r659
      obtain rfl := it_inr hn615
      exact k604 _ _ ⟨ha_, (FrS.step e592.wf (FrS.refl (W := []) e592.wf) e609 Inn.nil)⟩
     obtain ⟨hh605, e603⟩ := hM
     obtain ⟨β, rfl⟩ := has_ex hh605
     clear hh605
     refine k581 _ _ ?_
     refine w_seqk fun _ k660 => ?_
     refine g_' ?_
     refine q_ (.bool y575.2) ?_
     refine q_ (.bool (!y575.2)) ?_
     refine q_ (.bool (!y575.2)) ?_
     by_cases h661 : (!y575.2) = true
     ·have r662 := ite_t h661 r601
      rw [h661]
      refine n_' ?_
      refine n_' ?_
      refine n_' ?_
      refine n_' ?_
      refine q_ (.bool true) ?_
      refine q_ (.bool true) ?_
      refine n_' ?_
      refine n_' ?_
      refine q_ (.bool true) ?_
      refine s_nil (k660 _ _ ?_)
      refine w_cond true (by kernel_rfl) rfl (fun _ => ?_) (fun h => by cases h)
      refine w_seqk fun _ k663 => ?_
      refine g_' ?_
      refine q_ (.bool false) ?_
      refine s_nil (k663 _ _ ?_)
      refine w_ret (bl_ret (th_ret (th_ret (bl_ret (th_ret (th_ret (bl_ret (th_ret (th_ret (bl_ret (th_ret (th_ret ?_))))))))))))
      obtain ⟨v664, hv665, hz666⟩ := map_some r662
      subst hz666
      obtain rfl := it_inr hn499
      have hq667 := elim_inl r484
      rw [hq667] at hv665
      obtain ⟨v668, hv669, hz670⟩ := map_some hv665
      subst hz670
      obtain rfl := it_inr hn398
      have hq671 := elim_inl r383
      rw [hq671] at hv669
      refine b_ret (fn := Try.f3) (vs := [.bool false]) (aRes_tmp (by kernel_rfl) (rfl)) ?_
      obtain rfl := Option.some.inj hv669
      exact ⟨rfl, (FrS.step wf (FrS.step wf (FrS.step wf (FrS.step wf ((FrS.step wf (FrS.step wf (FrS.step wf (FrS.step wf (FrS.step wf (FrS.step wf (FrS.step wf (FrS.step wf ((FrS.refl (W := []) wf).extR e4) e14 Inn.nil) e25 Inn.nil) e250 Inn.nil) e270 (Inn.app (i254.fresh (ntr (ntr e4.next e14.next) e25.next)) (i253.fresh (ntr (ntr e4.next e14.next) e25.next)))) e392 Inn.nil) e415 Inn.nil) e430 Inn.nil) e493 Inn.nil).extR e512) e518 (hb513.fresh (ntr (ntr (ntr (ntr (ntr (ntr (ntr (ntr e4.next e14.next) e25.next) e250.next) e270.next) e392.next) e415.next) e430.next) e493.next))) e579 Inn.nil) e592 Inn.nil) e603 Inn.nil)⟩
     have r672 := ite_f h661 r601
     rw [nb h661]
     refine q_ (.int .u64 y575.1) ?_
     refine q_ (pt_ b510 1) ?_
     have u673 := ((u583.frS e592 Dj.nil_l).frS e603 Dj.nil_l)
     refine l_' (.int .u64 ((gt y409 i7).2.1)) (aLoad Try.prog 33 (pt_ b510 1) H602) (u673.ld (by kernel_rfl)) ?_
     refine s_bn (y575.1 = ((gt y409 i7).2.1)) (by kernel_rfl) (fun h674 => ?_) (fun h674 => ?_)
     ·have r675 := ite_t h674 r672
      refine q_ (.bool false) ?_
      refine q_ (.bool false) ?_
      refine q_ (.bool o599) ?_
      refine q_ (.bool (!o599)) ?_
      refine q_ (.bool (!o599)) ?_
      refine s_nil (k660 _ _ ?_)
      refine w_cond ((!o599)) (by kernel_rfl) rfl (fun h676 => ?_) (fun h676 => ?_)
      ·have r677 := ite_t h676 r675
       refine w_seqk fun _ k678 => ?_
       refine g_' ?_
       refine q_ (.bool false) ?_
       refine s_nil (k678 _ _ ?_)
       refine w_ret (bl_ret (th_ret (th_ret (bl_ret (th_ret (th_ret (bl_ret (th_ret (th_ret (bl_ret (th_ret (th_ret ?_))))))))))))
       obtain ⟨v679, hv680, hz681⟩ := map_some r677
       subst hz681
       obtain rfl := it_inr hn499
       have hq682 := elim_inl r484
       rw [hq682] at hv680
       obtain ⟨v683, hv684, hz685⟩ := map_some hv680
       subst hz685
       obtain rfl := it_inr hn398
       have hq686 := elim_inl r383
       rw [hq686] at hv684
       refine b_ret (fn := Try.f3) (vs := [.bool false]) (aRes_tmp (by kernel_rfl) (rfl)) ?_
       obtain rfl := Option.some.inj hv684
       exact ⟨rfl, (FrS.step wf (FrS.step wf (FrS.step wf (FrS.step wf ((FrS.step wf (FrS.step wf (FrS.step wf (FrS.step wf (FrS.step wf (FrS.step wf (FrS.step wf (FrS.step wf ((FrS.refl (W := []) wf).extR e4) e14 Inn.nil) e25 Inn.nil) e250 Inn.nil) e270 (Inn.app (i254.fresh (ntr (ntr e4.next e14.next) e25.next)) (i253.fresh (ntr (ntr e4.next e14.next) e25.next)))) e392 Inn.nil) e415 Inn.nil) e430 Inn.nil) e493 Inn.nil).extR e512) e518 (hb513.fresh (ntr (ntr (ntr (ntr (ntr (ntr (ntr (ntr e4.next e14.next) e25.next) e250.next) e270.next) e392.next) e415.next) e430.next) e493.next))) e579 Inn.nil) e592 Inn.nil) e603 Inn.nil)⟩
      have r687 := ite_bf h676 r675
      refine w_skip ?_
      refine k505 _ _ ?_
      refine g_' ?_
      obtain ⟨g688, r689⟩ := G_some r687
      refine s_w ((i7 + 1)) (k := .i64) (x := (i7 + 1)) (by kernel_rfl) (wrap64 (by have := g688; omega)) ?_
      refine q_ (i_ (i7 + 1)) ?_
      refine s_nil ?_
      obtain rfl := Option.some.inj r689
      exact k500 n496 _ _ (Nat.lt_succ_self _) ⟨(i7 + 1), hn499, ha_, (FrS.step e430.wf (FrS.step e430.wf (FrS.step e430.wf (FrS.step e430.wf ((FrS.step e430.wf (FrS.refl (W := []) e430.wf) e493 Inn.nil).extR e512) e518 (hb513.fresh e493.next)) e579 Inn.nil) e592 Inn.nil) e603 Inn.nil)⟩
     have r690 := ite_f h674 r672
     refine q_ (.bool true) ?_
     refine q_ (.bool true) ?_
     refine n_' ?_
     refine n_' ?_
     refine q_ (.bool true) ?_
     refine s_nil (k660 _ _ ?_)
     refine w_cond true (by kernel_rfl) rfl (fun _ => ?_) (fun h => by cases h)
     refine w_seqk fun _ k691 => ?_
     refine g_' ?_
     refine q_ (.bool false) ?_
     refine s_nil (k691 _ _ ?_)
     refine w_ret (bl_ret (th_ret (th_ret (bl_ret (th_ret (th_ret (bl_ret (th_ret (th_ret (bl_ret (th_ret (th_ret ?_))))))))))))
     obtain ⟨v692, hv693, hz694⟩ := map_some r690
     subst hz694
     obtain rfl := it_inr hn499
     have hq695 := elim_inl r484
     rw [hq695] at hv693
     obtain ⟨v696, hv697, hz698⟩ := map_some hv693
     subst hz698
     obtain rfl := it_inr hn398
     have hq699 := elim_inl r383
     rw [hq699] at hv697
     refine b_ret (fn := Try.f3) (vs := [.bool false]) (aRes_tmp (by kernel_rfl) (rfl)) ?_
     obtain rfl := Option.some.inj hv697
     exact ⟨rfl, (FrS.step wf (FrS.step wf (FrS.step wf (FrS.step wf ((FrS.step wf (FrS.step wf (FrS.step wf (FrS.step wf (FrS.step wf (FrS.step wf (FrS.step wf (FrS.step wf ((FrS.refl (W := []) wf).extR e4) e14 Inn.nil) e25 Inn.nil) e250 Inn.nil) e270 (Inn.app (i254.fresh (ntr (ntr e4.next e14.next) e25.next)) (i253.fresh (ntr (ntr e4.next e14.next) e25.next)))) e392 Inn.nil) e415 Inn.nil) e430 Inn.nil) e493 Inn.nil).extR e512) e518 (hb513.fresh (ntr (ntr (ntr (ntr (ntr (ntr (ntr (ntr e4.next e14.next) e25.next) e250.next) e270.next) e392.next) e415.next) e430.next) e493.next))) e579 Inn.nil) e592 Inn.nil) e603 Inn.nil)⟩
    have r700 := ite_f h503 hz498
    refine w_exit (th_exit (th_exit (bl_eq ?_)))
    obtain rfl := Option.some.inj r700
    obtain rfl := it_inr hn499
    exact k488 _ _ ⟨_, rfl, ha_, (FrS.step e430.wf (FrS.refl (W := []) e430.wf) e493 Inn.nil)⟩
   obtain ⟨o482, rfl, hh489, e487⟩ := hM
   have r701 := elim_inr r484
   obtain ⟨β, rfl⟩ := has_ex hh489
   clear hh489
   refine k480 _ _ ?_
   refine w_seqk fun _ k702 => ?_
   refine g_' ?_
   refine q_ (.slice a434 n435 c436) ?_
   have u703 := (m431.fr e487 Dj.nil_l)
   refine l_' (i_ (y424.length : Int)) (aLen Try.prog 39 (.slice a434 n435 c436) H486) (u703.sq.lenb (by kernel_rfl)) ?_
   refine q_ (i_ 0) ?_
   refine s_nil (k702 _ _ ?_)
   obtain ⟨z707, hx705, r706⟩ := bind_some r701
   refine w_mid (fun α H708 => ∃ o704, z707 = Sum.inr o704 ∧ Has α [(5, pt_ b248 0), (9, i_ (arcs10 + (y409.length : Int))), (10, i_ o446), (70, i_ N_), (71, i_ i9)] ∧ FrS [] H486 H708) (fun _ k710 => ?_) (fun α H708 hM => ?_)
   ·refine w_block ?_
    obtain ⟨n712, hn713⟩ := loopO_iff.1 hx705
    refine w_loopn (fun n α H714 => ∃ (i8 : Int), iterO (fun zz_ => z_viaductlaw11_OverlaySides_l6 o266 i9 y424 zz_) n i8 = some z707 ∧ Has α [(5, pt_ b248 0), (9, i_ (arcs10 + (y409.length : Int))), (10, i_ o446), (11, i_ i9), (13, .slice a434 n435 c436), (70, i_ N_), (71, i_ i9), (180, .slice a434 n435 c436), (181, i_ (y424.length : Int)), (182, i_ i8)] ∧ FrS [] H486 H714) n712 ⟨0, hn713, ha_, (FrS.refl (W := []) e487.wf)⟩ ?_
    rintro n712 α H714 ⟨i8, hi717, hh716, e715⟩ K722 k722
    obtain ⟨n718, z719, rfl, hz720, hn721⟩ := iter_succ hi717
    obtain ⟨β, rfl⟩ := has_ex hh716
    clear hh716
    replace hz720 : z_viaductlaw11_OverlaySides_l6 o266 i9 y424 i8 = some z719 := hz720
    unfold z_viaductlaw11_OverlaySides_l6 at hz720
    refine w_seqk fun _ k723 => ?_
    refine g_' ?_
    refine q_ (.bool (decide (i8 < (y424.length : Int)))) ?_
    refine s_nil (k723 _ _ ?_)
    refine w_seqk fun _ k724 => ?_
    refine w_condp (i8 < (y424.length : Int)) (by kernel_rfl) rfl (fun h725 => ?_) (fun h725 => ?_)
    ·have r726 := ite_t h725 hz720
     refine w_skip ?_
     refine k724 _ _ ?_
     refine w_seqk fun _ k727 => ?_
     refine w_block ?_
     refine w_seqk fun _ k728 => ?_
     refine g_' ?_
     refine q_ (i_ i8) ?_
     obtain ⟨g729, r730⟩ := G_some r726
     have u731 := (u703.fr e715 Dj.nil_l)
     refine l_' (elp (.slice a434 n435 c436) 3 i8.toNat 0) (aIndexAddr Try.prog 39 (.slice a434 n435 c436) (i_ i8)) (u731.sq.idxb (by kernel_rfl) g729 h725) ?_
     refine l_' (.agg #[i_ ((gt y424 i8).1), .int .u64 ((gt y424 i8).2.1), i_ ((gt y424 i8).2.2)]) (aLoad Try.prog 43 (elp (.slice a434 n435 c436) 3 i8.toNat 0) H714) (u731.sq.ld g729 h725 (by kernel_rfl)) ?_
     refine s_rwk e715.wf [i_ 0, .int .u64 0, i_ 0] (by kernel_rfl) fun b732 H733 e734 hb735 r736 => ?_
     refine q_ (i_ i8) ?_
     obtain ⟨H738, q739, e740, r741⟩ := Row.store (P := Try.prog) (t := 43) (p := 0) e734.wf r736 (.agg #[i_ ((gt y424 i8).1), .int .u64 ((gt y424 i8).2.1), i_ ((gt y424 i8).2.2)]) [i_ ((gt y424 i8).1), .int .u64 ((gt y424 i8).2.1), i_ ((gt y424 i8).2.2)] (by kernel_rfl) (by kernel_rfl) (one_cons (rfl) (one_cons (rfl) (one_cons (rfl) (one_nil)))) (Nat.le_of_ble_eq_true (by kernel_rfl)) [i_ ((gt y424 i8).1), .int .u64 ((gt y424 i8).2.1), i_ ((gt y424 i8).2.2)] (by kernel_rfl)
     refine s_ek (undef) (by kernel_rfl) (map_ok q739) ?_
     refine s_nil (k728 _ _ ?_)
     refine w_seqk fun _ k742 => ?_
     refine g_' ?_
     refine q_ (pt_ b248 0) ?_
     refine q_ (pt_ b732 0) ?_
     refine l_' (i_ ((gt y424 i8).1)) (aLoad Try.prog 3 (pt_ b732 0) H738) (r741.ld (by kernel_rfl)) ?_
     refine q_ (i_ i9) ?_
     have u743 := ((((u439.fr e487 Dj.nil_l).fr e715 Dj.nil_l).ext e734).fr e740 (hb735.djn (m272.lt.le (ntr (ntr (ntr (ntr e392.next e415.next) e430.next) e487.next) e715.next))))
     have u744 := ((((u440.frS e487 Dj.nil_l).frS e715 Dj.nil_l).ext e734).frS e740 (hb735.djn (m252.ltF.le (ntr (ntr (ntr (ntr (ntr e270.next e392.next) e415.next) e430.next) e487.next) e715.next))))
     obtain ⟨y745, hy746, r747⟩ := bind_some r730
     refine s_ck 17 #[pt_ b248 0, i_ ((gt y424 i8).1), i_ i9] (by kernel_rfl) (c_overlay_Overlay_Weight e740.wf u743 u744 hy746) ?_
     rintro _ H748 ⟨rfl, e749⟩
     refine q_ (.tuple #[.int .u64 y745.1, .bool y745.2]) ?_
     refine q_ (.int .u64 y745.1) ?_
     refine q_ (.bool y745.2) ?_
     refine q_ (.int .u64 y745.1) ?_
     refine q_ (.bool y745.2) ?_
     refine s_nil (k742 _ _ ?_)
     refine w_seqk fun _ k750 => ?_
     refine w_draw [0, 1, 2, 3, 4, 5, 6, 7, 8, 9, 10, 11, 12, 13, 14, 15, 16] (by kernel_rfl) ?_
     refine e_' (.bool y745.2) ?_
     refine e_' (.bool (!y745.2)) ?_
     refine e_' (.bool (!y745.2)) ?_
     by_cases h751 : (!y745.2) = true
     ·have r752 := ite_t h751 r747
      rw [h751]
      refine j_' ?_
      refine j_' ?_
      refine j_' ?_
      refine j_' ?_
      refine j_' ?_
      refine j_' ?_
      refine j_' ?_
      refine j_' ?_
      refine j_' ?_
      refine j_' ?_
      refine j_' ?_
      refine j_' ?_
      refine j_' ?_
      refine e_' (.bool true) ?_
      refine d_nil ?_
      refine k750 _ _ ?_
      refine w_cond true (by kernel_rfl) rfl (fun _ => ?_) (fun h => by cases h)
      refine w_seqk fun _ k753 => ?_
      refine g_' ?_
      refine q_ (.bool false) ?_
      refine s_nil (k753 _ _ ?_)
      refine w_ret (bl_ret (th_ret (th_ret (bl_ret (th_ret (bl_ret (th_ret (th_ret (bl_ret (th_ret (th_ret ?_)))))))))))
      obtain ⟨v754, hv755, hz756⟩ := map_some r752
      subst hz756
      obtain rfl := it_inr hn721
      have hq757 := elim_inl r706
      rw [hq757] at hv755
      obtain ⟨v758, hv759, hz760⟩ := map_some hv755
      subst hz760
      obtain rfl := it_inr hn398
      have hq761 := elim_inl r383
      rw [hq761] at hv759
      refine b_ret (fn := Try.f3) (vs := [.bool false]) (aRes_tmp (by kernel_rfl) (rfl)) ?_
      obtain rfl := Option.some.inj hv759
      exact ⟨rfl, (FrS.step wf (FrS.step wf ((FrS.step wf (FrS.step wf (FrS.step wf (FrS.step wf (FrS.step wf (FrS.step wf (FrS.step wf (FrS.step wf (FrS.step wf ((FrS.refl (W := []) wf).extR e4) e14 Inn.nil) e25 Inn.nil) e250 Inn.nil) e270 (Inn.app (i254.fresh (ntr (ntr e4.next e14.next) e25.next)) (i253.fresh (ntr (ntr e4.next e14.next) e25.next)))) e392 Inn.nil) e415 Inn.nil) e430 Inn.nil) e487 Inn.nil) e715 Inn.nil).extR e734) e740 (hb735.fresh (ntr (ntr (ntr (ntr (ntr (ntr (ntr (ntr (ntr e4.next e14.next) e25.next) e250.next) e270.next) e392.next) e415.next) e430.next) e487.next) e715.next))) e749 Inn.nil)⟩
     have r762 := ite_f h751 r747
     rw [nb h751]
     refine e_' (i_ i8) ?_
     refine d_b (i8 > 0) (by kernel_rfl) (fun h763 => ?_) (fun h763 => ?_)
     ·have r764 := ite_t h763 r762
      refine e_' (.bool true) ?_
      refine e_' (.slice a434 n435 c436) ?_
      refine e_' (i_ i8) ?_
      obtain ⟨g765, r766⟩ := G_some r764
      refine d_w ((i8 - 1)) (k := .i64) (x := (i8 - 1)) (by kernel_rfl) (wrap64 g765) ?_
      obtain ⟨g767, r768⟩ := G_some r766
      have u769 := (((u731.ext e734).fr e740 (hb735.djn (m431.lt.le (ntr e487.next e715.next)))).fr e749 Dj.nil_l)
      refine m_' (elp (.slice a434 n435 c436) 3 (i8 - 1).toNat 0) (aIndexAddr Try.prog 39 (.slice a434 n435 c436) (i_ (i8 - 1))) (u769.sq.idxb (by kernel_rfl) g767.1 g767.2) ?_
      refine m_' (elp (.slice a434 n435 c436) 3 (i8 - 1).toNat 0) (aFieldAddr Try.prog 43 (elp (.slice a434 n435 c436) 3 (i8 - 1).toNat 0) 0) (Sq.fldq (d := 0) u769.sq g767.1 g767.2 (by kernel_rfl)) ?_
      refine m_' (i_ ((gt y424 (i8 - 1)).1)) (aLoad Try.prog 3 (elp (.slice a434 n435 c436) 3 (i8 - 1).toNat 0) H748) (u769.sq.ld g767.1 g767.2 (by kernel_rfl)) ?_
      refine e_' (pt_ b732 0) ?_
      have u770 := (r741.frS e749 Dj.nil_l)
      refine m_' (i_ ((gt y424 i8).1)) (aLoad Try.prog 3 (pt_ b732 0) H748) (u770.ld (by kernel_rfl)) ?_
      refine e_' (.bool (decide (((gt y424 (i8 - 1)).1) ≥ ((gt y424 i8).1)))) ?_
      refine e_' (.bool (decide (((gt y424 (i8 - 1)).1) ≥ ((gt y424 i8).1)))) ?_
      refine e_' (.bool (decide (((gt y424 (i8 - 1)).1) ≥ ((gt y424 i8).1)))) ?_
      refine d_nil ?_
      refine k750 _ _ ?_
      refine w_condp (((gt y424 (i8 - 1)).1) ≥ ((gt y424 i8).1)) (by kernel_rfl) rfl (fun h771 => ?_) (fun h771 => ?_)
      ·have r772 := ite_t h771 r768
       refine w_seqk fun _ k773 => ?_
       refine g_' ?_
       refine q_ (.bool false) ?_
       refine s_nil (k773 _ _ ?_)
       refine w_ret (bl_ret (th_ret (th_ret (bl_ret (th_ret (bl_ret (th_ret (th_ret (bl_ret (th_ret (th_ret ?_)))))))))))
       obtain ⟨v774, hv775, hz776⟩ := map_some r772
       subst hz776
       obtain rfl := it_inr hn721
       have hq777 := elim_inl r706
       rw [hq777] at hv775
       obtain ⟨v778, hv779, hz780⟩ := map_some hv775
       subst hz780
       obtain rfl := it_inr hn398
       have hq781 := elim_inl r383
       rw [hq781] at hv779
       refine b_ret (fn := Try.f3) (vs := [.bool false]) (aRes_tmp (by kernel_rfl) (rfl)) ?_
       obtain rfl := Option.some.inj hv779
       exact ⟨rfl, (FrS.step wf (FrS.step wf ((FrS.step wf (FrS.step wf (FrS.step wf (FrS.step wf (FrS.step wf (FrS.step wf (FrS.step wf (FrS.step wf (FrS.step wf ((FrS.refl (W := []) wf).extR e4) e14 Inn.nil) e25 Inn.nil) e250 Inn.nil) e270 (Inn.app (i254.fresh (ntr (ntr e4.next e14.next) e25.next)) (i253.fresh (ntr (ntr e4.next e14.next) e25.next)))) e392 Inn.nil) e415 Inn.nil) e430 Inn.nil) e487 Inn.nil) e715 Inn.nil).extR e734) e740 (hb735.fresh (ntr (ntr (ntr (ntr (ntr (ntr (ntr (ntr (ntr e4.next e14.next) e25.next) e250.next) e270.next) e392.next) e415.next) e430.next) e487.next) e715.next))) e749 Inn.nil)⟩
      have r782 := ite_f h771 r768
      refine w_skip ?_
      refine k727 _ _ ?_
      refine g_' ?_
      obtain ⟨g783, r784⟩ := G_some r782
      refine s_w ((i8 + 1)) (k := .i64) (x := (i8 + 1)) (by kernel_rfl) (wrap64 (by have := g783; omega)) ?_
      refine q_ (i_ (i8 + 1)) ?_
      refine s_nil ?_
      obtain rfl := Option.some.inj r784
      exact k722 n718 _ _ (Nat.lt_succ_self _) ⟨(i8 + 1), hn721, ha_, (FrS.step e487.wf (FrS.step e487.wf ((FrS.step e487.wf (FrS.refl (W := []) e487.wf) e715 Inn.nil).extR e734) e740 (hb735.fresh e715.next)) e749 Inn.nil)⟩
     have r785 := ite_f h763 r762
     refine e_' (.bool false) ?_
     refine j_' ?_
     refine j_' ?_
     refine j_' ?_
     refine j_' ?_
     refine j_' ?_
     refine j_' ?_
     refine j_' ?_
     refine j_' ?_
     refine j_' ?_
     refine e_' (.bool false) ?_
     refine e_' (.bool false) ?_
     refine d_nil ?_
     refine k750 _ _ ?_
     refine w_cond false (by kernel_rfl) rfl (fun h => by cases h) (fun _ => ?_)
     refine w_skip ?_
     refine k727 _ _ ?_
     refine g_' ?_
     obtain ⟨g786, r787⟩ := G_some r785
     refine s_w ((i8 + 1)) (k := .i64) (x := (i8 + 1)) (by kernel_rfl) (wrap64 (by have := g786; omega)) ?_
     refine q_ (i_ (i8 + 1)) ?_
     refine s_nil ?_
     obtain rfl := Option.some.inj r787
     exact k722 n718 _ _ (Nat.lt_succ_self _) ⟨(i8 + 1), hn721, ha_, (FrS.step e487.wf (FrS.step e487.wf ((FrS.step e487.wf (FrS.refl (W := []) e487.wf) e715 Inn.nil).extR e734) e740 (hb735.fresh e715.next)) e749 Inn.nil)⟩
    have r788 := ite_f h725 hz720
    refine w_exit (th_exit (th_exit (bl_eq ?_)))
    obtain rfl := Option.some.inj r788
    obtain rfl := it_inr hn721
    exact k710 _ _ ⟨_, rfl, ha_, (FrS.step e487.wf (FrS.refl (W := []) e487.wf) e715 Inn.nil)⟩
   obtain ⟨o704, rfl, hh711, e709⟩ := hM
   have r789 := elim_inr r706
   obtain ⟨β, rfl⟩ := has_ex hh711
   clear hh711
   refine k404 _ _ ?_
   refine g_' ?_
   obtain ⟨g790, r791⟩ := G_some r789
   refine s_w ((i9 + 1)) (k := .i64) (x := (i9 + 1)) (by kernel_rfl) (wrap64 g790) ?_
   refine q_ (i_ (i9 + 1)) ?_
   refine s_nil ?_
   obtain rfl := Option.some.inj r791
   exact k399 n395 _ _ (Nat.lt_succ_self _) ⟨o446, (i9 + 1), (arcs10 + (y409.length : Int)), hn398, ha_, (FrS.step e270.wf (FrS.step e270.wf (FrS.step e270.wf (FrS.step e270.wf (FrS.step e270.wf (FrS.refl (W := []) e270.wf) e392 Inn.nil) e415 Inn.nil) e430 Inn.nil) e487 Inn.nil) e709 Inn.nil)⟩
  have r792 := ite_f h402 hz397
  refine w_exit (th_exit (th_exit (bl_eq ?_)))
  obtain rfl := Option.some.inj r792
  obtain rfl := it_inr hn398
  exact k387 _ _ ⟨_, rfl, ha_, (FrS.step e270.wf (FrS.refl (W := []) e270.wf) e392 Inn.nil)⟩
 obtain ⟨o381, rfl, hh388, e386⟩ := hM
 have r793 := elim_inr r383
 obtain ⟨β, rfl⟩ := has_ex hh388
 clear hh388
 refine k378 _ _ ?_
 refine w_seqk fun _ k794 => ?_
 refine g_' ?_
 refine q_ (i_ o381.2) ?_
 refine q_ (pt_ b248 0) ?_
 have u795 := (m272.fr e386 Dj.nil_l)
 have u796 := (m275.frS e386 Dj.nil_l)
 obtain ⟨y797, hy798, r799⟩ := bind_some r793
 refine s_ck 18 #[pt_ b248 0] (by kernel_rfl) (c_overlay_Overlay_Arcs e386.wf u795 u796 hy798) ?_
 rintro _ _ ⟨rfl, rfl⟩
 refine s_b (o381.2 = y797) (by kernel_rfl) (fun h802 => ?_) (fun h802 => ?_)
 ·have r803 := ite_t h802 r799
  refine q_ (.bool true) ?_
  refine q_ (i_ o381.1) ?_
  refine q_ (pt_ b248 0) ?_
  obtain ⟨y804, hy805, r806⟩ := bind_some r803
  refine s_ck 19 #[pt_ b248 0] (by kernel_rfl) (c_overlay_Overlay_Len e386.wf u795 u796 hy805) ?_
  rintro _ _ ⟨rfl, rfl⟩
  refine q_ (.bool (decide (o381.1 = y804))) ?_
  refine q_ (.bool (decide (o381.1 = y804))) ?_
  refine q_ (.bool (decide (o381.1 = y804))) ?_
  refine s_nil (k794 _ _ ?_)
  refine w_ret ?_
  refine b_ret (fn := Try.f3) (vs := [.bool (decide (o381.1 = y804))]) (aRes_tmp (by kernel_rfl) (rfl)) ?_
  obtain rfl := Option.some.inj r806
  exact ⟨rfl, (FrS.step wf (FrS.step wf (FrS.step wf (FrS.step wf (FrS.step wf ((FrS.refl (W := []) wf).extR e4) e14 Inn.nil) e25 Inn.nil) e250 Inn.nil) e270 (Inn.app (i254.fresh (ntr (ntr e4.next e14.next) e25.next)) (i253.fresh (ntr (ntr e4.next e14.next) e25.next)))) e386 Inn.nil)⟩
 have r809 := ite_f h802 r799
 refine q_ (.bool false) ?_
 refine n_' ?_
 refine n_' ?_
 refine n_' ?_
 refine n_' ?_
 refine q_ (.bool false) ?_
 refine q_ (.bool false) ?_
 refine s_nil (k794 _ _ ?_)
 refine w_ret ?_
 refine b_ret (fn := Try.f3) (vs := [.bool false]) (aRes_tmp (by kernel_rfl) (rfl)) ?_
 obtain rfl := Option.some.inj r809
 exact ⟨rfl, (FrS.step wf (FrS.step wf (FrS.step wf (FrS.step wf (FrS.step wf ((FrS.refl (W := []) wf).extR e4) e14 Inn.nil) e25 Inn.nil) e250 Inn.nil) e270 (Inn.app (i254.fresh (ntr (ntr e4.next e14.next) e25.next)) (i253.fresh (ntr (ntr e4.next e14.next) e25.next)))) e386 Inn.nil)⟩


end Go.Vd
