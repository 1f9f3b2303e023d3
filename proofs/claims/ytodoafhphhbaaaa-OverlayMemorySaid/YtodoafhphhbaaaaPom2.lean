/- The walks of the functions (printed by a program of ours). -/
import Derived.Test.YtodoafhphhbaaaaPom1
import Derived.Test.YtodoafhphhbaaaaPomVeC
import Derived.Test.YtodoafhphhbaaaaPomIOm
import Derived.Test.YtodoafhphhbaaaaPomVeN
import Derived.Test.YtodoafhphhbaaaaPomVeM
import Derived.Test.YtodoafhphhbaaaaPomVeG
import Derived.Test.YtodoafhphhbaaaaPomSoA
import Derived.Test.YtodoafhphhbaaaaPomVeV
set_option linter.unusedVariables false
set_option linter.unusedSimpArgs false
set_option linter.unusedSectionVars false
/-! (KOm4) -/

set_option maxRecDepth 100000
set_option maxHeartbeats 4000000
set_option linter.unusedVariables false
namespace Go.Vd
open Go.Proofs
attribute [local irreducible] wpSeq wpOrd aWp
theorem c_viaductref04_Of {H : AH} {hd_Arcs : Value} {fp_Arcs : Fp} {N_ : Int} {Arcs : List (Int × Int × Int)} {r : Int × List (Int × Int × Int)}
    (wf : WF H) (h_Arcs : Sq enc_i64_i64_i64 3 H hd_Arcs Arcs fp_Arcs) (hr : z_viaductref04_Of N_ Arcs = some r) :
    ACalls Try.prog 74 #[.agg #[i_ N_, hd_Arcs]] H fun v H' => ∃ (s3 : Value) (f4 : Fp), v = .agg #[i_ r.1, s3] ∧ FrS [] H H' ∧ Ow enc_i64_i64_i64 3 H' s3 r.2 f4 ∧ Inn [] H f4 := by
 refine acalls_of_body mixed Try.func74 rfl (Nat.le_of_ble_eq_true rfl) ?_
 unfold z_viaductref04_Of at hr
 refine w_seqk fun _ k6 => ?_
 refine g_' ?_
 refine s_rwl wf [i_ N_, hd_Arcs] (one_cons (rfl) (one_cons (h_Arcs.one1) (one_nil))) (by kernel_rfl) fun b7 H8 e9 hb10 r11 => ?_
 refine s_rwk e9.wf [i_ 0, .slice none 0 0] (by kernel_rfl) fun b13 H14 e15 hb16 r17 => ?_
 refine s_nil (k6 _ _ ?_)
 refine w_seqk fun _ k19 => ?_
 refine g_' ?_
 refine q_ (pt_ b7 0) ?_
 have u20 := (r11.ext e15)
 refine l_' (i_ N_) (aLoad Try.prog 3 (pt_ b7 0) H14) (u20.ld (by kernel_rfl)) ?_
 refine q_ (.agg #[i_ N_, .slice none 0 0]) ?_
 refine s_rwk e15.wf [i_ 0, .slice none 0 0] (by kernel_rfl) fun b21 H22 e23 hb24 r25 => ?_
 obtain ⟨H27, q28, e29, r30⟩ := Row.store (P := Try.prog) (t := 24) (p := 0) e23.wf r25 (.agg #[i_ N_, .slice none 0 0]) [i_ N_, .slice none 0 0] (by kernel_rfl) (by kernel_rfl) (one_cons (rfl) (one_cons (rfl) (one_nil))) (Nat.le_of_ble_eq_true (by kernel_rfl)) [i_ N_, .slice none 0 0] (by kernel_rfl)
 refine s_ek (undef) (by kernel_rfl) (map_ok q28) ?_
 refine s_nil (k19 _ _ ?_)
 refine w_seqk fun _ k31 => ?_
 refine w_seqk fun _ k32 => ?_
 refine g_' ?_
 refine q_ (pt_ b7 1) ?_
 have u33 := ((u20.ext e23).frS e29 (hb24.djn (r11.ltF.le e15.next)))
 refine l_' (hd_Arcs) (aLoad Try.prog 22 (pt_ b7 1) H27) (u33.ld (by kernel_rfl)) ?_
 have u34 := ((((h_Arcs.ext e9).ext e15).ext e23).fr e29 (hb24.djn (h_Arcs.lt.le (ntr e9.next e15.next))))
 refine l_' (i_ (Arcs.length : Int)) (aLen Try.prog 22 hd_Arcs H27) (u34.lenb (by kernel_rfl)) ?_
 refine q_ (i_ 0) ?_
 refine s_nil (k32 _ _ ?_)
 obtain ⟨o35, hx36, r37⟩ := bind_some hr
 refine w_mid (fun α H38 => ∃ (s42 : Value) (f43 : Fp), Has α [(2, pt_ b13 0), (3, pt_ b21 0)] ∧ FrS [b21] H27 H38 ∧ Ow enc_i64_i64_i64 3 H38 s42 o35 f43 ∧ Row H38 b21 [i_ N_, s42] ∧ Inn [] H27 f43) (fun _ k47 => ?_) (fun α H38 hM => ?_)
 ·refine w_block ?_
  obtain ⟨n49, hn50⟩ := loopO_iff.1 hx36
  refine w_loopn (fun n α H51 => ∃ (i0 : Int), ∃ (c1 : List (Int × Int × Int)), ∃ (s55 : Value), ∃ (f56 : Fp), iterO (fun zz_ => z_viaductref04_Of_l0 Arcs zz_.1 zz_.2) n (i0, c1) = some o35 ∧ Has α [(2, pt_ b13 0), (3, pt_ b21 0), (10, hd_Arcs), (11, i_ (Arcs.length : Int)), (12, i_ i0)] ∧ FrS [b21] H27 H51 ∧ Ow enc_i64_i64_i64 3 H51 s55 c1 f56 ∧ Row H51 b21 [i_ N_, s55] ∧ Inn [] H27 f56) n49 ⟨0, [], (.slice none 0 0), [], hn50, ha_, (FrS.refl (W := [b21]) e29.wf), (Ow.nil (by decide)), r30, Inn.nil⟩ ?_
  rintro n49 α H51 ⟨i0, c1, s55, f56, hi61, hh60, e52, m54, m58, i59⟩ K66 k66
  obtain ⟨n62, z63, rfl, hz64, hn65⟩ := iter_succ hi61
  obtain ⟨β, rfl⟩ := has_ex hh60
  clear hh60
  replace hz64 : z_viaductref04_Of_l0 Arcs i0 c1 = some z63 := hz64
  unfold z_viaductref04_Of_l0 at hz64
  obtain ⟨a67, n68, c69, rfl⟩ := m54.form
  refine w_seqk fun _ k70 => ?_
  refine g_' ?_
  refine q_ (.bool (decide (i0 < (Arcs.length : Int)))) ?_
  refine s_nil (k70 _ _ ?_)
  refine w_seqk fun _ k71 => ?_
  refine w_condp (i0 < (Arcs.length : Int)) (by kernel_rfl) rfl (fun h72 => ?_) (fun h72 => ?_)
  ·have r73 := ite_t h72 hz64
   refine w_skip ?_
   refine k71 _ _ ?_
   refine w_seqk fun _ k74 => ?_
   refine w_block ?_
   refine w_seqk fun _ k75 => ?_
   refine g_' ?_
   obtain ⟨g76, r77⟩ := G_some r73
   have u78 := (u34.fr e52 (hb24.djn (h_Arcs.lt.le (ntr e9.next e15.next))))
   refine l_' (elp hd_Arcs 3 i0.toNat 0) (aIndexAddr Try.prog 22 hd_Arcs (i_ i0)) (u78.idxb (by kernel_rfl) g76 h72) ?_
   refine l_' (.agg #[i_ ((gt Arcs i0).1), i_ ((gt Arcs i0).2.1), i_ ((gt Arcs i0).2.2)]) (aLoad Try.prog 52 (elp hd_Arcs 3 i0.toNat 0) H51) (u78.ld g76 h72 (by kernel_rfl)) ?_
   refine s_rwk e52.wf [i_ 0, i_ 0, i_ 0] (by kernel_rfl) fun b79 H80 e81 hb82 r83 => ?_
   obtain ⟨H85, q86, e87, r88⟩ := Row.store (P := Try.prog) (t := 52) (p := 0) e81.wf r83 (.agg #[i_ ((gt Arcs i0).1), i_ ((gt Arcs i0).2.1), i_ ((gt Arcs i0).2.2)]) [i_ ((gt Arcs i0).1), i_ ((gt Arcs i0).2.1), i_ ((gt Arcs i0).2.2)] (by kernel_rfl) (by kernel_rfl) (one_cons (rfl) (one_cons (rfl) (one_cons (rfl) (one_nil)))) (Nat.le_of_ble_eq_true (by kernel_rfl)) [i_ ((gt Arcs i0).1), i_ ((gt Arcs i0).2.1), i_ ((gt Arcs i0).2.2)] (by kernel_rfl)
   refine s_ek (undef) (by kernel_rfl) (map_ok q86) ?_
   refine s_nil (k75 _ _ ?_)
   refine w_seqk fun _ k89 => ?_
   refine g_' ?_
   refine q_ (pt_ b79 0) ?_
   refine l_' (i_ ((gt Arcs i0).1)) (aLoad Try.prog 3 (pt_ b79 0) H85) (r88.ld (by kernel_rfl)) ?_
   refine q_ (pt_ b79 1) ?_
   refine l_' (i_ ((gt Arcs i0).2.1)) (aLoad Try.prog 3 (pt_ b79 1) H85) (r88.ld (by kernel_rfl)) ?_
   refine q_ (.bool (!decide (((gt Arcs i0).1) = ((gt Arcs i0).2.1)))) ?_
   refine s_nil (k89 _ _ ?_)
   refine w_condn (((gt Arcs i0).1) = ((gt Arcs i0).2.1)) (by kernel_rfl) rfl (fun h90 => ?_) (fun h90 => ?_)
   ·have r91 := ite_f h90 r77
    refine g_' ?_
    refine q_ (pt_ b21 1) ?_
    have u92 := ((m58.ext e81).frS e87 (hb82.djn (r25.ltF.le (ntr e29.next e52.next))))
    refine l_' (.slice a67 n68 c69) (aLoad Try.prog 22 (pt_ b21 1) H85) (u92.ld (by kernel_rfl)) ?_
    refine l_' (.agg #[i_ ((gt Arcs i0).1), i_ ((gt Arcs i0).2.1), i_ ((gt Arcs i0).2.2)]) (aLoad Try.prog 52 (pt_ b79 0) H85) (r88.ld (by kernel_rfl)) ?_
    have u93 := ((m54.ext e81).fr e87 (hb82.djn m54.lt))
    obtain ⟨y94, hy95, r96⟩ := bind_some r91
    refine s_ck 86 #[.slice a67 n68 c69, .agg #[i_ ((gt Arcs i0).1), i_ ((gt Arcs i0).2.1), i_ ((gt Arcs i0).2.2)]] (by kernel_rfl) (c_viaductref04_Put e87.wf u93.sq hy95) ?_
    rintro s97 H99 ⟨_, f98, rfl, e100, m101, i102⟩
    obtain ⟨a104, n105, c106, rfl⟩ := m101.form
    refine q_ (pt_ b21 1) ?_
    have u111 := (u92.frS e100 Dj.nil_l)
    obtain ⟨H107, q108, e109, r110⟩ := Row.store (P := Try.prog) (t := 22) (p := 1) e100.wf u111 (.slice a104 n105 c106) [.slice a104 n105 c106] (by kernel_rfl) (by kernel_rfl) (one_cons (m101.one1) (one_nil)) (Nat.le_of_ble_eq_true (by kernel_rfl)) [i_ N_, .slice a104 n105 c106] (by kernel_rfl)
    refine s_ek (undef) (by kernel_rfl) (map_ok q108) ?_
    refine s_nil (k74 _ _ ?_)
    refine g_' ?_
    obtain ⟨g112, r113⟩ := G_some r96
    refine s_w ((i0 + 1)) (k := .i64) (x := (i0 + 1)) (by kernel_rfl) (wrap64 (by have := g112; omega)) ?_
    refine q_ (i_ (i0 + 1)) ?_
    refine s_nil ?_
    have u114 := (m101.fr e109 (Dj.symm (i102.djn (r25.ltF.le (ntr (ntr (ntr e29.next e52.next) e81.next) e87.next)))))
    obtain rfl := Option.some.inj r113
    exact k66 n62 _ _ (Nat.lt_succ_self _) ⟨(i0 + 1), y94, (.slice a104 n105 c106), f98, hn65, ha_, (FrS.step e29.wf (FrS.step e29.wf (FrS.step e29.wf ((FrS.step e29.wf (FrS.refl (W := [b21]) e29.wf) e52 Inn.refl').extR e81) e87 (hb82.fresh e52.next)) e100 Inn.nil) e109 Inn.refl'), u114, r110, (i102.fresh (ntr (ntr e52.next e81.next) e87.next))⟩
   have r115 := ite_t h90 r77
   refine w_skip ?_
   refine k74 _ _ ?_
   refine g_' ?_
   obtain ⟨g116, r117⟩ := G_some r115
   refine s_w ((i0 + 1)) (k := .i64) (x := (i0 + 1)) (by kernel_rfl) (wrap64 (by have := g116; omega)) ?_
   refine q_ (i_ (i0 + 1)) ?_
   refine s_nil ?_
   have u118 := ((m54.ext e81).fr e87 (hb82.djn m54.lt))
   have u119 := ((m58.ext e81).frS e87 (hb82.djn (r25.ltF.le (ntr e29.next e52.next))))
   obtain rfl := Option.some.inj r117
   exact k66 n62 _ _ (Nat.lt_succ_self _) ⟨(i0 + 1), c1, (.slice a67 n68 c69), f56, hn65, ha_, (FrS.step e29.wf ((FrS.step e29.wf (FrS.refl (W := [b21]) e29.wf) e52 Inn.refl').extR e81) e87 (hb82.fresh e52.next)), u118, u119, (i59.fresh (Nat.le_refl _))⟩
  have r120 := ite_f h72 hz64
  refine w_exit (th_exit (th_exit (bl_eq ?_)))
  obtain rfl := Option.some.inj r120
  obtain rfl := it_inr hn65
  exact k47 _ _ ⟨(.slice a67 n68 c69), f56, ha_, (FrS.step e29.wf (FrS.refl (W := [b21]) e29.wf) e52 Inn.refl'), m54, m58, (i59.fresh (Nat.le_refl _))⟩
 obtain ⟨s42, f43, hh48, e39, m41, m45, i46⟩ := hM
 obtain ⟨β, rfl⟩ := has_ex hh48
 clear hh48
 obtain ⟨a121, n122, c123, rfl⟩ := m41.form
 refine k31 _ _ ?_
 refine w_seqk fun _ k124 => ?_
 refine g_' ?_
 refine l_' (.agg #[i_ N_, .slice a121 n122 c123]) (aLoad Try.prog 24 (pt_ b21 0) H38) (m45.ld (by kernel_rfl)) ?_
 have u129 := (((r17.ext e23).frS e29 (hb24.djn r17.ltF)).frS e39 (hb24.djn r17.ltF))
 obtain ⟨H125, q126, e127, r128⟩ := Row.store (P := Try.prog) (t := 24) (p := 0) e39.wf u129 (.agg #[i_ N_, .slice a121 n122 c123]) [i_ N_, .slice a121 n122 c123] (by kernel_rfl) (by kernel_rfl) (one_cons (rfl) (one_cons (m41.one1) (one_nil))) (Nat.le_of_ble_eq_true (by kernel_rfl)) [i_ N_, .slice a121 n122 c123] (by kernel_rfl)
 refine s_ek (undef) (by kernel_rfl) (map_ok q126) ?_
 refine s_nil (k124 _ _ ?_)
 refine w_ret ?_
 refine b_ret (fn := Try.f74) (vs := [.agg #[i_ N_, .slice a121 n122 c123]]) (aRes_cell (Eq.trans (b := aLoad Try.prog 24 (pt_ b13 0) H125) (by kernel_rfl) (r128.ld (by kernel_rfl))) (rfl)) ?_
 have u130 := (m41.fr e127 (Dj.symm (i46.djn (r17.ltF.le (ntr e23.next e29.next)))))
 obtain rfl := Option.some.inj r37
 exact ⟨(.slice a121 n122 c123), f43, rfl, (FrS.step wf (FrS.step wf (FrS.step wf ((((FrS.refl (W := []) wf).extR e9).extR e15).extR e23) e29 (hb24.fresh (ntr e9.next e15.next))) e39 (hb24.fresh (ntr e9.next e15.next))) e127 (hb16.fresh e9.next)), u130, (i46.fresh (ntr (ntr (ntr e9.next e15.next) e23.next) e29.next))⟩

theorem c_viaductref04_DocOf {H : AH} {hd_Arcs : Value} {fp_Arcs : Fp} {N_ : Int} {Arcs : List (Int × Int × Int)} {r : Int × List (Int × Int × Int) × Int × List (Int × Int)}
    (wf : WF H) (h_Arcs : Sq enc_i64_i64_i64 3 H hd_Arcs Arcs fp_Arcs) (hr : z_viaductref04_DocOf N_ Arcs = some r) :
    ACalls Try.prog 49 #[.agg #[i_ N_, hd_Arcs]] H fun v H' => ∃ (s3 : Value) (f4 : Fp) (s7 : Value) (f8 : Fp), v = .tuple #[.agg #[i_ r.1, s3], .agg #[i_ r.2.2.1, s7]] ∧ FrS [] H H' ∧ Ow enc_i64_i64_i64 3 H' s3 r.2.1 f4 ∧ Ow enc_i64_i64 2 H' s7 r.2.2.2 f8 ∧ Inn [] H f4 ∧ Inn [] H f8 ∧ Dj f4 f8 := by
 refine acalls_of_body mixed Try.func49 rfl (Nat.le_of_ble_eq_true rfl) ?_
 unfold z_viaductref04_DocOf at hr
 refine w_seqk fun _ k12 => ?_
 refine g_' ?_
 refine s_rwl wf [i_ N_, hd_Arcs] (one_cons (rfl) (one_cons (h_Arcs.one1) (one_nil))) (by kernel_rfl) fun b13 H14 e15 hb16 r17 => ?_
 refine s_rwk e15.wf [i_ 0, .slice none 0 0] (by kernel_rfl) fun b19 H20 e21 hb22 r23 => ?_
 refine s_rwk e21.wf [i_ 0, .slice none 0 0] (by kernel_rfl) fun b25 H26 e27 hb28 r29 => ?_
 refine s_nil (k12 _ _ ?_)
 refine w_seqk fun _ k31 => ?_
 refine w_seqk fun _ k32 => ?_
 refine g_' ?_
 have u33 := ((r17.ext e21).ext e27)
 refine l_' (.agg #[i_ N_, hd_Arcs]) (aLoad Try.prog 24 (pt_ b13 0) H26) (u33.ld (by kernel_rfl)) ?_
 have u34 := (((h_Arcs.ext e15).ext e21).ext e27)
 obtain ⟨y35, hy36, r37⟩ := bind_some hr
 refine s_ck 41 #[.agg #[i_ N_, hd_Arcs]] (by kernel_rfl) (c_viaductref03_DocCheck e27.wf u34 hy36) ?_
 rintro _ H40 ⟨s38, f39, rfl, e41, m42, i43⟩
 obtain ⟨a45, n46, c47, rfl⟩ := m42.form
 refine s_rwk e41.wf [i_ 0, .slice none 0 0] (by kernel_rfl) fun b48 H49 e50 hb51 r52 => ?_
 have u58 := (m42.ext e50)
 obtain ⟨H54, q55, e56, r57⟩ := Row.store (P := Try.prog) (t := 59) (p := 0) e50.wf r52 (.agg #[i_ y35.1, .slice a45 n46 c47]) [i_ y35.1, .slice a45 n46 c47] (by kernel_rfl) (by kernel_rfl) (one_cons (rfl) (one_cons (u58.one1) (one_nil))) (Nat.le_of_ble_eq_true (by kernel_rfl)) [i_ y35.1, .slice a45 n46 c47] (by kernel_rfl)
 refine s_ek (undef) (by kernel_rfl) (map_ok q55) ?_
 refine s_nil (k32 _ _ ?_)
 refine w_seqk fun _ k59 => ?_
 refine g_' ?_
 refine l_' (.agg #[i_ y35.1, .slice a45 n46 c47]) (aLoad Try.prog 59 (pt_ b48 0) H54) (r57.ld (by kernel_rfl)) ?_
 have u60 := (u58.fr e56 (hb51.djn m42.lt))
 obtain ⟨y61, hy62, r63⟩ := bind_some r37
 refine s_ck 42 #[.agg #[i_ y35.1, .slice a45 n46 c47]] (by kernel_rfl) (c_viaductref01_Err_Bad e56.wf u60.sq hy62) ?_
 rintro _ H64 ⟨rfl, e65⟩
 refine s_nil (k59 _ _ ?_)
 refine w_cond (y61) (by kernel_rfl) rfl (fun h66 => ?_) (fun h66 => ?_)
 ·have r67 := ite_t h66 r63
  refine w_seqk fun _ k68 => ?_
  refine w_draw [0, 1, 2, 3] (by kernel_rfl) ?_
  refine e_' (.agg #[i_ 0, .slice none 0 0]) ?_
  have u69 := (r57.frS e65 Dj.nil_l)
  refine d_fl (.agg #[i_ y35.1, .slice a45 n46 c47]) (x := aLoad Try.prog 59 (pt_ b48 0) H64) (by kernel_rfl) (u69.ld (by kernel_rfl)) ?_
  have u74 := (((((r23.ext e27).frS e41 Dj.nil_l).ext e50).frS e56 (hb51.djn (r23.ltF.le (ntr e27.next e41.next)))).frS e65 Dj.nil_l)
  obtain ⟨H70, q71, e72, r73⟩ := Row.store (P := Try.prog) (t := 24) (p := 0) e65.wf u74 (.agg #[i_ 0, .slice none 0 0]) [i_ 0, .slice none 0 0] (by kernel_rfl) (by kernel_rfl) (one_cons (rfl) (one_cons (rfl) (one_nil))) (Nat.le_of_ble_eq_true (by kernel_rfl)) [i_ 0, .slice none 0 0] (by kernel_rfl)
  have u75 := (u69.frS e72 (Dj.symm (hb51.djn (r23.ltF.le (ntr e27.next e41.next)))))
  refine d_ek (undef) (by kernel_rfl) (map_ok q71) (st_ql (y := aLoad Try.prog 59 (pt_ b48 0) H70) (by kernel_rfl) (u75.ld (by kernel_rfl)) (st_nil)) ?_
  have u80 := (((((r29.frS e41 Dj.nil_l).ext e50).frS e56 (hb51.djn (r29.ltF.le e41.next))).frS e65 Dj.nil_l).frS e72 (Dj.symm (hb28.djn r23.ltF)))
  have u81 := ((u60.fr e65 Dj.nil_l).fr e72 (Dj.symm (i43.djn (r23.ltF.le e27.next))))
  obtain ⟨H76, q77, e78, r79⟩ := Row.store (P := Try.prog) (t := 59) (p := 0) e72.wf u80 (.agg #[i_ y35.1, .slice a45 n46 c47]) [i_ y35.1, .slice a45 n46 c47] (by kernel_rfl) (by kernel_rfl) (one_cons (rfl) (one_cons (u81.one1) (one_nil))) (Nat.le_of_ble_eq_true (by kernel_rfl)) [i_ y35.1, .slice a45 n46 c47] (by kernel_rfl)
  refine d_ek (undef) (by kernel_rfl) (map_ok q77) (st_anc (by kernel_rfl) (st_nil)) ?_
  refine d_nil ?_
  refine k68 _ _ ?_
  refine w_ret (th_ret ?_)
  have u82 := (r73.frS e78 (hb28.djn r23.ltF))
  refine b_ret (fn := Try.f49) (vs := [.agg #[i_ 0, .slice none 0 0], .agg #[i_ y35.1, .slice a45 n46 c47]]) (aRes_cell (Eq.trans (b := aLoad Try.prog 24 (pt_ b19 0) H76) (by kernel_rfl) (u82.ld (by kernel_rfl))) (aRes_cell (Eq.trans (b := aLoad Try.prog 59 (pt_ b25 0) H76) (by kernel_rfl) (r79.ld (by kernel_rfl))) (rfl))) ?_
  have u83 := (u81.fr e78 (Dj.symm (i43.djn r29.ltF)))
  obtain rfl := Option.some.inj r67
  exact ⟨(.slice none 0 0), [], (.slice a45 n46 c47), f39, rfl, (FrS.step wf (FrS.step wf (FrS.step wf (FrS.step wf ((FrS.step wf ((((FrS.refl (W := []) wf).extR e15).extR e21).extR e27) e41 Inn.nil).extR e50) e56 (hb51.fresh (ntr (ntr (ntr e15.next e21.next) e27.next) e41.next))) e65 Inn.nil) e72 (hb22.fresh e15.next)) e78 (hb28.fresh (ntr e15.next e21.next))), (Ow.nil (by decide)), u83, Inn.nil, (i43.fresh (ntr (ntr e15.next e21.next) e27.next)), Dj.nil_l⟩
 have r84 := ite_bf h66 r63
 refine w_skip ?_
 refine k31 _ _ ?_
 refine w_seqk fun _ k85 => ?_
 refine g_' ?_
 have u86 := ((((u33.frS e41 Dj.nil_l).ext e50).frS e56 (hb51.djn (r17.ltF.le (ntr (ntr e21.next e27.next) e41.next)))).frS e65 Dj.nil_l)
 refine l_' (.agg #[i_ N_, hd_Arcs]) (aLoad Try.prog 24 (pt_ b13 0) H64) (u86.ld (by kernel_rfl)) ?_
 have u87 := ((((u34.fr e41 Dj.nil_l).ext e50).fr e56 (hb51.djn (h_Arcs.lt.le (ntr (ntr (ntr e15.next e21.next) e27.next) e41.next)))).fr e65 Dj.nil_l)
 obtain ⟨y88, hy89, r90⟩ := bind_some r84
 refine s_ck 74 #[.agg #[i_ N_, hd_Arcs]] (by kernel_rfl) (c_viaductref04_Of e65.wf u87 hy89) ?_
 rintro _ H93 ⟨s91, f92, rfl, e94, m95, i96⟩
 obtain ⟨a98, n99, c100, rfl⟩ := m95.form
 refine q_ (.agg #[i_ 0, .slice none 0 0]) ?_
 have u105 := ((((((r23.ext e27).frS e41 Dj.nil_l).ext e50).frS e56 (hb51.djn (r23.ltF.le (ntr e27.next e41.next)))).frS e65 Dj.nil_l).frS e94 Dj.nil_l)
 obtain ⟨H101, q102, e103, r104⟩ := Row.store (P := Try.prog) (t := 24) (p := 0) e94.wf u105 (.agg #[i_ y88.1, .slice a98 n99 c100]) [i_ y88.1, .slice a98 n99 c100] (by kernel_rfl) (by kernel_rfl) (one_cons (rfl) (one_cons (m95.one1) (one_nil))) (Nat.le_of_ble_eq_true (by kernel_rfl)) [i_ y88.1, .slice a98 n99 c100] (by kernel_rfl)
 refine s_ek (undef) (by kernel_rfl) (map_ok q102) ?_
 have u110 := ((((((r29.frS e41 Dj.nil_l).ext e50).frS e56 (hb51.djn (r29.ltF.le e41.next))).frS e65 Dj.nil_l).frS e94 Dj.nil_l).frS e103 (Dj.symm (hb28.djn r23.ltF)))
 obtain ⟨H106, q107, e108, r109⟩ := Row.store (P := Try.prog) (t := 59) (p := 0) e103.wf u110 (.agg #[i_ 0, .slice none 0 0]) [i_ 0, .slice none 0 0] (by kernel_rfl) (by kernel_rfl) (one_cons (rfl) (one_cons (rfl) (one_nil))) (Nat.le_of_ble_eq_true (by kernel_rfl)) [i_ 0, .slice none 0 0] (by kernel_rfl)
 refine s_ek (undef) (by kernel_rfl) (map_ok q107) ?_
 refine s_nil (k85 _ _ ?_)
 refine w_ret ?_
 have u111 := (r104.frS e108 (hb28.djn r23.ltF))
 refine b_ret (fn := Try.f49) (vs := [.agg #[i_ y88.1, .slice a98 n99 c100], .agg #[i_ 0, .slice none 0 0]]) (aRes_cell (Eq.trans (b := aLoad Try.prog 24 (pt_ b19 0) H106) (by kernel_rfl) (u111.ld (by kernel_rfl))) (aRes_cell (Eq.trans (b := aLoad Try.prog 59 (pt_ b25 0) H106) (by kernel_rfl) (r109.ld (by kernel_rfl))) (rfl))) ?_
 have u112 := ((m95.fr e103 (Dj.symm (i96.djn (r23.ltF.le (ntr (ntr (ntr (ntr e27.next e41.next) e50.next) e56.next) e65.next))))).fr e108 (Dj.symm (i96.djn (r29.ltF.le (ntr (ntr (ntr e41.next e50.next) e56.next) e65.next)))))
 obtain rfl := Option.some.inj r90
 exact ⟨(.slice a98 n99 c100), f92, (.slice none 0 0), [], rfl, (FrS.step wf (FrS.step wf (FrS.step wf (FrS.step wf (FrS.step wf ((FrS.step wf ((((FrS.refl (W := []) wf).extR e15).extR e21).extR e27) e41 Inn.nil).extR e50) e56 (hb51.fresh (ntr (ntr (ntr e15.next e21.next) e27.next) e41.next))) e65 Inn.nil) e94 Inn.nil) e103 (hb22.fresh e15.next)) e108 (hb28.fresh (ntr e15.next e21.next))), u112, (Ow.nil (by decide)), (i96.fresh (ntr (ntr (ntr (ntr (ntr (ntr e15.next e21.next) e27.next) e41.next) e50.next) e56.next) e65.next)), Inn.nil, Dj.nil_r⟩

theorem c_viaductref11_New {H : AH} {hd_Arcs : Value} {fp_Arcs : Fp} {N_ : Int} {Arcs : List (Int × Int × Int)} {r : List (Bool) × List (Int × Int × Int × Int)}
    (wf : WF H) (h_Arcs : Sq enc_i64_i64_i64 3 H hd_Arcs Arcs fp_Arcs) (hr : z_viaductref11_New N_ Arcs = some r) :
    ACalls Try.prog 50 #[.agg #[i_ N_, hd_Arcs]] H fun v H' => ∃ (s3 : Value) (f4 : Fp) (s7 : Value) (f8 : Fp), v = .agg #[s3, s7] ∧ FrS [] H H' ∧ Ow encB 1 H' s3 r.1 f4 ∧ Ow enc_i64_i64_u64_i64 4 H' s7 r.2 f8 ∧ Inn [] H f4 ∧ Inn [] H f8 ∧ Dj f4 f8 := by
 refine acalls_of_body mixed Try.func50 rfl (Nat.le_of_ble_eq_true rfl) ?_
 unfold z_viaductref11_New at hr
 refine w_seqk fun _ k12 => ?_
 refine g_' ?_
 refine s_rwl wf [i_ N_, hd_Arcs] (one_cons (rfl) (one_cons (h_Arcs.one1) (one_nil))) (by kernel_rfl) fun b13 H14 e15 hb16 r17 => ?_
 refine s_rwk e15.wf [.slice none 0 0, .slice none 0 0] (by kernel_rfl) fun b19 H20 e21 hb22 r23 => ?_
 refine s_nil (k12 _ _ ?_)
 refine w_seqk fun _ k25 => ?_
 refine g_' ?_
 refine q_ (pt_ b13 0) ?_
 have u26 := (r17.ext e21)
 refine l_' (i_ N_) (aLoad Try.prog 3 (pt_ b13 0) H20) (u26.ld (by kernel_rfl)) ?_
 obtain ⟨g27, r28⟩ := G_some hr
 refine s_mks (t := 53) (m := 1) (l := N_) (c := N_) (enc := encB) (sz := 1) e21.wf (false : Bool) (by kernel_rfl) (by decide) g27.1 (Int.le_refl _) (by omega) (by have := g27; omega) (by kernel_rfl) fun s29 f30 H31 e32 hf33 hm34 => ?_
 obtain ⟨a35, n36, c37, rfl⟩ := hm34.form
 have hm34 : Ow encB 1 H31 (.slice a35 n36 c37) (List.replicate N_.toNat (false : Bool)) f30 := hm34
 refine q_ (.agg #[.slice a35 n36 c37, .slice none 0 0]) ?_
 refine s_rwk e32.wf [.slice none 0 0, .slice none 0 0] (by kernel_rfl) fun b39 H40 e41 hb42 r43 => ?_
 have u49 := (hm34.ext e41)
 obtain ⟨H45, q46, e47, r48⟩ := Row.store (P := Try.prog) (t := 56) (p := 0) e41.wf r43 (.agg #[.slice a35 n36 c37, .slice none 0 0]) [.slice a35 n36 c37, .slice none 0 0] (by kernel_rfl) (by kernel_rfl) (one_cons (u49.one1) (one_cons (rfl) (one_nil))) (Nat.le_of_ble_eq_true (by kernel_rfl)) [.slice a35 n36 c37, .slice none 0 0] (by kernel_rfl)
 refine s_ek (undef) (by kernel_rfl) (map_ok q46) ?_
 refine s_nil (k25 _ _ ?_)
 refine w_seqk fun _ k50 => ?_
 refine w_seqk fun _ k51 => ?_
 refine g_' ?_
 refine q_ (pt_ b39 0) ?_
 refine l_' (.slice a35 n36 c37) (aLoad Try.prog 53 (pt_ b39 0) H45) (r48.ld (by kernel_rfl)) ?_
 have u52 := (u49.fr e47 (hb42.djn hm34.lt))
 refine l_' (i_ ((List.replicate N_.toNat (false : Bool)).length : Int)) (aLen Try.prog 53 (.slice a35 n36 c37) H45) (u52.sq.lenb (by kernel_rfl)) ?_
 refine q_ (i_ 0) ?_
 refine s_nil (k51 _ _ ?_)
 obtain ⟨o53, hx54, r55⟩ := bind_some r28
 refine w_mid (fun α H56 => Has α [(1, pt_ b13 0), (2, pt_ b19 0), (3, pt_ b39 0)] ∧ FrS f30 H45 H56 ∧ Ow encB 1 H56 (.slice a35 n36 c37) o53 f30) (fun _ k60 => ?_) (fun α H56 hM => ?_)
 ·refine w_block ?_
  obtain ⟨n62, hn63⟩ := loopO_iff.1 hx54
  refine w_loopn (fun n α H64 => ∃ (i0 : Int), ∃ (o1 : List (Bool)), iterO (fun zz_ => z_viaductref11_New_l0 N_ zz_.1 zz_.2) n (i0, o1) = some o53 ∧ Has α [(1, pt_ b13 0), (2, pt_ b19 0), (3, pt_ b39 0), (13, i_ ((List.replicate N_.toNat (false : Bool)).length : Int)), (14, i_ i0)] ∧ FrS f30 H45 H64 ∧ Ow encB 1 H64 (.slice a35 n36 c37) o1 f30) n62 ⟨0, (List.replicate N_.toNat (false : Bool)), hn63, ha_, (FrS.refl (W := f30) e47.wf), u52⟩ ?_
  rintro n62 α H64 ⟨i0, o1, hi69, hh68, e65, m67⟩ K74 k74
  obtain ⟨n70, z71, rfl, hz72, hn73⟩ := iter_succ hi69
  obtain ⟨β, rfl⟩ := has_ex hh68
  clear hh68
  replace hz72 : z_viaductref11_New_l0 N_ i0 o1 = some z71 := hz72
  unfold z_viaductref11_New_l0 at hz72
  refine w_seqk fun _ k75 => ?_
  refine g_' ?_
  refine q_ (.bool (decide (i0 < ((List.replicate N_.toNat (false : Bool)).length : Int)))) ?_
  refine s_nil (k75 _ _ ?_)
  refine w_seqk fun _ k76 => ?_
  refine w_condp (i0 < ((List.replicate N_.toNat (false : Bool)).length : Int)) (by kernel_rfl) rfl (fun h77 => ?_) (fun h77 => ?_)
  ·have r78 := ite_t h77 hz72
   refine w_skip ?_
   refine k76 _ _ ?_
   refine w_seqk fun _ k79 => ?_
   refine w_block ?_
   refine w_seqk fun _ k80 => ?_
   refine g_' ?_
   refine q_ (i_ i0) ?_
   refine q_ (i_ i0) ?_
   refine s_nil (k80 _ _ ?_)
   refine g_' ?_
   refine q_ (pt_ b39 0) ?_
   have u81 := (r48.frS e65 (Dj.symm (hb42.djn hm34.lt)))
   refine l_' (.slice a35 n36 c37) (aLoad Try.prog 53 (pt_ b39 0) H64) (u81.ld (by kernel_rfl)) ?_
   refine q_ (i_ i0) ?_
   obtain ⟨g82, r83⟩ := G_some r78
   refine l_' (elp (.slice a35 n36 c37) 1 i0.toNat 0) (aIndexAddr Try.prog 53 (.slice a35 n36 c37) (i_ i0)) (m67.sq.idxb (by kernel_rfl) g82.1 g82.2) ?_
   obtain ⟨H84, q85, e86, hm87⟩ := Ow.store (P := Try.prog) (t := 4) (off := 0) e65.wf m67 g82.1 g82.2 (.bool true) [.bool true] (by kernel_rfl) (by kernel_rfl) rfl true (Nat.le_of_ble_eq_true rfl) (by kernel_rfl)
   refine s_ek (undef) (by kernel_rfl) (map_ok q85) ?_
   refine s_nil (k79 _ _ ?_)
   refine g_' ?_
   obtain ⟨g88, r89⟩ := G_some r83
   refine s_w ((i0 + 1)) (k := .i64) (x := (i0 + 1)) (by kernel_rfl) (wrap64 (by have := g88; omega)) ?_
   refine q_ (i_ (i0 + 1)) ?_
   refine s_nil ?_
   obtain rfl := Option.some.inj r89
   exact k74 n70 _ _ (Nat.lt_succ_self _) ⟨(i0 + 1), (o1.set i0.toNat true), hn73, ha_, (FrS.step e47.wf (FrS.step e47.wf (FrS.refl (W := f30) e47.wf) e65 Inn.refl') e86 Inn.refl'), hm87⟩
  have r90 := ite_f h77 hz72
  refine w_exit (th_exit (th_exit (bl_eq ?_)))
  obtain rfl := Option.some.inj r90
  obtain rfl := it_inr hn73
  exact k60 _ _ ⟨ha_, (FrS.step e47.wf (FrS.refl (W := f30) e47.wf) e65 Inn.refl'), m67⟩
 obtain ⟨hh61, e57, m59⟩ := hM
 obtain ⟨β, rfl⟩ := has_ex hh61
 clear hh61
 refine k50 _ _ ?_
 refine w_seqk fun _ k91 => ?_
 refine w_seqk fun _ k92 => ?_
 refine g_' ?_
 refine q_ (pt_ b13 1) ?_
 have u93 := ((((u26.ext e32).ext e41).frS e47 (hb42.djn (r17.ltF.le (ntr e21.next e32.next)))).frS e57 (hf33.djn (r17.ltF.le e21.next)))
 refine l_' (hd_Arcs) (aLoad Try.prog 22 (pt_ b13 1) H56) (u93.ld (by kernel_rfl)) ?_
 have u94 := ((((((h_Arcs.ext e15).ext e21).ext e32).ext e41).fr e47 (hb42.djn (h_Arcs.lt.le (ntr (ntr e15.next e21.next) e32.next)))).fr e57 (hf33.djn (h_Arcs.lt.le (ntr e15.next e21.next))))
 refine l_' (i_ (Arcs.length : Int)) (aLen Try.prog 22 hd_Arcs H56) (u94.lenb (by kernel_rfl)) ?_
 refine q_ (i_ 0) ?_
 refine s_nil (k92 _ _ ?_)
 obtain ⟨o95, hx96, r97⟩ := bind_some r55
 refine w_mid (fun α H98 => ∃ (s102 : Value) (f103 : Fp), Has α [(2, pt_ b19 0), (3, pt_ b39 0)] ∧ FrS [b39] H56 H98 ∧ Ow enc_i64_i64_u64_i64 4 H98 s102 o95 f103 ∧ Row H98 b39 [.slice a35 n36 c37, s102] ∧ Inn [] H56 f103) (fun _ k107 => ?_) (fun α H98 hM => ?_)
 ·refine w_block ?_
  obtain ⟨n109, hn110⟩ := loopO_iff.1 hx96
  have u126 := (r48.frS e57 (Dj.symm (hb42.djn hm34.lt)))
  refine w_loopn (fun n α H111 => ∃ (i2 : Int), ∃ (o3 : List (Int × Int × Int × Int)), ∃ (s115 : Value), ∃ (f116 : Fp), iterO (fun zz_ => z_viaductref11_New_l1 Arcs zz_.1 zz_.2) n (i2, o3) = some o95 ∧ Has α [(2, pt_ b19 0), (3, pt_ b39 0), (23, hd_Arcs), (24, i_ (Arcs.length : Int)), (25, i_ i2)] ∧ FrS [b39] H56 H111 ∧ Ow enc_i64_i64_u64_i64 4 H111 s115 o3 f116 ∧ Row H111 b39 [.slice a35 n36 c37, s115] ∧ Inn [] H56 f116) n109 ⟨0, [], (.slice none 0 0), [], hn110, ha_, (FrS.refl (W := [b39]) e57.wf), (Ow.nil (by decide)), u126, Inn.nil⟩ ?_
  rintro n109 α H111 ⟨i2, o3, s115, f116, hi121, hh120, e112, m114, m118, i119⟩ K127 k127
  obtain ⟨n122, z123, rfl, hz124, hn125⟩ := iter_succ hi121
  obtain ⟨β, rfl⟩ := has_ex hh120
  clear hh120
  replace hz124 : z_viaductref11_New_l1 Arcs i2 o3 = some z123 := hz124
  unfold z_viaductref11_New_l1 at hz124
  obtain ⟨a128, n129, c130, rfl⟩ := m114.form
  refine w_seqk fun _ k131 => ?_
  refine g_' ?_
  refine q_ (.bool (decide (i2 < (Arcs.length : Int)))) ?_
  refine s_nil (k131 _ _ ?_)
  refine w_seqk fun _ k132 => ?_
  refine w_condp (i2 < (Arcs.length : Int)) (by kernel_rfl) rfl (fun h133 => ?_) (fun h133 => ?_)
  ·have r134 := ite_t h133 hz124
   refine w_skip ?_
   refine k132 _ _ ?_
   refine w_seqk fun _ k135 => ?_
   refine w_block ?_
   refine w_seqk fun _ k136 => ?_
   refine g_' ?_
   obtain ⟨g137, r138⟩ := G_some r134
   have u139 := (u94.fr e112 (hb42.djn (h_Arcs.lt.le (ntr (ntr e15.next e21.next) e32.next))))
   refine l_' (elp hd_Arcs 3 i2.toNat 0) (aIndexAddr Try.prog 22 hd_Arcs (i_ i2)) (u139.idxb (by kernel_rfl) g137 h133) ?_
   refine l_' (.agg #[i_ ((gt Arcs i2).1), i_ ((gt Arcs i2).2.1), i_ ((gt Arcs i2).2.2)]) (aLoad Try.prog 52 (elp hd_Arcs 3 i2.toNat 0) H111) (u139.ld g137 h133 (by kernel_rfl)) ?_
   refine s_rwk e112.wf [i_ 0, i_ 0, i_ 0] (by kernel_rfl) fun b140 H141 e142 hb143 r144 => ?_
   obtain ⟨H146, q147, e148, r149⟩ := Row.store (P := Try.prog) (t := 52) (p := 0) e142.wf r144 (.agg #[i_ ((gt Arcs i2).1), i_ ((gt Arcs i2).2.1), i_ ((gt Arcs i2).2.2)]) [i_ ((gt Arcs i2).1), i_ ((gt Arcs i2).2.1), i_ ((gt Arcs i2).2.2)] (by kernel_rfl) (by kernel_rfl) (one_cons (rfl) (one_cons (rfl) (one_cons (rfl) (one_nil)))) (Nat.le_of_ble_eq_true (by kernel_rfl)) [i_ ((gt Arcs i2).1), i_ ((gt Arcs i2).2.1), i_ ((gt Arcs i2).2.2)] (by kernel_rfl)
   refine s_ek (undef) (by kernel_rfl) (map_ok q147) ?_
   refine s_nil (k136 _ _ ?_)
   refine g_' ?_
   refine q_ (pt_ b39 1) ?_
   have u150 := ((m118.ext e142).frS e148 (hb143.djn (r43.ltF.le (ntr (ntr e47.next e57.next) e112.next))))
   refine l_' (.slice a128 n129 c130) (aLoad Try.prog 54 (pt_ b39 1) H146) (u150.ld (by kernel_rfl)) ?_
   refine q_ (pt_ b140 0) ?_
   refine l_' (i_ ((gt Arcs i2).1)) (aLoad Try.prog 3 (pt_ b140 0) H146) (r149.ld (by kernel_rfl)) ?_
   refine q_ (pt_ b140 1) ?_
   refine l_' (i_ ((gt Arcs i2).2.1)) (aLoad Try.prog 3 (pt_ b140 1) H146) (r149.ld (by kernel_rfl)) ?_
   refine q_ (pt_ b140 2) ?_
   refine l_' (i_ ((gt Arcs i2).2.2)) (aLoad Try.prog 3 (pt_ b140 2) H146) (r149.ld (by kernel_rfl)) ?_
   obtain ⟨g151, r152⟩ := G_some r138
   refine s_w ((gt Arcs i2).2.2) (k := .u64) (x := (gt Arcs i2).2.2) (by kernel_rfl) (wrapu64 g151) ?_
   refine q_ (.agg #[i_ ((gt Arcs i2).1), i_ ((gt Arcs i2).2.1), .int .u64 ((gt Arcs i2).2.2), i_ (-1)]) ?_
   refine s_owk (enc := enc_i64_i64_u64_i64) (sz := 4) e148.wf [((gt Arcs i2).1, (gt Arcs i2).2.1, (gt Arcs i2).2.2, (-1))] 1 (by decide) (fun _ _ => rfl) (fun _ _ => rfl) rfl (by kernel_rfl) fun s153 f154 H155 e156 hf157 hm158 => ?_
   obtain ⟨a159, n160, c161, rfl⟩ := hm158.form
   have u163 := (((m114.ext e142).fr e148 (hb143.djn m114.lt)).ext e156)
   obtain ⟨g164, r165⟩ := G_some r152
   obtain ⟨s166, H167, f168, q172, e169, hm170, hf171⟩ := Ow.append (P := Try.prog) 32 e156.wf u163 hm158.sq (fun _ _ => rfl) (at_ := #[54, 54]) rfl rfl (by kernel_rfl) (by kernel_rfl) (by decide) (by have := g164; first | omega | (simp only [List.length_cons, List.length_nil] at this ⊢; omega) | (simp at this ⊢; omega))
   obtain ⟨a173, n174, c175, rfl⟩ := hm170.form
   refine s_ek (.slice a173 n174 c175) (by kernel_rfl) (q172) ?_
   refine q_ (pt_ b39 1) ?_
   have u181 := ((u150.ext e156).frS e169 (i119.djn (r43.ltF.le (ntr e47.next e57.next))))
   obtain ⟨H177, q178, e179, r180⟩ := Row.store (P := Try.prog) (t := 54) (p := 1) e169.wf u181 (.slice a173 n174 c175) [.slice a173 n174 c175] (by kernel_rfl) (by kernel_rfl) (one_cons (hm170.one1) (one_nil)) (Nat.le_of_ble_eq_true (by kernel_rfl)) [.slice a35 n36 c37, .slice a173 n174 c175] (by kernel_rfl)
   refine s_ek (undef) (by kernel_rfl) (map_ok q178) ?_
   refine s_nil (k135 _ _ ?_)
   refine g_' ?_
   obtain ⟨g182, r183⟩ := G_some r165
   refine s_w ((i2 + 1)) (k := .i64) (x := (i2 + 1)) (by kernel_rfl) (wrap64 (by have := g182; omega)) ?_
   refine q_ (i_ (i2 + 1)) ?_
   refine s_nil ?_
   have u184 := (hm170.fr e179 (Dj.symm (hf171.dj (i119.djn (r43.ltF.le (ntr e47.next e57.next))) (r43.ltF.le (ntr (ntr (ntr (ntr (ntr e47.next e57.next) e112.next) e142.next) e148.next) e156.next)))))
   obtain rfl := Option.some.inj r183
   exact k127 n122 _ _ (Nat.lt_succ_self _) ⟨(i2 + 1), (o3 ++ [((gt Arcs i2).1, (gt Arcs i2).2.1, (gt Arcs i2).2.2, (-1))]), (.slice a173 n174 c175), f168, hn125, ha_, (FrS.step e57.wf (FrS.step e57.wf ((FrS.step e57.wf ((FrS.step e57.wf (FrS.refl (W := [b39]) e57.wf) e112 Inn.refl').extR e142) e148 (hb143.fresh e112.next)).extR e156) e169 (i119.fresh (Nat.le_refl _))) e179 Inn.refl'), u184, r180, (Inn.trans (i119.fresh (Nat.le_refl _)) (ntr (ntr (ntr e112.next e142.next) e148.next) e156.next) hf171)⟩
  have r185 := ite_f h133 hz124
  refine w_exit (th_exit (th_exit (bl_eq ?_)))
  obtain rfl := Option.some.inj r185
  obtain rfl := it_inr hn125
  exact k107 _ _ ⟨(.slice a128 n129 c130), f116, ha_, (FrS.step e57.wf (FrS.refl (W := [b39]) e57.wf) e112 Inn.refl'), m114, m118, (i119.fresh (Nat.le_refl _))⟩
 obtain ⟨s102, f103, hh108, e99, m101, m105, i106⟩ := hM
 obtain ⟨β, rfl⟩ := has_ex hh108
 clear hh108
 obtain ⟨a186, n187, c188, rfl⟩ := m101.form
 refine k91 _ _ ?_
 refine w_seqk fun _ k189 => ?_
 refine g_' ?_
 refine l_' (.agg #[.slice a35 n36 c37, .slice a186 n187 c188]) (aLoad Try.prog 56 (pt_ b39 0) H98) (m105.ld (by kernel_rfl)) ?_
 have u194 := (((((r23.ext e32).ext e41).frS e47 (hb42.djn (r23.ltF.le e32.next))).frS e57 (hf33.djn r23.ltF)).frS e99 (hb42.djn (r23.ltF.le e32.next)))
 have u195 := (m59.fr e99 (hb42.djn hm34.lt))
 obtain ⟨H190, q191, e192, r193⟩ := Row.store (P := Try.prog) (t := 56) (p := 0) e99.wf u194 (.agg #[.slice a35 n36 c37, .slice a186 n187 c188]) [.slice a35 n36 c37, .slice a186 n187 c188] (by kernel_rfl) (by kernel_rfl) (one_cons (u195.one1) (one_cons (m101.one1) (one_nil))) (Nat.le_of_ble_eq_true (by kernel_rfl)) [.slice a35 n36 c37, .slice a186 n187 c188] (by kernel_rfl)
 refine s_ek (undef) (by kernel_rfl) (map_ok q191) ?_
 refine s_nil (k189 _ _ ?_)
 refine w_ret ?_
 refine b_ret (fn := Try.f50) (vs := [.agg #[.slice a35 n36 c37, .slice a186 n187 c188]]) (aRes_cell (Eq.trans (b := aLoad Try.prog 56 (pt_ b19 0) H190) (by kernel_rfl) (r193.ld (by kernel_rfl))) (rfl)) ?_
 have u196 := (u195.fr e192 (Dj.symm (hf33.djn r23.ltF)))
 have u197 := (m101.fr e192 (Dj.symm (i106.djn (r23.ltF.le (ntr (ntr (ntr e32.next e41.next) e47.next) e57.next)))))
 obtain rfl := Option.some.inj r97
 exact ⟨(.slice a35 n36 c37), f30, (.slice a186 n187 c188), f103, rfl, (FrS.step wf (FrS.step wf (FrS.step wf (FrS.step wf (((((FrS.refl (W := []) wf).extR e15).extR e21).extR e32).extR e41) e47 (hb42.fresh (ntr (ntr e15.next e21.next) e32.next))) e57 (hf33.fresh (ntr e15.next e21.next))) e99 (hb42.fresh (ntr (ntr e15.next e21.next) e32.next))) e192 (hb22.fresh e15.next)), u196, u197, (hf33.fresh (ntr e15.next e21.next)), (i106.fresh (ntr (ntr (ntr (ntr (ntr e15.next e21.next) e32.next) e41.next) e47.next) e57.next)), (Dj.symm (i106.djn (hm34.lt.le (ntr (ntr e41.next e47.next) e57.next))))⟩

theorem c_viaductref11_DocNew {H : AH} {hd_Arcs : Value} {fp_Arcs : Fp} {N_ : Int} {Arcs : List (Int × Int × Int)} {r : List (Bool) × List (Int × Int × Int × Int) × Int × List (Int × Int)}
    (wf : WF H) (h_Arcs : Sq enc_i64_i64_i64 3 H hd_Arcs Arcs fp_Arcs) (hr : z_viaductref11_DocNew N_ Arcs = some r) :
    ACalls Try.prog 22 #[.agg #[i_ N_, hd_Arcs]] H fun v H' => ∃ (s3 : Value) (f4 : Fp) (s7 : Value) (f8 : Fp) (s11 : Value) (f12 : Fp), v = .tuple #[.agg #[s3, s7], .agg #[i_ r.2.2.1, s11]] ∧ FrS [] H H' ∧ Ow encB 1 H' s3 r.1 f4 ∧ Ow enc_i64_i64_u64_i64 4 H' s7 r.2.1 f8 ∧ Ow enc_i64_i64 2 H' s11 r.2.2.2 f12 ∧ Inn [] H f4 ∧ Inn [] H f8 ∧ Inn [] H f12 ∧ Dj f4 f8 ∧ Dj f4 f12 ∧ Dj f8 f12 := by
 refine acalls_of_body mixed Try.func22 rfl (Nat.le_of_ble_eq_true rfl) ?_
 unfold z_viaductref11_DocNew at hr
 refine w_seqk fun _ k19 => ?_
 refine g_' ?_
 refine s_rwl wf [i_ N_, hd_Arcs] (one_cons (rfl) (one_cons (h_Arcs.one1) (one_nil))) (by kernel_rfl) fun b20 H21 e22 hb23 r24 => ?_
 refine s_rwk e22.wf [.slice none 0 0, .slice none 0 0] (by kernel_rfl) fun b26 H27 e28 hb29 r30 => ?_
 refine s_rwk e28.wf [i_ 0, .slice none 0 0] (by kernel_rfl) fun b32 H33 e34 hb35 r36 => ?_
 refine s_nil (k19 _ _ ?_)
 refine w_seqk fun _ k38 => ?_
 refine g_' ?_
 have u39 := ((r24.ext e28).ext e34)
 refine l_' (.agg #[i_ N_, hd_Arcs]) (aLoad Try.prog 24 (pt_ b20 0) H33) (u39.ld (by kernel_rfl)) ?_
 have u40 := (((h_Arcs.ext e22).ext e28).ext e34)
 obtain ⟨y41, hy42, r43⟩ := bind_some hr
 refine s_ck 49 #[.agg #[i_ N_, hd_Arcs]] (by kernel_rfl) (c_viaductref04_DocOf e34.wf u40 hy42) ?_
 rintro _ H48 ⟨s44, f45, s46, f47, rfl, e49, m50, m51, i52, i53, d54⟩
 obtain ⟨a57, n58, c59, rfl⟩ := m50.form
 obtain ⟨a60, n61, c62, rfl⟩ := m51.form
 refine q_ (.tuple #[.agg #[i_ y41.1, .slice a57 n58 c59], .agg #[i_ y41.2.2.1, .slice a60 n61 c62]]) ?_
 refine q_ (.agg #[i_ y41.1, .slice a57 n58 c59]) ?_
 refine q_ (.agg #[i_ y41.2.2.1, .slice a60 n61 c62]) ?_
 refine s_rwk e49.wf [i_ 0, .slice none 0 0] (by kernel_rfl) fun b63 H64 e65 hb66 r67 => ?_
 refine s_rwk e65.wf [i_ 0, .slice none 0 0] (by kernel_rfl) fun b69 H70 e71 hb72 r73 => ?_
 have u79 := (r67.ext e71)
 have u80 := ((m50.ext e65).ext e71)
 obtain ⟨H75, q76, e77, r78⟩ := Row.store (P := Try.prog) (t := 24) (p := 0) e71.wf u79 (.agg #[i_ y41.1, .slice a57 n58 c59]) [i_ y41.1, .slice a57 n58 c59] (by kernel_rfl) (by kernel_rfl) (one_cons (rfl) (one_cons (u80.one1) (one_nil))) (Nat.le_of_ble_eq_true (by kernel_rfl)) [i_ y41.1, .slice a57 n58 c59] (by kernel_rfl)
 refine s_ek (undef) (by kernel_rfl) (map_ok q76) ?_
 have u85 := (r73.frS e77 (Dj.symm (hb72.djn r67.ltF)))
 have u86 := (((m51.ext e65).ext e71).fr e77 (hb66.djn m51.lt))
 obtain ⟨H81, q82, e83, r84⟩ := Row.store (P := Try.prog) (t := 59) (p := 0) e77.wf u85 (.agg #[i_ y41.2.2.1, .slice a60 n61 c62]) [i_ y41.2.2.1, .slice a60 n61 c62] (by kernel_rfl) (by kernel_rfl) (one_cons (rfl) (one_cons (u86.one1) (one_nil))) (Nat.le_of_ble_eq_true (by kernel_rfl)) [i_ y41.2.2.1, .slice a60 n61 c62] (by kernel_rfl)
 refine s_ek (undef) (by kernel_rfl) (map_ok q82) ?_
 refine s_nil (k38 _ _ ?_)
 refine w_seqk fun _ k87 => ?_
 refine w_seqk fun _ k88 => ?_
 refine g_' ?_
 refine l_' (.agg #[i_ y41.2.2.1, .slice a60 n61 c62]) (aLoad Try.prog 59 (pt_ b69 0) H81) (r84.ld (by kernel_rfl)) ?_
 have u89 := (u86.fr e83 (hb72.djn (m51.lt.le e65.next)))
 obtain ⟨y90, hy91, r92⟩ := bind_some r43
 refine s_ck 42 #[.agg #[i_ y41.2.2.1, .slice a60 n61 c62]] (by kernel_rfl) (c_viaductref01_Err_Bad e83.wf u89.sq hy91) ?_
 rintro _ H93 ⟨rfl, e94⟩
 refine s_nil (k88 _ _ ?_)
 refine w_cond (y90) (by kernel_rfl) rfl (fun h95 => ?_) (fun h95 => ?_)
 ·have r96 := ite_t h95 r92
  refine w_seqk fun _ k97 => ?_
  refine w_draw [0, 1, 2, 3] (by kernel_rfl) ?_
  refine e_' (.agg #[.slice none 0 0, .slice none 0 0]) ?_
  have u98 := (r84.frS e94 Dj.nil_l)
  refine d_fl (.agg #[i_ y41.2.2.1, .slice a60 n61 c62]) (x := aLoad Try.prog 59 (pt_ b69 0) H93) (by kernel_rfl) (u98.ld (by kernel_rfl)) ?_
  have u103 := (((((((r30.ext e34).frS e49 Dj.nil_l).ext e65).ext e71).frS e77 (hb66.djn (r30.ltF.le (ntr e34.next e49.next)))).frS e83 (hb72.djn (r30.ltF.le (ntr (ntr e34.next e49.next) e65.next)))).frS e94 Dj.nil_l)
  obtain ⟨H99, q100, e101, r102⟩ := Row.store (P := Try.prog) (t := 56) (p := 0) e94.wf u103 (.agg #[.slice none 0 0, .slice none 0 0]) [.slice none 0 0, .slice none 0 0] (by kernel_rfl) (by kernel_rfl) (one_cons (rfl) (one_cons (rfl) (one_nil))) (Nat.le_of_ble_eq_true (by kernel_rfl)) [.slice none 0 0, .slice none 0 0] (by kernel_rfl)
  have u104 := (u98.frS e101 (Dj.symm (hb72.djn (r30.ltF.le (ntr (ntr e34.next e49.next) e65.next)))))
  refine d_ek (undef) (by kernel_rfl) (map_ok q100) (st_ql (y := aLoad Try.prog 59 (pt_ b69 0) H99) (by kernel_rfl) (u104.ld (by kernel_rfl)) (st_nil)) ?_
  have u109 := (((((((r36.frS e49 Dj.nil_l).ext e65).ext e71).frS e77 (hb66.djn (r36.ltF.le e49.next))).frS e83 (hb72.djn (r36.ltF.le (ntr e49.next e65.next)))).frS e94 Dj.nil_l).frS e101 (Dj.symm (hb35.djn r30.ltF)))
  have u110 := ((u89.fr e94 Dj.nil_l).fr e101 (Dj.symm (i53.djn (r30.ltF.le e34.next))))
  obtain ⟨H105, q106, e107, r108⟩ := Row.store (P := Try.prog) (t := 59) (p := 0) e101.wf u109 (.agg #[i_ y41.2.2.1, .slice a60 n61 c62]) [i_ y41.2.2.1, .slice a60 n61 c62] (by kernel_rfl) (by kernel_rfl) (one_cons (rfl) (one_cons (u110.one1) (one_nil))) (Nat.le_of_ble_eq_true (by kernel_rfl)) [i_ y41.2.2.1, .slice a60 n61 c62] (by kernel_rfl)
  refine d_ek (undef) (by kernel_rfl) (map_ok q106) (st_anc (by kernel_rfl) (st_nil)) ?_
  refine d_nil ?_
  refine k97 _ _ ?_
  refine w_ret (th_ret ?_)
  have u111 := (r102.frS e107 (hb35.djn r30.ltF))
  refine b_ret (fn := Try.f22) (vs := [.agg #[.slice none 0 0, .slice none 0 0], .agg #[i_ y41.2.2.1, .slice a60 n61 c62]]) (aRes_cell (Eq.trans (b := aLoad Try.prog 56 (pt_ b26 0) H105) (by kernel_rfl) (u111.ld (by kernel_rfl))) (aRes_cell (Eq.trans (b := aLoad Try.prog 59 (pt_ b32 0) H105) (by kernel_rfl) (r108.ld (by kernel_rfl))) (rfl))) ?_
  have u112 := (u110.fr e107 (Dj.symm (i53.djn r36.ltF)))
  obtain rfl := Option.some.inj r96
  exact ⟨(.slice none 0 0), [], (.slice none 0 0), [], (.slice a60 n61 c62), f47, rfl, (FrS.step wf (FrS.step wf (FrS.step wf (FrS.step wf (FrS.step wf (((FrS.step wf ((((FrS.refl (W := []) wf).extR e22).extR e28).extR e34) e49 Inn.nil).extR e65).extR e71) e77 (hb66.fresh (ntr (ntr (ntr e22.next e28.next) e34.next) e49.next))) e83 (hb72.fresh (ntr (ntr (ntr (ntr e22.next e28.next) e34.next) e49.next) e65.next))) e94 Inn.nil) e101 (hb29.fresh e22.next)) e107 (hb35.fresh (ntr e22.next e28.next))), (Ow.nil (by decide)), (Ow.nil (by decide)), u112, Inn.nil, Inn.nil, (i53.fresh (ntr (ntr e22.next e28.next) e34.next)), Dj.nil_l, Dj.nil_l, Dj.nil_l⟩
 have r113 := ite_bf h95 r92
 refine w_skip ?_
 refine k87 _ _ ?_
 refine w_seqk fun _ k114 => ?_
 refine w_draw [0, 2, 1, 3, 4] (by kernel_rfl) ?_
 have u115 := ((r78.frS e83 (hb72.djn r67.ltF)).frS e94 Dj.nil_l)
 refine m_' (.agg #[i_ y41.1, .slice a57 n58 c59]) (aLoad Try.prog 24 (pt_ b63 0) H93) (u115.ld (by kernel_rfl)) ?_
 have u116 := (r84.frS e94 Dj.nil_l)
 refine d_fl (.agg #[i_ y41.2.2.1, .slice a60 n61 c62]) (x := aLoad Try.prog 59 (pt_ b69 0) H93) (by kernel_rfl) (u116.ld (by kernel_rfl)) ?_
 have u117 := (((u80.fr e77 (hb66.djn m50.lt)).fr e83 (hb72.djn (m50.lt.le e65.next))).fr e94 Dj.nil_l)
 obtain ⟨y118, hy119, r120⟩ := bind_some r113
 refine d_ck 50 #[.agg #[i_ y41.1, .slice a57 n58 c59]] (by kernel_rfl) (c_viaductref11_New e94.wf u117.sq hy119) ?_
 rintro _ H125 ⟨s121, f122, s123, f124, rfl, e126, m127, m128, i129, i130, d131⟩
 obtain ⟨a134, n135, c136, rfl⟩ := m127.form
 obtain ⟨a137, n138, c139, rfl⟩ := m128.form
 have u140 := (u116.frS e126 Dj.nil_l)
 refine ⟨st_ql (y := aLoad Try.prog 59 (pt_ b69 0) H125) (by kernel_rfl) (u140.ld (by kernel_rfl)) (st_nil), ?_⟩
 have u145 := ((((((((r30.ext e34).frS e49 Dj.nil_l).ext e65).ext e71).frS e77 (hb66.djn (r30.ltF.le (ntr e34.next e49.next)))).frS e83 (hb72.djn (r30.ltF.le (ntr (ntr e34.next e49.next) e65.next)))).frS e94 Dj.nil_l).frS e126 Dj.nil_l)
 obtain ⟨H141, q142, e143, r144⟩ := Row.store (P := Try.prog) (t := 56) (p := 0) e126.wf u145 (.agg #[.slice a134 n135 c136, .slice a137 n138 c139]) [.slice a134 n135 c136, .slice a137 n138 c139] (by kernel_rfl) (by kernel_rfl) (one_cons (m127.one1) (one_cons (m128.one1) (one_nil))) (Nat.le_of_ble_eq_true (by kernel_rfl)) [.slice a134 n135 c136, .slice a137 n138 c139] (by kernel_rfl)
 have u146 := (u140.frS e143 (Dj.symm (hb72.djn (r30.ltF.le (ntr (ntr e34.next e49.next) e65.next)))))
 refine d_ek (undef) (by kernel_rfl) (map_ok q142) (st_ql (y := aLoad Try.prog 59 (pt_ b69 0) H141) (by kernel_rfl) (u146.ld (by kernel_rfl)) (st_nil)) ?_
 have u151 := ((((((((r36.frS e49 Dj.nil_l).ext e65).ext e71).frS e77 (hb66.djn (r36.ltF.le e49.next))).frS e83 (hb72.djn (r36.ltF.le (ntr e49.next e65.next)))).frS e94 Dj.nil_l).frS e126 Dj.nil_l).frS e143 (Dj.symm (hb35.djn r30.ltF)))
 have u152 := (((u89.fr e94 Dj.nil_l).fr e126 Dj.nil_l).fr e143 (Dj.symm (i53.djn (r30.ltF.le e34.next))))
 obtain ⟨H147, q148, e149, r150⟩ := Row.store (P := Try.prog) (t := 59) (p := 0) e143.wf u151 (.agg #[i_ y41.2.2.1, .slice a60 n61 c62]) [i_ y41.2.2.1, .slice a60 n61 c62] (by kernel_rfl) (by kernel_rfl) (one_cons (rfl) (one_cons (u152.one1) (one_nil))) (Nat.le_of_ble_eq_true (by kernel_rfl)) [i_ y41.2.2.1, .slice a60 n61 c62] (by kernel_rfl)
 refine d_ek (undef) (by kernel_rfl) (map_ok q148) (st_anc (by kernel_rfl) (st_nil)) ?_
 refine d_nil ?_
 refine k114 _ _ ?_
 refine w_ret ?_
 have u153 := (r144.frS e149 (hb35.djn r30.ltF))
 refine b_ret (fn := Try.f22) (vs := [.agg #[.slice a134 n135 c136, .slice a137 n138 c139], .agg #[i_ y41.2.2.1, .slice a60 n61 c62]]) (aRes_cell (Eq.trans (b := aLoad Try.prog 56 (pt_ b26 0) H147) (by kernel_rfl) (u153.ld (by kernel_rfl))) (aRes_cell (Eq.trans (b := aLoad Try.prog 59 (pt_ b32 0) H147) (by kernel_rfl) (r150.ld (by kernel_rfl))) (rfl))) ?_
 have u154 := ((m127.fr e143 (Dj.symm (i129.djn (r30.ltF.le (ntr (ntr (ntr (ntr (ntr (ntr e34.next e49.next) e65.next) e71.next) e77.next) e83.next) e94.next))))).fr e149 (Dj.symm (i129.djn (r36.ltF.le (ntr (ntr (ntr (ntr (ntr e49.next e65.next) e71.next) e77.next) e83.next) e94.next)))))
 have u155 := ((m128.fr e143 (Dj.symm (i130.djn (r30.ltF.le (ntr (ntr (ntr (ntr (ntr (ntr e34.next e49.next) e65.next) e71.next) e77.next) e83.next) e94.next))))).fr e149 (Dj.symm (i130.djn (r36.ltF.le (ntr (ntr (ntr (ntr (ntr e49.next e65.next) e71.next) e77.next) e83.next) e94.next)))))
 have u156 := (u152.fr e149 (Dj.symm (i53.djn r36.ltF)))
 obtain rfl := Option.some.inj r120
 exact ⟨(.slice a134 n135 c136), f122, (.slice a137 n138 c139), f124, (.slice a60 n61 c62), f47, rfl, (FrS.step wf (FrS.step wf (FrS.step wf (FrS.step wf (FrS.step wf (FrS.step wf (((FrS.step wf ((((FrS.refl (W := []) wf).extR e22).extR e28).extR e34) e49 Inn.nil).extR e65).extR e71) e77 (hb66.fresh (ntr (ntr (ntr e22.next e28.next) e34.next) e49.next))) e83 (hb72.fresh (ntr (ntr (ntr (ntr e22.next e28.next) e34.next) e49.next) e65.next))) e94 Inn.nil) e126 Inn.nil) e143 (hb29.fresh e22.next)) e149 (hb35.fresh (ntr e22.next e28.next))), u154, u155, u156, (i129.fresh (ntr (ntr (ntr (ntr (ntr (ntr (ntr (ntr e22.next e28.next) e34.next) e49.next) e65.next) e71.next) e77.next) e83.next) e94.next)), (i130.fresh (ntr (ntr (ntr (ntr (ntr (ntr (ntr (ntr e22.next e28.next) e34.next) e49.next) e65.next) e71.next) e77.next) e83.next) e94.next)), (i53.fresh (ntr (ntr e22.next e28.next) e34.next)), d131, (i129.djn (m51.lt.le (ntr (ntr (ntr (ntr e65.next e71.next) e77.next) e83.next) e94.next))), (i130.djn (m51.lt.le (ntr (ntr (ntr (ntr e65.next e71.next) e77.next) e83.next) e94.next)))⟩

theorem c_overlay_Overlay_Alive_1 {H : AH} {v_ : Int} {r : Unit}
    (wf : WF H) (hr : z_overlay_Overlay_Alive_1 v_ = some r) :
    ACalls Try.prog 16 #[.pointer none, i_ v_] H fun v H' => v = .bool false ∧ H = H' := by
 refine acalls_of_body mixed Try.func16 rfl (Nat.le_of_ble_eq_true rfl) ?_
 unfold z_overlay_Overlay_Alive_1 at hr
 refine w_seqk fun _ k1 => ?_
 refine g_' ?_
 refine q_ (.bool false) ?_
 refine s_nil (k1 _ _ ?_)
 refine w_seqk fun _ k2 => ?_
 refine g_' ?_
 refine q_ (.pointer none) ?_
 refine q_ (.bool false) ?_
 refine q_ (.bool false) ?_
 refine n_' ?_
 refine n_' ?_
 refine q_ (.bool false) ?_
 refine q_ (.bool false) ?_
 refine n_' ?_
 refine n_' ?_
 refine n_' ?_
 refine n_' ?_
 refine n_' ?_
 refine n_' ?_
 refine n_' ?_
 refine q_ (.bool false) ?_
 refine q_ (.bool false) ?_
 refine n_' ?_
 refine n_' ?_
 refine n_' ?_
 refine n_' ?_
 refine n_' ?_
 refine n_' ?_
 refine n_' ?_
 refine n_' ?_
 refine n_' ?_
 refine q_ (.bool false) ?_
 refine q_ (.bool false) ?_
 refine s_nil (k2 _ _ ?_)
 refine w_ret ?_
 refine b_ret (fn := Try.f16) (vs := [.bool false]) (aRes_tmp (by kernel_rfl) (rfl)) ?_
 obtain rfl := Option.some.inj hr
 exact ⟨rfl, rfl⟩

theorem c_overlay_Overlay_Out_1 {H : AH} {v_ : Int} {r : Unit}
    (wf : WF H) (hr : z_overlay_Overlay_Out_1 v_ = some r) :
    ACalls Try.prog 14 #[.pointer none, i_ v_] H fun v H' => v = .slice none 0 0 ∧ H = H' := by
 refine acalls_of_body mixed Try.func14 rfl (Nat.le_of_ble_eq_true rfl) ?_
 unfold z_overlay_Overlay_Out_1 at hr
 refine w_seqk fun _ k1 => ?_
 refine g_' ?_
 refine q_ (.slice none 0 0) ?_
 refine s_nil (k1 _ _ ?_)
 refine w_seqk fun _ k2 => ?_
 refine w_seqk fun _ k3 => ?_
 refine g_' ?_
 refine q_ (.pointer none) ?_
 refine q_ (i_ v_) ?_
 obtain ⟨y4, hy5, r6⟩ := bind_some hr
 refine s_ck 16 #[.pointer none, i_ v_] (by kernel_rfl) (c_overlay_Overlay_Alive_1 wf hy5) ?_
 rintro _ _ ⟨rfl, rfl⟩
 refine q_ (.bool true) ?_
 refine s_nil (k3 _ _ ?_)
 refine w_cond true (by kernel_rfl) rfl (fun _ => ?_) (fun h => by cases h)
 refine w_seqk fun _ k9 => ?_
 refine g_' ?_
 refine q_ (.slice none 0 0) ?_
 refine s_nil (k9 _ _ ?_)
 refine w_ret (th_ret ?_)
 refine b_ret (fn := Try.f14) (vs := [.slice none 0 0]) (aRes_tmp (by kernel_rfl) (rfl)) ?_
 obtain rfl := Option.some.inj r6
 exact ⟨rfl, rfl⟩

theorem c_overlay_Overlay_In_1 {H : AH} {v_ : Int} {r : Unit}
    (wf : WF H) (hr : z_overlay_Overlay_In_1 v_ = some r) :
    ACalls Try.prog 15 #[.pointer none, i_ v_] H fun v H' => v = .slice none 0 0 ∧ H = H' := by
 refine acalls_of_body mixed Try.func15 rfl (Nat.le_of_ble_eq_true rfl) ?_
 unfold z_overlay_Overlay_In_1 at hr
 refine w_seqk fun _ k1 => ?_
 refine g_' ?_
 refine q_ (.slice none 0 0) ?_
 refine s_nil (k1 _ _ ?_)
 refine w_seqk fun _ k2 => ?_
 refine w_seqk fun _ k3 => ?_
 refine g_' ?_
 refine q_ (.pointer none) ?_
 refine q_ (i_ v_) ?_
 obtain ⟨y4, hy5, r6⟩ := bind_some hr
 refine s_ck 16 #[.pointer none, i_ v_] (by kernel_rfl) (c_overlay_Overlay_Alive_1 wf hy5) ?_
 rintro _ _ ⟨rfl, rfl⟩
 refine q_ (.bool true) ?_
 refine s_nil (k3 _ _ ?_)
 refine w_cond true (by kernel_rfl) rfl (fun _ => ?_) (fun h => by cases h)
 refine w_seqk fun _ k9 => ?_
 refine g_' ?_
 refine q_ (.slice none 0 0) ?_
 refine s_nil (k9 _ _ ?_)
 refine w_ret (th_ret ?_)
 refine b_ret (fn := Try.f15) (vs := [.slice none 0 0]) (aRes_tmp (by kernel_rfl) (rfl)) ?_
 obtain rfl := Option.some.inj r6
 exact ⟨rfl, rfl⟩

theorem c_viaductref11_put {H : AH} {hd_l : Value} {fp_l : Fp} {l : List (Int × Int × Int)} {Node : Int} {Weight : Int} {Via : Int} {r : List (Int × Int × Int)}
    (wf : WF H) (h_l : Sq enc_i64_u64_i64 3 H hd_l l fp_l) (hr : z_viaductref11_put l Node Weight Via = some r) :
    ACalls Try.prog 51 #[hd_l, .agg #[i_ Node, .int .u64 Weight, i_ Via]] H fun v H' => ∃ (s3 : Value) (f4 : Fp), v = s3 ∧ FrS [] H H' ∧ Ow enc_i64_u64_i64 3 H' s3 r f4 ∧ Inn [] H f4 := by
 refine acalls_of_body mixed Try.func51 rfl (Nat.le_of_ble_eq_true rfl) ?_
 unfold z_viaductref11_put at hr
 refine w_seqk fun _ k6 => ?_
 refine g_' ?_
 refine s_rwl wf [i_ Node, .int .u64 Weight, i_ Via] (one_cons (rfl) (one_cons (rfl) (one_cons (rfl) (one_nil)))) (by kernel_rfl) fun b7 H8 e9 hb10 r11 => ?_
 refine q_ (.slice none 0 0) ?_
 refine s_nil (k6 _ _ ?_)
 refine w_seqk fun _ k13 => ?_
 refine g_' ?_
 refine q_ (i_ 0) ?_
 refine s_nil (k13 _ _ ?_)
 refine w_seqk fun _ k14 => ?_
 obtain ⟨o15, hx16, r17⟩ := bind_some hr
 refine w_mid (fun α H18 => Has α [(0, hd_l), (3, pt_ b7 0), (5, i_ o15)] ∧ H8 = H18) (fun _ k20 => ?_) (fun α H18 hM => ?_)
 ·refine w_block ?_
  obtain ⟨n22, hn23⟩ := loopO_iff.1 hx16
  refine w_loopn (fun n α H24 => ∃ (i0 : Int), iterO (fun zz_ => z_viaductref11_put_l0 l Node zz_) n i0 = some o15 ∧ Has α [(0, hd_l), (3, pt_ b7 0), (5, i_ i0)] ∧ H8 = H24) n22 ⟨0, hn23, ha_, rfl⟩ ?_
  rintro n22 α H24 ⟨i0, hi27, hh26, rfl⟩ K32 k32
  obtain ⟨n28, z29, rfl, hz30, hn31⟩ := iter_succ hi27
  obtain ⟨β, rfl⟩ := has_ex hh26
  clear hh26
  replace hz30 : z_viaductref11_put_l0 l Node i0 = some z29 := hz30
  unfold z_viaductref11_put_l0 at hz30
  refine w_seqk fun _ k33 => ?_
  refine w_seqk fun _ k34 => ?_
  refine w_draw [0, 1, 2, 3, 4, 5, 6, 7, 8, 9, 10, 11, 12, 13] (by kernel_rfl) ?_
  refine e_' (i_ i0) ?_
  refine e_' (hd_l) ?_
  have u35 := (h_l.ext e9)
  refine m_' (i_ (l.length : Int)) (aLen Try.prog 63 hd_l H8) (u35.lenb (by kernel_rfl)) ?_
  refine d_b (i0 < (l.length : Int)) (by kernel_rfl) (fun h36 => ?_) (fun h36 => ?_)
  ·have r37 := ite_t h36 hz30
   refine e_' (.bool true) ?_
   refine e_' (hd_l) ?_
   refine e_' (i_ i0) ?_
   obtain ⟨g38, r39⟩ := G_some r37
   refine m_' (elp hd_l 3 i0.toNat 0) (aIndexAddr Try.prog 63 hd_l (i_ i0)) (u35.idxb (by kernel_rfl) g38 h36) ?_
   refine m_' (elp hd_l 3 i0.toNat 0) (aFieldAddr Try.prog 84 (elp hd_l 3 i0.toNat 0) 0) (Sq.fldq (d := 0) u35 g38 h36 (by kernel_rfl)) ?_
   refine m_' (i_ ((gt l i0).1)) (aLoad Try.prog 3 (elp hd_l 3 i0.toNat 0) H8) (u35.ld g38 h36 (by kernel_rfl)) ?_
   refine e_' (pt_ b7 0) ?_
   refine m_' (i_ Node) (aLoad Try.prog 3 (pt_ b7 0) H8) (r11.ld (by kernel_rfl)) ?_
   refine e_' (.bool (decide (((gt l i0).1) < Node))) ?_
   refine e_' (.bool (decide (((gt l i0).1) < Node))) ?_
   refine d_nil ?_
   refine k34 _ _ ?_
   refine w_condp (((gt l i0).1) < Node) (by kernel_rfl) rfl (fun h40 => ?_) (fun h40 => ?_)
   ·have r41 := ite_t h40 r39
    refine w_skip ?_
    refine k33 _ _ ?_
    refine w_block ?_
    refine g_' ?_
    refine q_ (i_ i0) ?_
    obtain ⟨g42, r43⟩ := G_some r41
    refine s_w ((i0 + 1)) (k := .i64) (x := (i0 + 1)) (by kernel_rfl) (wrap64 (by have := g42; omega)) ?_
    refine q_ (i_ (i0 + 1)) ?_
    refine s_nil ?_
    obtain rfl := Option.some.inj r43
    exact k32 n28 _ _ (Nat.lt_succ_self _) ⟨(i0 + 1), hn31, ha_, rfl⟩
   have r44 := ite_f h40 r39
   refine w_exit (th_exit (th_exit (bl_eq ?_)))
   obtain rfl := Option.some.inj r44
   obtain rfl := it_inr hn31
   exact k20 _ _ ⟨ha_, rfl⟩
  have r45 := ite_f h36 hz30
  refine e_' (.bool false) ?_
  refine j_' ?_
  refine j_' ?_
  refine j_' ?_
  refine j_' ?_
  refine j_' ?_
  refine j_' ?_
  refine j_' ?_
  refine j_' ?_
  refine e_' (.bool false) ?_
  refine d_nil ?_
  refine k34 _ _ ?_
  refine w_cond false (by kernel_rfl) rfl (fun h => by cases h) (fun _ => ?_)
  refine w_exit (th_exit (th_exit (bl_eq ?_)))
  obtain rfl := Option.some.inj r45
  obtain rfl := it_inr hn31
  exact k20 _ _ ⟨ha_, rfl⟩
 obtain ⟨hh21, rfl⟩ := hM
 obtain ⟨β, rfl⟩ := has_ex hh21
 clear hh21
 refine k14 _ _ ?_
 refine w_seqk fun _ k46 => ?_
 refine g_' ?_
 refine q_ (.slice none 0 0) ?_
 refine s_nil (k46 _ _ ?_)
 refine w_seqk fun _ k47 => ?_
 refine g_' ?_
 refine q_ (.slice none 0 0) ?_
 refine q_ (hd_l) ?_
 refine q_ (i_ o15) ?_
 obtain ⟨g48, r49⟩ := G_some r17
 have u53 := (h_l.ext e9)
 obtain ⟨s50, q51, hs52⟩ := Sq.cut (P := Try.prog) u53 (t := 63) (by kernel_rfl) (lo := none) (hi := (some (i_ o15))) (l := 0) (r := o15.toNat) (rfl) (aBound_int _ (by have := g48; omega)) (by have := g48; omega) (by have := g48; omega)
 obtain ⟨a54, n55, c56, rfl⟩ := hs52.form
 refine s_ql (.slice a54 n55 c56) (by kernel_rfl) q51 ?_
 obtain ⟨g58, r59⟩ := G_some r49
 obtain ⟨s60, H61, f62, q66, e63, hm64, hf65⟩ := Ow.append (P := Try.prog) 24 e9.wf (Ow.nil (enc := enc_i64_u64_i64) (sz := 3) (by decide)) hs52 (fun _ _ => rfl) (at_ := #[63, 63]) rfl rfl (by kernel_rfl) (by kernel_rfl) (by decide) (by have := g58; first | omega | (simp only [List.length_cons, List.length_nil] at this ⊢; omega) | (simp at this ⊢; omega))
 obtain ⟨a67, n68, c69, rfl⟩ := hm64.form
 refine s_ek (.slice a67 n68 c69) (by kernel_rfl) (q66) ?_
 refine q_ (.slice a67 n68 c69) ?_
 refine s_nil (k47 _ _ ?_)
 refine w_seqk fun _ k71 => ?_
 refine g_' ?_
 refine q_ (.slice a67 n68 c69) ?_
 have u72 := (r11.frS e63 Dj.nil_l)
 refine l_' (.agg #[i_ Node, .int .u64 Weight, i_ Via]) (aLoad Try.prog 84 (pt_ b7 0) H61) (u72.ld (by kernel_rfl)) ?_
 refine s_owk (enc := enc_i64_u64_i64) (sz := 3) e63.wf [(Node, Weight, Via)] 1 (by decide) (fun _ _ => rfl) (fun _ _ => rfl) rfl (by kernel_rfl) fun s73 f74 H75 e76 hf77 hm78 => ?_
 obtain ⟨a79, n80, c81, rfl⟩ := hm78.form
 have u83 := (hm64.ext e76)
 obtain ⟨g84, r85⟩ := G_some r59
 obtain ⟨s86, H87, f88, q92, e89, hm90, hf91⟩ := Ow.append (P := Try.prog) 24 e76.wf u83 hm78.sq (fun _ _ => rfl) (at_ := #[63, 63]) rfl rfl (by kernel_rfl) (by kernel_rfl) (by decide) (by have := g84; first | omega | (simp only [List.length_cons, List.length_nil] at this ⊢; omega) | (simp at this ⊢; omega))
 obtain ⟨a93, n94, c95, rfl⟩ := hm90.form
 refine s_ek (.slice a93 n94 c95) (by kernel_rfl) (q92) ?_
 refine q_ (.slice a93 n94 c95) ?_
 refine s_nil (k71 _ _ ?_)
 refine w_seqk fun _ k97 => ?_
 refine g_' ?_
 refine q_ (.slice a93 n94 c95) ?_
 refine q_ (hd_l) ?_
 refine q_ (i_ o15) ?_
 have u101 := (((u53.fr e63 Dj.nil_l).ext e76).fr e89 (hf65.djn (h_l.lt.le e9.next)))
 obtain ⟨s98, q99, hs100⟩ := Sq.cut (P := Try.prog) u101 (t := 63) (by kernel_rfl) (lo := (some (i_ o15))) (hi := none) (l := o15.toNat) (r := l.length) (aBound_int _ (by have := g48; omega)) (rfl) (by have := g48; omega) (by have := g48; omega)
 obtain ⟨a102, n103, c104, rfl⟩ := hs100.form
 refine s_ql (.slice a102 n103 c104) (by kernel_rfl) q99 ?_
 obtain ⟨g106, r107⟩ := G_some r85
 obtain ⟨s108, H109, f110, q114, e111, hm112, hf113⟩ := Ow.append (P := Try.prog) 24 e89.wf hm90 hs100 (fun _ _ => rfl) (at_ := #[63, 63]) rfl rfl (by kernel_rfl) (by kernel_rfl) (by decide) (by have := g106; first | omega | (simp only [List.length_cons, List.length_nil] at this ⊢; omega) | (simp at this ⊢; omega))
 obtain ⟨a115, n116, c117, rfl⟩ := hm112.form
 refine s_ek (.slice a115 n116 c117) (by kernel_rfl) (q114) ?_
 refine q_ (.slice a115 n116 c117) ?_
 refine s_nil (k97 _ _ ?_)
 refine w_ret ?_
 refine b_ret (fn := Try.f51) (vs := [.slice a115 n116 c117]) (aRes_tmp (by kernel_rfl) (rfl)) ?_
 obtain rfl := Option.some.inj r107
 exact ⟨(.slice a115 n116 c117), f110, rfl, (FrS.step wf (FrS.step wf ((FrS.step wf ((FrS.refl (W := []) wf).extR e9) e63 Inn.nil).extR e76) e89 (hf65.fresh e9.next)) e111 (Inn.trans (hf65.fresh e9.next) (ntr (ntr e9.next e63.next) e76.next) hf91)), hm112, (Inn.trans (Inn.trans (hf65.fresh e9.next) (ntr (ntr e9.next e63.next) e76.next) hf91) (ntr (ntr (ntr e9.next e63.next) e76.next) e89.next) hf113)⟩

theorem c_viaductref11_Out {H : AH} {hd_Alive : Value} {fp_Alive : Fp} {hd_Arcs : Value} {fp_Arcs : Fp} {Alive : List (Bool)} {Arcs : List (Int × Int × Int × Int)} {v_ : Int} {r : List (Int × Int × Int)}
    (wf : WF H) (h_Alive : Sq encB 1 H hd_Alive Alive fp_Alive) (h_Arcs : Sq enc_i64_i64_u64_i64 4 H hd_Arcs Arcs fp_Arcs) (hr : z_viaductref11_Out Alive Arcs v_ = some r) :
    ACalls Try.prog 24 #[.agg #[hd_Alive, hd_Arcs], i_ v_] H fun v H' => ∃ (s3 : Value) (f4 : Fp), v = s3 ∧ FrS [] H H' ∧ Ow enc_i64_u64_i64 3 H' s3 r f4 ∧ Inn [] H f4 := by
 refine acalls_of_body mixed Try.func24 rfl (Nat.le_of_ble_eq_true rfl) ?_
 unfold z_viaductref11_Out at hr
 refine w_seqk fun _ k6 => ?_
 refine g_' ?_
 refine s_rwl wf [hd_Alive, hd_Arcs] (one_cons (h_Alive.one1) (one_cons (h_Arcs.one1) (one_nil))) (by kernel_rfl) fun b7 H8 e9 hb10 r11 => ?_
 refine q_ (.slice none 0 0) ?_
 refine s_nil (k6 _ _ ?_)
 refine w_seqk fun _ k13 => ?_
 refine g_' ?_
 refine q_ (.slice none 0 0) ?_
 refine s_nil (k13 _ _ ?_)
 refine w_seqk fun _ k14 => ?_
 refine w_seqk fun _ k15 => ?_
 refine g_' ?_
 refine q_ (pt_ b7 1) ?_
 refine l_' (hd_Arcs) (aLoad Try.prog 54 (pt_ b7 1) H8) (r11.ld (by kernel_rfl)) ?_
 have u16 := (h_Arcs.ext e9)
 refine l_' (i_ (Arcs.length : Int)) (aLen Try.prog 54 hd_Arcs H8) (u16.lenb (by kernel_rfl)) ?_
 refine q_ (i_ 0) ?_
 refine s_nil (k15 _ _ ?_)
 obtain ⟨o17, hx18, r19⟩ := bind_some hr
 refine w_mid (fun α H20 => ∃ (s24 : Value) (f25 : Fp), Has α [(5, s24)] ∧ FrS [] H8 H20 ∧ Ow enc_i64_u64_i64 3 H20 s24 o17 f25 ∧ Inn [] H8 f25) (fun _ k27 => ?_) (fun α H20 hM => ?_)
 ·refine w_block ?_
  obtain ⟨n29, hn30⟩ := loopO_iff.1 hx18
  refine w_loopn (fun n α H31 => ∃ (i0 : Int), ∃ (l1 : List (Int × Int × Int)), ∃ (s35 : Value), ∃ (f36 : Fp), iterO (fun zz_ => z_viaductref11_Out_l0 Arcs v_ zz_.1 zz_.2) n (i0, l1) = some o17 ∧ Has α [(1, i_ v_), (5, s35), (9, hd_Arcs), (10, i_ (Arcs.length : Int)), (11, i_ i0)] ∧ FrS [] H8 H31 ∧ Ow enc_i64_u64_i64 3 H31 s35 l1 f36 ∧ Inn [] H8 f36) n29 ⟨0, [], (.slice none 0 0), [], hn30, ha_, (FrS.refl (W := []) e9.wf), (Ow.nil (by decide)), Inn.nil⟩ ?_
  rintro n29 α H31 ⟨i0, l1, s35, f36, hi39, hh38, e32, m34, i37⟩ K44 k44
  obtain ⟨n40, z41, rfl, hz42, hn43⟩ := iter_succ hi39
  obtain ⟨β, rfl⟩ := has_ex hh38
  clear hh38
  replace hz42 : z_viaductref11_Out_l0 Arcs v_ i0 l1 = some z41 := hz42
  unfold z_viaductref11_Out_l0 at hz42
  obtain ⟨a45, n46, c47, rfl⟩ := m34.form
  refine w_seqk fun _ k48 => ?_
  refine g_' ?_
  refine q_ (.bool (decide (i0 < (Arcs.length : Int)))) ?_
  refine s_nil (k48 _ _ ?_)
  refine w_seqk fun _ k49 => ?_
  refine w_condp (i0 < (Arcs.length : Int)) (by kernel_rfl) rfl (fun h50 => ?_) (fun h50 => ?_)
  ·have r51 := ite_t h50 hz42
   refine w_skip ?_
   refine k49 _ _ ?_
   refine w_seqk fun _ k52 => ?_
   refine w_block ?_
   refine w_seqk fun _ k53 => ?_
   refine g_' ?_
   obtain ⟨g54, r55⟩ := G_some r51
   have u56 := (u16.fr e32 Dj.nil_l)
   refine l_' (elp hd_Arcs 4 i0.toNat 0) (aIndexAddr Try.prog 54 hd_Arcs (i_ i0)) (u56.idxb (by kernel_rfl) g54 h50) ?_
   refine l_' (.agg #[i_ ((gt Arcs i0).1), i_ ((gt Arcs i0).2.1), .int .u64 ((gt Arcs i0).2.2.1), i_ ((gt Arcs i0).2.2.2)]) (aLoad Try.prog 93 (elp hd_Arcs 4 i0.toNat 0) H31) (u56.ld g54 h50 (by kernel_rfl)) ?_
   refine s_rwk e32.wf [i_ 0, i_ 0, .int .u64 0, i_ 0] (by kernel_rfl) fun b57 H58 e59 hb60 r61 => ?_
   obtain ⟨H63, q64, e65, r66⟩ := Row.store (P := Try.prog) (t := 93) (p := 0) e59.wf r61 (.agg #[i_ ((gt Arcs i0).1), i_ ((gt Arcs i0).2.1), .int .u64 ((gt Arcs i0).2.2.1), i_ ((gt Arcs i0).2.2.2)]) [i_ ((gt Arcs i0).1), i_ ((gt Arcs i0).2.1), .int .u64 ((gt Arcs i0).2.2.1), i_ ((gt Arcs i0).2.2.2)] (by kernel_rfl) (by kernel_rfl) (one_cons (rfl) (one_cons (rfl) (one_cons (rfl) (one_cons (rfl) (one_nil))))) (Nat.le_of_ble_eq_true (by kernel_rfl)) [i_ ((gt Arcs i0).1), i_ ((gt Arcs i0).2.1), .int .u64 ((gt Arcs i0).2.2.1), i_ ((gt Arcs i0).2.2.2)] (by kernel_rfl)
   refine s_ek (undef) (by kernel_rfl) (map_ok q64) ?_
   refine s_nil (k53 _ _ ?_)
   refine w_seqk fun _ k67 => ?_
   refine g_' ?_
   refine q_ (pt_ b57 0) ?_
   refine l_' (i_ ((gt Arcs i0).1)) (aLoad Try.prog 3 (pt_ b57 0) H63) (r66.ld (by kernel_rfl)) ?_
   refine q_ (i_ v_) ?_
   refine q_ (.bool (decide (((gt Arcs i0).1) = v_))) ?_
   refine s_nil (k67 _ _ ?_)
   refine w_condp (((gt Arcs i0).1) = v_) (by kernel_rfl) rfl (fun h68 => ?_) (fun h68 => ?_)
   ·have r69 := ite_t h68 r55
    refine g_' ?_
    refine q_ (.slice a45 n46 c47) ?_
    refine q_ (pt_ b57 1) ?_
    refine l_' (i_ ((gt Arcs i0).2.1)) (aLoad Try.prog 3 (pt_ b57 1) H63) (r66.ld (by kernel_rfl)) ?_
    refine q_ (pt_ b57 2) ?_
    refine l_' (.int .u64 ((gt Arcs i0).2.2.1)) (aLoad Try.prog 33 (pt_ b57 2) H63) (r66.ld (by kernel_rfl)) ?_
    refine q_ (pt_ b57 3) ?_
    refine l_' (i_ ((gt Arcs i0).2.2.2)) (aLoad Try.prog 3 (pt_ b57 3) H63) (r66.ld (by kernel_rfl)) ?_
    refine q_ (.agg #[i_ ((gt Arcs i0).2.1), .int .u64 ((gt Arcs i0).2.2.1), i_ ((gt Arcs i0).2.2.2)]) ?_
    have u70 := ((m34.ext e59).fr e65 (hb60.djn m34.lt))
    obtain ⟨y71, hy72, r73⟩ := bind_some r69
    refine s_ck 51 #[.slice a45 n46 c47, .agg #[i_ ((gt Arcs i0).2.1), .int .u64 ((gt Arcs i0).2.2.1), i_ ((gt Arcs i0).2.2.2)]] (by kernel_rfl) (c_viaductref11_put e65.wf u70.sq hy72) ?_
    rintro s74 H76 ⟨_, f75, rfl, e77, m78, i79⟩
    obtain ⟨a81, n82, c83, rfl⟩ := m78.form
    refine q_ (.slice a81 n82 c83) ?_
    refine s_nil (k52 _ _ ?_)
    refine g_' ?_
    obtain ⟨g84, r85⟩ := G_some r73
    refine s_w ((i0 + 1)) (k := .i64) (x := (i0 + 1)) (by kernel_rfl) (wrap64 (by have := g84; omega)) ?_
    refine q_ (i_ (i0 + 1)) ?_
    refine s_nil ?_
    obtain rfl := Option.some.inj r85
    exact k44 n40 _ _ (Nat.lt_succ_self _) ⟨(i0 + 1), y71, (.slice a81 n82 c83), f75, hn43, ha_, (FrS.step e9.wf (FrS.step e9.wf ((FrS.step e9.wf (FrS.refl (W := []) e9.wf) e32 Inn.nil).extR e59) e65 (hb60.fresh e32.next)) e77 Inn.nil), m78, (i79.fresh (ntr (ntr e32.next e59.next) e65.next))⟩
   have r86 := ite_f h68 r55
   refine w_skip ?_
   refine k52 _ _ ?_
   refine g_' ?_
   obtain ⟨g87, r88⟩ := G_some r86
   refine s_w ((i0 + 1)) (k := .i64) (x := (i0 + 1)) (by kernel_rfl) (wrap64 (by have := g87; omega)) ?_
   refine q_ (i_ (i0 + 1)) ?_
   refine s_nil ?_
   have u89 := ((m34.ext e59).fr e65 (hb60.djn m34.lt))
   obtain rfl := Option.some.inj r88
   exact k44 n40 _ _ (Nat.lt_succ_self _) ⟨(i0 + 1), l1, (.slice a45 n46 c47), f36, hn43, ha_, (FrS.step e9.wf ((FrS.step e9.wf (FrS.refl (W := []) e9.wf) e32 Inn.nil).extR e59) e65 (hb60.fresh e32.next)), u89, (i37.fresh (Nat.le_refl _))⟩
  have r90 := ite_f h50 hz42
  refine w_exit (th_exit (th_exit (bl_eq ?_)))
  obtain rfl := Option.some.inj r90
  obtain rfl := it_inr hn43
  exact k27 _ _ ⟨(.slice a45 n46 c47), f36, ha_, (FrS.step e9.wf (FrS.refl (W := []) e9.wf) e32 Inn.nil), m34, (i37.fresh (Nat.le_refl _))⟩
 obtain ⟨s24, f25, hh28, e21, m23, i26⟩ := hM
 obtain ⟨β, rfl⟩ := has_ex hh28
 clear hh28
 obtain ⟨a91, n92, c93, rfl⟩ := m23.form
 refine k14 _ _ ?_
 refine w_seqk fun _ k94 => ?_
 refine g_' ?_
 refine q_ (.slice a91 n92 c93) ?_
 refine q_ (.slice a91 n92 c93) ?_
 refine s_nil (k94 _ _ ?_)
 refine w_ret ?_
 refine b_ret (fn := Try.f24) (vs := [.slice a91 n92 c93]) (aRes_tmp (by kernel_rfl) (rfl)) ?_
 obtain rfl := Option.some.inj r19
 exact ⟨(.slice a91 n92 c93), f25, rfl, (FrS.step wf ((FrS.refl (W := []) wf).extR e9) e21 Inn.nil), m23, (i26.fresh e9.next)⟩

theorem c_viaductref11_In {H : AH} {hd_Alive : Value} {fp_Alive : Fp} {hd_Arcs : Value} {fp_Arcs : Fp} {Alive : List (Bool)} {Arcs : List (Int × Int × Int × Int)} {v_ : Int} {r : List (Int × Int × Int)}
    (wf : WF H) (h_Alive : Sq encB 1 H hd_Alive Alive fp_Alive) (h_Arcs : Sq enc_i64_i64_u64_i64 4 H hd_Arcs Arcs fp_Arcs) (hr : z_viaductref11_In Alive Arcs v_ = some r) :
    ACalls Try.prog 25 #[.agg #[hd_Alive, hd_Arcs], i_ v_] H fun v H' => ∃ (s3 : Value) (f4 : Fp), v = s3 ∧ FrS [] H H' ∧ Ow enc_i64_u64_i64 3 H' s3 r f4 ∧ Inn [] H f4 := by
 refine acalls_of_body mixed Try.func25 rfl (Nat.le_of_ble_eq_true rfl) ?_
 unfold z_viaductref11_In at hr
 refine w_seqk fun _ k6 => ?_
 refine g_' ?_
 refine s_rwl wf [hd_Alive, hd_Arcs] (one_cons (h_Alive.one1) (one_cons (h_Arcs.one1) (one_nil))) (by kernel_rfl) fun b7 H8 e9 hb10 r11 => ?_
 refine q_ (.slice none 0 0) ?_
 refine s_nil (k6 _ _ ?_)
 refine w_seqk fun _ k13 => ?_
 refine g_' ?_
 refine q_ (.slice none 0 0) ?_
 refine s_nil (k13 _ _ ?_)
 refine w_seqk fun _ k14 => ?_
 refine w_seqk fun _ k15 => ?_
 refine g_' ?_
 refine q_ (pt_ b7 1) ?_
 refine l_' (hd_Arcs) (aLoad Try.prog 54 (pt_ b7 1) H8) (r11.ld (by kernel_rfl)) ?_
 have u16 := (h_Arcs.ext e9)
 refine l_' (i_ (Arcs.length : Int)) (aLen Try.prog 54 hd_Arcs H8) (u16.lenb (by kernel_rfl)) ?_
 refine q_ (i_ 0) ?_
 refine s_nil (k15 _ _ ?_)
 obtain ⟨o17, hx18, r19⟩ := bind_some hr
 refine w_mid (fun α H20 => ∃ (s24 : Value) (f25 : Fp), Has α [(5, s24)] ∧ FrS [] H8 H20 ∧ Ow enc_i64_u64_i64 3 H20 s24 o17 f25 ∧ Inn [] H8 f25) (fun _ k27 => ?_) (fun α H20 hM => ?_)
 ·refine w_block ?_
  obtain ⟨n29, hn30⟩ := loopO_iff.1 hx18
  refine w_loopn (fun n α H31 => ∃ (i0 : Int), ∃ (l1 : List (Int × Int × Int)), ∃ (s35 : Value), ∃ (f36 : Fp), iterO (fun zz_ => z_viaductref11_In_l0 Arcs v_ zz_.1 zz_.2) n (i0, l1) = some o17 ∧ Has α [(1, i_ v_), (5, s35), (9, hd_Arcs), (10, i_ (Arcs.length : Int)), (11, i_ i0)] ∧ FrS [] H8 H31 ∧ Ow enc_i64_u64_i64 3 H31 s35 l1 f36 ∧ Inn [] H8 f36) n29 ⟨0, [], (.slice none 0 0), [], hn30, ha_, (FrS.refl (W := []) e9.wf), (Ow.nil (by decide)), Inn.nil⟩ ?_
  rintro n29 α H31 ⟨i0, l1, s35, f36, hi39, hh38, e32, m34, i37⟩ K44 k44
  obtain ⟨n40, z41, rfl, hz42, hn43⟩ := iter_succ hi39
  obtain ⟨β, rfl⟩ := has_ex hh38
  clear hh38
  replace hz42 : z_viaductref11_In_l0 Arcs v_ i0 l1 = some z41 := hz42
  unfold z_viaductref11_In_l0 at hz42
  obtain ⟨a45, n46, c47, rfl⟩ := m34.form
  refine w_seqk fun _ k48 => ?_
  refine g_' ?_
  refine q_ (.bool (decide (i0 < (Arcs.length : Int)))) ?_
  refine s_nil (k48 _ _ ?_)
  refine w_seqk fun _ k49 => ?_
  refine w_condp (i0 < (Arcs.length : Int)) (by kernel_rfl) rfl (fun h50 => ?_) (fun h50 => ?_)
  ·have r51 := ite_t h50 hz42
   refine w_skip ?_
   refine k49 _ _ ?_
   refine w_seqk fun _ k52 => ?_
   refine w_block ?_
   refine w_seqk fun _ k53 => ?_
   refine g_' ?_
   obtain ⟨g54, r55⟩ := G_some r51
   have u56 := (u16.fr e32 Dj.nil_l)
   refine l_' (elp hd_Arcs 4 i0.toNat 0) (aIndexAddr Try.prog 54 hd_Arcs (i_ i0)) (u56.idxb (by kernel_rfl) g54 h50) ?_
   refine l_' (.agg #[i_ ((gt Arcs i0).1), i_ ((gt Arcs i0).2.1), .int .u64 ((gt Arcs i0).2.2.1), i_ ((gt Arcs i0).2.2.2)]) (aLoad Try.prog 93 (elp hd_Arcs 4 i0.toNat 0) H31) (u56.ld g54 h50 (by kernel_rfl)) ?_
   refine s_rwk e32.wf [i_ 0, i_ 0, .int .u64 0, i_ 0] (by kernel_rfl) fun b57 H58 e59 hb60 r61 => ?_
   obtain ⟨H63, q64, e65, r66⟩ := Row.store (P := Try.prog) (t := 93) (p := 0) e59.wf r61 (.agg #[i_ ((gt Arcs i0).1), i_ ((gt Arcs i0).2.1), .int .u64 ((gt Arcs i0).2.2.1), i_ ((gt Arcs i0).2.2.2)]) [i_ ((gt Arcs i0).1), i_ ((gt Arcs i0).2.1), .int .u64 ((gt Arcs i0).2.2.1), i_ ((gt Arcs i0).2.2.2)] (by kernel_rfl) (by kernel_rfl) (one_cons (rfl) (one_cons (rfl) (one_cons (rfl) (one_cons (rfl) (one_nil))))) (Nat.le_of_ble_eq_true (by kernel_rfl)) [i_ ((gt Arcs i0).1), i_ ((gt Arcs i0).2.1), .int .u64 ((gt Arcs i0).2.2.1), i_ ((gt Arcs i0).2.2.2)] (by kernel_rfl)
   refine s_ek (undef) (by kernel_rfl) (map_ok q64) ?_
   refine s_nil (k53 _ _ ?_)
   refine w_seqk fun _ k67 => ?_
   refine g_' ?_
   refine q_ (pt_ b57 1) ?_
   refine l_' (i_ ((gt Arcs i0).2.1)) (aLoad Try.prog 3 (pt_ b57 1) H63) (r66.ld (by kernel_rfl)) ?_
   refine q_ (i_ v_) ?_
   refine q_ (.bool (decide (((gt Arcs i0).2.1) = v_))) ?_
   refine s_nil (k67 _ _ ?_)
   refine w_condp (((gt Arcs i0).2.1) = v_) (by kernel_rfl) rfl (fun h68 => ?_) (fun h68 => ?_)
   ·have r69 := ite_t h68 r55
    refine g_' ?_
    refine q_ (.slice a45 n46 c47) ?_
    refine q_ (pt_ b57 0) ?_
    refine l_' (i_ ((gt Arcs i0).1)) (aLoad Try.prog 3 (pt_ b57 0) H63) (r66.ld (by kernel_rfl)) ?_
    refine q_ (pt_ b57 2) ?_
    refine l_' (.int .u64 ((gt Arcs i0).2.2.1)) (aLoad Try.prog 33 (pt_ b57 2) H63) (r66.ld (by kernel_rfl)) ?_
    refine q_ (pt_ b57 3) ?_
    refine l_' (i_ ((gt Arcs i0).2.2.2)) (aLoad Try.prog 3 (pt_ b57 3) H63) (r66.ld (by kernel_rfl)) ?_
    refine q_ (.agg #[i_ ((gt Arcs i0).1), .int .u64 ((gt Arcs i0).2.2.1), i_ ((gt Arcs i0).2.2.2)]) ?_
    have u70 := ((m34.ext e59).fr e65 (hb60.djn m34.lt))
    obtain ⟨y71, hy72, r73⟩ := bind_some r69
    refine s_ck 51 #[.slice a45 n46 c47, .agg #[i_ ((gt Arcs i0).1), .int .u64 ((gt Arcs i0).2.2.1), i_ ((gt Arcs i0).2.2.2)]] (by kernel_rfl) (c_viaductref11_put e65.wf u70.sq hy72) ?_
    rintro s74 H76 ⟨_, f75, rfl, e77, m78, i79⟩
    obtain ⟨a81, n82, c83, rfl⟩ := m78.form
    refine q_ (.slice a81 n82 c83) ?_
    refine s_nil (k52 _ _ ?_)
    refine g_' ?_
    obtain ⟨g84, r85⟩ := G_some r73
    refine s_w ((i0 + 1)) (k := .i64) (x := (i0 + 1)) (by kernel_rfl) (wrap64 (by have := g84; omega)) ?_
    refine q_ (i_ (i0 + 1)) ?_
    refine s_nil ?_
    obtain rfl := Option.some.inj r85
    exact k44 n40 _ _ (Nat.lt_succ_self _) ⟨(i0 + 1), y71, (.slice a81 n82 c83), f75, hn43, ha_, (FrS.step e9.wf (FrS.step e9.wf ((FrS.step e9.wf (FrS.refl (W := []) e9.wf) e32 Inn.nil).extR e59) e65 (hb60.fresh e32.next)) e77 Inn.nil), m78, (i79.fresh (ntr (ntr e32.next e59.next) e65.next))⟩
   have r86 := ite_f h68 r55
   refine w_skip ?_
   refine k52 _ _ ?_
   refine g_' ?_
   obtain ⟨g87, r88⟩ := G_some r86
   refine s_w ((i0 + 1)) (k := .i64) (x := (i0 + 1)) (by kernel_rfl) (wrap64 (by have := g87; omega)) ?_
   refine q_ (i_ (i0 + 1)) ?_
   refine s_nil ?_
   have u89 := ((m34.ext e59).fr e65 (hb60.djn m34.lt))
   obtain rfl := Option.some.inj r88
   exact k44 n40 _ _ (Nat.lt_succ_self _) ⟨(i0 + 1), l1, (.slice a45 n46 c47), f36, hn43, ha_, (FrS.step e9.wf ((FrS.step e9.wf (FrS.refl (W := []) e9.wf) e32 Inn.nil).extR e59) e65 (hb60.fresh e32.next)), u89, (i37.fresh (Nat.le_refl _))⟩
  have r90 := ite_f h50 hz42
  refine w_exit (th_exit (th_exit (bl_eq ?_)))
  obtain rfl := Option.some.inj r90
  obtain rfl := it_inr hn43
  exact k27 _ _ ⟨(.slice a45 n46 c47), f36, ha_, (FrS.step e9.wf (FrS.refl (W := []) e9.wf) e32 Inn.nil), m34, (i37.fresh (Nat.le_refl _))⟩
 obtain ⟨s24, f25, hh28, e21, m23, i26⟩ := hM
 obtain ⟨β, rfl⟩ := has_ex hh28
 clear hh28
 obtain ⟨a91, n92, c93, rfl⟩ := m23.form
 refine k14 _ _ ?_
 refine w_seqk fun _ k94 => ?_
 refine g_' ?_
 refine q_ (.slice a91 n92 c93) ?_
 refine q_ (.slice a91 n92 c93) ?_
 refine s_nil (k94 _ _ ?_)
 refine w_ret ?_
 refine b_ret (fn := Try.f25) (vs := [.slice a91 n92 c93]) (aRes_tmp (by kernel_rfl) (rfl)) ?_
 obtain rfl := Option.some.inj r19
 exact ⟨(.slice a91 n92 c93), f25, rfl, (FrS.step wf ((FrS.refl (W := []) wf).extR e9) e21 Inn.nil), m23, (i26.fresh e9.next)⟩


end Go.Vd

/-! (KOm5) -/

set_option maxRecDepth 100000
set_option maxHeartbeats 4000000
set_option linter.unusedVariables false
namespace Go.Vd
open Go.Proofs
attribute [local irreducible] wpSeq wpOrd aWp
theorem c_viaductlaw11_OverlayMemory {H : AH} {hd_Arcs : Value} {fp_Arcs : Fp} {N_ : Int} {Arcs : List (Int × Int × Int)} {r : Bool}
    (wf : WF H) (h_Arcs : Sq enc_i64_i64_i64 3 H hd_Arcs Arcs fp_Arcs) (hr : z_viaductlaw11_OverlayMemory N_ Arcs = some r) :
    ACalls Try.prog 5 #[.agg #[i_ N_, hd_Arcs]] H fun v H' => v = .bool r ∧ FrS [] H H' := by
 refine acalls_of_body mixed Try.func5 rfl (Nat.le_of_ble_eq_true rfl) ?_
 unfold z_viaductlaw11_OverlayMemory at hr
 refine w_seqk fun _ k1 => ?_
 refine g_' ?_
 refine s_rwl wf [i_ N_, hd_Arcs] (one_cons (rfl) (one_cons (h_Arcs.one1) (one_nil))) (by kernel_rfl) fun b2 H3 e4 hb5 r6 => ?_
 refine q_ (.bool false) ?_
 refine s_nil (k1 _ _ ?_)
 refine w_seqk fun _ k8 => ?_
 refine w_seqk fun _ k9 => ?_
 refine g_' ?_
 obtain ⟨y10, hy11, r12⟩ := bind_some hr
 refine s_ck 9 #[] (by kernel_rfl) (c_viaductlaw11_awake e4.wf hy11) ?_
 rintro _ H13 ⟨rfl, e14⟩
 refine q_ (.bool (!y10)) ?_
 refine s_nil (k9 _ _ ?_)
 refine w_cond ((!y10)) (by kernel_rfl) rfl (fun h15 => ?_) (fun h15 => ?_)
 ·have r16 := ite_t h15 r12
  refine w_seqk fun _ k17 => ?_
  refine g_' ?_
  refine q_ (.bool false) ?_
  refine s_nil (k17 _ _ ?_)
  refine w_ret (th_ret ?_)
  refine b_ret (fn := Try.f5) (vs := [.bool false]) (aRes_tmp (by kernel_rfl) (rfl)) ?_
  obtain rfl := Option.some.inj r16
  exact ⟨rfl, (FrS.step wf ((FrS.refl (W := []) wf).extR e4) e14 Inn.nil)⟩
 have r18 := ite_bf h15 r12
 refine w_skip ?_
 refine k8 _ _ ?_
 refine w_seqk fun _ k19 => ?_
 refine w_seqk fun _ k20 => ?_
 refine g_' ?_
 have u21 := (r6.frS e14 Dj.nil_l)
 refine l_' (.agg #[i_ N_, hd_Arcs]) (aLoad Try.prog 24 (pt_ b2 0) H13) (u21.ld (by kernel_rfl)) ?_
 have u22 := ((h_Arcs.ext e4).fr e14 Dj.nil_l)
 obtain ⟨y23, hy24, r25⟩ := bind_some r18
 refine s_ck 10 #[.agg #[i_ N_, hd_Arcs], i_ 20] (by kernel_rfl) (c_viaductref04_Few e14.wf u22 hy24) ?_
 rintro _ H26 ⟨rfl, e27⟩
 refine q_ (.bool (!y23)) ?_
 refine s_nil (k20 _ _ ?_)
 refine w_cond ((!y23)) (by kernel_rfl) rfl (fun h28 => ?_) (fun h28 => ?_)
 ·have r29 := ite_t h28 r25
  refine w_seqk fun _ k30 => ?_
  refine g_' ?_
  refine q_ (.bool true) ?_
  refine s_nil (k30 _ _ ?_)
  refine w_ret (th_ret ?_)
  refine b_ret (fn := Try.f5) (vs := [.bool true]) (aRes_tmp (by kernel_rfl) (rfl)) ?_
  obtain rfl := Option.some.inj r29
  exact ⟨rfl, (FrS.step wf (FrS.step wf ((FrS.refl (W := []) wf).extR e4) e14 Inn.nil) e27 Inn.nil)⟩
 have r31 := ite_bf h28 r25
 refine w_skip ?_
 refine k19 _ _ ?_
 refine w_seqk fun _ k32 => ?_
 refine g_' ?_
 have u33 := (u21.frS e27 Dj.nil_l)
 refine l_' (.agg #[i_ N_, hd_Arcs]) (aLoad Try.prog 24 (pt_ b2 0) H26) (u33.ld (by kernel_rfl)) ?_
 have u34 := (u22.fr e27 Dj.nil_l)
 obtain ⟨y35, hy36, r37⟩ := bind_some r31
 refine s_ck 20 #[.agg #[i_ N_, hd_Arcs]] (by kernel_rfl) (c_viaductref03_Spare e27.wf u34 hy36) ?_
 rintro _ H41 ⟨s38, f39, s40, rfl, e42, m43, m44, i45⟩
 obtain ⟨a48, n49, c50, rfl⟩ := m43.form
 obtain ⟨a51, n52, c53, rfl⟩ := m44.form
 refine q_ (.tuple #[.agg #[i_ y35.1, .slice a48 n49 c50], .slice a51 n52 c53]) ?_
 refine q_ (.agg #[i_ y35.1, .slice a48 n49 c50]) ?_
 refine q_ (.slice a51 n52 c53) ?_
 refine s_rwk e42.wf [i_ 0, .slice none 0 0] (by kernel_rfl) fun b54 H55 e56 hb57 r58 => ?_
 have u64 := (m43.ext e56)
 obtain ⟨H60, q61, e62, r63⟩ := Row.store (P := Try.prog) (t := 24) (p := 0) e56.wf r58 (.agg #[i_ y35.1, .slice a48 n49 c50]) [i_ y35.1, .slice a48 n49 c50] (by kernel_rfl) (by kernel_rfl) (one_cons (rfl) (one_cons (u64.one1) (one_nil))) (Nat.le_of_ble_eq_true (by kernel_rfl)) [i_ y35.1, .slice a48 n49 c50] (by kernel_rfl)
 refine s_ek (undef) (by kernel_rfl) (map_ok q61) ?_
 refine q_ (.slice a51 n52 c53) ?_
 refine s_nil (k32 _ _ ?_)
 refine w_seqk fun _ k65 => ?_
 refine g_' ?_
 refine l_' (.agg #[i_ y35.1, .slice a48 n49 c50]) (aLoad Try.prog 24 (pt_ b54 0) H60) (r63.ld (by kernel_rfl)) ?_
 have u66 := (u64.fr e62 (hb57.djn m43.lt))
 obtain ⟨y67, hy68, r69⟩ := bind_some r37
 rcases y67 with y70 | y71
 ·have r72 := elim_l r69
  refine s_ck 11 #[.agg #[i_ y35.1, .slice a48 n49 c50]] (by kernel_rfl) (c_overlay_New e62.wf u66.sq hy68) ?_
  rintro _ H75 ⟨v73, f74, rfl, e76, m77, i78⟩
  refine q_ (.tuple #[.pointer none, v73]) ?_
  refine q_ (.pointer none) ?_
  refine q_ (v73) ?_
  refine q_ (.pointer none) ?_
  refine q_ (v73) ?_
  refine s_nil (k65 _ _ ?_)
  refine w_seqk fun _ k80 => ?_
  refine w_seqk fun _ k81 => ?_
  obtain ⟨o82, hx83, r84⟩ := bind_some r72
  refine w_mid (fun α H85 => Has α [(1, pt_ b2 0), (4, .slice a51 n52 c53), (5, .pointer none), (39, .bool o82)] ∧ FrS [] H75 H85) (fun _ k87 => ?_) (fun α H85 hM => ?_)
  ·refine g_' ?_
   refine q_ (v73) ?_
   rcases (m77).cases with ⟨h89, rfl⟩ | ⟨h89, t90, x91, rfl⟩
   ·have r92 := ite_t h89 hx83
    refine q_ (.bool false) ?_
    refine q_ (.bool false) ?_
    have u93 := ((((u33.frS e42 Dj.nil_l).ext e56).frS e62 (hb57.djn (r6.ltF.le (ntr (ntr e14.next e27.next) e42.next)))).frS e76 Dj.nil_l)
    refine l_' (.agg #[i_ N_, hd_Arcs]) (aLoad Try.prog 24 (pt_ b2 0) H75) (u93.ld (by kernel_rfl)) ?_
    refine q_ (.slice a51 n52 c53) ?_
    have u94 := ((((u34.fr e42 Dj.nil_l).ext e56).fr e62 (hb57.djn (h_Arcs.lt.le (ntr (ntr (ntr e4.next e14.next) e27.next) e42.next)))).fr e76 Dj.nil_l)
    have u95 := (((m44.ext e56).fr e62 (hb57.djn m43.lt)).fr e76 Dj.nil_l)
    obtain ⟨y96, hy97, r98⟩ := bind_some r92
    refine s_ck 21 #[.agg #[i_ N_, hd_Arcs], .slice a51 n52 c53] (by kernel_rfl) (c_viaductref03_Kept e76.wf u94 u95.sq hy97) ?_
    rintro _ H99 ⟨rfl, e100⟩
    refine q_ (.bool (!y96)) ?_
    refine q_ (.bool (!y96)) ?_
    refine s_nil ?_
    obtain rfl := Option.some.inj r98
    exact k87 _ _ ⟨ha_, (FrS.step e76.wf (FrS.refl (W := []) e76.wf) e100 Inn.nil)⟩
   have r101 := ite_f h89 hx83
   refine l_' (.bool true) (aBin Try.prog .neq 30 (.tmp 32) (.const .nilIface) (.iface t90 x91) .nilIface) (aBin_nnil (by kernel_rfl)) ?_
   refine q_ (.bool true) ?_
   refine n_' ?_
   refine n_' ?_
   refine n_' ?_
   refine n_' ?_
   refine q_ (.bool true) ?_
   refine s_nil ?_
   obtain rfl := Option.some.inj r101
   exact k87 _ _ ⟨ha_, (FrS.refl (W := []) e76.wf)⟩
  obtain ⟨hh88, e86⟩ := hM
  obtain ⟨β, rfl⟩ := has_ex hh88
  clear hh88
  refine k81 _ _ ?_
  refine w_cond (o82) (by kernel_rfl) rfl (fun h102 => ?_) (fun h102 => ?_)
  ·have r103 := ite_t h102 r84
   refine w_seqk fun _ k104 => ?_
   refine g_' ?_
   refine q_ (.bool false) ?_
   refine s_nil (k104 _ _ ?_)
   refine w_ret (th_ret ?_)
   refine b_ret (fn := Try.f5) (vs := [.bool false]) (aRes_tmp (by kernel_rfl) (rfl)) ?_
   obtain rfl := Option.some.inj r103
   exact ⟨rfl, (FrS.step wf (FrS.step wf (FrS.step wf ((FrS.step wf (FrS.step wf (FrS.step wf ((FrS.refl (W := []) wf).extR e4) e14 Inn.nil) e27 Inn.nil) e42 Inn.nil).extR e56) e62 (hb57.fresh (ntr (ntr (ntr e4.next e14.next) e27.next) e42.next))) e76 Inn.nil) e86 Inn.nil)⟩
  have r105 := ite_bf h102 r84
  refine w_skip ?_
  refine k80 _ _ ?_
  refine w_seqk fun _ k106 => ?_
  refine w_seqk fun _ k107 => ?_
  refine g_' ?_
  refine q_ (.slice a51 n52 c53) ?_
  have u108 := ((((m44.ext e56).fr e62 (hb57.djn m43.lt)).fr e76 Dj.nil_l).fr e86 Dj.nil_l)
  refine l_' (i_ (y35.2.2.length : Int)) (aLen Try.prog 22 (.slice a51 n52 c53) H85) (u108.sq.lenb (by kernel_rfl)) ?_
  refine q_ (i_ 0) ?_
  refine s_nil (k107 _ _ ?_)
  obtain ⟨o109, hx110, r111⟩ := bind_some r105
  refine w_mid (fun α H112 => Has α [(1, pt_ b2 0), (5, .pointer none)] ∧ FrS f39 H85 H112) (fun _ k114 => ?_) (fun α H112 hM => ?_)
  ·refine w_block ?_
   obtain ⟨n116, hn117⟩ := loopO_iff.1 hx110
   refine w_loopn (fun n α H118 => ∃ (full0 : List (Int × Int × Int)), ∃ (i1 : Int), iterO (fun zz_ => z_viaductlaw11_OverlayMemory_l0 y35 zz_.1 zz_.2) n (full0, i1) = some o109 ∧ Has α [(1, pt_ b2 0), (4, .slice a51 n52 c53), (5, .pointer none), (41, i_ (y35.2.2.length : Int)), (42, i_ i1)] ∧ FrS f39 H85 H118 ∧ Ow enc_i64_i64_i64 3 H118 (.slice a51 n52 c53) full0 f39) n116 ⟨y35.2.2, 0, hn117, ha_, (FrS.refl (W := f39) e86.wf), u108⟩ ?_
   rintro n116 α H118 ⟨full0, i1, hi123, hh122, e119, m121⟩ K128 k128
   obtain ⟨n124, z125, rfl, hz126, hn127⟩ := iter_succ hi123
   obtain ⟨β, rfl⟩ := has_ex hh122
   clear hh122
   replace hz126 : z_viaductlaw11_OverlayMemory_l0 y35 full0 i1 = some z125 := hz126
   unfold z_viaductlaw11_OverlayMemory_l0 at hz126
   refine w_seqk fun _ k129 => ?_
   refine g_' ?_
   refine q_ (.bool (decide (i1 < (y35.2.2.length : Int)))) ?_
   refine s_nil (k129 _ _ ?_)
   refine w_seqk fun _ k130 => ?_
   refine w_condp (i1 < (y35.2.2.length : Int)) (by kernel_rfl) rfl (fun h131 => ?_) (fun h131 => ?_)
   ·have r132 := ite_t h131 hz126
    refine w_skip ?_
    refine k130 _ _ ?_
    refine w_seqk fun _ k133 => ?_
    refine w_block ?_
    refine w_seqk fun _ k134 => ?_
    refine g_' ?_
    refine q_ (i_ i1) ?_
    refine q_ (i_ i1) ?_
    refine s_nil (k134 _ _ ?_)
    refine g_' ?_
    refine q_ (.slice a51 n52 c53) ?_
    refine q_ (i_ i1) ?_
    refine q_ (.agg #[i_ 0, i_ 0, i_ 77]) ?_
    obtain ⟨g135, r136⟩ := G_some r132
    refine l_' (elp (.slice a51 n52 c53) 3 i1.toNat 0) (aIndexAddr Try.prog 22 (.slice a51 n52 c53) (i_ i1)) (m121.sq.idxb (by kernel_rfl) g135.1 g135.2) ?_
    obtain ⟨H137, q138, e139, hm140⟩ := Ow.store (P := Try.prog) (t := 52) (off := 0) e119.wf m121 g135.1 g135.2 (.agg #[i_ 0, i_ 0, i_ 77]) [i_ 0, i_ 0, i_ 77] (by kernel_rfl) (by kernel_rfl) rfl (0, 0, 77) (Nat.le_of_ble_eq_true rfl) (by kernel_rfl)
    refine s_ek (undef) (by kernel_rfl) (map_ok q138) ?_
    refine s_nil (k133 _ _ ?_)
    refine g_' ?_
    obtain ⟨g141, r142⟩ := G_some r136
    refine s_w ((i1 + 1)) (k := .i64) (x := (i1 + 1)) (by kernel_rfl) (wrap64 (by have := g141; omega)) ?_
    refine q_ (i_ (i1 + 1)) ?_
    refine s_nil ?_
    obtain rfl := Option.some.inj r142
    exact k128 n124 _ _ (Nat.lt_succ_self _) ⟨(full0.set i1.toNat (0, 0, 77)), (i1 + 1), hn127, ha_, (FrS.step e86.wf (FrS.step e86.wf (FrS.refl (W := f39) e86.wf) e119 Inn.refl') e139 Inn.refl'), hm140⟩
   have r143 := ite_f h131 hz126
   refine w_exit (th_exit (th_exit (bl_eq ?_)))
   obtain rfl := Option.some.inj r143
   obtain rfl := it_inr hn127
   exact k114 _ _ ⟨ha_, (FrS.step e86.wf (FrS.refl (W := f39) e86.wf) e119 Inn.refl')⟩
  obtain ⟨hh115, e113⟩ := hM
  obtain ⟨β, rfl⟩ := has_ex hh115
  clear hh115
  refine k106 _ _ ?_
  refine w_seqk fun _ k144 => ?_
  refine g_' ?_
  have u145 := ((((((u33.frS e42 Dj.nil_l).ext e56).frS e62 (hb57.djn (r6.ltF.le (ntr (ntr e14.next e27.next) e42.next)))).frS e76 Dj.nil_l).frS e86 Dj.nil_l).frS e113 (i45.djn (r6.ltF.le (ntr e14.next e27.next))))
  refine l_' (.agg #[i_ N_, hd_Arcs]) (aLoad Try.prog 24 (pt_ b2 0) H112) (u145.ld (by kernel_rfl)) ?_
  have u146 := ((((((u34.fr e42 Dj.nil_l).ext e56).fr e62 (hb57.djn (h_Arcs.lt.le (ntr (ntr (ntr e4.next e14.next) e27.next) e42.next)))).fr e76 Dj.nil_l).fr e86 Dj.nil_l).fr e113 (i45.djn (h_Arcs.lt.le (ntr (ntr e4.next e14.next) e27.next))))
  obtain ⟨y147, hy148, r149⟩ := bind_some r111
  refine s_ck 22 #[.agg #[i_ N_, hd_Arcs]] (by kernel_rfl) (c_viaductref11_DocNew e113.wf u146 hy148) ?_
  rintro _ H156 ⟨s150, f151, s152, f153, s154, f155, rfl, e157, m158, m159, m160, i161, i162, i163, d164, d165, d166⟩
  obtain ⟨a170, n171, c172, rfl⟩ := m158.form
  obtain ⟨a173, n174, c175, rfl⟩ := m159.form
  obtain ⟨a176, n177, c178, rfl⟩ := m160.form
  refine q_ (.tuple #[.agg #[.slice a170 n171 c172, .slice a173 n174 c175], .agg #[i_ y147.2.2.1, .slice a176 n177 c178]]) ?_
  refine q_ (.agg #[.slice a170 n171 c172, .slice a173 n174 c175]) ?_
  refine q_ (.agg #[i_ y147.2.2.1, .slice a176 n177 c178]) ?_
  refine s_rwk e157.wf [.slice none 0 0, .slice none 0 0] (by kernel_rfl) fun b179 H180 e181 hb182 r183 => ?_
  refine s_rwk e181.wf [i_ 0, .slice none 0 0] (by kernel_rfl) fun b185 H186 e187 hb188 r189 => ?_
  have u195 := (r183.ext e187)
  have u196 := ((m159.ext e181).ext e187)
  have u197 := ((m158.ext e181).ext e187)
  obtain ⟨H191, q192, e193, r194⟩ := Row.store (P := Try.prog) (t := 56) (p := 0) e187.wf u195 (.agg #[.slice a170 n171 c172, .slice a173 n174 c175]) [.slice a170 n171 c172, .slice a173 n174 c175] (by kernel_rfl) (by kernel_rfl) (one_cons (u197.one1) (one_cons (u196.one1) (one_nil))) (Nat.le_of_ble_eq_true (by kernel_rfl)) [.slice a170 n171 c172, .slice a173 n174 c175] (by kernel_rfl)
  refine s_ek (undef) (by kernel_rfl) (map_ok q192) ?_
  have u202 := (r189.frS e193 (Dj.symm (hb188.djn r183.ltF)))
  have u203 := (((m160.ext e181).ext e187).fr e193 (hb182.djn m160.lt))
  obtain ⟨H198, q199, e200, r201⟩ := Row.store (P := Try.prog) (t := 59) (p := 0) e193.wf u202 (.agg #[i_ y147.2.2.1, .slice a176 n177 c178]) [i_ y147.2.2.1, .slice a176 n177 c178] (by kernel_rfl) (by kernel_rfl) (one_cons (rfl) (one_cons (u203.one1) (one_nil))) (Nat.le_of_ble_eq_true (by kernel_rfl)) [i_ y147.2.2.1, .slice a176 n177 c178] (by kernel_rfl)
  refine s_ek (undef) (by kernel_rfl) (map_ok q199) ?_
  refine s_nil (k144 _ _ ?_)
  refine w_seqk fun _ k204 => ?_
  refine w_seqk fun _ k205 => ?_
  refine g_' ?_
  refine q_ (pt_ b2 0) ?_
  have u206 := (((((u145.frS e157 Dj.nil_l).ext e181).ext e187).frS e193 (hb182.djn (r6.ltF.le (ntr (ntr (ntr (ntr (ntr (ntr (ntr (ntr e14.next e27.next) e42.next) e56.next) e62.next) e76.next) e86.next) e113.next) e157.next)))).frS e200 (hb188.djn (r6.ltF.le (ntr (ntr (ntr (ntr (ntr (ntr (ntr (ntr (ntr e14.next e27.next) e42.next) e56.next) e62.next) e76.next) e86.next) e113.next) e157.next) e181.next))))
  refine l_' (i_ N_) (aLoad Try.prog 3 (pt_ b2 0) H198) (u206.ld (by kernel_rfl)) ?_
  refine q_ (i_ 0) ?_
  refine s_nil (k205 _ _ ?_)
  obtain ⟨z210, hx208, r209⟩ := bind_some r149
  refine w_mid (fun α H211 => ∃ o207, z210 = Sum.inr o207 ∧ Has α [(1, pt_ b2 0), (5, .pointer none), (8, pt_ b179 0)] ∧ FrS [] H198 H211) (fun _ k213 => ?_) (fun α H211 hM => ?_)
  ·refine w_block ?_
   obtain ⟨n215, hn216⟩ := loopO_iff.1 hx208
   refine w_loopn (fun n α H217 => ∃ (i2 : Int), iterO (fun zz_ => z_viaductlaw11_OverlayMemory_l2 N_ zz_) n i2 = some z210 ∧ Has α [(1, pt_ b2 0), (5, .pointer none), (8, pt_ b179 0), (56, i_ N_), (57, i_ i2)] ∧ FrS [] H198 H217) n215 ⟨0, hn216, ha_, (FrS.refl (W := []) e200.wf)⟩ ?_
   rintro n215 α H217 ⟨i2, hi220, hh219, e218⟩ K225 k225
   obtain ⟨n221, z222, rfl, hz223, hn224⟩ := iter_succ hi220
   obtain ⟨β, rfl⟩ := has_ex hh219
   clear hh219
   replace hz223 : z_viaductlaw11_OverlayMemory_l2 N_ i2 = some z222 := hz223
   unfold z_viaductlaw11_OverlayMemory_l2 at hz223
   refine w_seqk fun _ k226 => ?_
   refine g_' ?_
   refine q_ (.bool (decide (i2 < N_))) ?_
   refine s_nil (k226 _ _ ?_)
   refine w_seqk fun _ k227 => ?_
   refine w_condp (i2 < N_) (by kernel_rfl) rfl (fun h228 => ?_) (fun h228 => ?_)
   ·have r229 := ite_t h228 hz223
    refine w_skip ?_
    refine k227 _ _ ?_
    refine w_seqk fun _ k230 => ?_
    refine w_block ?_
    refine w_seqk fun _ k231 => ?_
    refine g_' ?_
    refine q_ (i_ i2) ?_
    refine q_ (i_ i2) ?_
    refine s_nil (k231 _ _ ?_)
    refine w_seqk fun _ k232 => ?_
    refine g_' ?_
    refine q_ (.pointer none) ?_
    refine q_ (i_ i2) ?_
    obtain ⟨y233, hy234, r235⟩ := bind_some r229
    refine s_ck 14 #[.pointer none, i_ i2] (by kernel_rfl) (c_overlay_Overlay_Out_1 e218.wf hy234) ?_
    rintro _ _ ⟨rfl, rfl⟩
    refine q_ (.pointer none) ?_
    refine q_ (i_ i2) ?_
    obtain ⟨y238, hy239, r240⟩ := bind_some r235
    refine s_ck 15 #[.pointer none, i_ i2] (by kernel_rfl) (c_overlay_Overlay_In_1 e218.wf hy239) ?_
    rintro _ _ ⟨rfl, rfl⟩
    refine q_ (.slice none 0 0) ?_
    refine q_ (.slice none 0 0) ?_
    refine s_nil (k232 _ _ ?_)
    refine w_seqk fun _ k243 => ?_
    refine w_seqk fun _ k244 => ?_
    refine g_' ?_
    refine q_ (.slice none 0 0) ?_
    refine q_ (i_ 0) ?_
    refine q_ (i_ 0) ?_
    refine s_nil (k244 _ _ ?_)
    obtain ⟨o245, hx246, r247⟩ := bind_some r240
    refine w_mid (fun α H248 => Has α [(1, pt_ b2 0), (5, .pointer none), (8, pt_ b179 0), (11, .slice none 0 0), (12, .slice none 0 0), (56, i_ N_), (57, i_ i2)] ∧ H217 = H248) (fun _ k250 => ?_) (fun α H248 hM => ?_)
    ·refine w_block ?_
     obtain ⟨n252, hn253⟩ := loopO_iff.1 hx246
     refine w_loopn (fun n α H254 => iterO (fun _ : Unit => z_viaductlaw11_OverlayMemory_l1) n () = some o245 ∧ Has α [(1, pt_ b2 0), (5, .pointer none), (8, pt_ b179 0), (11, .slice none 0 0), (12, .slice none 0 0), (56, i_ N_), (57, i_ i2), (67, i_ 0), (68, i_ 0)] ∧ H217 = H254) n252 ⟨hn253, ha_, rfl⟩ ?_
     rintro n252 α H254 ⟨hi257, hh256, rfl⟩ K262 k262
     obtain ⟨n258, z259, rfl, hz260, hn261⟩ := iter_succ hi257
     obtain ⟨β, rfl⟩ := has_ex hh256
     clear hh256
     replace hz260 : z_viaductlaw11_OverlayMemory_l1 = some z259 := hz260
     unfold z_viaductlaw11_OverlayMemory_l1 at hz260
     refine w_seqk fun _ k263 => ?_
     refine g_' ?_
     refine q_ (.bool false) ?_
     refine s_nil (k263 _ _ ?_)
     refine w_seqk fun _ k264 => ?_
     refine w_cond false (by kernel_rfl) rfl (fun h => by cases h) (fun _ => ?_)
     refine w_exit (th_exit (th_exit (bl_eq ?_)))
     obtain rfl := Option.some.inj hz260
     obtain rfl := it_inr hn261
     exact k250 _ _ ⟨ha_, rfl⟩
    obtain ⟨hh251, rfl⟩ := hM
    obtain ⟨β, rfl⟩ := has_ex hh251
    clear hh251
    refine k243 _ _ ?_
    refine w_seqk fun _ k265 => ?_
    refine w_seqk fun _ k266 => ?_
    refine g_' ?_
    refine q_ (.slice none 0 0) ?_
    refine q_ (i_ 0) ?_
    refine q_ (i_ 0) ?_
    refine s_nil (k266 _ _ ?_)
    obtain ⟨o267, hx268, r269⟩ := bind_some r247
    refine w_mid (fun α H270 => Has α [(1, pt_ b2 0), (5, .pointer none), (8, pt_ b179 0), (11, .slice none 0 0), (56, i_ N_), (57, i_ i2)] ∧ H217 = H270) (fun _ k272 => ?_) (fun α H270 hM => ?_)
    ·refine w_block ?_
     obtain ⟨n274, hn275⟩ := loopO_iff.1 hx268
     refine w_loopn (fun n α H276 => iterO (fun _ : Unit => z_viaductlaw11_OverlayMemory_l1) n () = some o267 ∧ Has α [(1, pt_ b2 0), (5, .pointer none), (8, pt_ b179 0), (11, .slice none 0 0), (12, .slice none 0 0), (56, i_ N_), (57, i_ i2), (77, i_ 0), (78, i_ 0)] ∧ H217 = H276) n274 ⟨hn275, ha_, rfl⟩ ?_
     rintro n274 α H276 ⟨hi279, hh278, rfl⟩ K284 k284
     obtain ⟨n280, z281, rfl, hz282, hn283⟩ := iter_succ hi279
     obtain ⟨β, rfl⟩ := has_ex hh278
     clear hh278
     replace hz282 : z_viaductlaw11_OverlayMemory_l1 = some z281 := hz282
     unfold z_viaductlaw11_OverlayMemory_l1 at hz282
     refine w_seqk fun _ k285 => ?_
     refine g_' ?_
     refine q_ (.bool false) ?_
     refine s_nil (k285 _ _ ?_)
     refine w_seqk fun _ k286 => ?_
     refine w_cond false (by kernel_rfl) rfl (fun h => by cases h) (fun _ => ?_)
     refine w_exit (th_exit (th_exit (bl_eq ?_)))
     obtain rfl := Option.some.inj hz282
     obtain rfl := it_inr hn283
     exact k272 _ _ ⟨ha_, rfl⟩
    obtain ⟨hh273, rfl⟩ := hM
    obtain ⟨β, rfl⟩ := has_ex hh273
    clear hh273
    refine k265 _ _ ?_
    refine w_seqk fun _ k287 => ?_
    refine g_' ?_
    refine q_ (.slice none 0 0) ?_
    refine q_ (.agg #[i_ 0, .int .u64 0, i_ 0]) ?_
    refine q_ (.agg #[i_ 0, .int .u64 0, i_ 0]) ?_
    refine s_owk (enc := enc_i64_u64_i64) (sz := 3) e218.wf [(0, 0, 0), (0, 0, 0)] 2 (by decide) (fun _ _ => rfl) (fun _ _ => rfl) rfl (by kernel_rfl) fun s288 f289 H290 e291 hf292 hm293 => ?_
    obtain ⟨a294, n295, c296, rfl⟩ := hm293.form
    obtain ⟨g298, r299⟩ := G_some r269
    obtain ⟨s300, H301, f302, q306, e303, hm304, hf305⟩ := Ow.append (P := Try.prog) 24 e291.wf (Ow.nil (enc := enc_i64_u64_i64) (sz := 3) (by decide)) hm293.sq (fun _ _ => rfl) (at_ := #[39, 39]) rfl rfl (by kernel_rfl) (by kernel_rfl) (by decide) (by have := g298; first | omega | (simp only [List.length_cons, List.length_nil] at this ⊢; omega) | (simp at this ⊢; omega))
    obtain ⟨a307, n308, c309, rfl⟩ := hm304.form
    refine s_ek (.slice a307 n308 c309) (by kernel_rfl) (q306) ?_
    refine q_ (.slice a307 n308 c309) ?_
    refine s_nil (k287 _ _ ?_)
    refine w_seqk fun _ k311 => ?_
    refine g_' ?_
    refine q_ (.slice a307 n308 c309) ?_
    refine l_' (i_ (([] ++ [(0, 0, 0), (0, 0, 0)]).length : Int)) (aLen Try.prog 39 (.slice a307 n308 c309) H301) (hm304.sq.lenb (by kernel_rfl)) ?_
    refine q_ (.slice none 0 0) ?_
    refine q_ (i_ 0) ?_
    refine q_ (i_ 2) ?_
    refine q_ (.bool (!decide ((([] ++ [(0, 0, 0), (0, 0, 0)]).length : Int) = 2))) ?_
    refine s_nil (k311 _ _ ?_)
    refine w_condn ((([] ++ [(0, 0, 0), (0, 0, 0)]).length : Int) = 2) (by kernel_rfl) rfl (fun h312 => ?_) (fun h312 => ?_)
    ·have r313 := ite_f h312 r299
     refine w_seqk fun _ k314 => ?_
     refine g_' ?_
     refine q_ (.bool false) ?_
     refine s_nil (k314 _ _ ?_)
     refine w_ret (bl_ret (th_ret (th_ret (bl_ret (th_ret (th_ret ?_))))))
     obtain ⟨v315, hv316, hz317⟩ := map_some r313
     subst hz317
     obtain rfl := it_inr hn224
     have hq318 := elim_inl r209
     rw [hq318] at hv316
     refine b_ret (fn := Try.f5) (vs := [.bool false]) (aRes_tmp (by kernel_rfl) (rfl)) ?_
     obtain rfl := Option.some.inj hv316
     exact ⟨rfl, (FrS.step wf ((FrS.step wf (FrS.step wf (FrS.step wf (((FrS.step wf (FrS.step wf (FrS.step wf (FrS.step wf (FrS.step wf ((FrS.step wf (FrS.step wf (FrS.step wf ((FrS.refl (W := []) wf).extR e4) e14 Inn.nil) e27 Inn.nil) e42 Inn.nil).extR e56) e62 (hb57.fresh (ntr (ntr (ntr e4.next e14.next) e27.next) e42.next))) e76 Inn.nil) e86 Inn.nil) e113 (i45.fresh (ntr (ntr e4.next e14.next) e27.next))) e157 Inn.nil).extR e181).extR e187) e193 (hb182.fresh (ntr (ntr (ntr (ntr (ntr (ntr (ntr (ntr (ntr e4.next e14.next) e27.next) e42.next) e56.next) e62.next) e76.next) e86.next) e113.next) e157.next))) e200 (hb188.fresh (ntr (ntr (ntr (ntr (ntr (ntr (ntr (ntr (ntr (ntr e4.next e14.next) e27.next) e42.next) e56.next) e62.next) e76.next) e86.next) e113.next) e157.next) e181.next))) e218 Inn.nil).extR e291) e303 Inn.nil)⟩
    have r319 := ite_t h312 r299
    refine w_skip ?_
    refine k230 _ _ ?_
    refine g_' ?_
    obtain ⟨g320, r321⟩ := G_some r319
    refine s_w ((i2 + 1)) (k := .i64) (x := (i2 + 1)) (by kernel_rfl) (wrap64 g320) ?_
    refine q_ (i_ (i2 + 1)) ?_
    refine s_nil ?_
    obtain rfl := Option.some.inj r321
    exact k225 n221 _ _ (Nat.lt_succ_self _) ⟨(i2 + 1), hn224, ha_, (FrS.step e200.wf ((FrS.step e200.wf (FrS.refl (W := []) e200.wf) e218 Inn.nil).extR e291) e303 Inn.nil)⟩
   have r322 := ite_f h228 hz223
   refine w_exit (th_exit (th_exit (bl_eq ?_)))
   obtain rfl := Option.some.inj r322
   obtain rfl := it_inr hn224
   exact k213 _ _ ⟨_, rfl, ha_, (FrS.step e200.wf (FrS.refl (W := []) e200.wf) e218 Inn.nil)⟩
  obtain ⟨o207, rfl, hh214, e212⟩ := hM
  have r323 := elim_inr r209
  obtain ⟨β, rfl⟩ := has_ex hh214
  clear hh214
  refine k204 _ _ ?_
  refine w_seqk fun _ k324 => ?_
  refine w_seqk fun _ k325 => ?_
  refine g_' ?_
  refine q_ (pt_ b2 0) ?_
  have u326 := (u206.frS e212 Dj.nil_l)
  refine l_' (i_ N_) (aLoad Try.prog 3 (pt_ b2 0) H211) (u326.ld (by kernel_rfl)) ?_
  refine q_ (i_ 0) ?_
  refine s_nil (k325 _ _ ?_)
  obtain ⟨z330, hx328, r329⟩ := bind_some r323
  refine w_mid (fun α H331 => ∃ o327, z330 = Sum.inr o327 ∧ Has α [] ∧ FrS [] H211 H331) (fun _ k333 => ?_) (fun α H331 hM => ?_)
  ·refine w_block ?_
   obtain ⟨n335, hn336⟩ := loopO_iff.1 hx328
   refine w_loopn (fun n α H337 => ∃ (i3 : Int), iterO (fun zz_ => z_viaductlaw11_OverlayMemory_l3 N_ y147 zz_) n i3 = some z330 ∧ Has α [(5, .pointer none), (8, pt_ b179 0), (99, i_ N_), (100, i_ i3)] ∧ FrS [] H211 H337) n335 ⟨0, hn336, ha_, (FrS.refl (W := []) e212.wf)⟩ ?_
   rintro n335 α H337 ⟨i3, hi340, hh339, e338⟩ K345 k345
   obtain ⟨n341, z342, rfl, hz343, hn344⟩ := iter_succ hi340
   obtain ⟨β, rfl⟩ := has_ex hh339
   clear hh339
   replace hz343 : z_viaductlaw11_OverlayMemory_l3 N_ y147 i3 = some z342 := hz343
   unfold z_viaductlaw11_OverlayMemory_l3 at hz343
   refine w_seqk fun _ k346 => ?_
   refine g_' ?_
   refine q_ (.bool (decide (i3 < N_))) ?_
   refine s_nil (k346 _ _ ?_)
   refine w_seqk fun _ k347 => ?_
   refine w_condp (i3 < N_) (by kernel_rfl) rfl (fun h348 => ?_) (fun h348 => ?_)
   ·have r349 := ite_t h348 hz343
    refine w_skip ?_
    refine k347 _ _ ?_
    refine w_seqk fun _ k350 => ?_
    refine w_block ?_
    refine w_seqk fun _ k351 => ?_
    refine g_' ?_
    refine q_ (i_ i3) ?_
    refine q_ (i_ i3) ?_
    refine s_nil (k351 _ _ ?_)
    refine w_seqk fun _ k352 => ?_
    refine w_draw [0, 1, 3, 4, 2, 5, 6, 7, 8, 9, 10, 12, 13, 11, 14, 15, 16, 17] (by kernel_rfl) ?_
    refine e_' (.pointer none) ?_
    refine e_' (i_ i3) ?_
    have u353 := (((r194.frS e200 (hb188.djn r183.ltF)).frS e212 Dj.nil_l).frS e338 Dj.nil_l)
    refine d_fl (.agg #[.slice a170 n171 c172, .slice a173 n174 c175]) (x := aLoad Try.prog 56 (pt_ b179 0) H337) (by kernel_rfl) (u353.ld (by kernel_rfl)) ?_
    refine e_' (i_ i3) ?_
    obtain ⟨y354, hy355, r356⟩ := bind_some r349
    refine d_ck 14 #[.pointer none, i_ i3] (by kernel_rfl) (c_overlay_Overlay_Out_1 e338.wf hy355) ?_
    rintro _ _ ⟨rfl, rfl⟩
    refine ⟨st_ql (y := aLoad Try.prog 56 (pt_ b179 0) H337) (by kernel_rfl) (u353.ld (by kernel_rfl)) (st_nil), ?_⟩
    have u359 := ((((u197.fr e193 (hb182.djn m158.lt)).fr e200 (hb188.djn (m158.lt.le e181.next))).fr e212 Dj.nil_l).fr e338 Dj.nil_l)
    have u360 := ((((u196.fr e193 (hb182.djn m159.lt)).fr e200 (hb188.djn (m159.lt.le e181.next))).fr e212 Dj.nil_l).fr e338 Dj.nil_l)
    obtain ⟨y361, hy362, r363⟩ := bind_some r356
    refine d_ck 24 #[.agg #[.slice a170 n171 c172, .slice a173 n174 c175], i_ i3] (by kernel_rfl) (c_viaductref11_Out e338.wf u359.sq u360.sq hy362) ?_
    rintro s364 H366 ⟨_, f365, rfl, e367, m368, i369⟩
    obtain ⟨a371, n372, c373, rfl⟩ := m368.form
    refine ⟨st_anc (by kernel_rfl) (st_nil), ?_⟩
    obtain ⟨y374, hy375, r376⟩ := bind_some r363
    refine d_ck 23 #[.slice none 0 0, .slice a371 n372 c373] (by kernel_rfl) (c_viaductlaw11_same e367.wf (Sq.nil (enc := enc_i64_u64_i64) (sz := 3) (by decide)) m368.sq hy375) ?_
    rintro _ _ ⟨rfl, rfl⟩
    refine ⟨st_anc (by kernel_rfl) (st_nil), ?_⟩
    by_cases h379 : y374 = true
    ·have r380 := ite_t h379 r376
     rw [h379]
     refine e_' (.bool false) ?_
     refine e_' (.bool false) ?_
     refine e_' (.pointer none) ?_
     refine e_' (i_ i3) ?_
     have u382 := (u353.frS e367 Dj.nil_l)
     refine d_fl (.agg #[.slice a170 n171 c172, .slice a173 n174 c175]) (x := aLoad Try.prog 56 (pt_ b179 0) H366) (by kernel_rfl) (u382.ld (by kernel_rfl)) ?_
     refine e_' (i_ i3) ?_
     obtain ⟨y383, hy384, r385⟩ := bind_some r380
     refine d_ck 15 #[.pointer none, i_ i3] (by kernel_rfl) (c_overlay_Overlay_In_1 e367.wf hy384) ?_
     rintro _ _ ⟨rfl, rfl⟩
     refine ⟨st_ql (y := aLoad Try.prog 56 (pt_ b179 0) H366) (by kernel_rfl) (u382.ld (by kernel_rfl)) (st_anc (by kernel_rfl) (st_nil)), ?_⟩
     have u388 := (u359.fr e367 Dj.nil_l)
     have u389 := (u360.fr e367 Dj.nil_l)
     obtain ⟨y390, hy391, r392⟩ := bind_some r385
     refine d_ck 25 #[.agg #[.slice a170 n171 c172, .slice a173 n174 c175], i_ i3] (by kernel_rfl) (c_viaductref11_In e367.wf u388.sq u389.sq hy391) ?_
     rintro s393 H395 ⟨_, f394, rfl, e396, m397, i398⟩
     obtain ⟨a400, n401, c402, rfl⟩ := m397.form
     refine ⟨st_anc (by kernel_rfl) (st_anc (by kernel_rfl) (st_nil)), ?_⟩
     obtain ⟨y403, hy404, r405⟩ := bind_some r392
     refine d_ck 23 #[.slice none 0 0, .slice a400 n401 c402] (by kernel_rfl) (c_viaductlaw11_same e396.wf (Sq.nil (enc := enc_i64_u64_i64) (sz := 3) (by decide)) m397.sq hy404) ?_
     rintro _ _ ⟨rfl, rfl⟩
     refine ⟨st_anc (by kernel_rfl) (st_anc (by kernel_rfl) (st_nil)), ?_⟩
     refine e_' (.bool (!y403)) ?_
     refine e_' (.bool (!y403)) ?_
     refine d_nil ?_
     refine k352 _ _ ?_
     refine w_cond ((!y403)) (by kernel_rfl) rfl (fun h408 => ?_) (fun h408 => ?_)
     ·have r409 := ite_t h408 r405
      refine w_seqk fun _ k410 => ?_
      refine g_' ?_
      refine q_ (.bool false) ?_
      refine s_nil (k410 _ _ ?_)
      refine w_ret (bl_ret (th_ret (th_ret (bl_ret (th_ret (th_ret ?_))))))
      obtain ⟨v411, hv412, hz413⟩ := map_some r409
      subst hz413
      obtain rfl := it_inr hn344
      have hq414 := elim_inl r329
      rw [hq414] at hv412
      refine b_ret (fn := Try.f5) (vs := [.bool false]) (aRes_tmp (by kernel_rfl) (rfl)) ?_
      obtain rfl := Option.some.inj hv412
      exact ⟨rfl, (FrS.step wf (FrS.step wf (FrS.step wf (FrS.step wf (FrS.step wf (FrS.step wf (((FrS.step wf (FrS.step wf (FrS.step wf (FrS.step wf (FrS.step wf ((FrS.step wf (FrS.step wf (FrS.step wf ((FrS.refl (W := []) wf).extR e4) e14 Inn.nil) e27 Inn.nil) e42 Inn.nil).extR e56) e62 (hb57.fresh (ntr (ntr (ntr e4.next e14.next) e27.next) e42.next))) e76 Inn.nil) e86 Inn.nil) e113 (i45.fresh (ntr (ntr e4.next e14.next) e27.next))) e157 Inn.nil).extR e181).extR e187) e193 (hb182.fresh (ntr (ntr (ntr (ntr (ntr (ntr (ntr (ntr (ntr e4.next e14.next) e27.next) e42.next) e56.next) e62.next) e76.next) e86.next) e113.next) e157.next))) e200 (hb188.fresh (ntr (ntr (ntr (ntr (ntr (ntr (ntr (ntr (ntr (ntr e4.next e14.next) e27.next) e42.next) e56.next) e62.next) e76.next) e86.next) e113.next) e157.next) e181.next))) e212 Inn.nil) e338 Inn.nil) e367 Inn.nil) e396 Inn.nil)⟩
     have r415 := ite_bf h408 r405
     refine w_skip ?_
     refine k350 _ _ ?_
     refine g_' ?_
     obtain ⟨g416, r417⟩ := G_some r415
     refine s_w ((i3 + 1)) (k := .i64) (x := (i3 + 1)) (by kernel_rfl) (wrap64 g416) ?_
     refine q_ (i_ (i3 + 1)) ?_
     refine s_nil ?_
     obtain rfl := Option.some.inj r417
     exact k345 n341 _ _ (Nat.lt_succ_self _) ⟨(i3 + 1), hn344, ha_, (FrS.step e212.wf (FrS.step e212.wf (FrS.step e212.wf (FrS.refl (W := []) e212.wf) e338 Inn.nil) e367 Inn.nil) e396 Inn.nil)⟩
    have r418 := ite_f h379 r376
    rw [nb h379]
    refine e_' (.bool true) ?_
    refine e_' (.bool true) ?_
    refine j_' ?_
    refine j_' ?_
    refine j_' ?_
    refine j_' ?_
    refine j_' ?_
    refine j_' ?_
    refine j_' ?_
    refine j_' ?_
    refine e_' (.bool true) ?_
    refine d_nil ?_
    refine k352 _ _ ?_
    refine w_cond true (by kernel_rfl) rfl (fun _ => ?_) (fun h => by cases h)
    refine w_seqk fun _ k420 => ?_
    refine g_' ?_
    refine q_ (.bool false) ?_
    refine s_nil (k420 _ _ ?_)
    refine w_ret (bl_ret (th_ret (th_ret (bl_ret (th_ret (th_ret ?_))))))
    obtain ⟨v421, hv422, hz423⟩ := map_some r418
    subst hz423
    obtain rfl := it_inr hn344
    have hq424 := elim_inl r329
    rw [hq424] at hv422
    refine b_ret (fn := Try.f5) (vs := [.bool false]) (aRes_tmp (by kernel_rfl) (rfl)) ?_
    obtain rfl := Option.some.inj hv422
    exact ⟨rfl, (FrS.step wf (FrS.step wf (FrS.step wf (FrS.step wf (FrS.step wf (((FrS.step wf (FrS.step wf (FrS.step wf (FrS.step wf (FrS.step wf ((FrS.step wf (FrS.step wf (FrS.step wf ((FrS.refl (W := []) wf).extR e4) e14 Inn.nil) e27 Inn.nil) e42 Inn.nil).extR e56) e62 (hb57.fresh (ntr (ntr (ntr e4.next e14.next) e27.next) e42.next))) e76 Inn.nil) e86 Inn.nil) e113 (i45.fresh (ntr (ntr e4.next e14.next) e27.next))) e157 Inn.nil).extR e181).extR e187) e193 (hb182.fresh (ntr (ntr (ntr (ntr (ntr (ntr (ntr (ntr (ntr e4.next e14.next) e27.next) e42.next) e56.next) e62.next) e76.next) e86.next) e113.next) e157.next))) e200 (hb188.fresh (ntr (ntr (ntr (ntr (ntr (ntr (ntr (ntr (ntr (ntr e4.next e14.next) e27.next) e42.next) e56.next) e62.next) e76.next) e86.next) e113.next) e157.next) e181.next))) e212 Inn.nil) e338 Inn.nil) e367 Inn.nil)⟩
   have r425 := ite_f h348 hz343
   refine w_exit (th_exit (th_exit (bl_eq ?_)))
   obtain rfl := Option.some.inj r425
   obtain rfl := it_inr hn344
   exact k333 _ _ ⟨_, rfl, trivial, (FrS.step e212.wf (FrS.refl (W := []) e212.wf) e338 Inn.nil)⟩
  obtain ⟨o327, rfl, hh334, e332⟩ := hM
  have r426 := elim_inr r329
  obtain ⟨β, rfl⟩ := has_ex hh334
  clear hh334
  refine k324 _ _ ?_
  refine w_seqk fun _ k427 => ?_
  refine g_' ?_
  refine q_ (.bool true) ?_
  refine s_nil (k427 _ _ ?_)
  refine w_ret ?_
  refine b_ret (fn := Try.f5) (vs := [.bool true]) (aRes_tmp (by kernel_rfl) (rfl)) ?_
  obtain rfl := Option.some.inj r426
  exact ⟨rfl, (FrS.step wf (FrS.step wf (FrS.step wf (FrS.step wf (((FrS.step wf (FrS.step wf (FrS.step wf (FrS.step wf (FrS.step wf ((FrS.step wf (FrS.step wf (FrS.step wf ((FrS.refl (W := []) wf).extR e4) e14 Inn.nil) e27 Inn.nil) e42 Inn.nil).extR e56) e62 (hb57.fresh (ntr (ntr (ntr e4.next e14.next) e27.next) e42.next))) e76 Inn.nil) e86 Inn.nil) e113 (i45.fresh (ntr (ntr e4.next e14.next) e27.next))) e157 Inn.nil).extR e181).extR e187) e193 (hb182.fresh (ntr (ntr (ntr (ntr (ntr (ntr (ntr (ntr (ntr e4.next e14.next) e27.next) e42.next) e56.next) e62.next) e76.next) e86.next) e113.next) e157.next))) e200 (hb188.fresh (ntr (ntr (ntr (ntr (ntr (ntr (ntr (ntr (ntr (ntr e4.next e14.next) e27.next) e42.next) e56.next) e62.next) e76.next) e86.next) e113.next) e157.next) e181.next))) e212 Inn.nil) e332 Inn.nil)⟩
 have r428 := elim_r r69
 refine s_ck 11 #[.agg #[i_ y35.1, .slice a48 n49 c50]] (by kernel_rfl) (c_overlay_New e62.wf u66.sq hy68) ?_
 rintro _ H432 ⟨s429, f430, b431, rfl, e433, m434, m435, i436, i437, d438⟩
 obtain ⟨a441, n442, c443, rfl⟩ := m434.form
 refine q_ (.tuple #[pt_ b431 0, .nilIface]) ?_
 refine q_ (pt_ b431 0) ?_
 refine q_ (.nilIface) ?_
 refine q_ (pt_ b431 0) ?_
 refine q_ (.nilIface) ?_
 refine s_nil (k65 _ _ ?_)
 refine w_seqk fun _ k444 => ?_
 refine w_seqk fun _ k445 => ?_
 refine g_' ?_
 refine q_ (.nilIface) ?_
 refine q_ (.bool false) ?_
 refine q_ (.bool false) ?_
 have u446 := ((((u33.frS e42 Dj.nil_l).ext e56).frS e62 (hb57.djn (r6.ltF.le (ntr (ntr e14.next e27.next) e42.next)))).frS e433 Dj.nil_l)
 refine l_' (.agg #[i_ N_, hd_Arcs]) (aLoad Try.prog 24 (pt_ b2 0) H432) (u446.ld (by kernel_rfl)) ?_
 refine q_ (.slice a51 n52 c53) ?_
 have u447 := ((((u34.fr e42 Dj.nil_l).ext e56).fr e62 (hb57.djn (h_Arcs.lt.le (ntr (ntr (ntr e4.next e14.next) e27.next) e42.next)))).fr e433 Dj.nil_l)
 have u448 := (((m44.ext e56).fr e62 (hb57.djn m43.lt)).fr e433 Dj.nil_l)
 obtain ⟨y449, hy450, r451⟩ := bind_some r428
 refine s_ck 21 #[.agg #[i_ N_, hd_Arcs], .slice a51 n52 c53] (by kernel_rfl) (c_viaductref03_Kept e433.wf u447 u448.sq hy450) ?_
 rintro _ H452 ⟨rfl, e453⟩
 refine q_ (.bool (!y449)) ?_
 refine q_ (.bool (!y449)) ?_
 refine s_nil (k445 _ _ ?_)
 refine w_cond ((!y449)) (by kernel_rfl) rfl (fun h454 => ?_) (fun h454 => ?_)
 ·have r455 := ite_t h454 r451
  refine w_seqk fun _ k456 => ?_
  refine g_' ?_
  refine q_ (.bool false) ?_
  refine s_nil (k456 _ _ ?_)
  refine w_ret (th_ret ?_)
  refine b_ret (fn := Try.f5) (vs := [.bool false]) (aRes_tmp (by kernel_rfl) (rfl)) ?_
  obtain rfl := Option.some.inj r455
  exact ⟨rfl, (FrS.step wf (FrS.step wf (FrS.step wf ((FrS.step wf (FrS.step wf (FrS.step wf ((FrS.refl (W := []) wf).extR e4) e14 Inn.nil) e27 Inn.nil) e42 Inn.nil).extR e56) e62 (hb57.fresh (ntr (ntr (ntr e4.next e14.next) e27.next) e42.next))) e433 Inn.nil) e453 Inn.nil)⟩
 have r457 := ite_bf h454 r451
 refine w_skip ?_
 refine k444 _ _ ?_
 refine w_seqk fun _ k458 => ?_
 refine w_seqk fun _ k459 => ?_
 refine g_' ?_
 refine q_ (.slice a51 n52 c53) ?_
 have u460 := (u448.fr e453 Dj.nil_l)
 refine l_' (i_ (y35.2.2.length : Int)) (aLen Try.prog 22 (.slice a51 n52 c53) H452) (u460.sq.lenb (by kernel_rfl)) ?_
 refine q_ (i_ 0) ?_
 refine s_nil (k459 _ _ ?_)
 obtain ⟨o461, hx462, r463⟩ := bind_some r457
 refine w_mid (fun α H464 => Has α [(1, pt_ b2 0), (5, pt_ b431 0)] ∧ FrS f39 H452 H464) (fun _ k466 => ?_) (fun α H464 hM => ?_)
 ·refine w_block ?_
  obtain ⟨n468, hn469⟩ := loopO_iff.1 hx462
  refine w_loopn (fun n α H470 => ∃ (full0 : List (Int × Int × Int)), ∃ (i1 : Int), iterO (fun zz_ => z_viaductlaw11_OverlayMemory_l0 y35 zz_.1 zz_.2) n (full0, i1) = some o461 ∧ Has α [(1, pt_ b2 0), (4, .slice a51 n52 c53), (5, pt_ b431 0), (41, i_ (y35.2.2.length : Int)), (42, i_ i1)] ∧ FrS f39 H452 H470 ∧ Ow enc_i64_i64_i64 3 H470 (.slice a51 n52 c53) full0 f39) n468 ⟨y35.2.2, 0, hn469, ha_, (FrS.refl (W := f39) e453.wf), u460⟩ ?_
  rintro n468 α H470 ⟨full0, i1, hi475, hh474, e471, m473⟩ K480 k480
  obtain ⟨n476, z477, rfl, hz478, hn479⟩ := iter_succ hi475
  obtain ⟨β, rfl⟩ := has_ex hh474
  clear hh474
  replace hz478 : z_viaductlaw11_OverlayMemory_l0 y35 full0 i1 = some z477 := hz478
  unfold z_viaductlaw11_OverlayMemory_l0 at hz478
  refine w_seqk fun _ k481 => ?_
  refine g_' ?_
  refine q_ (.bool (decide (i1 < (y35.2.2.length : Int)))) ?_
  refine s_nil (k481 _ _ ?_)
  refine w_seqk fun _ k482 => ?_
  refine w_condp (i1 < (y35.2.2.length : Int)) (by kernel_rfl) rfl (fun h483 => ?_) (fun h483 => ?_)
  ·have r484 := ite_t h483 hz478
   refine w_skip ?_
   refine k482 _ _ ?_
   refine w_seqk fun _ k485 => ?_
   refine w_block ?_
   refine w_seqk fun _ k486 => ?_
   refine g_' ?_
   refine q_ (i_ i1) ?_
   refine q_ (i_ i1) ?_
   refine s_nil (k486 _ _ ?_)
   refine g_' ?_
   refine q_ (.slice a51 n52 c53) ?_
   refine q_ (i_ i1) ?_
   refine q_ (.agg #[i_ 0, i_ 0, i_ 77]) ?_
   obtain ⟨g487, r488⟩ := G_some r484
   refine l_' (elp (.slice a51 n52 c53) 3 i1.toNat 0) (aIndexAddr Try.prog 22 (.slice a51 n52 c53) (i_ i1)) (m473.sq.idxb (by kernel_rfl) g487.1 g487.2) ?_
   obtain ⟨H489, q490, e491, hm492⟩ := Ow.store (P := Try.prog) (t := 52) (off := 0) e471.wf m473 g487.1 g487.2 (.agg #[i_ 0, i_ 0, i_ 77]) [i_ 0, i_ 0, i_ 77] (by kernel_rfl) (by kernel_rfl) rfl (0, 0, 77) (Nat.le_of_ble_eq_true rfl) (by kernel_rfl)
   refine s_ek (undef) (by kernel_rfl) (map_ok q490) ?_
   refine s_nil (k485 _ _ ?_)
   refine g_' ?_
   obtain ⟨g493, r494⟩ := G_some r488
   refine s_w ((i1 + 1)) (k := .i64) (x := (i1 + 1)) (by kernel_rfl) (wrap64 (by have := g493; omega)) ?_
   refine q_ (i_ (i1 + 1)) ?_
   refine s_nil ?_
   obtain rfl := Option.some.inj r494
   exact k480 n476 _ _ (Nat.lt_succ_self _) ⟨(full0.set i1.toNat (0, 0, 77)), (i1 + 1), hn479, ha_, (FrS.step e453.wf (FrS.step e453.wf (FrS.refl (W := f39) e453.wf) e471 Inn.refl') e491 Inn.refl'), hm492⟩
  have r495 := ite_f h483 hz478
  refine w_exit (th_exit (th_exit (bl_eq ?_)))
  obtain rfl := Option.some.inj r495
  obtain rfl := it_inr hn479
  exact k466 _ _ ⟨ha_, (FrS.step e453.wf (FrS.refl (W := f39) e453.wf) e471 Inn.refl')⟩
 obtain ⟨hh467, e465⟩ := hM
 obtain ⟨β, rfl⟩ := has_ex hh467
 clear hh467
 refine k458 _ _ ?_
 refine w_seqk fun _ k496 => ?_
 refine g_' ?_
 have u497 := ((u446.frS e453 Dj.nil_l).frS e465 (i45.djn (r6.ltF.le (ntr e14.next e27.next))))
 refine l_' (.agg #[i_ N_, hd_Arcs]) (aLoad Try.prog 24 (pt_ b2 0) H464) (u497.ld (by kernel_rfl)) ?_
 have u498 := ((u447.fr e453 Dj.nil_l).fr e465 (i45.djn (h_Arcs.lt.le (ntr (ntr e4.next e14.next) e27.next))))
 obtain ⟨y499, hy500, r501⟩ := bind_some r463
 refine s_ck 22 #[.agg #[i_ N_, hd_Arcs]] (by kernel_rfl) (c_viaductref11_DocNew e465.wf u498 hy500) ?_
 rintro _ H508 ⟨s502, f503, s504, f505, s506, f507, rfl, e509, m510, m511, m512, i513, i514, i515, d516, d517, d518⟩
 obtain ⟨a522, n523, c524, rfl⟩ := m510.form
 obtain ⟨a525, n526, c527, rfl⟩ := m511.form
 obtain ⟨a528, n529, c530, rfl⟩ := m512.form
 refine q_ (.tuple #[.agg #[.slice a522 n523 c524, .slice a525 n526 c527], .agg #[i_ y499.2.2.1, .slice a528 n529 c530]]) ?_
 refine q_ (.agg #[.slice a522 n523 c524, .slice a525 n526 c527]) ?_
 refine q_ (.agg #[i_ y499.2.2.1, .slice a528 n529 c530]) ?_
 refine s_rwk e509.wf [.slice none 0 0, .slice none 0 0] (by kernel_rfl) fun b531 H532 e533 hb534 r535 => ?_
 refine s_rwk e533.wf [i_ 0, .slice none 0 0] (by kernel_rfl) fun b537 H538 e539 hb540 r541 => ?_
 have u547 := (r535.ext e539)
 have u548 := ((m511.ext e533).ext e539)
 have u549 := ((m510.ext e533).ext e539)
 obtain ⟨H543, q544, e545, r546⟩ := Row.store (P := Try.prog) (t := 56) (p := 0) e539.wf u547 (.agg #[.slice a522 n523 c524, .slice a525 n526 c527]) [.slice a522 n523 c524, .slice a525 n526 c527] (by kernel_rfl) (by kernel_rfl) (one_cons (u549.one1) (one_cons (u548.one1) (one_nil))) (Nat.le_of_ble_eq_true (by kernel_rfl)) [.slice a522 n523 c524, .slice a525 n526 c527] (by kernel_rfl)
 refine s_ek (undef) (by kernel_rfl) (map_ok q544) ?_
 have u554 := (r541.frS e545 (Dj.symm (hb540.djn r535.ltF)))
 have u555 := (((m512.ext e533).ext e539).fr e545 (hb534.djn m512.lt))
 obtain ⟨H550, q551, e552, r553⟩ := Row.store (P := Try.prog) (t := 59) (p := 0) e545.wf u554 (.agg #[i_ y499.2.2.1, .slice a528 n529 c530]) [i_ y499.2.2.1, .slice a528 n529 c530] (by kernel_rfl) (by kernel_rfl) (one_cons (rfl) (one_cons (u555.one1) (one_nil))) (Nat.le_of_ble_eq_true (by kernel_rfl)) [i_ y499.2.2.1, .slice a528 n529 c530] (by kernel_rfl)
 refine s_ek (undef) (by kernel_rfl) (map_ok q551) ?_
 refine s_nil (k496 _ _ ?_)
 refine w_seqk fun _ k556 => ?_
 refine w_seqk fun _ k557 => ?_
 refine g_' ?_
 refine q_ (pt_ b2 0) ?_
 have u558 := (((((u497.frS e509 Dj.nil_l).ext e533).ext e539).frS e545 (hb534.djn (r6.ltF.le (ntr (ntr (ntr (ntr (ntr (ntr (ntr (ntr e14.next e27.next) e42.next) e56.next) e62.next) e433.next) e453.next) e465.next) e509.next)))).frS e552 (hb540.djn (r6.ltF.le (ntr (ntr (ntr (ntr (ntr (ntr (ntr (ntr (ntr e14.next e27.next) e42.next) e56.next) e62.next) e433.next) e453.next) e465.next) e509.next) e533.next))))
 refine l_' (i_ N_) (aLoad Try.prog 3 (pt_ b2 0) H550) (u558.ld (by kernel_rfl)) ?_
 refine q_ (i_ 0) ?_
 refine s_nil (k557 _ _ ?_)
 obtain ⟨z562, hx560, r561⟩ := bind_some r501
 refine w_mid (fun α H563 => ∃ o559, z562 = Sum.inr o559 ∧ Has α [(1, pt_ b2 0), (5, pt_ b431 0), (8, pt_ b531 0)] ∧ FrS [] H550 H563) (fun _ k565 => ?_) (fun α H563 hM => ?_)
 ·refine w_block ?_
  obtain ⟨n567, hn568⟩ := loopO_iff.1 hx560
  refine w_loopn (fun n α H569 => ∃ (i2 : Int), iterO (fun zz_ => z_viaductlaw11_OverlayMemory_l6 N_ y71 zz_) n i2 = some z562 ∧ Has α [(1, pt_ b2 0), (5, pt_ b431 0), (8, pt_ b531 0), (56, i_ N_), (57, i_ i2)] ∧ FrS [] H550 H569) n567 ⟨0, hn568, ha_, (FrS.refl (W := []) e552.wf)⟩ ?_
  rintro n567 α H569 ⟨i2, hi572, hh571, e570⟩ K577 k577
  obtain ⟨n573, z574, rfl, hz575, hn576⟩ := iter_succ hi572
  obtain ⟨β, rfl⟩ := has_ex hh571
  clear hh571
  replace hz575 : z_viaductlaw11_OverlayMemory_l6 N_ y71 i2 = some z574 := hz575
  unfold z_viaductlaw11_OverlayMemory_l6 at hz575
  refine w_seqk fun _ k578 => ?_
  refine g_' ?_
  refine q_ (.bool (decide (i2 < N_))) ?_
  refine s_nil (k578 _ _ ?_)
  refine w_seqk fun _ k579 => ?_
  refine w_condp (i2 < N_) (by kernel_rfl) rfl (fun h580 => ?_) (fun h580 => ?_)
  ·have r581 := ite_t h580 hz575
   refine w_skip ?_
   refine k579 _ _ ?_
   refine w_seqk fun _ k582 => ?_
   refine w_block ?_
   refine w_seqk fun _ k583 => ?_
   refine g_' ?_
   refine q_ (i_ i2) ?_
   refine q_ (i_ i2) ?_
   refine s_nil (k583 _ _ ?_)
   refine w_seqk fun _ k584 => ?_
   refine g_' ?_
   refine q_ (pt_ b431 0) ?_
   refine q_ (i_ i2) ?_
   have u585 := ((((((((m434.fr e453 Dj.nil_l).fr e465 (Dj.symm (i436.djn (m43.lt.le (ntr e56.next e62.next))))).fr e509 Dj.nil_l).ext e533).ext e539).fr e545 (hb534.djn (m434.lt.le (ntr (ntr e453.next e465.next) e509.next)))).fr e552 (hb540.djn (m434.lt.le (ntr (ntr (ntr e453.next e465.next) e509.next) e533.next)))).fr e570 Dj.nil_l)
   have u586 := ((((((((m435.frS e453 Dj.nil_l).frS e465 (Dj.symm (i437.djn (m43.lt.le (ntr e56.next e62.next))))).frS e509 Dj.nil_l).ext e533).ext e539).frS e545 (hb534.djn (m435.ltF.le (ntr (ntr e453.next e465.next) e509.next)))).frS e552 (hb540.djn (m435.ltF.le (ntr (ntr (ntr e453.next e465.next) e509.next) e533.next)))).frS e570 Dj.nil_l)
   obtain ⟨y587, hy588, r589⟩ := bind_some r581
   refine s_ck 14 #[pt_ b431 0, i_ i2] (by kernel_rfl) (c_overlay_Overlay_Out e570.wf u585 u586 hy588) ?_
   rintro s590 H592 ⟨_, f591, rfl, e593, m594, i595⟩
   obtain ⟨a597, n598, c599, rfl⟩ := m594.form
   refine q_ (pt_ b431 0) ?_
   refine q_ (i_ i2) ?_
   have u600 := (u585.fr e593 Dj.nil_l)
   have u601 := (u586.frS e593 Dj.nil_l)
   obtain ⟨y602, hy603, r604⟩ := bind_some r589
   refine s_ck 15 #[pt_ b431 0, i_ i2] (by kernel_rfl) (c_overlay_Overlay_In e593.wf u600 u601 hy603) ?_
   rintro s605 H607 ⟨_, f606, rfl, e608, m609, i610⟩
   obtain ⟨a612, n613, c614, rfl⟩ := m609.form
   refine q_ (.slice a597 n598 c599) ?_
   refine q_ (.slice a612 n613 c614) ?_
   refine s_nil (k584 _ _ ?_)
   refine w_seqk fun _ k615 => ?_
   refine w_seqk fun _ k616 => ?_
   refine g_' ?_
   refine q_ (.slice a597 n598 c599) ?_
   have u617 := (m594.fr e608 Dj.nil_l)
   refine l_' (i_ (y587.length : Int)) (aLen Try.prog 39 (.slice a597 n598 c599) H607) (u617.sq.lenb (by kernel_rfl)) ?_
   refine q_ (i_ 0) ?_
   refine s_nil (k616 _ _ ?_)
   obtain ⟨o618, hx619, r620⟩ := bind_some r604
   refine w_mid (fun α H621 => Has α [(1, pt_ b2 0), (5, pt_ b431 0), (8, pt_ b531 0), (11, .slice a597 n598 c599), (12, .slice a612 n613 c614), (56, i_ N_), (57, i_ i2)] ∧ FrS f591 H607 H621 ∧ Ow enc_i64_u64_i64 3 H621 (.slice a597 n598 c599) o618 f591) (fun _ k625 => ?_) (fun α H621 hM => ?_)
   ·refine w_block ?_
    obtain ⟨n627, hn628⟩ := loopO_iff.1 hx619
    refine w_loopn (fun n α H629 => ∃ (a4 : List (Int × Int × Int)), ∃ (i5 : Int), iterO (fun zz_ => z_viaductlaw11_OverlayMemory_l4 y587 zz_.1 zz_.2) n (a4, i5) = some o618 ∧ Has α [(1, pt_ b2 0), (5, pt_ b431 0), (8, pt_ b531 0), (11, .slice a597 n598 c599), (12, .slice a612 n613 c614), (56, i_ N_), (57, i_ i2), (67, i_ (y587.length : Int)), (68, i_ i5)] ∧ FrS f591 H607 H629 ∧ Ow enc_i64_u64_i64 3 H629 (.slice a597 n598 c599) a4 f591) n627 ⟨y587, 0, hn628, ha_, (FrS.refl (W := f591) e608.wf), u617⟩ ?_
    rintro n627 α H629 ⟨a4, i5, hi634, hh633, e630, m632⟩ K639 k639
    obtain ⟨n635, z636, rfl, hz637, hn638⟩ := iter_succ hi634
    obtain ⟨β, rfl⟩ := has_ex hh633
    clear hh633
    replace hz637 : z_viaductlaw11_OverlayMemory_l4 y587 a4 i5 = some z636 := hz637
    unfold z_viaductlaw11_OverlayMemory_l4 at hz637
    refine w_seqk fun _ k640 => ?_
    refine g_' ?_
    refine q_ (.bool (decide (i5 < (y587.length : Int)))) ?_
    refine s_nil (k640 _ _ ?_)
    refine w_seqk fun _ k641 => ?_
    refine w_condp (i5 < (y587.length : Int)) (by kernel_rfl) rfl (fun h642 => ?_) (fun h642 => ?_)
    ·have r643 := ite_t h642 hz637
     refine w_skip ?_
     refine k641 _ _ ?_
     refine w_seqk fun _ k644 => ?_
     refine w_block ?_
     refine w_seqk fun _ k645 => ?_
     refine g_' ?_
     refine q_ (i_ i5) ?_
     refine q_ (i_ i5) ?_
     refine s_nil (k645 _ _ ?_)
     refine g_' ?_
     refine q_ (.slice a597 n598 c599) ?_
     refine q_ (i_ i5) ?_
     refine q_ (.agg #[i_ (-1), .int .u64 0, i_ 0]) ?_
     obtain ⟨g646, r647⟩ := G_some r643
     refine l_' (elp (.slice a597 n598 c599) 3 i5.toNat 0) (aIndexAddr Try.prog 39 (.slice a597 n598 c599) (i_ i5)) (m632.sq.idxb (by kernel_rfl) g646.1 g646.2) ?_
     obtain ⟨H648, q649, e650, hm651⟩ := Ow.store (P := Try.prog) (t := 43) (off := 0) e630.wf m632 g646.1 g646.2 (.agg #[i_ (-1), .int .u64 0, i_ 0]) [i_ (-1), .int .u64 0, i_ 0] (by kernel_rfl) (by kernel_rfl) rfl ((-1), 0, 0) (Nat.le_of_ble_eq_true rfl) (by kernel_rfl)
     refine s_ek (undef) (by kernel_rfl) (map_ok q649) ?_
     refine s_nil (k644 _ _ ?_)
     refine g_' ?_
     obtain ⟨g652, r653⟩ := G_some r647
     refine s_w ((i5 + 1)) (k := .i64) (x := (i5 + 1)) (by kernel_rfl) (wrap64 (by have := g652; omega)) ?_
     refine q_ (i_ (i5 + 1)) ?_
     refine s_nil ?_
     obtain rfl := Option.some.inj r653
     exact k639 n635 _ _ (Nat.lt_succ_self _) ⟨(a4.set i5.toNat ((-1), 0, 0)), (i5 + 1), hn638, ha_, (FrS.step e608.wf (FrS.step e608.wf (FrS.refl (W := f591) e608.wf) e630 Inn.refl') e650 Inn.refl'), hm651⟩
    have r654 := ite_f h642 hz637
    refine w_exit (th_exit (th_exit (bl_eq ?_)))
    obtain rfl := Option.some.inj r654
    obtain rfl := it_inr hn638
    exact k625 _ _ ⟨ha_, (FrS.step e608.wf (FrS.refl (W := f591) e608.wf) e630 Inn.refl'), m632⟩
   obtain ⟨hh626, e622, m624⟩ := hM
   obtain ⟨β, rfl⟩ := has_ex hh626
   clear hh626
   refine k615 _ _ ?_
   refine w_seqk fun _ k655 => ?_
   refine w_seqk fun _ k656 => ?_
   refine g_' ?_
   refine q_ (.slice a612 n613 c614) ?_
   have u657 := (m609.fr e622 (Dj.symm (i610.djn m594.lt)))
   refine l_' (i_ (y602.length : Int)) (aLen Try.prog 39 (.slice a612 n613 c614) H621) (u657.sq.lenb (by kernel_rfl)) ?_
   refine q_ (i_ 0) ?_
   refine s_nil (k656 _ _ ?_)
   obtain ⟨o658, hx659, r660⟩ := bind_some r620
   refine w_mid (fun α H661 => Has α [(1, pt_ b2 0), (5, pt_ b431 0), (8, pt_ b531 0), (11, .slice a597 n598 c599), (56, i_ N_), (57, i_ i2)] ∧ FrS f606 H621 H661) (fun _ k663 => ?_) (fun α H661 hM => ?_)
   ·refine w_block ?_
    obtain ⟨n665, hn666⟩ := loopO_iff.1 hx659
    refine w_loopn (fun n α H667 => ∃ (b6 : List (Int × Int × Int)), ∃ (i7 : Int), iterO (fun zz_ => z_viaductlaw11_OverlayMemory_l5 y602 zz_.1 zz_.2) n (b6, i7) = some o658 ∧ Has α [(1, pt_ b2 0), (5, pt_ b431 0), (8, pt_ b531 0), (11, .slice a597 n598 c599), (12, .slice a612 n613 c614), (56, i_ N_), (57, i_ i2), (77, i_ (y602.length : Int)), (78, i_ i7)] ∧ FrS f606 H621 H667 ∧ Ow enc_i64_u64_i64 3 H667 (.slice a612 n613 c614) b6 f606) n665 ⟨y602, 0, hn666, ha_, (FrS.refl (W := f606) e622.wf), u657⟩ ?_
    rintro n665 α H667 ⟨b6, i7, hi672, hh671, e668, m670⟩ K677 k677
    obtain ⟨n673, z674, rfl, hz675, hn676⟩ := iter_succ hi672
    obtain ⟨β, rfl⟩ := has_ex hh671
    clear hh671
    replace hz675 : z_viaductlaw11_OverlayMemory_l5 y602 b6 i7 = some z674 := hz675
    unfold z_viaductlaw11_OverlayMemory_l5 at hz675
    refine w_seqk fun _ k678 => ?_
    refine g_' ?_
    refine q_ (.bool (decide (i7 < (y602.length : Int)))) ?_
    refine s_nil (k678 _ _ ?_)
    refine w_seqk fun _ k679 => ?_
    refine w_condp (i7 < (y602.length : Int)) (by kernel_rfl) rfl (fun h680 => ?_) (fun h680 => ?_)
    ·have r681 := ite_t h680 hz675
     refine w_skip ?_
     refine k679 _ _ ?_
     refine w_seqk fun _ k682 => ?_
     refine w_block ?_
     refine w_seqk fun _ k683 => ?_
     refine g_' ?_
     refine q_ (i_ i7) ?_
     refine q_ (i_ i7) ?_
     refine s_nil (k683 _ _ ?_)
     refine g_' ?_
     refine q_ (.slice a612 n613 c614) ?_
     refine q_ (i_ i7) ?_
     refine q_ (.agg #[i_ (-1), .int .u64 0, i_ 0]) ?_
     obtain ⟨g684, r685⟩ := G_some r681
     refine l_' (elp (.slice a612 n613 c614) 3 i7.toNat 0) (aIndexAddr Try.prog 39 (.slice a612 n613 c614) (i_ i7)) (m670.sq.idxb (by kernel_rfl) g684.1 g684.2) ?_
     obtain ⟨H686, q687, e688, hm689⟩ := Ow.store (P := Try.prog) (t := 43) (off := 0) e668.wf m670 g684.1 g684.2 (.agg #[i_ (-1), .int .u64 0, i_ 0]) [i_ (-1), .int .u64 0, i_ 0] (by kernel_rfl) (by kernel_rfl) rfl ((-1), 0, 0) (Nat.le_of_ble_eq_true rfl) (by kernel_rfl)
     refine s_ek (undef) (by kernel_rfl) (map_ok q687) ?_
     refine s_nil (k682 _ _ ?_)
     refine g_' ?_
     obtain ⟨g690, r691⟩ := G_some r685
     refine s_w ((i7 + 1)) (k := .i64) (x := (i7 + 1)) (by kernel_rfl) (wrap64 (by have := g690; omega)) ?_
     refine q_ (i_ (i7 + 1)) ?_
     refine s_nil ?_
     obtain rfl := Option.some.inj r691
     exact k677 n673 _ _ (Nat.lt_succ_self _) ⟨(b6.set i7.toNat ((-1), 0, 0)), (i7 + 1), hn676, ha_, (FrS.step e622.wf (FrS.step e622.wf (FrS.refl (W := f606) e622.wf) e668 Inn.refl') e688 Inn.refl'), hm689⟩
    have r692 := ite_f h680 hz675
    refine w_exit (th_exit (th_exit (bl_eq ?_)))
    obtain rfl := Option.some.inj r692
    obtain rfl := it_inr hn676
    exact k663 _ _ ⟨ha_, (FrS.step e622.wf (FrS.refl (W := f606) e622.wf) e668 Inn.refl')⟩
   obtain ⟨hh664, e662⟩ := hM
   obtain ⟨β, rfl⟩ := has_ex hh664
   clear hh664
   refine k655 _ _ ?_
   refine w_seqk fun _ k693 => ?_
   refine g_' ?_
   refine q_ (.slice a597 n598 c599) ?_
   refine q_ (.agg #[i_ 0, .int .u64 0, i_ 0]) ?_
   refine q_ (.agg #[i_ 0, .int .u64 0, i_ 0]) ?_
   refine s_owk (enc := enc_i64_u64_i64) (sz := 3) e662.wf [(0, 0, 0), (0, 0, 0)] 2 (by decide) (fun _ _ => rfl) (fun _ _ => rfl) rfl (by kernel_rfl) fun s694 f695 H696 e697 hf698 hm699 => ?_
   obtain ⟨a700, n701, c702, rfl⟩ := hm699.form
   have u704 := ((m624.fr e662 (i610.djn m594.lt)).ext e697)
   obtain ⟨g705, r706⟩ := G_some r660
   obtain ⟨s707, f709, H714, H715, q713, q716, hf712, hk717⟩ := Ow.append2 (P := Try.prog) 24 e697.wf u704 hm699.sq (fun _ _ => rfl) (at_ := #[39, 39]) rfl rfl (by kernel_rfl) (by kernel_rfl) (by decide) (by have := g705; first | omega | (simp only [List.length_cons, List.length_nil] at this ⊢; omega) | (simp at this ⊢; omega))
   refine s_apk (by kernel_rfl) (by kernel_rfl) q713 q716 fun H708 hH718 => ?_
   obtain ⟨e710, hm711, ho719⟩ := hk717 H708 hH718
   obtain ⟨a720, n721, c722, rfl⟩ := hm711.form
   refine q_ (.slice a720 n721 c722) ?_
   refine s_nil (k693 _ _ ?_)
   refine w_seqk fun _ k724 => ?_
   refine g_' ?_
   refine q_ (.slice a720 n721 c722) ?_
   refine l_' (i_ ((o618 ++ [(0, 0, 0), (0, 0, 0)]).length : Int)) (aLen Try.prog 39 (.slice a720 n721 c722) H708) (hm711.sq.lenb (by kernel_rfl)) ?_
   refine q_ (.slice a597 n598 c599) ?_
   refine l_' (i_ (o618.length : Int)) (aLen Try.prog 39 (.slice a597 n598 c599) H708) (ho719.sq.lenb (by kernel_rfl)) ?_
   obtain ⟨g725, r726⟩ := G_some r706
   refine s_w (((o618.length : Int) + 2)) (k := .i64) (x := ((o618.length : Int) + 2)) (by kernel_rfl) (wrap64 (by have := g725; omega)) ?_
   refine q_ (.bool (!decide (((o618 ++ [(0, 0, 0), (0, 0, 0)]).length : Int) = ((o618.length : Int) + 2)))) ?_
   refine s_nil (k724 _ _ ?_)
   refine w_condn (((o618 ++ [(0, 0, 0), (0, 0, 0)]).length : Int) = ((o618.length : Int) + 2)) (by kernel_rfl) rfl (fun h727 => ?_) (fun h727 => ?_)
   ·have r728 := ite_f h727 r726
    refine w_seqk fun _ k729 => ?_
    refine g_' ?_
    refine q_ (.bool false) ?_
    refine s_nil (k729 _ _ ?_)
    refine w_ret (bl_ret (th_ret (th_ret (bl_ret (th_ret (th_ret ?_))))))
    obtain ⟨v730, hv731, hz732⟩ := map_some r728
    subst hz732
    obtain rfl := it_inr hn576
    have hq733 := elim_inl r561
    rw [hq733] at hv731
    refine b_ret (fn := Try.f5) (vs := [.bool false]) (aRes_tmp (by kernel_rfl) (rfl)) ?_
    have n734 := (ntr (ntr (ntr (ntr (ntr (ntr (ntr e4.next e14.next) e27.next) e42.next) e56.next) e62.next) e433.next) e453.next)
    have n735 := (ntr (ntr (ntr (ntr (ntr (ntr (ntr e465.next e509.next) e533.next) e539.next) e545.next) e552.next) e570.next) e593.next)
    obtain rfl := Option.some.inj hv731
    exact ⟨rfl, (FrS.step wf ((FrS.step wf (FrS.step wf (FrS.step wf (FrS.step wf (FrS.step wf (FrS.step wf (FrS.step wf (((FrS.step wf (FrS.step wf (FrS.step wf (FrS.step wf (FrS.step wf ((FrS.step wf (FrS.step wf (FrS.step wf ((FrS.refl (W := []) wf).extR e4) e14 Inn.nil) e27 Inn.nil) e42 Inn.nil).extR e56) e62 (hb57.fresh (ntr (ntr (ntr e4.next e14.next) e27.next) e42.next))) e433 Inn.nil) e453 Inn.nil) e465 (i45.fresh (ntr (ntr e4.next e14.next) e27.next))) e509 Inn.nil).extR e533).extR e539) e545 (hb534.fresh (ntr (ntr (ntr (ntr (ntr (ntr (ntr (ntr (ntr e4.next e14.next) e27.next) e42.next) e56.next) e62.next) e433.next) e453.next) e465.next) e509.next))) e552 (hb540.fresh (ntr (ntr (ntr (ntr (ntr (ntr (ntr (ntr (ntr (ntr e4.next e14.next) e27.next) e42.next) e56.next) e62.next) e433.next) e453.next) e465.next) e509.next) e533.next))) e570 Inn.nil) e593 Inn.nil) e608 Inn.nil) e622 (i595.fresh (ntr (ntr (ntr (ntr (ntr (ntr (ntr (ntr (ntr (ntr (ntr (ntr (ntr (ntr e4.next e14.next) e27.next) e42.next) e56.next) e62.next) e433.next) e453.next) e465.next) e509.next) e533.next) e539.next) e545.next) e552.next) e570.next))) e662 (i610.fresh (ntr n734 n735))).extR e697) e710 (i595.fresh (ntr (ntr (ntr (ntr (ntr (ntr (ntr (ntr (ntr (ntr (ntr (ntr (ntr (ntr e4.next e14.next) e27.next) e42.next) e56.next) e62.next) e433.next) e453.next) e465.next) e509.next) e533.next) e539.next) e545.next) e552.next) e570.next)))⟩
   have r736 := ite_t h727 r726
   refine w_skip ?_
   refine k582 _ _ ?_
   refine g_' ?_
   obtain ⟨g737, r738⟩ := G_some r736
   refine s_w ((i2 + 1)) (k := .i64) (x := (i2 + 1)) (by kernel_rfl) (wrap64 g737) ?_
   refine q_ (i_ (i2 + 1)) ?_
   refine s_nil ?_
   obtain rfl := Option.some.inj r738
   exact k577 n573 _ _ (Nat.lt_succ_self _) ⟨(i2 + 1), hn576, ha_, (FrS.step e552.wf ((FrS.step e552.wf (FrS.step e552.wf (FrS.step e552.wf (FrS.step e552.wf (FrS.step e552.wf (FrS.refl (W := []) e552.wf) e570 Inn.nil) e593 Inn.nil) e608 Inn.nil) e622 (i595.fresh e570.next)) e662 (i610.fresh (ntr e570.next e593.next))).extR e697) e710 (i595.fresh e570.next))⟩
  have r739 := ite_f h580 hz575
  refine w_exit (th_exit (th_exit (bl_eq ?_)))
  obtain rfl := Option.some.inj r739
  obtain rfl := it_inr hn576
  exact k565 _ _ ⟨_, rfl, ha_, (FrS.step e552.wf (FrS.refl (W := []) e552.wf) e570 Inn.nil)⟩
 obtain ⟨o559, rfl, hh566, e564⟩ := hM
 have r740 := elim_inr r561
 obtain ⟨β, rfl⟩ := has_ex hh566
 clear hh566
 refine k556 _ _ ?_
 refine w_seqk fun _ k741 => ?_
 refine w_seqk fun _ k742 => ?_
 refine g_' ?_
 refine q_ (pt_ b2 0) ?_
 have u743 := (u558.frS e564 Dj.nil_l)
 refine l_' (i_ N_) (aLoad Try.prog 3 (pt_ b2 0) H563) (u743.ld (by kernel_rfl)) ?_
 refine q_ (i_ 0) ?_
 refine s_nil (k742 _ _ ?_)
 obtain ⟨z747, hx745, r746⟩ := bind_some r740
 refine w_mid (fun α H748 => ∃ o744, z747 = Sum.inr o744 ∧ Has α [] ∧ FrS [] H563 H748) (fun _ k750 => ?_) (fun α H748 hM => ?_)
 ·refine w_block ?_
  obtain ⟨n752, hn753⟩ := loopO_iff.1 hx745
  refine w_loopn (fun n α H754 => ∃ (i3 : Int), iterO (fun zz_ => z_viaductlaw11_OverlayMemory_l7 N_ y71 y499 zz_) n i3 = some z747 ∧ Has α [(5, pt_ b431 0), (8, pt_ b531 0), (99, i_ N_), (100, i_ i3)] ∧ FrS [] H563 H754) n752 ⟨0, hn753, ha_, (FrS.refl (W := []) e564.wf)⟩ ?_
  rintro n752 α H754 ⟨i3, hi757, hh756, e755⟩ K762 k762
  obtain ⟨n758, z759, rfl, hz760, hn761⟩ := iter_succ hi757
  obtain ⟨β, rfl⟩ := has_ex hh756
  clear hh756
  replace hz760 : z_viaductlaw11_OverlayMemory_l7 N_ y71 y499 i3 = some z759 := hz760
  unfold z_viaductlaw11_OverlayMemory_l7 at hz760
  refine w_seqk fun _ k763 => ?_
  refine g_' ?_
  refine q_ (.bool (decide (i3 < N_))) ?_
  refine s_nil (k763 _ _ ?_)
  refine w_seqk fun _ k764 => ?_
  refine w_condp (i3 < N_) (by kernel_rfl) rfl (fun h765 => ?_) (fun h765 => ?_)
  ·have r766 := ite_t h765 hz760
   refine w_skip ?_
   refine k764 _ _ ?_
   refine w_seqk fun _ k767 => ?_
   refine w_block ?_
   refine w_seqk fun _ k768 => ?_
   refine g_' ?_
   refine q_ (i_ i3) ?_
   refine q_ (i_ i3) ?_
   refine s_nil (k768 _ _ ?_)
   refine w_seqk fun _ k769 => ?_
   refine w_draw [0, 1, 3, 4, 2, 5, 6, 7, 8, 9, 10, 12, 13, 11, 14, 15, 16, 17] (by kernel_rfl) ?_
   refine e_' (pt_ b431 0) ?_
   refine e_' (i_ i3) ?_
   have u770 := (((r546.frS e552 (hb540.djn r535.ltF)).frS e564 Dj.nil_l).frS e755 Dj.nil_l)
   refine d_fl (.agg #[.slice a522 n523 c524, .slice a525 n526 c527]) (x := aLoad Try.prog 56 (pt_ b531 0) H754) (by kernel_rfl) (u770.ld (by kernel_rfl)) ?_
   refine e_' (i_ i3) ?_
   have u771 := (((((((((m434.fr e453 Dj.nil_l).fr e465 (Dj.symm (i436.djn (m43.lt.le (ntr e56.next e62.next))))).fr e509 Dj.nil_l).ext e533).ext e539).fr e545 (hb534.djn (m434.lt.le (ntr (ntr e453.next e465.next) e509.next)))).fr e552 (hb540.djn (m434.lt.le (ntr (ntr (ntr e453.next e465.next) e509.next) e533.next)))).fr e564 Dj.nil_l).fr e755 Dj.nil_l)
   have u772 := (((((((((m435.frS e453 Dj.nil_l).frS e465 (Dj.symm (i437.djn (m43.lt.le (ntr e56.next e62.next))))).frS e509 Dj.nil_l).ext e533).ext e539).frS e545 (hb534.djn (m435.ltF.le (ntr (ntr e453.next e465.next) e509.next)))).frS e552 (hb540.djn (m435.ltF.le (ntr (ntr (ntr e453.next e465.next) e509.next) e533.next)))).frS e564 Dj.nil_l).frS e755 Dj.nil_l)
   obtain ⟨y773, hy774, r775⟩ := bind_some r766
   refine d_ck 14 #[pt_ b431 0, i_ i3] (by kernel_rfl) (c_overlay_Overlay_Out e755.wf u771 u772 hy774) ?_
   rintro s776 H778 ⟨_, f777, rfl, e779, m780, i781⟩
   obtain ⟨a783, n784, c785, rfl⟩ := m780.form
   have u786 := (u770.frS e779 Dj.nil_l)
   refine ⟨st_ql (y := aLoad Try.prog 56 (pt_ b531 0) H778) (by kernel_rfl) (u786.ld (by kernel_rfl)) (st_nil), ?_⟩
   have u787 := (((((u549.fr e545 (hb534.djn m510.lt)).fr e552 (hb540.djn (m510.lt.le e533.next))).fr e564 Dj.nil_l).fr e755 Dj.nil_l).fr e779 Dj.nil_l)
   have u788 := (((((u548.fr e545 (hb534.djn m511.lt)).fr e552 (hb540.djn (m511.lt.le e533.next))).fr e564 Dj.nil_l).fr e755 Dj.nil_l).fr e779 Dj.nil_l)
   obtain ⟨y789, hy790, r791⟩ := bind_some r775
   refine d_ck 24 #[.agg #[.slice a522 n523 c524, .slice a525 n526 c527], i_ i3] (by kernel_rfl) (c_viaductref11_Out e779.wf u787.sq u788.sq hy790) ?_
   rintro s792 H794 ⟨_, f793, rfl, e795, m796, i797⟩
   obtain ⟨a799, n800, c801, rfl⟩ := m796.form
   refine ⟨st_anc (by kernel_rfl) (st_nil), ?_⟩
   have u802 := (m780.fr e795 Dj.nil_l)
   obtain ⟨y803, hy804, r805⟩ := bind_some r791
   refine d_ck 23 #[.slice a783 n784 c785, .slice a799 n800 c801] (by kernel_rfl) (c_viaductlaw11_same e795.wf u802.sq m796.sq hy804) ?_
   rintro _ _ ⟨rfl, rfl⟩
   refine ⟨st_anc (by kernel_rfl) (st_nil), ?_⟩
   by_cases h808 : y803 = true
   ·have r809 := ite_t h808 r805
    rw [h808]
    refine e_' (.bool false) ?_
    refine e_' (.bool false) ?_
    refine e_' (pt_ b431 0) ?_
    refine e_' (i_ i3) ?_
    have u811 := (u786.frS e795 Dj.nil_l)
    refine d_fl (.agg #[.slice a522 n523 c524, .slice a525 n526 c527]) (x := aLoad Try.prog 56 (pt_ b531 0) H794) (by kernel_rfl) (u811.ld (by kernel_rfl)) ?_
    refine e_' (i_ i3) ?_
    have u812 := ((u771.fr e779 Dj.nil_l).fr e795 Dj.nil_l)
    have u813 := ((u772.frS e779 Dj.nil_l).frS e795 Dj.nil_l)
    obtain ⟨y814, hy815, r816⟩ := bind_some r809
    refine d_ck 15 #[pt_ b431 0, i_ i3] (by kernel_rfl) (c_overlay_Overlay_In e795.wf u812 u813 hy815) ?_
    rintro s817 H819 ⟨_, f818, rfl, e820, m821, i822⟩
    obtain ⟨a824, n825, c826, rfl⟩ := m821.form
    have u827 := (u811.frS e820 Dj.nil_l)
    refine ⟨st_ql (y := aLoad Try.prog 56 (pt_ b531 0) H819) (by kernel_rfl) (u827.ld (by kernel_rfl)) (st_anc (by kernel_rfl) (st_nil)), ?_⟩
    have u828 := ((u787.fr e795 Dj.nil_l).fr e820 Dj.nil_l)
    have u829 := ((u788.fr e795 Dj.nil_l).fr e820 Dj.nil_l)
    obtain ⟨y830, hy831, r832⟩ := bind_some r816
    refine d_ck 25 #[.agg #[.slice a522 n523 c524, .slice a525 n526 c527], i_ i3] (by kernel_rfl) (c_viaductref11_In e820.wf u828.sq u829.sq hy831) ?_
    rintro s833 H835 ⟨_, f834, rfl, e836, m837, i838⟩
    obtain ⟨a840, n841, c842, rfl⟩ := m837.form
    refine ⟨st_anc (by kernel_rfl) (st_anc (by kernel_rfl) (st_nil)), ?_⟩
    have u843 := (m821.fr e836 Dj.nil_l)
    obtain ⟨y844, hy845, r846⟩ := bind_some r832
    refine d_ck 23 #[.slice a824 n825 c826, .slice a840 n841 c842] (by kernel_rfl) (c_viaductlaw11_same e836.wf u843.sq m837.sq hy845) ?_
    rintro _ _ ⟨rfl, rfl⟩
    refine ⟨st_anc (by kernel_rfl) (st_anc (by kernel_rfl) (st_nil)), ?_⟩
    refine e_' (.bool (!y844)) ?_
    refine e_' (.bool (!y844)) ?_
    refine d_nil ?_
    refine k769 _ _ ?_
    refine w_cond ((!y844)) (by kernel_rfl) rfl (fun h849 => ?_) (fun h849 => ?_)
    ·have r850 := ite_t h849 r846
     refine w_seqk fun _ k851 => ?_
     refine g_' ?_
     refine q_ (.bool false) ?_
     refine s_nil (k851 _ _ ?_)
     refine w_ret (bl_ret (th_ret (th_ret (bl_ret (th_ret (th_ret ?_))))))
     obtain ⟨v852, hv853, hz854⟩ := map_some r850
     subst hz854
     obtain rfl := it_inr hn761
     have hq855 := elim_inl r746
     rw [hq855] at hv853
     refine b_ret (fn := Try.f5) (vs := [.bool false]) (aRes_tmp (by kernel_rfl) (rfl)) ?_
     obtain rfl := Option.some.inj hv853
     exact ⟨rfl, (FrS.step wf (FrS.step wf (FrS.step wf (FrS.step wf (FrS.step wf (FrS.step wf (FrS.step wf (FrS.step wf (((FrS.step wf (FrS.step wf (FrS.step wf (FrS.step wf (FrS.step wf ((FrS.step wf (FrS.step wf (FrS.step wf ((FrS.refl (W := []) wf).extR e4) e14 Inn.nil) e27 Inn.nil) e42 Inn.nil).extR e56) e62 (hb57.fresh (ntr (ntr (ntr e4.next e14.next) e27.next) e42.next))) e433 Inn.nil) e453 Inn.nil) e465 (i45.fresh (ntr (ntr e4.next e14.next) e27.next))) e509 Inn.nil).extR e533).extR e539) e545 (hb534.fresh (ntr (ntr (ntr (ntr (ntr (ntr (ntr (ntr (ntr e4.next e14.next) e27.next) e42.next) e56.next) e62.next) e433.next) e453.next) e465.next) e509.next))) e552 (hb540.fresh (ntr (ntr (ntr (ntr (ntr (ntr (ntr (ntr (ntr (ntr e4.next e14.next) e27.next) e42.next) e56.next) e62.next) e433.next) e453.next) e465.next) e509.next) e533.next))) e564 Inn.nil) e755 Inn.nil) e779 Inn.nil) e795 Inn.nil) e820 Inn.nil) e836 Inn.nil)⟩
    have r856 := ite_bf h849 r846
    refine w_skip ?_
    refine k767 _ _ ?_
    refine g_' ?_
    obtain ⟨g857, r858⟩ := G_some r856
    refine s_w ((i3 + 1)) (k := .i64) (x := (i3 + 1)) (by kernel_rfl) (wrap64 g857) ?_
    refine q_ (i_ (i3 + 1)) ?_
    refine s_nil ?_
    obtain rfl := Option.some.inj r858
    exact k762 n758 _ _ (Nat.lt_succ_self _) ⟨(i3 + 1), hn761, ha_, (FrS.step e564.wf (FrS.step e564.wf (FrS.step e564.wf (FrS.step e564.wf (FrS.step e564.wf (FrS.refl (W := []) e564.wf) e755 Inn.nil) e779 Inn.nil) e795 Inn.nil) e820 Inn.nil) e836 Inn.nil)⟩
   have r859 := ite_f h808 r805
   rw [nb h808]
   refine e_' (.bool true) ?_
   refine e_' (.bool true) ?_
   refine j_' ?_
   refine j_' ?_
   refine j_' ?_
   refine j_' ?_
   refine j_' ?_
   refine j_' ?_
   refine j_' ?_
   refine j_' ?_
   refine e_' (.bool true) ?_
   refine d_nil ?_
   refine k769 _ _ ?_
   refine w_cond true (by kernel_rfl) rfl (fun _ => ?_) (fun h => by cases h)
   refine w_seqk fun _ k861 => ?_
   refine g_' ?_
   refine q_ (.bool false) ?_
   refine s_nil (k861 _ _ ?_)
   refine w_ret (bl_ret (th_ret (th_ret (bl_ret (th_ret (th_ret ?_))))))
   obtain ⟨v862, hv863, hz864⟩ := map_some r859
   subst hz864
   obtain rfl := it_inr hn761
   have hq865 := elim_inl r746
   rw [hq865] at hv863
   refine b_ret (fn := Try.f5) (vs := [.bool false]) (aRes_tmp (by kernel_rfl) (rfl)) ?_
   obtain rfl := Option.some.inj hv863
   exact ⟨rfl, (FrS.step wf (FrS.step wf (FrS.step wf (FrS.step wf (FrS.step wf (FrS.step wf (((FrS.step wf (FrS.step wf (FrS.step wf (FrS.step wf (FrS.step wf ((FrS.step wf (FrS.step wf (FrS.step wf ((FrS.refl (W := []) wf).extR e4) e14 Inn.nil) e27 Inn.nil) e42 Inn.nil).extR e56) e62 (hb57.fresh (ntr (ntr (ntr e4.next e14.next) e27.next) e42.next))) e433 Inn.nil) e453 Inn.nil) e465 (i45.fresh (ntr (ntr e4.next e14.next) e27.next))) e509 Inn.nil).extR e533).extR e539) e545 (hb534.fresh (ntr (ntr (ntr (ntr (ntr (ntr (ntr (ntr (ntr e4.next e14.next) e27.next) e42.next) e56.next) e62.next) e433.next) e453.next) e465.next) e509.next))) e552 (hb540.fresh (ntr (ntr (ntr (ntr (ntr (ntr (ntr (ntr (ntr (ntr e4.next e14.next) e27.next) e42.next) e56.next) e62.next) e433.next) e453.next) e465.next) e509.next) e533.next))) e564 Inn.nil) e755 Inn.nil) e779 Inn.nil) e795 Inn.nil)⟩
  have r866 := ite_f h765 hz760
  refine w_exit (th_exit (th_exit (bl_eq ?_)))
  obtain rfl := Option.some.inj r866
  obtain rfl := it_inr hn761
  exact k750 _ _ ⟨_, rfl, trivial, (FrS.step e564.wf (FrS.refl (W := []) e564.wf) e755 Inn.nil)⟩
 obtain ⟨o744, rfl, hh751, e749⟩ := hM
 have r867 := elim_inr r746
 obtain ⟨β, rfl⟩ := has_ex hh751
 clear hh751
 refine k741 _ _ ?_
 refine w_seqk fun _ k868 => ?_
 refine g_' ?_
 refine q_ (.bool true) ?_
 refine s_nil (k868 _ _ ?_)
 refine w_ret ?_
 refine b_ret (fn := Try.f5) (vs := [.bool true]) (aRes_tmp (by kernel_rfl) (rfl)) ?_
 obtain rfl := Option.some.inj r867
 exact ⟨rfl, (FrS.step wf (FrS.step wf (FrS.step wf (FrS.step wf (((FrS.step wf (FrS.step wf (FrS.step wf (FrS.step wf (FrS.step wf ((FrS.step wf (FrS.step wf (FrS.step wf ((FrS.refl (W := []) wf).extR e4) e14 Inn.nil) e27 Inn.nil) e42 Inn.nil).extR e56) e62 (hb57.fresh (ntr (ntr (ntr e4.next e14.next) e27.next) e42.next))) e433 Inn.nil) e453 Inn.nil) e465 (i45.fresh (ntr (ntr e4.next e14.next) e27.next))) e509 Inn.nil).extR e533).extR e539) e545 (hb534.fresh (ntr (ntr (ntr (ntr (ntr (ntr (ntr (ntr (ntr e4.next e14.next) e27.next) e42.next) e56.next) e62.next) e433.next) e453.next) e465.next) e509.next))) e552 (hb540.fresh (ntr (ntr (ntr (ntr (ntr (ntr (ntr (ntr (ntr (ntr e4.next e14.next) e27.next) e42.next) e56.next) e62.next) e433.next) e453.next) e465.next) e509.next) e533.next))) e564 Inn.nil) e749 Inn.nil)⟩


end Go.Vd
