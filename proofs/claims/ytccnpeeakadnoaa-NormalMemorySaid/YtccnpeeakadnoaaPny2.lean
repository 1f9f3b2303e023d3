/- The walks of the functions (printed by a program of ours). -/
import Derived.Test.YtccnpeeakadnoaaPny1
import Derived.Test.YtccnpeeakadnoaaVeC
import Derived.Test.YtccnpeeakadnoaaINy
import Derived.Test.YtccnpeeakadnoaaVeN
import Derived.Test.YtccnpeeakadnoaaVeM
import Derived.Test.YtccnpeeakadnoaaSoA
import Derived.Test.YtccnpeeakadnoaaVeV
set_option linter.unusedVariables false
set_option linter.unusedSimpArgs false
set_option linter.unusedSectionVars false
/-! (KNy3) -/

set_option maxRecDepth 100000
set_option maxHeartbeats 4000000
set_option linter.unusedVariables false
namespace Go.Vd
open Go.Proofs
attribute [local irreducible] wpSeq wpOrd aWp
theorem c_viaductref04_DocOf {H : AH} {hd_Arcs : Value} {fp_Arcs : Fp} {N_ : Int} {Arcs : List (Int × Int × Int)} {r : Int × List (Int × Int × Int) × Int × List (Int × Int)}
  (wf : WF H) (h_Arcs : Sq enc_i64_i64_i64 3 H hd_Arcs Arcs fp_Arcs) (hr : z_viaductref04_DocOf N_ Arcs = some r) :
  ACalls Try.prog 30 #[.agg #[.int .i64 N_, hd_Arcs]] H fun v H' => ∃ (s3 : Value) (f4 : Fp) (s7 : Value) (f8 : Fp), v = .tuple #[.agg #[.int .i64 r.1, s3], .agg #[.int .i64 r.2.2.1, s7]] ∧ FrS [] H H' ∧ Ow enc_i64_i64_i64 3 H' s3 r.2.1 f4 ∧ Ow enc_i64_i64 2 H' s7 r.2.2.2 f8 ∧ Inn [] H f4 ∧ Inn [] H f8 ∧ Dj f4 f8 := by
 refine acalls_of_body mixed Try.func30 rfl (Nat.le_of_ble_eq_true rfl) ?_
 unfold z_viaductref04_DocOf at hr
 refine w_seqk fun K12 k12 => ?_
 refine w_reg (by kernel_rfl) ?_
 refine s_rwl wf [.int .i64 N_, hd_Arcs] (one_cons (rfl) (one_cons (h_Arcs.one1) (one_nil))) (by kernel_rfl) fun b13 H14 e15 hb16 r17 => ?_
 refine s_rwk e15.wf [.int .i64 0, .slice none 0 0] (by kernel_rfl) fun b19 H20 e21 hb22 r23 => ?_
 refine s_rwk e21.wf [.int .i64 0, .slice none 0 0] (by kernel_rfl) fun b25 H26 e27 hb28 r29 => ?_
 refine s_nil ?_
 refine k12 _ _ ?_
 refine w_seqk fun K31 k31 => ?_
 refine w_seqk fun K32 k32 => ?_
 refine w_reg (by kernel_rfl) ?_
 have u33 := ((r17.ext e21).ext e27)
 refine s_ql (.agg #[.int .i64 N_, hd_Arcs]) (x := aLoad Try.prog 59 (.pointer (some ⟨b13, 0, none⟩)) H26) (by kernel_rfl) (u33.ld (by kernel_rfl)) ?_
 have u34 := (((h_Arcs.ext e15).ext e21).ext e27)
 obtain ⟨y35, hy36, r37⟩ := bind_some hr
 refine s_ck 81 #[.agg #[.int .i64 N_, hd_Arcs]] (by kernel_rfl) (c_viaductref03_DocCheck e27.wf u34 hy36) ?_
 rintro _ H40 ⟨s38, f39, rfl, e41, m42, i43⟩
 obtain ⟨a45, n46, c47, rfl⟩ := m42.form
 refine s_rwk e41.wf [.int .i64 0, .slice none 0 0] (by kernel_rfl) fun b48 H49 e50 hb51 r52 => ?_
 have u58 := (m42.ext e50)
 obtain ⟨H54, q55, e56, r57⟩ := Row.store (P := Try.prog) (t := 46) (p := 0) e50.wf r52 (.agg #[.int .i64 y35.1, .slice a45 n46 c47]) [.int .i64 y35.1, .slice a45 n46 c47] (by kernel_rfl) (by kernel_rfl) (one_cons (rfl) (one_cons (u58.one1) (one_nil))) (Nat.le_of_ble_eq_true (by kernel_rfl)) [.int .i64 y35.1, .slice a45 n46 c47] (by kernel_rfl)
 refine s_ek (undef) (by kernel_rfl) (map_ok q55) ?_
 refine s_nil ?_
 refine k32 _ _ ?_
 refine w_seqk fun K59 k59 => ?_
 refine w_reg (by kernel_rfl) ?_
 refine s_ql (.agg #[.int .i64 y35.1, .slice a45 n46 c47]) (x := aLoad Try.prog 46 (.pointer (some ⟨b48, 0, none⟩)) H54) (by kernel_rfl) (r57.ld (by kernel_rfl)) ?_
 have u60 := (u58.fr e56 (hb51.djn m42.lt))
 obtain ⟨y61, hy62, r63⟩ := bind_some r37
 refine s_ck 56 #[.agg #[.int .i64 y35.1, .slice a45 n46 c47]] (by kernel_rfl) (c_viaductref01_Err_Bad e56.wf u60.sq hy62) ?_
 rintro _ H64 ⟨rfl, e65⟩
 refine s_nil ?_
 refine k59 _ _ ?_
 refine w_cond (y61) (by kernel_rfl) rfl (fun h66 => ?_) (fun h66 => ?_)
 ·have r67 := ite_t h66 r63
  refine w_seqk fun K68 k68 => ?_
  refine w_draw [0, 1, 2, 3] (by kernel_rfl) ?_
  refine d_qk (.agg #[.int .i64 0, .slice none 0 0]) (by kernel_rfl) ?_
  have u69 := (r57.frS e65 Dj.nil_l)
  refine d_fl (.agg #[.int .i64 y35.1, .slice a45 n46 c47]) (x := aLoad Try.prog 46 (.pointer (some ⟨b48, 0, none⟩)) H64) (by kernel_rfl) (u69.ld (by kernel_rfl)) ?_
  have u74 := (((((r23.ext e27).frS e41 Dj.nil_l).ext e50).frS e56 (hb51.djn (r23.ltF.le (ntr e27.next e41.next)))).frS e65 Dj.nil_l)
  obtain ⟨H70, q71, e72, r73⟩ := Row.store (P := Try.prog) (t := 59) (p := 0) e65.wf u74 (.agg #[.int .i64 0, .slice none 0 0]) [.int .i64 0, .slice none 0 0] (by kernel_rfl) (by kernel_rfl) (one_cons (rfl) (one_cons (rfl) (one_nil))) (Nat.le_of_ble_eq_true (by kernel_rfl)) [.int .i64 0, .slice none 0 0] (by kernel_rfl)
  have u75 := (u69.frS e72 (Dj.symm (hb51.djn (r23.ltF.le (ntr e27.next e41.next)))))
  refine d_ek (undef) (by kernel_rfl) (map_ok q71) (st_ql (y := aLoad Try.prog 46 (.pointer (some ⟨b48, 0, none⟩)) H70) (by kernel_rfl) (u75.ld (by kernel_rfl)) (st_nil)) ?_
  have u80 := (((((r29.frS e41 Dj.nil_l).ext e50).frS e56 (hb51.djn (r29.ltF.le e41.next))).frS e65 Dj.nil_l).frS e72 (Dj.symm (hb28.djn r23.ltF)))
  have u81 := ((u60.fr e65 Dj.nil_l).fr e72 (Dj.symm (i43.djn (r23.ltF.le e27.next))))
  obtain ⟨H76, q77, e78, r79⟩ := Row.store (P := Try.prog) (t := 46) (p := 0) e72.wf u80 (.agg #[.int .i64 y35.1, .slice a45 n46 c47]) [.int .i64 y35.1, .slice a45 n46 c47] (by kernel_rfl) (by kernel_rfl) (one_cons (rfl) (one_cons (u81.one1) (one_nil))) (Nat.le_of_ble_eq_true (by kernel_rfl)) [.int .i64 y35.1, .slice a45 n46 c47] (by kernel_rfl)
  refine d_ek (undef) (by kernel_rfl) (map_ok q77) (st_anc (by kernel_rfl) (st_nil)) ?_
  refine d_nil ?_
  refine k68 _ _ ?_
  refine w_ret (th_ret ?_)
  have u82 := (r73.frS e78 (hb28.djn r23.ltF))
  refine b_ret (fn := Try.f30) (vs := [.agg #[.int .i64 0, .slice none 0 0], .agg #[.int .i64 y35.1, .slice a45 n46 c47]]) (aRes_cell (Eq.trans (b := aLoad Try.prog 59 (.pointer (some ⟨b19, 0, none⟩)) H76) (by kernel_rfl) (u82.ld (by kernel_rfl))) (aRes_cell (Eq.trans (b := aLoad Try.prog 46 (.pointer (some ⟨b25, 0, none⟩)) H76) (by kernel_rfl) (r79.ld (by kernel_rfl))) (rfl))) ?_
  have u83 := (u81.fr e78 (Dj.symm (i43.djn r29.ltF)))
  obtain rfl := Option.some.inj r67
  exact ⟨(.slice none 0 0), [], (.slice a45 n46 c47), f39, rfl, (FrS.step wf (FrS.step wf (FrS.step wf (FrS.step wf ((FrS.step wf ((((FrS.refl (W := []) wf).extR e15).extR e21).extR e27) e41 Inn.nil).extR e50) e56 (hb51.fresh (ntr (ntr (ntr e15.next e21.next) e27.next) e41.next))) e65 Inn.nil) e72 (hb22.fresh e15.next)) e78 (hb28.fresh (ntr e15.next e21.next))), (Ow.nil (by decide)), u83, Inn.nil, (i43.fresh (ntr (ntr e15.next e21.next) e27.next)), Dj.nil_l⟩
 ·have r84 := ite_bf h66 r63
  refine w_skip ?_
  refine k31 _ _ ?_
  refine w_seqk fun K85 k85 => ?_
  refine w_reg (by kernel_rfl) ?_
  have u86 := ((((u33.frS e41 Dj.nil_l).ext e50).frS e56 (hb51.djn (r17.ltF.le (ntr (ntr e21.next e27.next) e41.next)))).frS e65 Dj.nil_l)
  refine s_ql (.agg #[.int .i64 N_, hd_Arcs]) (x := aLoad Try.prog 59 (.pointer (some ⟨b13, 0, none⟩)) H64) (by kernel_rfl) (u86.ld (by kernel_rfl)) ?_
  have u87 := ((((u34.fr e41 Dj.nil_l).ext e50).fr e56 (hb51.djn (h_Arcs.lt.le (ntr (ntr (ntr e15.next e21.next) e27.next) e41.next)))).fr e65 Dj.nil_l)
  obtain ⟨y88, hy89, r90⟩ := bind_some r84
  refine s_ck 82 #[.agg #[.int .i64 N_, hd_Arcs]] (by kernel_rfl) (c_viaductref04_Of e65.wf u87 hy89) ?_
  rintro _ H93 ⟨s91, f92, rfl, e94, m95, i96⟩
  obtain ⟨a98, n99, c100, rfl⟩ := m95.form
  refine s_qk (.agg #[.int .i64 0, .slice none 0 0]) (by kernel_rfl) ?_
  have u105 := ((((((r23.ext e27).frS e41 Dj.nil_l).ext e50).frS e56 (hb51.djn (r23.ltF.le (ntr e27.next e41.next)))).frS e65 Dj.nil_l).frS e94 Dj.nil_l)
  obtain ⟨H101, q102, e103, r104⟩ := Row.store (P := Try.prog) (t := 59) (p := 0) e94.wf u105 (.agg #[.int .i64 y88.1, .slice a98 n99 c100]) [.int .i64 y88.1, .slice a98 n99 c100] (by kernel_rfl) (by kernel_rfl) (one_cons (rfl) (one_cons (m95.one1) (one_nil))) (Nat.le_of_ble_eq_true (by kernel_rfl)) [.int .i64 y88.1, .slice a98 n99 c100] (by kernel_rfl)
  refine s_ek (undef) (by kernel_rfl) (map_ok q102) ?_
  have u110 := ((((((r29.frS e41 Dj.nil_l).ext e50).frS e56 (hb51.djn (r29.ltF.le e41.next))).frS e65 Dj.nil_l).frS e94 Dj.nil_l).frS e103 (Dj.symm (hb28.djn r23.ltF)))
  obtain ⟨H106, q107, e108, r109⟩ := Row.store (P := Try.prog) (t := 46) (p := 0) e103.wf u110 (.agg #[.int .i64 0, .slice none 0 0]) [.int .i64 0, .slice none 0 0] (by kernel_rfl) (by kernel_rfl) (one_cons (rfl) (one_cons (rfl) (one_nil))) (Nat.le_of_ble_eq_true (by kernel_rfl)) [.int .i64 0, .slice none 0 0] (by kernel_rfl)
  refine s_ek (undef) (by kernel_rfl) (map_ok q107) ?_
  refine s_nil ?_
  refine k85 _ _ ?_
  refine w_ret ?_
  have u111 := (r104.frS e108 (hb28.djn r23.ltF))
  refine b_ret (fn := Try.f30) (vs := [.agg #[.int .i64 y88.1, .slice a98 n99 c100], .agg #[.int .i64 0, .slice none 0 0]]) (aRes_cell (Eq.trans (b := aLoad Try.prog 59 (.pointer (some ⟨b19, 0, none⟩)) H106) (by kernel_rfl) (u111.ld (by kernel_rfl))) (aRes_cell (Eq.trans (b := aLoad Try.prog 46 (.pointer (some ⟨b25, 0, none⟩)) H106) (by kernel_rfl) (r109.ld (by kernel_rfl))) (rfl))) ?_
  have u112 := ((m95.fr e103 (Dj.symm (i96.djn (r23.ltF.le (ntr (ntr (ntr (ntr e27.next e41.next) e50.next) e56.next) e65.next))))).fr e108 (Dj.symm (i96.djn (r29.ltF.le (ntr (ntr (ntr e41.next e50.next) e56.next) e65.next)))))
  obtain rfl := Option.some.inj r90
  exact ⟨(.slice a98 n99 c100), f92, (.slice none 0 0), [], rfl, (FrS.step wf (FrS.step wf (FrS.step wf (FrS.step wf (FrS.step wf ((FrS.step wf ((((FrS.refl (W := []) wf).extR e15).extR e21).extR e27) e41 Inn.nil).extR e50) e56 (hb51.fresh (ntr (ntr (ntr e15.next e21.next) e27.next) e41.next))) e65 Inn.nil) e94 Inn.nil) e103 (hb22.fresh e15.next)) e108 (hb28.fresh (ntr e15.next e21.next))), u112, (Ow.nil (by decide)), (i96.fresh (ntr (ntr (ntr (ntr (ntr (ntr e15.next e21.next) e27.next) e41.next) e50.next) e56.next) e65.next)), Inn.nil, Dj.nil_r⟩

theorem c_viaductref04_Reverse {H : AH} {hd_Arcs : Value} {fp_Arcs : Fp} {N_ : Int} {Arcs : List (Int × Int × Int)} {r : Int × List (Int × Int × Int)}
  (wf : WF H) (h_Arcs : Sq enc_i64_i64_i64 3 H hd_Arcs Arcs fp_Arcs) (hr : z_viaductref04_Reverse N_ Arcs = some r) :
  ACalls Try.prog 83 #[.agg #[.int .i64 N_, hd_Arcs]] H fun v H' => ∃ (s3 : Value) (f4 : Fp), v = .agg #[.int .i64 r.1, s3] ∧ FrS [] H H' ∧ Ow enc_i64_i64_i64 3 H' s3 r.2 f4 ∧ Inn [] H f4 := by
 refine acalls_of_body mixed Try.func83 rfl (Nat.le_of_ble_eq_true rfl) ?_
 unfold z_viaductref04_Reverse at hr
 refine w_seqk fun K6 k6 => ?_
 refine w_reg (by kernel_rfl) ?_
 refine s_rwl wf [.int .i64 N_, hd_Arcs] (one_cons (rfl) (one_cons (h_Arcs.one1) (one_nil))) (by kernel_rfl) fun b7 H8 e9 hb10 r11 => ?_
 refine s_rwk e9.wf [.int .i64 0, .slice none 0 0] (by kernel_rfl) fun b13 H14 e15 hb16 r17 => ?_
 refine s_nil ?_
 refine k6 _ _ ?_
 refine w_seqk fun K19 k19 => ?_
 refine w_reg (by kernel_rfl) ?_
 refine s_qk (.pointer (some ⟨b7, 0, none⟩)) (by kernel_rfl) ?_
 have u20 := (r11.ext e15)
 refine s_ql (.int .i64 N_) (x := aLoad Try.prog 3 (.pointer (some ⟨b7, 0, none⟩)) H14) (by kernel_rfl) (u20.ld (by kernel_rfl)) ?_
 refine s_qk (.agg #[.int .i64 N_, .slice none 0 0]) (by kernel_rfl) ?_
 refine s_rwk e15.wf [.int .i64 0, .slice none 0 0] (by kernel_rfl) fun b21 H22 e23 hb24 r25 => ?_
 obtain ⟨H27, q28, e29, r30⟩ := Row.store (P := Try.prog) (t := 59) (p := 0) e23.wf r25 (.agg #[.int .i64 N_, .slice none 0 0]) [.int .i64 N_, .slice none 0 0] (by kernel_rfl) (by kernel_rfl) (one_cons (rfl) (one_cons (rfl) (one_nil))) (Nat.le_of_ble_eq_true (by kernel_rfl)) [.int .i64 N_, .slice none 0 0] (by kernel_rfl)
 refine s_ek (undef) (by kernel_rfl) (map_ok q28) ?_
 refine s_nil ?_
 refine k19 _ _ ?_
 refine w_seqk fun K31 k31 => ?_
 refine w_seqk fun K32 k32 => ?_
 refine w_reg (by kernel_rfl) ?_
 refine s_qk (.pointer (some ⟨b7, 1, none⟩)) (by kernel_rfl) ?_
 have u33 := ((u20.ext e23).frS e29 (hb24.djn (r11.ltF.le e15.next)))
 refine s_ql (hd_Arcs) (x := aLoad Try.prog 57 (.pointer (some ⟨b7, 1, none⟩)) H27) (by kernel_rfl) (u33.ld (by kernel_rfl)) ?_
 have u34 := ((((h_Arcs.ext e9).ext e15).ext e23).fr e29 (hb24.djn (h_Arcs.lt.le (ntr e9.next e15.next))))
 refine s_ql (.int .i64 (Arcs.length : Int)) (x := aLen Try.prog 57 hd_Arcs H27) (by kernel_rfl) (u34.lenb (by kernel_rfl)) ?_
 refine s_qk (.int .i64 0) (by kernel_rfl) ?_
 refine s_nil ?_
 refine k32 _ _ ?_
 obtain ⟨o35, hx36, r37⟩ := bind_some hr
 refine w_mid (fun α H38 => ∃ (s42 : Value) (f43 : Fp), Has α [(2, .pointer (some ⟨b13, 0, none⟩)), (3, .pointer (some ⟨b21, 0, none⟩))] ∧ FrS [b21] H27 H38 ∧ Ow enc_i64_i64_i64 3 H38 s42 o35 f43 ∧ Row H38 b21 [.int .i64 N_, s42] ∧ Inn [] H27 f43) (fun K47 k47 => ?_) (fun α H38 hM => ?_)
 ·refine w_block ?_
  obtain ⟨n49, hn50⟩ := loopO_iff.1 hx36
  refine w_loopn (fun n α H51 => ∃ (i0 : Int), ∃ (c1 : List (Int × Int × Int)), ∃ (s55 : Value), ∃ (f56 : Fp), iterO (fun zz_ => z_viaductref04_Reverse_l0 Arcs zz_.1 zz_.2) n (i0, c1) = some o35 ∧ Has α [(2, .pointer (some ⟨b13, 0, none⟩)), (3, .pointer (some ⟨b21, 0, none⟩)), (10, hd_Arcs), (11, .int .i64 (Arcs.length : Int)), (12, .int .i64 i0)] ∧ FrS [b21] H27 H51 ∧ Ow enc_i64_i64_i64 3 H51 s55 c1 f56 ∧ Row H51 b21 [.int .i64 N_, s55] ∧ Inn [] H27 f56) n49 ⟨0, [], (.slice none 0 0), [], hn50, ⟨by kernel_rfl, by kernel_rfl, by kernel_rfl, by kernel_rfl, by kernel_rfl, trivial⟩, (FrS.refl (W := [b21]) e29.wf), (Ow.nil (by decide)), r30, Inn.nil⟩ ?_
  rintro n49 α H51 ⟨i0, c1, s55, f56, hi61, hh60, e52, m54, m58, i59⟩ K66 k66
  obtain ⟨n62, z63, rfl, hz64, hn65⟩ := iter_succ hi61
  obtain ⟨β, rfl⟩ := has_ex hh60
  clear hh60
  replace hz64 : z_viaductref04_Reverse_l0 Arcs i0 c1 = some z63 := hz64
  unfold z_viaductref04_Reverse_l0 at hz64
  obtain ⟨a67, n68, c69, rfl⟩ := m54.form
  refine w_seqk fun K70 k70 => ?_
  refine w_reg (by kernel_rfl) ?_
  refine s_qk (.bool (decide (i0 < (Arcs.length : Int)))) (by kernel_rfl) ?_
  refine s_nil ?_
  refine k70 _ _ ?_
  refine w_seqk fun K71 k71 => ?_
  refine w_condp (i0 < (Arcs.length : Int)) (by kernel_rfl) rfl (fun h72 => ?_) (fun h72 => ?_)
  ·have r73 := ite_t h72 hz64
   refine w_skip ?_
   refine k71 _ _ ?_
   refine w_seqk fun K74 k74 => ?_
   refine w_block ?_
   refine w_seqk fun K75 k75 => ?_
   refine w_reg (by kernel_rfl) ?_
   obtain ⟨g76, r77⟩ := G_some r73
   have u78 := (u34.fr e52 (hb24.djn (h_Arcs.lt.le (ntr e9.next e15.next))))
   refine s_ql (elp hd_Arcs 3 i0.toNat 0) (x := aIndexAddr Try.prog 57 hd_Arcs (.int .i64 i0)) (by kernel_rfl) (u78.idxb (by kernel_rfl) g76 h72) ?_
   refine s_ql (.agg #[.int .i64 ((gt Arcs i0).1), .int .i64 ((gt Arcs i0).2.1), .int .i64 ((gt Arcs i0).2.2)]) (x := aLoad Try.prog 73 (elp hd_Arcs 3 i0.toNat 0) H51) (by kernel_rfl) (u78.ld g76 h72 (by kernel_rfl)) ?_
   refine s_rwk e52.wf [.int .i64 0, .int .i64 0, .int .i64 0] (by kernel_rfl) fun b79 H80 e81 hb82 r83 => ?_
   obtain ⟨H85, q86, e87, r88⟩ := Row.store (P := Try.prog) (t := 73) (p := 0) e81.wf r83 (.agg #[.int .i64 ((gt Arcs i0).1), .int .i64 ((gt Arcs i0).2.1), .int .i64 ((gt Arcs i0).2.2)]) [.int .i64 ((gt Arcs i0).1), .int .i64 ((gt Arcs i0).2.1), .int .i64 ((gt Arcs i0).2.2)] (by kernel_rfl) (by kernel_rfl) (one_cons (rfl) (one_cons (rfl) (one_cons (rfl) (one_nil)))) (Nat.le_of_ble_eq_true (by kernel_rfl)) [.int .i64 ((gt Arcs i0).1), .int .i64 ((gt Arcs i0).2.1), .int .i64 ((gt Arcs i0).2.2)] (by kernel_rfl)
   refine s_ek (undef) (by kernel_rfl) (map_ok q86) ?_
   refine s_nil ?_
   refine k75 _ _ ?_
   refine w_reg (by kernel_rfl) ?_
   refine s_qk (.pointer (some ⟨b21, 1, none⟩)) (by kernel_rfl) ?_
   have u89 := ((m58.ext e81).frS e87 (hb82.djn (r25.ltF.le (ntr e29.next e52.next))))
   refine s_ql (.slice a67 n68 c69) (x := aLoad Try.prog 57 (.pointer (some ⟨b21, 1, none⟩)) H85) (by kernel_rfl) (u89.ld (by kernel_rfl)) ?_
   refine s_qk (.pointer (some ⟨b79, 1, none⟩)) (by kernel_rfl) ?_
   refine s_ql (.int .i64 ((gt Arcs i0).2.1)) (x := aLoad Try.prog 3 (.pointer (some ⟨b79, 1, none⟩)) H85) (by kernel_rfl) (r88.ld (by kernel_rfl)) ?_
   refine s_qk (.pointer (some ⟨b79, 0, none⟩)) (by kernel_rfl) ?_
   refine s_ql (.int .i64 ((gt Arcs i0).1)) (x := aLoad Try.prog 3 (.pointer (some ⟨b79, 0, none⟩)) H85) (by kernel_rfl) (r88.ld (by kernel_rfl)) ?_
   refine s_qk (.pointer (some ⟨b79, 2, none⟩)) (by kernel_rfl) ?_
   refine s_ql (.int .i64 ((gt Arcs i0).2.2)) (x := aLoad Try.prog 3 (.pointer (some ⟨b79, 2, none⟩)) H85) (by kernel_rfl) (r88.ld (by kernel_rfl)) ?_
   refine s_qk (.agg #[.int .i64 ((gt Arcs i0).2.1), .int .i64 ((gt Arcs i0).1), .int .i64 ((gt Arcs i0).2.2)]) (by kernel_rfl) ?_
   refine s_owk (enc := enc_i64_i64_i64) (sz := 3) e87.wf [((gt Arcs i0).2.1, (gt Arcs i0).1, (gt Arcs i0).2.2)] 1 (by decide) (fun _ _ => rfl) (fun _ _ => rfl) rfl (by kernel_rfl) fun s90 f91 H92 e93 hf94 hm95 => ?_
   obtain ⟨a96, n97, c98, rfl⟩ := hm95.form
   have u100 := (((m54.ext e81).fr e87 (hb82.djn m54.lt)).ext e93)
   obtain ⟨g101, r102⟩ := G_some r77
   obtain ⟨s103, H104, f105, q109, e106, hm107, hf108⟩ := Ow.append (P := Try.prog) 24 e93.wf u100 hm95.sq (fun _ _ => rfl) (at_ := #[57, 57]) rfl rfl (by kernel_rfl) (by kernel_rfl) (by decide) (by have := g101; first | omega | (simp only [List.length_cons, List.length_nil] at this ⊢; omega) | (simp at this ⊢; omega))
   obtain ⟨a110, n111, c112, rfl⟩ := hm107.form
   refine s_ek (.slice a110 n111 c112) (by kernel_rfl) (q109) ?_
   refine s_qk (.pointer (some ⟨b21, 1, none⟩)) (by kernel_rfl) ?_
   have u118 := ((u89.ext e93).frS e106 (i59.djn (r25.ltF.le e29.next)))
   obtain ⟨H114, q115, e116, r117⟩ := Row.store (P := Try.prog) (t := 57) (p := 1) e106.wf u118 (.slice a110 n111 c112) [.slice a110 n111 c112] (by kernel_rfl) (by kernel_rfl) (one_cons (hm107.one1) (one_nil)) (Nat.le_of_ble_eq_true (by kernel_rfl)) [.int .i64 N_, .slice a110 n111 c112] (by kernel_rfl)
   refine s_ek (undef) (by kernel_rfl) (map_ok q115) ?_
   refine s_nil ?_
   refine k74 _ _ ?_
   refine w_reg (by kernel_rfl) ?_
   obtain ⟨g119, r120⟩ := G_some r102
   refine s_w ((i0 + 1)) (k := .i64) (x := (i0 + 1)) (by kernel_rfl) (wrap64 (by have := g119; omega)) ?_
   refine s_qk (.int .i64 (i0 + 1)) (by kernel_rfl) ?_
   refine s_nil ?_
   have u121 := (hm107.fr e116 (Dj.symm (hf108.dj (i59.djn (r25.ltF.le e29.next)) (r25.ltF.le (ntr (ntr (ntr (ntr e29.next e52.next) e81.next) e87.next) e93.next)))))
   obtain rfl := Option.some.inj r120
   exact k66 n62 _ _ (Nat.lt_succ_self _) ⟨(i0 + 1), (c1 ++ [((gt Arcs i0).2.1, (gt Arcs i0).1, (gt Arcs i0).2.2)]), (.slice a110 n111 c112), f105, hn65, ⟨by kernel_rfl, by kernel_rfl, by kernel_rfl, by kernel_rfl, by kernel_rfl, trivial⟩, (FrS.step e29.wf (FrS.step e29.wf ((FrS.step e29.wf ((FrS.step e29.wf (FrS.refl (W := [b21]) e29.wf) e52 Inn.refl').extR e81) e87 (hb82.fresh e52.next)).extR e93) e106 (i59.fresh (Nat.le_refl _))) e116 Inn.refl'), u121, r117, (Inn.trans (i59.fresh (Nat.le_refl _)) (ntr (ntr (ntr e52.next e81.next) e87.next) e93.next) hf108)⟩
  ·have r122 := ite_f h72 hz64
   refine w_exit (th_exit (th_exit (bl_eq ?_)))
   obtain rfl := Option.some.inj r122
   obtain rfl := it_inr hn65
   exact k47 _ _ ⟨(.slice a67 n68 c69), f56, ⟨by kernel_rfl, by kernel_rfl, trivial⟩, (FrS.step e29.wf (FrS.refl (W := [b21]) e29.wf) e52 Inn.refl'), m54, m58, (i59.fresh (Nat.le_refl _))⟩
 ·obtain ⟨s42, f43, hh48, e39, m41, m45, i46⟩ := hM
  obtain ⟨β, rfl⟩ := has_ex hh48
  clear hh48
  obtain ⟨a123, n124, c125, rfl⟩ := m41.form
  refine k31 _ _ ?_
  refine w_seqk fun K126 k126 => ?_
  refine w_reg (by kernel_rfl) ?_
  refine s_ql (.agg #[.int .i64 N_, .slice a123 n124 c125]) (x := aLoad Try.prog 59 (.pointer (some ⟨b21, 0, none⟩)) H38) (by kernel_rfl) (m45.ld (by kernel_rfl)) ?_
  have u131 := (((r17.ext e23).frS e29 (hb24.djn r17.ltF)).frS e39 (hb24.djn r17.ltF))
  obtain ⟨H127, q128, e129, r130⟩ := Row.store (P := Try.prog) (t := 59) (p := 0) e39.wf u131 (.agg #[.int .i64 N_, .slice a123 n124 c125]) [.int .i64 N_, .slice a123 n124 c125] (by kernel_rfl) (by kernel_rfl) (one_cons (rfl) (one_cons (m41.one1) (one_nil))) (Nat.le_of_ble_eq_true (by kernel_rfl)) [.int .i64 N_, .slice a123 n124 c125] (by kernel_rfl)
  refine s_ek (undef) (by kernel_rfl) (map_ok q128) ?_
  refine s_nil ?_
  refine k126 _ _ ?_
  refine w_ret ?_
  refine b_ret (fn := Try.f83) (vs := [.agg #[.int .i64 N_, .slice a123 n124 c125]]) (aRes_cell (Eq.trans (b := aLoad Try.prog 59 (.pointer (some ⟨b13, 0, none⟩)) H127) (by kernel_rfl) (r130.ld (by kernel_rfl))) (rfl)) ?_
  have u132 := (m41.fr e129 (Dj.symm (i46.djn (r17.ltF.le (ntr e23.next e29.next)))))
  obtain rfl := Option.some.inj r37
  exact ⟨(.slice a123 n124 c125), f43, rfl, (FrS.step wf (FrS.step wf (FrS.step wf ((((FrS.refl (W := []) wf).extR e9).extR e15).extR e23) e29 (hb24.fresh (ntr e9.next e15.next))) e39 (hb24.fresh (ntr e9.next e15.next))) e129 (hb16.fresh e9.next)), u132, (i46.fresh (ntr (ntr (ntr e9.next e15.next) e23.next) e29.next))⟩

theorem c_viaductref04_DocReverse {H : AH} {hd_Arcs : Value} {fp_Arcs : Fp} {N_ : Int} {Arcs : List (Int × Int × Int)} {r : Int × List (Int × Int × Int) × Int × List (Int × Int)}
  (wf : WF H) (h_Arcs : Sq enc_i64_i64_i64 3 H hd_Arcs Arcs fp_Arcs) (hr : z_viaductref04_DocReverse N_ Arcs = some r) :
  ACalls Try.prog 31 #[.agg #[.int .i64 N_, hd_Arcs]] H fun v H' => ∃ (s3 : Value) (f4 : Fp) (s7 : Value) (f8 : Fp), v = .tuple #[.agg #[.int .i64 r.1, s3], .agg #[.int .i64 r.2.2.1, s7]] ∧ FrS [] H H' ∧ Ow enc_i64_i64_i64 3 H' s3 r.2.1 f4 ∧ Ow enc_i64_i64 2 H' s7 r.2.2.2 f8 ∧ Inn [] H f4 ∧ Inn [] H f8 ∧ Dj f4 f8 := by
 refine acalls_of_body mixed Try.func31 rfl (Nat.le_of_ble_eq_true rfl) ?_
 unfold z_viaductref04_DocReverse at hr
 refine w_seqk fun K12 k12 => ?_
 refine w_reg (by kernel_rfl) ?_
 refine s_rwl wf [.int .i64 N_, hd_Arcs] (one_cons (rfl) (one_cons (h_Arcs.one1) (one_nil))) (by kernel_rfl) fun b13 H14 e15 hb16 r17 => ?_
 refine s_rwk e15.wf [.int .i64 0, .slice none 0 0] (by kernel_rfl) fun b19 H20 e21 hb22 r23 => ?_
 refine s_rwk e21.wf [.int .i64 0, .slice none 0 0] (by kernel_rfl) fun b25 H26 e27 hb28 r29 => ?_
 refine s_nil ?_
 refine k12 _ _ ?_
 refine w_seqk fun K31 k31 => ?_
 refine w_seqk fun K32 k32 => ?_
 refine w_reg (by kernel_rfl) ?_
 have u33 := ((r17.ext e21).ext e27)
 refine s_ql (.agg #[.int .i64 N_, hd_Arcs]) (x := aLoad Try.prog 59 (.pointer (some ⟨b13, 0, none⟩)) H26) (by kernel_rfl) (u33.ld (by kernel_rfl)) ?_
 have u34 := (((h_Arcs.ext e15).ext e21).ext e27)
 obtain ⟨y35, hy36, r37⟩ := bind_some hr
 refine s_ck 81 #[.agg #[.int .i64 N_, hd_Arcs]] (by kernel_rfl) (c_viaductref03_DocCheck e27.wf u34 hy36) ?_
 rintro _ H40 ⟨s38, f39, rfl, e41, m42, i43⟩
 obtain ⟨a45, n46, c47, rfl⟩ := m42.form
 refine s_rwk e41.wf [.int .i64 0, .slice none 0 0] (by kernel_rfl) fun b48 H49 e50 hb51 r52 => ?_
 have u58 := (m42.ext e50)
 obtain ⟨H54, q55, e56, r57⟩ := Row.store (P := Try.prog) (t := 46) (p := 0) e50.wf r52 (.agg #[.int .i64 y35.1, .slice a45 n46 c47]) [.int .i64 y35.1, .slice a45 n46 c47] (by kernel_rfl) (by kernel_rfl) (one_cons (rfl) (one_cons (u58.one1) (one_nil))) (Nat.le_of_ble_eq_true (by kernel_rfl)) [.int .i64 y35.1, .slice a45 n46 c47] (by kernel_rfl)
 refine s_ek (undef) (by kernel_rfl) (map_ok q55) ?_
 refine s_nil ?_
 refine k32 _ _ ?_
 refine w_seqk fun K59 k59 => ?_
 refine w_reg (by kernel_rfl) ?_
 refine s_ql (.agg #[.int .i64 y35.1, .slice a45 n46 c47]) (x := aLoad Try.prog 46 (.pointer (some ⟨b48, 0, none⟩)) H54) (by kernel_rfl) (r57.ld (by kernel_rfl)) ?_
 have u60 := (u58.fr e56 (hb51.djn m42.lt))
 obtain ⟨y61, hy62, r63⟩ := bind_some r37
 refine s_ck 56 #[.agg #[.int .i64 y35.1, .slice a45 n46 c47]] (by kernel_rfl) (c_viaductref01_Err_Bad e56.wf u60.sq hy62) ?_
 rintro _ H64 ⟨rfl, e65⟩
 refine s_nil ?_
 refine k59 _ _ ?_
 refine w_cond (y61) (by kernel_rfl) rfl (fun h66 => ?_) (fun h66 => ?_)
 ·have r67 := ite_t h66 r63
  refine w_seqk fun K68 k68 => ?_
  refine w_draw [0, 1, 2, 3] (by kernel_rfl) ?_
  refine d_qk (.agg #[.int .i64 0, .slice none 0 0]) (by kernel_rfl) ?_
  have u69 := (r57.frS e65 Dj.nil_l)
  refine d_fl (.agg #[.int .i64 y35.1, .slice a45 n46 c47]) (x := aLoad Try.prog 46 (.pointer (some ⟨b48, 0, none⟩)) H64) (by kernel_rfl) (u69.ld (by kernel_rfl)) ?_
  have u74 := (((((r23.ext e27).frS e41 Dj.nil_l).ext e50).frS e56 (hb51.djn (r23.ltF.le (ntr e27.next e41.next)))).frS e65 Dj.nil_l)
  obtain ⟨H70, q71, e72, r73⟩ := Row.store (P := Try.prog) (t := 59) (p := 0) e65.wf u74 (.agg #[.int .i64 0, .slice none 0 0]) [.int .i64 0, .slice none 0 0] (by kernel_rfl) (by kernel_rfl) (one_cons (rfl) (one_cons (rfl) (one_nil))) (Nat.le_of_ble_eq_true (by kernel_rfl)) [.int .i64 0, .slice none 0 0] (by kernel_rfl)
  have u75 := (u69.frS e72 (Dj.symm (hb51.djn (r23.ltF.le (ntr e27.next e41.next)))))
  refine d_ek (undef) (by kernel_rfl) (map_ok q71) (st_ql (y := aLoad Try.prog 46 (.pointer (some ⟨b48, 0, none⟩)) H70) (by kernel_rfl) (u75.ld (by kernel_rfl)) (st_nil)) ?_
  have u80 := (((((r29.frS e41 Dj.nil_l).ext e50).frS e56 (hb51.djn (r29.ltF.le e41.next))).frS e65 Dj.nil_l).frS e72 (Dj.symm (hb28.djn r23.ltF)))
  have u81 := ((u60.fr e65 Dj.nil_l).fr e72 (Dj.symm (i43.djn (r23.ltF.le e27.next))))
  obtain ⟨H76, q77, e78, r79⟩ := Row.store (P := Try.prog) (t := 46) (p := 0) e72.wf u80 (.agg #[.int .i64 y35.1, .slice a45 n46 c47]) [.int .i64 y35.1, .slice a45 n46 c47] (by kernel_rfl) (by kernel_rfl) (one_cons (rfl) (one_cons (u81.one1) (one_nil))) (Nat.le_of_ble_eq_true (by kernel_rfl)) [.int .i64 y35.1, .slice a45 n46 c47] (by kernel_rfl)
  refine d_ek (undef) (by kernel_rfl) (map_ok q77) (st_anc (by kernel_rfl) (st_nil)) ?_
  refine d_nil ?_
  refine k68 _ _ ?_
  refine w_ret (th_ret ?_)
  have u82 := (r73.frS e78 (hb28.djn r23.ltF))
  refine b_ret (fn := Try.f31) (vs := [.agg #[.int .i64 0, .slice none 0 0], .agg #[.int .i64 y35.1, .slice a45 n46 c47]]) (aRes_cell (Eq.trans (b := aLoad Try.prog 59 (.pointer (some ⟨b19, 0, none⟩)) H76) (by kernel_rfl) (u82.ld (by kernel_rfl))) (aRes_cell (Eq.trans (b := aLoad Try.prog 46 (.pointer (some ⟨b25, 0, none⟩)) H76) (by kernel_rfl) (r79.ld (by kernel_rfl))) (rfl))) ?_
  have u83 := (u81.fr e78 (Dj.symm (i43.djn r29.ltF)))
  obtain rfl := Option.some.inj r67
  exact ⟨(.slice none 0 0), [], (.slice a45 n46 c47), f39, rfl, (FrS.step wf (FrS.step wf (FrS.step wf (FrS.step wf ((FrS.step wf ((((FrS.refl (W := []) wf).extR e15).extR e21).extR e27) e41 Inn.nil).extR e50) e56 (hb51.fresh (ntr (ntr (ntr e15.next e21.next) e27.next) e41.next))) e65 Inn.nil) e72 (hb22.fresh e15.next)) e78 (hb28.fresh (ntr e15.next e21.next))), (Ow.nil (by decide)), u83, Inn.nil, (i43.fresh (ntr (ntr e15.next e21.next) e27.next)), Dj.nil_l⟩
 ·have r84 := ite_bf h66 r63
  refine w_skip ?_
  refine k31 _ _ ?_
  refine w_seqk fun K85 k85 => ?_
  refine w_reg (by kernel_rfl) ?_
  have u86 := ((((u33.frS e41 Dj.nil_l).ext e50).frS e56 (hb51.djn (r17.ltF.le (ntr (ntr e21.next e27.next) e41.next)))).frS e65 Dj.nil_l)
  refine s_ql (.agg #[.int .i64 N_, hd_Arcs]) (x := aLoad Try.prog 59 (.pointer (some ⟨b13, 0, none⟩)) H64) (by kernel_rfl) (u86.ld (by kernel_rfl)) ?_
  have u87 := ((((u34.fr e41 Dj.nil_l).ext e50).fr e56 (hb51.djn (h_Arcs.lt.le (ntr (ntr (ntr e15.next e21.next) e27.next) e41.next)))).fr e65 Dj.nil_l)
  obtain ⟨y88, hy89, r90⟩ := bind_some r84
  refine s_ck 83 #[.agg #[.int .i64 N_, hd_Arcs]] (by kernel_rfl) (c_viaductref04_Reverse e65.wf u87 hy89) ?_
  rintro _ H93 ⟨s91, f92, rfl, e94, m95, i96⟩
  obtain ⟨a98, n99, c100, rfl⟩ := m95.form
  refine s_qk (.agg #[.int .i64 0, .slice none 0 0]) (by kernel_rfl) ?_
  have u105 := ((((((r23.ext e27).frS e41 Dj.nil_l).ext e50).frS e56 (hb51.djn (r23.ltF.le (ntr e27.next e41.next)))).frS e65 Dj.nil_l).frS e94 Dj.nil_l)
  obtain ⟨H101, q102, e103, r104⟩ := Row.store (P := Try.prog) (t := 59) (p := 0) e94.wf u105 (.agg #[.int .i64 y88.1, .slice a98 n99 c100]) [.int .i64 y88.1, .slice a98 n99 c100] (by kernel_rfl) (by kernel_rfl) (one_cons (rfl) (one_cons (m95.one1) (one_nil))) (Nat.le_of_ble_eq_true (by kernel_rfl)) [.int .i64 y88.1, .slice a98 n99 c100] (by kernel_rfl)
  refine s_ek (undef) (by kernel_rfl) (map_ok q102) ?_
  have u110 := ((((((r29.frS e41 Dj.nil_l).ext e50).frS e56 (hb51.djn (r29.ltF.le e41.next))).frS e65 Dj.nil_l).frS e94 Dj.nil_l).frS e103 (Dj.symm (hb28.djn r23.ltF)))
  obtain ⟨H106, q107, e108, r109⟩ := Row.store (P := Try.prog) (t := 46) (p := 0) e103.wf u110 (.agg #[.int .i64 0, .slice none 0 0]) [.int .i64 0, .slice none 0 0] (by kernel_rfl) (by kernel_rfl) (one_cons (rfl) (one_cons (rfl) (one_nil))) (Nat.le_of_ble_eq_true (by kernel_rfl)) [.int .i64 0, .slice none 0 0] (by kernel_rfl)
  refine s_ek (undef) (by kernel_rfl) (map_ok q107) ?_
  refine s_nil ?_
  refine k85 _ _ ?_
  refine w_ret ?_
  have u111 := (r104.frS e108 (hb28.djn r23.ltF))
  refine b_ret (fn := Try.f31) (vs := [.agg #[.int .i64 y88.1, .slice a98 n99 c100], .agg #[.int .i64 0, .slice none 0 0]]) (aRes_cell (Eq.trans (b := aLoad Try.prog 59 (.pointer (some ⟨b19, 0, none⟩)) H106) (by kernel_rfl) (u111.ld (by kernel_rfl))) (aRes_cell (Eq.trans (b := aLoad Try.prog 46 (.pointer (some ⟨b25, 0, none⟩)) H106) (by kernel_rfl) (r109.ld (by kernel_rfl))) (rfl))) ?_
  have u112 := ((m95.fr e103 (Dj.symm (i96.djn (r23.ltF.le (ntr (ntr (ntr (ntr e27.next e41.next) e50.next) e56.next) e65.next))))).fr e108 (Dj.symm (i96.djn (r29.ltF.le (ntr (ntr (ntr e41.next e50.next) e56.next) e65.next)))))
  obtain rfl := Option.some.inj r90
  exact ⟨(.slice a98 n99 c100), f92, (.slice none 0 0), [], rfl, (FrS.step wf (FrS.step wf (FrS.step wf (FrS.step wf (FrS.step wf ((FrS.step wf ((((FrS.refl (W := []) wf).extR e15).extR e21).extR e27) e41 Inn.nil).extR e50) e56 (hb51.fresh (ntr (ntr (ntr e15.next e21.next) e27.next) e41.next))) e65 Inn.nil) e94 Inn.nil) e103 (hb22.fresh e15.next)) e108 (hb28.fresh (ntr e15.next e21.next))), u112, (Ow.nil (by decide)), (i96.fresh (ntr (ntr (ntr (ntr (ntr (ntr e15.next e21.next) e27.next) e41.next) e50.next) e56.next) e65.next)), Inn.nil, Dj.nil_r⟩

theorem c_viaductref01_First {H : AH} {b_list : Nat} {hd_list_2 : Value} {fp_list_2 : Fp} {hd_list_4 : Value} {fp_list_4 : Fp} {list_ : Int} {list_2 : List (Int × Int)} {list_3 : Int} {list_4 : List (Int × Int)} {r : Int × List (Int × Int)}
  (wf : WF H) (h_list_2 : Sq enc_i64_i64 2 H hd_list_2 list_2 fp_list_2) (h_list_4 : Sq enc_i64_i64 2 H hd_list_4 list_4 fp_list_4) (h_list : Row H b_list [.int .i64 list_, hd_list_2, .int .i64 list_3, hd_list_4]) (hr : z_viaductref01_First list_ list_2 list_3 list_4 = some r) :
  ACalls Try.prog 84 #[.slice (some ⟨b_list, 0, none⟩) 2 2] H fun v H' => ∃ (s3 : Value) (f4 : Fp), v = .agg #[.int .i64 r.1, s3] ∧ FrS [] H H' ∧ Sq enc_i64_i64 2 H' s3 r.2 f4 ∧ Inn (fp_list_2 ++ fp_list_4) H f4 := by
 refine acalls_of_body mixed Try.func84 rfl (Nat.le_of_ble_eq_true rfl) ?_
 unfold z_viaductref01_First at hr
 refine w_seqk fun K6 k6 => ?_
 refine w_reg (by kernel_rfl) ?_
 refine s_rwk wf [.int .i64 0, .slice none 0 0] (by kernel_rfl) fun b7 H8 e9 hb10 r11 => ?_
 refine s_nil ?_
 refine k6 _ _ ?_
 refine w_seqk fun K13 k13 => ?_
 refine w_seqk fun K14 k14 => ?_
 refine w_reg (by kernel_rfl) ?_
 refine s_qk (.slice (some ⟨b_list, 0, none⟩) 2 2) (by kernel_rfl) ?_
 refine s_qk (.int .i64 2) (by kernel_rfl) ?_
 refine s_qk (.int .i64 0) (by kernel_rfl) ?_
 refine s_nil ?_
 refine k14 _ _ ?_
 refine w_block ?_
 refine w_unroll ?_
 refine w_seqk fun K15 k15 => ?_
 refine w_reg (by kernel_rfl) ?_
 refine s_qk (.bool true) (by kernel_rfl) ?_
 refine s_nil ?_
 refine k15 _ _ ?_
 refine w_seqk fun K16 k16 => ?_
 refine w_cond true (by kernel_rfl) rfl (fun _ => ?_) (fun h => by cases h)
 refine w_skip ?_
 refine k16 _ _ ?_
 refine w_seqk fun K17 k17 => ?_
 refine w_block ?_
 refine w_seqk fun K18 k18 => ?_
 refine w_reg (by kernel_rfl) ?_
 refine s_qk (.pointer (some ⟨b_list, 0, none⟩)) (by kernel_rfl) ?_
 have u19 := (h_list.ext e9)
 refine s_ql (.agg #[.int .i64 list_, hd_list_2]) (x := aLoad Try.prog 46 (.pointer (some ⟨b_list, 0, none⟩)) H8) (by kernel_rfl) (u19.ld (by kernel_rfl)) ?_
 refine s_rwk e9.wf [.int .i64 0, .slice none 0 0] (by kernel_rfl) fun b20 H21 e22 hb23 r24 => ?_
 have u30 := ((h_list_2.ext e9).ext e22)
 obtain ⟨H26, q27, e28, r29⟩ := Row.store (P := Try.prog) (t := 46) (p := 0) e22.wf r24 (.agg #[.int .i64 list_, hd_list_2]) [.int .i64 list_, hd_list_2] (by kernel_rfl) (by kernel_rfl) (one_cons (rfl) (one_cons (u30.one1) (one_nil))) (Nat.le_of_ble_eq_true (by kernel_rfl)) [.int .i64 list_, hd_list_2] (by kernel_rfl)
 refine s_ek (undef) (by kernel_rfl) (map_ok q27) ?_
 refine s_nil ?_
 refine k18 _ _ ?_
 refine w_seqk fun K31 k31 => ?_
 refine w_reg (by kernel_rfl) ?_
 refine s_ql (.agg #[.int .i64 list_, hd_list_2]) (x := aLoad Try.prog 46 (.pointer (some ⟨b20, 0, none⟩)) H26) (by kernel_rfl) (r29.ld (by kernel_rfl)) ?_
 have u32 := (u30.fr e28 (hb23.djn (h_list_2.lt.le e9.next)))
 obtain ⟨y33, hy34, r35⟩ := bind_some hr
 refine s_ck 56 #[.agg #[.int .i64 list_, hd_list_2]] (by kernel_rfl) (c_viaductref01_Err_Bad e28.wf u32 hy34) ?_
 rintro _ H36 ⟨rfl, e37⟩
 refine s_nil ?_
 refine k31 _ _ ?_
 refine w_cond (y33) (by kernel_rfl) rfl (fun h38 => ?_) (fun h38 => ?_)
 ·have r39 := ite_t h38 r35
  refine w_seqk fun K40 k40 => ?_
  refine w_reg (by kernel_rfl) ?_
  have u41 := (r29.frS e37 Dj.nil_l)
  refine s_ql (.agg #[.int .i64 list_, hd_list_2]) (x := aLoad Try.prog 46 (.pointer (some ⟨b20, 0, none⟩)) H36) (by kernel_rfl) (u41.ld (by kernel_rfl)) ?_
  have u46 := (((r11.ext e22).frS e28 (hb23.djn r11.ltF)).frS e37 Dj.nil_l)
  have u47 := (u32.fr e37 Dj.nil_l)
  obtain ⟨H42, q43, e44, r45⟩ := Row.store (P := Try.prog) (t := 46) (p := 0) e37.wf u46 (.agg #[.int .i64 list_, hd_list_2]) [.int .i64 list_, hd_list_2] (by kernel_rfl) (by kernel_rfl) (one_cons (rfl) (one_cons (u47.one1) (one_nil))) (Nat.le_of_ble_eq_true (by kernel_rfl)) [.int .i64 list_, hd_list_2] (by kernel_rfl)
  refine s_ek (undef) (by kernel_rfl) (map_ok q43) ?_
  refine s_nil ?_
  refine k40 _ _ ?_
  refine w_ret (bl_ret (th_ret (th_ret (bl_ret (th_ret ?_)))))
  refine b_ret (fn := Try.f84) (vs := [.agg #[.int .i64 list_, hd_list_2]]) (aRes_cell (Eq.trans (b := aLoad Try.prog 46 (.pointer (some ⟨b7, 0, none⟩)) H42) (by kernel_rfl) (r45.ld (by kernel_rfl))) (rfl)) ?_
  have u48 := (u47.fr e44 (hb10.djn h_list_2.lt))
  obtain rfl := Option.some.inj r39
  exact ⟨(hd_list_2), fp_list_2, rfl, (FrS.step wf (FrS.step wf (FrS.step wf (((FrS.refl (W := []) wf).extR e9).extR e22) e28 (hb23.fresh e9.next)) e37 Inn.nil) e44 (hb10.fresh (Nat.le_refl _))), u48, Inn.left⟩
 ·have r49 := ite_bf h38 r35
  refine w_skip ?_
  refine k17 _ _ ?_
  refine w_reg (by kernel_rfl) ?_
  refine s_qk (.int .i64 1) (by kernel_rfl) ?_
  refine s_qk (.int .i64 1) (by kernel_rfl) ?_
  refine s_nil ?_
  refine w_unroll ?_
  refine w_seqk fun K50 k50 => ?_
  refine w_reg (by kernel_rfl) ?_
  refine s_qk (.bool true) (by kernel_rfl) ?_
  refine s_nil ?_
  refine k50 _ _ ?_
  refine w_seqk fun K51 k51 => ?_
  refine w_cond true (by kernel_rfl) rfl (fun _ => ?_) (fun h => by cases h)
  refine w_skip ?_
  refine k51 _ _ ?_
  refine w_seqk fun K52 k52 => ?_
  refine w_block ?_
  refine w_seqk fun K53 k53 => ?_
  refine w_reg (by kernel_rfl) ?_
  refine s_qk (.pointer (some ⟨b_list, 2, none⟩)) (by kernel_rfl) ?_
  have u54 := (((u19.ext e22).frS e28 (hb23.djn (h_list.ltF.le e9.next))).frS e37 Dj.nil_l)
  refine s_ql (.agg #[.int .i64 list_3, hd_list_4]) (x := aLoad Try.prog 46 (.pointer (some ⟨b_list, 2, none⟩)) H36) (by kernel_rfl) (u54.ld (by kernel_rfl)) ?_
  refine s_rwk e37.wf [.int .i64 0, .slice none 0 0] (by kernel_rfl) fun b55 H56 e57 hb58 r59 => ?_
  have u65 := (((((h_list_4.ext e9).ext e22).fr e28 (hb23.djn (h_list_4.lt.le e9.next))).fr e37 Dj.nil_l).ext e57)
  obtain ⟨H61, q62, e63, r64⟩ := Row.store (P := Try.prog) (t := 46) (p := 0) e57.wf r59 (.agg #[.int .i64 list_3, hd_list_4]) [.int .i64 list_3, hd_list_4] (by kernel_rfl) (by kernel_rfl) (one_cons (rfl) (one_cons (u65.one1) (one_nil))) (Nat.le_of_ble_eq_true (by kernel_rfl)) [.int .i64 list_3, hd_list_4] (by kernel_rfl)
  refine s_ek (undef) (by kernel_rfl) (map_ok q62) ?_
  refine s_nil ?_
  refine k53 _ _ ?_
  refine w_seqk fun K66 k66 => ?_
  refine w_reg (by kernel_rfl) ?_
  refine s_ql (.agg #[.int .i64 list_3, hd_list_4]) (x := aLoad Try.prog 46 (.pointer (some ⟨b55, 0, none⟩)) H61) (by kernel_rfl) (r64.ld (by kernel_rfl)) ?_
  have u67 := (u65.fr e63 (hb58.djn (h_list_4.lt.le (ntr (ntr (ntr e9.next e22.next) e28.next) e37.next))))
  obtain ⟨y68, hy69, r70⟩ := bind_some r49
  refine s_ck 56 #[.agg #[.int .i64 list_3, hd_list_4]] (by kernel_rfl) (c_viaductref01_Err_Bad e63.wf u67 hy69) ?_
  rintro _ H71 ⟨rfl, e72⟩
  refine s_nil ?_
  refine k66 _ _ ?_
  refine w_cond (y68) (by kernel_rfl) rfl (fun h73 => ?_) (fun h73 => ?_)
  ·have r74 := ite_t h73 r70
   refine w_seqk fun K75 k75 => ?_
   refine w_reg (by kernel_rfl) ?_
   have u76 := (r64.frS e72 Dj.nil_l)
   refine s_ql (.agg #[.int .i64 list_3, hd_list_4]) (x := aLoad Try.prog 46 (.pointer (some ⟨b55, 0, none⟩)) H71) (by kernel_rfl) (u76.ld (by kernel_rfl)) ?_
   have u81 := ((((((r11.ext e22).frS e28 (hb23.djn r11.ltF)).frS e37 Dj.nil_l).ext e57).frS e63 (hb58.djn (r11.ltF.le (ntr (ntr e22.next e28.next) e37.next)))).frS e72 Dj.nil_l)
   have u82 := (u67.fr e72 Dj.nil_l)
   obtain ⟨H77, q78, e79, r80⟩ := Row.store (P := Try.prog) (t := 46) (p := 0) e72.wf u81 (.agg #[.int .i64 list_3, hd_list_4]) [.int .i64 list_3, hd_list_4] (by kernel_rfl) (by kernel_rfl) (one_cons (rfl) (one_cons (u82.one1) (one_nil))) (Nat.le_of_ble_eq_true (by kernel_rfl)) [.int .i64 list_3, hd_list_4] (by kernel_rfl)
   refine s_ek (undef) (by kernel_rfl) (map_ok q78) ?_
   refine s_nil ?_
   refine k75 _ _ ?_
   refine w_ret (bl_ret (th_ret (th_ret (bl_ret (th_ret ?_)))))
   refine b_ret (fn := Try.f84) (vs := [.agg #[.int .i64 list_3, hd_list_4]]) (aRes_cell (Eq.trans (b := aLoad Try.prog 46 (.pointer (some ⟨b7, 0, none⟩)) H77) (by kernel_rfl) (r80.ld (by kernel_rfl))) (rfl)) ?_
   have u83 := (u82.fr e79 (hb10.djn h_list_4.lt))
   obtain rfl := Option.some.inj r74
   exact ⟨(hd_list_4), fp_list_4, rfl, (FrS.step wf (FrS.step wf (FrS.step wf ((FrS.step wf (FrS.step wf (((FrS.refl (W := []) wf).extR e9).extR e22) e28 (hb23.fresh e9.next)) e37 Inn.nil).extR e57) e63 (hb58.fresh (ntr (ntr (ntr e9.next e22.next) e28.next) e37.next))) e72 Inn.nil) e79 (hb10.fresh (Nat.le_refl _))), u83, (Inn.right Inn.refl')⟩
  ·have r84 := ite_bf h73 r70
   refine w_skip ?_
   refine k52 _ _ ?_
   refine w_reg (by kernel_rfl) ?_
   refine s_qk (.int .i64 2) (by kernel_rfl) ?_
   refine s_qk (.int .i64 2) (by kernel_rfl) ?_
   refine s_nil ?_
   refine w_unroll ?_
   refine w_seqk fun K85 k85 => ?_
   refine w_reg (by kernel_rfl) ?_
   refine s_qk (.bool false) (by kernel_rfl) ?_
   refine s_nil ?_
   refine k85 _ _ ?_
   refine w_seqk fun K86 k86 => ?_
   refine w_cond false (by kernel_rfl) rfl (fun h => by cases h) (fun _ => ?_)
   refine w_exit (th_exit (th_exit (bl_eq ?_)))
   refine k13 _ _ ?_
   refine w_seqk fun K87 k87 => ?_
   refine w_reg (by kernel_rfl) ?_
   refine s_qk (.agg #[.int .i64 0, .slice none 0 0]) (by kernel_rfl) ?_
   have u92 := ((((((r11.ext e22).frS e28 (hb23.djn r11.ltF)).frS e37 Dj.nil_l).ext e57).frS e63 (hb58.djn (r11.ltF.le (ntr (ntr e22.next e28.next) e37.next)))).frS e72 Dj.nil_l)
   obtain ⟨H88, q89, e90, r91⟩ := Row.store (P := Try.prog) (t := 46) (p := 0) e72.wf u92 (.agg #[.int .i64 0, .slice none 0 0]) [.int .i64 0, .slice none 0 0] (by kernel_rfl) (by kernel_rfl) (one_cons (rfl) (one_cons (rfl) (one_nil))) (Nat.le_of_ble_eq_true (by kernel_rfl)) [.int .i64 0, .slice none 0 0] (by kernel_rfl)
   refine s_ek (undef) (by kernel_rfl) (map_ok q89) ?_
   refine s_nil ?_
   refine k87 _ _ ?_
   refine w_ret ?_
   refine b_ret (fn := Try.f84) (vs := [.agg #[.int .i64 0, .slice none 0 0]]) (aRes_cell (Eq.trans (b := aLoad Try.prog 46 (.pointer (some ⟨b7, 0, none⟩)) H88) (by kernel_rfl) (r91.ld (by kernel_rfl))) (rfl)) ?_
   obtain rfl := Option.some.inj r84
   exact ⟨(.slice none 0 0), [], rfl, (FrS.step wf (FrS.step wf (FrS.step wf ((FrS.step wf (FrS.step wf (((FrS.refl (W := []) wf).extR e9).extR e22) e28 (hb23.fresh e9.next)) e37 Inn.nil).extR e57) e63 (hb58.fresh (ntr (ntr (ntr e9.next e22.next) e28.next) e37.next))) e72 Inn.nil) e90 (hb10.fresh (Nat.le_refl _))), (Sq.nil (by decide)), Inn.nil⟩

theorem c_viaductref03_Twin {H : AH} {hd_Arcs : Value} {fp_Arcs : Fp} {N_ : Int} {Arcs : List (Int × Int × Int)} {r : Int × List (Int × Int × Int)}
  (wf : WF H) (h_Arcs : Sq enc_i64_i64_i64 3 H hd_Arcs Arcs fp_Arcs) (hr : z_viaductref03_Twin N_ Arcs = some r) :
  ACalls Try.prog 85 #[.agg #[.int .i64 N_, hd_Arcs]] H fun v H' => ∃ (s3 : Value) (f4 : Fp), v = .agg #[.int .i64 r.1, s3] ∧ FrS [] H H' ∧ Ow enc_i64_i64_i64 3 H' s3 r.2 f4 ∧ Inn [] H f4 := by
 refine acalls_of_body mixed Try.func85 rfl (Nat.le_of_ble_eq_true rfl) ?_
 unfold z_viaductref03_Twin at hr
 refine w_seqk fun K6 k6 => ?_
 refine w_reg (by kernel_rfl) ?_
 refine s_rwl wf [.int .i64 N_, hd_Arcs] (one_cons (rfl) (one_cons (h_Arcs.one1) (one_nil))) (by kernel_rfl) fun b7 H8 e9 hb10 r11 => ?_
 refine s_rwk e9.wf [.int .i64 0, .slice none 0 0] (by kernel_rfl) fun b13 H14 e15 hb16 r17 => ?_
 refine s_nil ?_
 refine k6 _ _ ?_
 refine w_seqk fun K19 k19 => ?_
 refine w_reg (by kernel_rfl) ?_
 refine s_qk (.pointer (some ⟨b7, 0, none⟩)) (by kernel_rfl) ?_
 have u20 := (r11.ext e15)
 refine s_ql (.int .i64 N_) (x := aLoad Try.prog 3 (.pointer (some ⟨b7, 0, none⟩)) H14) (by kernel_rfl) (u20.ld (by kernel_rfl)) ?_
 refine s_qk (.agg #[.int .i64 N_, .slice none 0 0]) (by kernel_rfl) ?_
 refine s_rwk e15.wf [.int .i64 0, .slice none 0 0] (by kernel_rfl) fun b21 H22 e23 hb24 r25 => ?_
 obtain ⟨H27, q28, e29, r30⟩ := Row.store (P := Try.prog) (t := 59) (p := 0) e23.wf r25 (.agg #[.int .i64 N_, .slice none 0 0]) [.int .i64 N_, .slice none 0 0] (by kernel_rfl) (by kernel_rfl) (one_cons (rfl) (one_cons (rfl) (one_nil))) (Nat.le_of_ble_eq_true (by kernel_rfl)) [.int .i64 N_, .slice none 0 0] (by kernel_rfl)
 refine s_ek (undef) (by kernel_rfl) (map_ok q28) ?_
 refine s_nil ?_
 refine k19 _ _ ?_
 refine w_seqk fun K31 k31 => ?_
 refine w_seqk fun K32 k32 => ?_
 refine w_reg (by kernel_rfl) ?_
 refine s_qk (.pointer (some ⟨b7, 1, none⟩)) (by kernel_rfl) ?_
 have u33 := ((u20.ext e23).frS e29 (hb24.djn (r11.ltF.le e15.next)))
 refine s_ql (hd_Arcs) (x := aLoad Try.prog 57 (.pointer (some ⟨b7, 1, none⟩)) H27) (by kernel_rfl) (u33.ld (by kernel_rfl)) ?_
 have u34 := ((((h_Arcs.ext e9).ext e15).ext e23).fr e29 (hb24.djn (h_Arcs.lt.le (ntr e9.next e15.next))))
 refine s_ql (.int .i64 (Arcs.length : Int)) (x := aLen Try.prog 57 hd_Arcs H27) (by kernel_rfl) (u34.lenb (by kernel_rfl)) ?_
 refine s_qk (.int .i64 0) (by kernel_rfl) ?_
 refine s_nil ?_
 refine k32 _ _ ?_
 obtain ⟨o35, hx36, r37⟩ := bind_some hr
 refine w_mid (fun α H38 => ∃ (s42 : Value) (f43 : Fp), Has α [(2, .pointer (some ⟨b13, 0, none⟩)), (3, .pointer (some ⟨b21, 0, none⟩))] ∧ FrS [b21] H27 H38 ∧ Ow enc_i64_i64_i64 3 H38 s42 o35 f43 ∧ Row H38 b21 [.int .i64 N_, s42] ∧ Inn [] H27 f43) (fun K47 k47 => ?_) (fun α H38 hM => ?_)
 ·refine w_block ?_
  obtain ⟨n49, hn50⟩ := loopO_iff.1 hx36
  refine w_loopn (fun n α H51 => ∃ (i0 : Int), ∃ (c1 : List (Int × Int × Int)), ∃ (s55 : Value), ∃ (f56 : Fp), iterO (fun zz_ => z_viaductref03_Twin_l0 Arcs zz_.1 zz_.2) n (i0, c1) = some o35 ∧ Has α [(2, .pointer (some ⟨b13, 0, none⟩)), (3, .pointer (some ⟨b21, 0, none⟩)), (10, hd_Arcs), (11, .int .i64 (Arcs.length : Int)), (12, .int .i64 i0)] ∧ FrS [b21] H27 H51 ∧ Ow enc_i64_i64_i64 3 H51 s55 c1 f56 ∧ Row H51 b21 [.int .i64 N_, s55] ∧ Inn [] H27 f56) n49 ⟨0, [], (.slice none 0 0), [], hn50, ⟨by kernel_rfl, by kernel_rfl, by kernel_rfl, by kernel_rfl, by kernel_rfl, trivial⟩, (FrS.refl (W := [b21]) e29.wf), (Ow.nil (by decide)), r30, Inn.nil⟩ ?_
  rintro n49 α H51 ⟨i0, c1, s55, f56, hi61, hh60, e52, m54, m58, i59⟩ K66 k66
  obtain ⟨n62, z63, rfl, hz64, hn65⟩ := iter_succ hi61
  obtain ⟨β, rfl⟩ := has_ex hh60
  clear hh60
  replace hz64 : z_viaductref03_Twin_l0 Arcs i0 c1 = some z63 := hz64
  unfold z_viaductref03_Twin_l0 at hz64
  obtain ⟨a67, n68, c69, rfl⟩ := m54.form
  refine w_seqk fun K70 k70 => ?_
  refine w_reg (by kernel_rfl) ?_
  refine s_qk (.bool (decide (i0 < (Arcs.length : Int)))) (by kernel_rfl) ?_
  refine s_nil ?_
  refine k70 _ _ ?_
  refine w_seqk fun K71 k71 => ?_
  refine w_condp (i0 < (Arcs.length : Int)) (by kernel_rfl) rfl (fun h72 => ?_) (fun h72 => ?_)
  ·have r73 := ite_t h72 hz64
   refine w_skip ?_
   refine k71 _ _ ?_
   refine w_seqk fun K74 k74 => ?_
   refine w_block ?_
   refine w_seqk fun K75 k75 => ?_
   refine w_reg (by kernel_rfl) ?_
   obtain ⟨g76, r77⟩ := G_some r73
   have u78 := (u34.fr e52 (hb24.djn (h_Arcs.lt.le (ntr e9.next e15.next))))
   refine s_ql (elp hd_Arcs 3 i0.toNat 0) (x := aIndexAddr Try.prog 57 hd_Arcs (.int .i64 i0)) (by kernel_rfl) (u78.idxb (by kernel_rfl) g76 h72) ?_
   refine s_ql (.agg #[.int .i64 ((gt Arcs i0).1), .int .i64 ((gt Arcs i0).2.1), .int .i64 ((gt Arcs i0).2.2)]) (x := aLoad Try.prog 73 (elp hd_Arcs 3 i0.toNat 0) H51) (by kernel_rfl) (u78.ld g76 h72 (by kernel_rfl)) ?_
   refine s_rwk e52.wf [.int .i64 0, .int .i64 0, .int .i64 0] (by kernel_rfl) fun b79 H80 e81 hb82 r83 => ?_
   obtain ⟨H85, q86, e87, r88⟩ := Row.store (P := Try.prog) (t := 73) (p := 0) e81.wf r83 (.agg #[.int .i64 ((gt Arcs i0).1), .int .i64 ((gt Arcs i0).2.1), .int .i64 ((gt Arcs i0).2.2)]) [.int .i64 ((gt Arcs i0).1), .int .i64 ((gt Arcs i0).2.1), .int .i64 ((gt Arcs i0).2.2)] (by kernel_rfl) (by kernel_rfl) (one_cons (rfl) (one_cons (rfl) (one_cons (rfl) (one_nil)))) (Nat.le_of_ble_eq_true (by kernel_rfl)) [.int .i64 ((gt Arcs i0).1), .int .i64 ((gt Arcs i0).2.1), .int .i64 ((gt Arcs i0).2.2)] (by kernel_rfl)
   refine s_ek (undef) (by kernel_rfl) (map_ok q86) ?_
   refine s_nil ?_
   refine k75 _ _ ?_
   refine w_reg (by kernel_rfl) ?_
   refine s_qk (.pointer (some ⟨b21, 1, none⟩)) (by kernel_rfl) ?_
   have u89 := ((m58.ext e81).frS e87 (hb82.djn (r25.ltF.le (ntr e29.next e52.next))))
   refine s_ql (.slice a67 n68 c69) (x := aLoad Try.prog 57 (.pointer (some ⟨b21, 1, none⟩)) H85) (by kernel_rfl) (u89.ld (by kernel_rfl)) ?_
   refine s_ql (.agg #[.int .i64 ((gt Arcs i0).1), .int .i64 ((gt Arcs i0).2.1), .int .i64 ((gt Arcs i0).2.2)]) (x := aLoad Try.prog 73 (.pointer (some ⟨b79, 0, none⟩)) H85) (by kernel_rfl) (r88.ld (by kernel_rfl)) ?_
   refine s_owk (enc := enc_i64_i64_i64) (sz := 3) e87.wf [((gt Arcs i0).1, (gt Arcs i0).2.1, (gt Arcs i0).2.2)] 1 (by decide) (fun _ _ => rfl) (fun _ _ => rfl) rfl (by kernel_rfl) fun s90 f91 H92 e93 hf94 hm95 => ?_
   obtain ⟨a96, n97, c98, rfl⟩ := hm95.form
   have u100 := (((m54.ext e81).fr e87 (hb82.djn m54.lt)).ext e93)
   obtain ⟨g101, r102⟩ := G_some r77
   obtain ⟨s103, H104, f105, q109, e106, hm107, hf108⟩ := Ow.append (P := Try.prog) 24 e93.wf u100 hm95.sq (fun _ _ => rfl) (at_ := #[57, 57]) rfl rfl (by kernel_rfl) (by kernel_rfl) (by decide) (by have := g101; first | omega | (simp only [List.length_cons, List.length_nil] at this ⊢; omega) | (simp at this ⊢; omega))
   obtain ⟨a110, n111, c112, rfl⟩ := hm107.form
   refine s_ek (.slice a110 n111 c112) (by kernel_rfl) (q109) ?_
   refine s_qk (.pointer (some ⟨b21, 1, none⟩)) (by kernel_rfl) ?_
   have u118 := ((u89.ext e93).frS e106 (i59.djn (r25.ltF.le e29.next)))
   obtain ⟨H114, q115, e116, r117⟩ := Row.store (P := Try.prog) (t := 57) (p := 1) e106.wf u118 (.slice a110 n111 c112) [.slice a110 n111 c112] (by kernel_rfl) (by kernel_rfl) (one_cons (hm107.one1) (one_nil)) (Nat.le_of_ble_eq_true (by kernel_rfl)) [.int .i64 N_, .slice a110 n111 c112] (by kernel_rfl)
   refine s_ek (undef) (by kernel_rfl) (map_ok q115) ?_
   refine s_nil ?_
   refine k74 _ _ ?_
   refine w_reg (by kernel_rfl) ?_
   obtain ⟨g119, r120⟩ := G_some r102
   refine s_w ((i0 + 1)) (k := .i64) (x := (i0 + 1)) (by kernel_rfl) (wrap64 (by have := g119; omega)) ?_
   refine s_qk (.int .i64 (i0 + 1)) (by kernel_rfl) ?_
   refine s_nil ?_
   have u121 := (hm107.fr e116 (Dj.symm (hf108.dj (i59.djn (r25.ltF.le e29.next)) (r25.ltF.le (ntr (ntr (ntr (ntr e29.next e52.next) e81.next) e87.next) e93.next)))))
   obtain rfl := Option.some.inj r120
   exact k66 n62 _ _ (Nat.lt_succ_self _) ⟨(i0 + 1), (c1 ++ [((gt Arcs i0).1, (gt Arcs i0).2.1, (gt Arcs i0).2.2)]), (.slice a110 n111 c112), f105, hn65, ⟨by kernel_rfl, by kernel_rfl, by kernel_rfl, by kernel_rfl, by kernel_rfl, trivial⟩, (FrS.step e29.wf (FrS.step e29.wf ((FrS.step e29.wf ((FrS.step e29.wf (FrS.refl (W := [b21]) e29.wf) e52 Inn.refl').extR e81) e87 (hb82.fresh e52.next)).extR e93) e106 (i59.fresh (Nat.le_refl _))) e116 Inn.refl'), u121, r117, (Inn.trans (i59.fresh (Nat.le_refl _)) (ntr (ntr (ntr e52.next e81.next) e87.next) e93.next) hf108)⟩
  ·have r122 := ite_f h72 hz64
   refine w_exit (th_exit (th_exit (bl_eq ?_)))
   obtain rfl := Option.some.inj r122
   obtain rfl := it_inr hn65
   exact k47 _ _ ⟨(.slice a67 n68 c69), f56, ⟨by kernel_rfl, by kernel_rfl, trivial⟩, (FrS.step e29.wf (FrS.refl (W := [b21]) e29.wf) e52 Inn.refl'), m54, m58, (i59.fresh (Nat.le_refl _))⟩
 ·obtain ⟨s42, f43, hh48, e39, m41, m45, i46⟩ := hM
  obtain ⟨β, rfl⟩ := has_ex hh48
  clear hh48
  obtain ⟨a123, n124, c125, rfl⟩ := m41.form
  refine k31 _ _ ?_
  refine w_seqk fun K126 k126 => ?_
  refine w_reg (by kernel_rfl) ?_
  refine s_ql (.agg #[.int .i64 N_, .slice a123 n124 c125]) (x := aLoad Try.prog 59 (.pointer (some ⟨b21, 0, none⟩)) H38) (by kernel_rfl) (m45.ld (by kernel_rfl)) ?_
  have u131 := (((r17.ext e23).frS e29 (hb24.djn r17.ltF)).frS e39 (hb24.djn r17.ltF))
  obtain ⟨H127, q128, e129, r130⟩ := Row.store (P := Try.prog) (t := 59) (p := 0) e39.wf u131 (.agg #[.int .i64 N_, .slice a123 n124 c125]) [.int .i64 N_, .slice a123 n124 c125] (by kernel_rfl) (by kernel_rfl) (one_cons (rfl) (one_cons (m41.one1) (one_nil))) (Nat.le_of_ble_eq_true (by kernel_rfl)) [.int .i64 N_, .slice a123 n124 c125] (by kernel_rfl)
  refine s_ek (undef) (by kernel_rfl) (map_ok q128) ?_
  refine s_nil ?_
  refine k126 _ _ ?_
  refine w_ret ?_
  refine b_ret (fn := Try.f85) (vs := [.agg #[.int .i64 N_, .slice a123 n124 c125]]) (aRes_cell (Eq.trans (b := aLoad Try.prog 59 (.pointer (some ⟨b13, 0, none⟩)) H127) (by kernel_rfl) (r130.ld (by kernel_rfl))) (rfl)) ?_
  have u132 := (m41.fr e129 (Dj.symm (i46.djn (r17.ltF.le (ntr e23.next e29.next)))))
  obtain rfl := Option.some.inj r37
  exact ⟨(.slice a123 n124 c125), f43, rfl, (FrS.step wf (FrS.step wf (FrS.step wf ((((FrS.refl (W := []) wf).extR e9).extR e15).extR e23) e29 (hb24.fresh (ntr e9.next e15.next))) e39 (hb24.fresh (ntr e9.next e15.next))) e129 (hb16.fresh e9.next)), u132, (i46.fresh (ntr (ntr (ntr e9.next e15.next) e23.next) e29.next))⟩

theorem c_viaductref04_DocMerge {H : AH} {hd_Arcs : Value} {fp_Arcs : Fp} {N_ : Int} {Arcs : List (Int × Int × Int)} {N_2 : Int} {r : Int × List (Int × Int × Int) × Int × List (Int × Int)}
  (wf : WF H) (h_Arcs : Sq enc_i64_i64_i64 3 H hd_Arcs Arcs fp_Arcs) (hr : z_viaductref04_DocMerge N_ Arcs N_2 = some r) :
  ACalls Try.prog 32 #[.agg #[.int .i64 N_, hd_Arcs], .agg #[.int .i64 N_2, hd_Arcs]] H fun v H' => ∃ (s3 : Value) (f4 : Fp) (s7 : Value) (f8 : Fp), v = .tuple #[.agg #[.int .i64 r.1, s3], .agg #[.int .i64 r.2.2.1, s7]] ∧ FrS [] H H' ∧ Ow enc_i64_i64_i64 3 H' s3 r.2.1 f4 ∧ Sq enc_i64_i64 2 H' s7 r.2.2.2 f8 ∧ Inn [] H f4 ∧ Inn [] H f8 ∧ Dj f4 f8 := by
 refine acalls_of_body mixed Try.func32 rfl (Nat.le_of_ble_eq_true rfl) ?_
 unfold z_viaductref04_DocMerge at hr
 refine w_seqk fun K12 k12 => ?_
 refine w_reg (by kernel_rfl) ?_
 refine s_rwl wf [.int .i64 N_, hd_Arcs] (one_cons (rfl) (one_cons (h_Arcs.one1) (one_nil))) (by kernel_rfl) fun b13 H14 e15 hb16 r17 => ?_
 have u24 := (h_Arcs.ext e15)
 refine s_rwl e15.wf [.int .i64 N_2, hd_Arcs] (one_cons (rfl) (one_cons (u24.one1) (one_nil))) (by kernel_rfl) fun b19 H20 e21 hb22 r23 => ?_
 refine s_rwk e21.wf [.int .i64 0, .slice none 0 0] (by kernel_rfl) fun b26 H27 e28 hb29 r30 => ?_
 refine s_rwk e28.wf [.int .i64 0, .slice none 0 0] (by kernel_rfl) fun b32 H33 e34 hb35 r36 => ?_
 refine s_nil ?_
 refine k12 _ _ ?_
 refine w_seqk fun K38 k38 => ?_
 refine w_draw [0, 2, 6, 1, 3, 4, 5, 7] (by kernel_rfl) ?_
 have u39 := (((r17.ext e21).ext e28).ext e34)
 refine d_ql (.agg #[.int .i64 N_, hd_Arcs]) (x := aLoad Try.prog 59 (.pointer (some ⟨b13, 0, none⟩)) H33) (by kernel_rfl) (u39.ld (by kernel_rfl)) ?_
 have u40 := ((r23.ext e28).ext e34)
 refine d_fl (.agg #[.int .i64 N_2, hd_Arcs]) (x := aLoad Try.prog 59 (.pointer (some ⟨b19, 0, none⟩)) H33) (by kernel_rfl) (u40.ld (by kernel_rfl)) ?_
 refine d_rwk e34.wf [.int .i64 0, .slice none 0 0] (by kernel_rfl) fun b41 H42 e43 hb44 r45 => ?_
 have u47 := ((((u24.ext e21).ext e28).ext e34).ext e43)
 obtain ⟨y48, hy49, r50⟩ := bind_some hr
 refine d_ck 81 #[.agg #[.int .i64 N_, hd_Arcs]] (by kernel_rfl) (c_viaductref03_DocCheck e43.wf u47 hy49) ?_
 rintro _ H53 ⟨s51, f52, rfl, e54, m55, i56⟩
 obtain ⟨a58, n59, c60, rfl⟩ := m55.form
 have u61 := ((u40.ext e43).frS e54 Dj.nil_l)
 refine ⟨st_ql (y := aLoad Try.prog 59 (.pointer (some ⟨b19, 0, none⟩)) H53) (by kernel_rfl) (u61.ld (by kernel_rfl)) (st_nil), ?_⟩
 have u62 := (u47.fr e54 Dj.nil_l)
 obtain ⟨y63, hy64, r65⟩ := bind_some r50
 refine d_ck 81 #[.agg #[.int .i64 N_2, hd_Arcs]] (by kernel_rfl) (c_viaductref03_DocCheck e54.wf u62 hy64) ?_
 rintro _ H68 ⟨s66, f67, rfl, e69, m70, i71⟩
 obtain ⟨a73, n74, c75, rfl⟩ := m70.form
 refine ⟨st_anc (by kernel_rfl) (st_nil), ?_⟩
 have u81 := (m55.fr e69 Dj.nil_l)
 refine d_lsl e69.wf [.int .i64 y48.1, .slice a58 n59 c60, .int .i64 y63.1, .slice a73 n74 c75] 2 (one_cons (rfl) (one_cons (u81.one1) (one_cons (rfl) (one_cons (m70.one1) (one_nil))))) (by kernel_rfl) fun b76 H77 e78 hb79 r80 => ?_
 have u83 := (u81.ext e78)
 have u84 := (m70.ext e78)
 obtain ⟨y85, hy86, r87⟩ := bind_some r65
 refine d_ck 84 #[.slice (some ⟨b76, 0, none⟩) 2 2] (by kernel_rfl) (c_viaductref01_First e78.wf u83.sq u84.sq r80 hy86) ?_
 rintro _ H90 ⟨s88, f89, rfl, e91, m92, i93⟩
 obtain ⟨a95, n96, c97, rfl⟩ := m92.form
 refine ⟨st_anc (by kernel_rfl) (st_nil), ?_⟩
 have u102 := ((((r45.frS e54 Dj.nil_l).frS e69 Dj.nil_l).ext e78).frS e91 Dj.nil_l)
 obtain ⟨H98, q99, e100, r101⟩ := Row.store (P := Try.prog) (t := 46) (p := 0) e91.wf u102 (.agg #[.int .i64 y85.1, .slice a95 n96 c97]) [.int .i64 y85.1, .slice a95 n96 c97] (by kernel_rfl) (by kernel_rfl) (one_cons (rfl) (one_cons (m92.one1) (one_nil))) (Nat.le_of_ble_eq_true (by kernel_rfl)) [.int .i64 y85.1, .slice a95 n96 c97] (by kernel_rfl)
 refine d_ek (undef) (by kernel_rfl) (map_ok q99) (st_anc (by kernel_rfl) (st_nil)) ?_
 refine d_nil ?_
 refine k38 _ _ ?_
 refine w_seqk fun K103 k103 => ?_
 refine w_block ?_
 refine w_seqk fun K104 k104 => ?_
 refine w_reg (by kernel_rfl) ?_
 refine s_ql (.agg #[.int .i64 y85.1, .slice a95 n96 c97]) (x := aLoad Try.prog 46 (.pointer (some ⟨b41, 0, none⟩)) H98) (by kernel_rfl) (r101.ld (by kernel_rfl)) ?_
 have u105 := (m92.fr e100 (Dj.symm (i93.dj (Dj.app (i56.djn r45.ltF) (i71.djn (r45.ltF.le e54.next))) (r45.ltF.le (ntr (ntr e54.next e69.next) e78.next)))))
 obtain ⟨y106, hy107, r108⟩ := bind_some r87
 refine s_ck 56 #[.agg #[.int .i64 y85.1, .slice a95 n96 c97]] (by kernel_rfl) (c_viaductref01_Err_Bad e100.wf u105 hy107) ?_
 rintro _ H109 ⟨rfl, e110⟩
 refine s_qk (.bool y106) (by kernel_rfl) ?_
 refine s_nil ?_
 refine k104 _ _ ?_
 refine w_cond (y106) (by kernel_rfl) rfl (fun h111 => ?_) (fun h111 => ?_)
 ·have r112 := ite_t h111 r108
  refine w_seqk fun K113 k113 => ?_
  refine w_draw [0, 1, 2, 3] (by kernel_rfl) ?_
  refine d_qk (.agg #[.int .i64 0, .slice none 0 0]) (by kernel_rfl) ?_
  have u114 := (r101.frS e110 Dj.nil_l)
  refine d_fl (.agg #[.int .i64 y85.1, .slice a95 n96 c97]) (x := aLoad Try.prog 46 (.pointer (some ⟨b41, 0, none⟩)) H109) (by kernel_rfl) (u114.ld (by kernel_rfl)) ?_
  have u119 := ((((((((r30.ext e34).ext e43).frS e54 Dj.nil_l).frS e69 Dj.nil_l).ext e78).frS e91 Dj.nil_l).frS e100 (hb44.djn (r30.ltF.le e34.next))).frS e110 Dj.nil_l)
  obtain ⟨H115, q116, e117, r118⟩ := Row.store (P := Try.prog) (t := 59) (p := 0) e110.wf u119 (.agg #[.int .i64 0, .slice none 0 0]) [.int .i64 0, .slice none 0 0] (by kernel_rfl) (by kernel_rfl) (one_cons (rfl) (one_cons (rfl) (one_nil))) (Nat.le_of_ble_eq_true (by kernel_rfl)) [.int .i64 0, .slice none 0 0] (by kernel_rfl)
  have u120 := (u114.frS e117 (Dj.symm (hb44.djn (r30.ltF.le e34.next))))
  refine d_ek (undef) (by kernel_rfl) (map_ok q116) (st_ql (y := aLoad Try.prog 46 (.pointer (some ⟨b41, 0, none⟩)) H115) (by kernel_rfl) (u120.ld (by kernel_rfl)) (st_nil)) ?_
  have u125 := ((((((((r36.ext e43).frS e54 Dj.nil_l).frS e69 Dj.nil_l).ext e78).frS e91 Dj.nil_l).frS e100 (hb44.djn r36.ltF)).frS e110 Dj.nil_l).frS e117 (Dj.symm (hb35.djn r30.ltF)))
  have u126 := ((u105.fr e110 Dj.nil_l).fr e117 (Dj.symm (i93.dj (Dj.app (i56.djn (r30.ltF.le (ntr e34.next e43.next))) (i71.djn (r30.ltF.le (ntr (ntr e34.next e43.next) e54.next)))) (r30.ltF.le (ntr (ntr (ntr (ntr e34.next e43.next) e54.next) e69.next) e78.next)))))
  obtain ⟨H121, q122, e123, r124⟩ := Row.store (P := Try.prog) (t := 46) (p := 0) e117.wf u125 (.agg #[.int .i64 y85.1, .slice a95 n96 c97]) [.int .i64 y85.1, .slice a95 n96 c97] (by kernel_rfl) (by kernel_rfl) (one_cons (rfl) (one_cons (u126.one1) (one_nil))) (Nat.le_of_ble_eq_true (by kernel_rfl)) [.int .i64 y85.1, .slice a95 n96 c97] (by kernel_rfl)
  refine d_ek (undef) (by kernel_rfl) (map_ok q122) (st_anc (by kernel_rfl) (st_nil)) ?_
  refine d_nil ?_
  refine k113 _ _ ?_
  refine w_ret (bl_ret (th_ret ?_))
  have u127 := (r118.frS e123 (hb35.djn r30.ltF))
  refine b_ret (fn := Try.f32) (vs := [.agg #[.int .i64 0, .slice none 0 0], .agg #[.int .i64 y85.1, .slice a95 n96 c97]]) (aRes_cell (Eq.trans (b := aLoad Try.prog 59 (.pointer (some ⟨b26, 0, none⟩)) H121) (by kernel_rfl) (u127.ld (by kernel_rfl))) (aRes_cell (Eq.trans (b := aLoad Try.prog 46 (.pointer (some ⟨b32, 0, none⟩)) H121) (by kernel_rfl) (r124.ld (by kernel_rfl))) (rfl))) ?_
  have u128 := (u126.fr e123 (Dj.symm (i93.dj (Dj.app (i56.djn (r36.ltF.le e43.next)) (i71.djn (r36.ltF.le (ntr e43.next e54.next)))) (r36.ltF.le (ntr (ntr (ntr e43.next e54.next) e69.next) e78.next)))))
  obtain rfl := Option.some.inj r112
  exact ⟨(.slice none 0 0), [], (.slice a95 n96 c97), f89, rfl, (FrS.step wf (FrS.step wf (FrS.step wf (FrS.step wf (FrS.step wf ((FrS.step wf (FrS.step wf ((((((FrS.refl (W := []) wf).extR e15).extR e21).extR e28).extR e34).extR e43) e54 Inn.nil) e69 Inn.nil).extR e78) e91 Inn.nil) e100 (hb44.fresh (ntr (ntr (ntr e15.next e21.next) e28.next) e34.next))) e110 Inn.nil) e117 (hb29.fresh (ntr e15.next e21.next))) e123 (hb35.fresh (ntr (ntr e15.next e21.next) e28.next))), (Ow.nil (by decide)), u128, Inn.nil, (Inn.trans (Inn.app (i56.fresh (ntr (ntr (ntr (ntr e15.next e21.next) e28.next) e34.next) e43.next)) (i71.fresh (ntr (ntr (ntr (ntr (ntr e15.next e21.next) e28.next) e34.next) e43.next) e54.next))) (ntr (ntr (ntr (ntr (ntr (ntr (ntr e15.next e21.next) e28.next) e34.next) e43.next) e54.next) e69.next) e78.next) i93), Dj.nil_l⟩
 ·have r129 := ite_bf h111 r108
  refine w_seqk fun K130 k130 => ?_
  refine w_reg (by kernel_rfl) ?_
  refine s_qk (.pointer (some ⟨b13, 0, none⟩)) (by kernel_rfl) ?_
  have u131 := (((((((u39.ext e43).frS e54 Dj.nil_l).frS e69 Dj.nil_l).ext e78).frS e91 Dj.nil_l).frS e100 (hb44.djn (r17.ltF.le (ntr (ntr e21.next e28.next) e34.next)))).frS e110 Dj.nil_l)
  refine s_ql (.int .i64 N_) (x := aLoad Try.prog 3 (.pointer (some ⟨b13, 0, none⟩)) H109) (by kernel_rfl) (u131.ld (by kernel_rfl)) ?_
  refine s_qk (.pointer (some ⟨b19, 0, none⟩)) (by kernel_rfl) ?_
  have u132 := (((((u61.frS e69 Dj.nil_l).ext e78).frS e91 Dj.nil_l).frS e100 (hb44.djn (r23.ltF.le (ntr e28.next e34.next)))).frS e110 Dj.nil_l)
  refine s_ql (.int .i64 N_2) (x := aLoad Try.prog 3 (.pointer (some ⟨b19, 0, none⟩)) H109) (by kernel_rfl) (u132.ld (by kernel_rfl)) ?_
  refine s_qk (.bool (!decide (N_ = N_2))) (by kernel_rfl) ?_
  refine s_qk (.bool (!decide (N_ = N_2))) (by kernel_rfl) ?_
  refine s_nil ?_
  refine k130 _ _ ?_
  refine w_condn (N_ = N_2) (by kernel_rfl) rfl (fun h133 => ?_) (fun h133 => ?_)
  ·have r134 := ite_f h133 r129
   refine w_seqk fun K135 k135 => ?_
   refine w_reg (by kernel_rfl) ?_
   refine s_qk (.agg #[.int .i64 0, .slice none 0 0]) (by kernel_rfl) ?_
   obtain ⟨y136, hy137, r138⟩ := bind_some r134
   refine s_ck 70 #[.int .i64 1] (by kernel_rfl) (c_viaductref01_E e110.wf hy137) ?_
   rintro _ H139 ⟨rfl, e140⟩
   have u145 := (((((((((r30.ext e34).ext e43).frS e54 Dj.nil_l).frS e69 Dj.nil_l).ext e78).frS e91 Dj.nil_l).frS e100 (hb44.djn (r30.ltF.le e34.next))).frS e110 Dj.nil_l).frS e140 Dj.nil_l)
   obtain ⟨H141, q142, e143, r144⟩ := Row.store (P := Try.prog) (t := 59) (p := 0) e140.wf u145 (.agg #[.int .i64 0, .slice none 0 0]) [.int .i64 0, .slice none 0 0] (by kernel_rfl) (by kernel_rfl) (one_cons (rfl) (one_cons (rfl) (one_nil))) (Nat.le_of_ble_eq_true (by kernel_rfl)) [.int .i64 0, .slice none 0 0] (by kernel_rfl)
   refine s_ek (undef) (by kernel_rfl) (map_ok q142) ?_
   have u150 := (((((((((r36.ext e43).frS e54 Dj.nil_l).frS e69 Dj.nil_l).ext e78).frS e91 Dj.nil_l).frS e100 (hb44.djn r36.ltF)).frS e110 Dj.nil_l).frS e140 Dj.nil_l).frS e143 (Dj.symm (hb35.djn r30.ltF)))
   obtain ⟨H146, q147, e148, r149⟩ := Row.store (P := Try.prog) (t := 46) (p := 0) e143.wf u150 (.agg #[.int .i64 y136, .slice none 0 0]) [.int .i64 y136, .slice none 0 0] (by kernel_rfl) (by kernel_rfl) (one_cons (rfl) (one_cons (rfl) (one_nil))) (Nat.le_of_ble_eq_true (by kernel_rfl)) [.int .i64 y136, .slice none 0 0] (by kernel_rfl)
   refine s_ek (undef) (by kernel_rfl) (map_ok q147) ?_
   refine s_nil ?_
   refine k135 _ _ ?_
   refine w_ret (bl_ret (th_ret ?_))
   have u151 := (r144.frS e148 (hb35.djn r30.ltF))
   refine b_ret (fn := Try.f32) (vs := [.agg #[.int .i64 0, .slice none 0 0], .agg #[.int .i64 y136, .slice none 0 0]]) (aRes_cell (Eq.trans (b := aLoad Try.prog 59 (.pointer (some ⟨b26, 0, none⟩)) H146) (by kernel_rfl) (u151.ld (by kernel_rfl))) (aRes_cell (Eq.trans (b := aLoad Try.prog 46 (.pointer (some ⟨b32, 0, none⟩)) H146) (by kernel_rfl) (r149.ld (by kernel_rfl))) (rfl))) ?_
   obtain rfl := Option.some.inj r138
   exact ⟨(.slice none 0 0), [], (.slice none 0 0), [], rfl, (FrS.step wf (FrS.step wf (FrS.step wf (FrS.step wf (FrS.step wf (FrS.step wf ((FrS.step wf (FrS.step wf ((((((FrS.refl (W := []) wf).extR e15).extR e21).extR e28).extR e34).extR e43) e54 Inn.nil) e69 Inn.nil).extR e78) e91 Inn.nil) e100 (hb44.fresh (ntr (ntr (ntr e15.next e21.next) e28.next) e34.next))) e110 Inn.nil) e140 Inn.nil) e143 (hb29.fresh (ntr e15.next e21.next))) e148 (hb35.fresh (ntr (ntr e15.next e21.next) e28.next))), (Ow.nil (by decide)), (Sq.nil (by decide)), Inn.nil, Inn.nil, Dj.nil_l⟩
  ·have r152 := ite_t h133 r129
   refine w_seqk fun K153 k153 => ?_
   refine w_reg (by kernel_rfl) ?_
   refine s_qk (.pointer (some ⟨b13, 1, none⟩)) (by kernel_rfl) ?_
   refine s_ql (hd_Arcs) (x := aLoad Try.prog 57 (.pointer (some ⟨b13, 1, none⟩)) H109) (by kernel_rfl) (u131.ld (by kernel_rfl)) ?_
   have u154 := (((((u62.fr e69 Dj.nil_l).ext e78).fr e91 Dj.nil_l).fr e100 (hb44.djn (h_Arcs.lt.le (ntr (ntr (ntr e15.next e21.next) e28.next) e34.next)))).fr e110 Dj.nil_l)
   refine s_ql (.int .i64 (Arcs.length : Int)) (x := aLen Try.prog 57 hd_Arcs H109) (by kernel_rfl) (u154.lenb (by kernel_rfl)) ?_
   refine s_qk (.pointer (some ⟨b19, 1, none⟩)) (by kernel_rfl) ?_
   refine s_ql (hd_Arcs) (x := aLoad Try.prog 57 (.pointer (some ⟨b19, 1, none⟩)) H109) (by kernel_rfl) (u132.ld (by kernel_rfl)) ?_
   refine s_ql (.int .i64 (Arcs.length : Int)) (x := aLen Try.prog 57 hd_Arcs H109) (by kernel_rfl) (u154.lenb (by kernel_rfl)) ?_
   obtain ⟨g155, r156⟩ := G_some r152
   refine s_w (((Arcs.length : Int) + (Arcs.length : Int))) (k := .i64) (x := ((Arcs.length : Int) + (Arcs.length : Int))) (by kernel_rfl) (wrap64 g155) ?_
   refine s_qk (.bool (decide (((Arcs.length : Int) + (Arcs.length : Int)) > 262144))) (by kernel_rfl) ?_
   refine s_qk (.bool (decide (((Arcs.length : Int) + (Arcs.length : Int)) > 262144))) (by kernel_rfl) ?_
   refine s_nil ?_
   refine k153 _ _ ?_
   refine w_condp (((Arcs.length : Int) + (Arcs.length : Int)) > 262144) (by kernel_rfl) rfl (fun h157 => ?_) (fun h157 => ?_)
   ·have r158 := ite_t h157 r156
    refine w_seqk fun K159 k159 => ?_
    refine w_reg (by kernel_rfl) ?_
    refine s_qk (.agg #[.int .i64 0, .slice none 0 0]) (by kernel_rfl) ?_
    obtain ⟨y160, hy161, r162⟩ := bind_some r158
    refine s_ck 70 #[.int .i64 9] (by kernel_rfl) (c_viaductref01_E e110.wf hy161) ?_
    rintro _ H163 ⟨rfl, e164⟩
    have u169 := (((((((((r30.ext e34).ext e43).frS e54 Dj.nil_l).frS e69 Dj.nil_l).ext e78).frS e91 Dj.nil_l).frS e100 (hb44.djn (r30.ltF.le e34.next))).frS e110 Dj.nil_l).frS e164 Dj.nil_l)
    obtain ⟨H165, q166, e167, r168⟩ := Row.store (P := Try.prog) (t := 59) (p := 0) e164.wf u169 (.agg #[.int .i64 0, .slice none 0 0]) [.int .i64 0, .slice none 0 0] (by kernel_rfl) (by kernel_rfl) (one_cons (rfl) (one_cons (rfl) (one_nil))) (Nat.le_of_ble_eq_true (by kernel_rfl)) [.int .i64 0, .slice none 0 0] (by kernel_rfl)
    refine s_ek (undef) (by kernel_rfl) (map_ok q166) ?_
    have u174 := (((((((((r36.ext e43).frS e54 Dj.nil_l).frS e69 Dj.nil_l).ext e78).frS e91 Dj.nil_l).frS e100 (hb44.djn r36.ltF)).frS e110 Dj.nil_l).frS e164 Dj.nil_l).frS e167 (Dj.symm (hb35.djn r30.ltF)))
    obtain ⟨H170, q171, e172, r173⟩ := Row.store (P := Try.prog) (t := 46) (p := 0) e167.wf u174 (.agg #[.int .i64 y160, .slice none 0 0]) [.int .i64 y160, .slice none 0 0] (by kernel_rfl) (by kernel_rfl) (one_cons (rfl) (one_cons (rfl) (one_nil))) (Nat.le_of_ble_eq_true (by kernel_rfl)) [.int .i64 y160, .slice none 0 0] (by kernel_rfl)
    refine s_ek (undef) (by kernel_rfl) (map_ok q171) ?_
    refine s_nil ?_
    refine k159 _ _ ?_
    refine w_ret (bl_ret (th_ret ?_))
    have u175 := (r168.frS e172 (hb35.djn r30.ltF))
    refine b_ret (fn := Try.f32) (vs := [.agg #[.int .i64 0, .slice none 0 0], .agg #[.int .i64 y160, .slice none 0 0]]) (aRes_cell (Eq.trans (b := aLoad Try.prog 59 (.pointer (some ⟨b26, 0, none⟩)) H170) (by kernel_rfl) (u175.ld (by kernel_rfl))) (aRes_cell (Eq.trans (b := aLoad Try.prog 46 (.pointer (some ⟨b32, 0, none⟩)) H170) (by kernel_rfl) (r173.ld (by kernel_rfl))) (rfl))) ?_
    obtain rfl := Option.some.inj r162
    exact ⟨(.slice none 0 0), [], (.slice none 0 0), [], rfl, (FrS.step wf (FrS.step wf (FrS.step wf (FrS.step wf (FrS.step wf (FrS.step wf ((FrS.step wf (FrS.step wf ((((((FrS.refl (W := []) wf).extR e15).extR e21).extR e28).extR e34).extR e43) e54 Inn.nil) e69 Inn.nil).extR e78) e91 Inn.nil) e100 (hb44.fresh (ntr (ntr (ntr e15.next e21.next) e28.next) e34.next))) e110 Inn.nil) e164 Inn.nil) e167 (hb29.fresh (ntr e15.next e21.next))) e172 (hb35.fresh (ntr (ntr e15.next e21.next) e28.next))), (Ow.nil (by decide)), (Sq.nil (by decide)), Inn.nil, Inn.nil, Dj.nil_l⟩
   ·have r176 := ite_f h157 r156
    refine w_skip ?_
    refine k103 _ _ ?_
    refine w_seqk fun K177 k177 => ?_
    refine w_reg (by kernel_rfl) ?_
    refine s_ql (.agg #[.int .i64 N_, hd_Arcs]) (x := aLoad Try.prog 59 (.pointer (some ⟨b13, 0, none⟩)) H109) (by kernel_rfl) (u131.ld (by kernel_rfl)) ?_
    obtain ⟨y178, hy179, r180⟩ := bind_some r176
    refine s_ck 85 #[.agg #[.int .i64 N_, hd_Arcs]] (by kernel_rfl) (c_viaductref03_Twin e110.wf u154 hy179) ?_
    rintro _ H183 ⟨s181, f182, rfl, e184, m185, i186⟩
    obtain ⟨a188, n189, c190, rfl⟩ := m185.form
    refine s_rwk e184.wf [.int .i64 0, .slice none 0 0] (by kernel_rfl) fun b191 H192 e193 hb194 r195 => ?_
    have u201 := (m185.ext e193)
    obtain ⟨H197, q198, e199, r200⟩ := Row.store (P := Try.prog) (t := 59) (p := 0) e193.wf r195 (.agg #[.int .i64 y178.1, .slice a188 n189 c190]) [.int .i64 y178.1, .slice a188 n189 c190] (by kernel_rfl) (by kernel_rfl) (one_cons (rfl) (one_cons (u201.one1) (one_nil))) (Nat.le_of_ble_eq_true (by kernel_rfl)) [.int .i64 y178.1, .slice a188 n189 c190] (by kernel_rfl)
    refine s_ek (undef) (by kernel_rfl) (map_ok q198) ?_
    refine s_nil ?_
    refine k177 _ _ ?_
    refine w_seqk fun K202 k202 => ?_
    refine w_seqk fun K203 k203 => ?_
    refine w_reg (by kernel_rfl) ?_
    refine s_qk (.pointer (some ⟨b19, 1, none⟩)) (by kernel_rfl) ?_
    have u204 := (((u132.frS e184 Dj.nil_l).ext e193).frS e199 (hb194.djn (r23.ltF.le (ntr (ntr (ntr (ntr (ntr (ntr (ntr (ntr (ntr e28.next e34.next) e43.next) e54.next) e69.next) e78.next) e91.next) e100.next) e110.next) e184.next))))
    refine s_ql (hd_Arcs) (x := aLoad Try.prog 57 (.pointer (some ⟨b19, 1, none⟩)) H197) (by kernel_rfl) (u204.ld (by kernel_rfl)) ?_
    have u205 := (((u154.fr e184 Dj.nil_l).ext e193).fr e199 (hb194.djn (h_Arcs.lt.le (ntr (ntr (ntr (ntr (ntr (ntr (ntr (ntr (ntr (ntr (ntr e15.next e21.next) e28.next) e34.next) e43.next) e54.next) e69.next) e78.next) e91.next) e100.next) e110.next) e184.next))))
    refine s_ql (.int .i64 (Arcs.length : Int)) (x := aLen Try.prog 57 hd_Arcs H197) (by kernel_rfl) (u205.lenb (by kernel_rfl)) ?_
    refine s_qk (.int .i64 0) (by kernel_rfl) ?_
    refine s_nil ?_
    refine k203 _ _ ?_
    obtain ⟨o206, hx207, r208⟩ := bind_some r180
    refine w_mid (fun α H209 => ∃ (s213 : Value) (f214 : Fp), Has α [(4, .pointer (some ⟨b26, 0, none⟩)), (5, .pointer (some ⟨b32, 0, none⟩)), (7, .pointer (some ⟨b191, 0, none⟩))] ∧ FrS ([b191] ++ f182) H197 H209 ∧ Ow enc_i64_i64_i64 3 H209 s213 o206 f214 ∧ Row H209 b191 [.int .i64 y178.1, s213] ∧ Inn f182 H197 f214) (fun K218 k218 => ?_) (fun α H209 hM => ?_)
    ·refine w_block ?_
     obtain ⟨n220, hn221⟩ := loopO_iff.1 hx207
     have u237 := (u201.fr e199 (hb194.djn m185.lt))
     refine w_loopn (fun n α H222 => ∃ (i0 : Int), ∃ (c1 : List (Int × Int × Int)), ∃ (s226 : Value), ∃ (f227 : Fp), iterO (fun zz_ => z_viaductref04_DocMerge_l0 Arcs zz_.1 zz_.2) n (i0, c1) = some o206 ∧ Has α [(4, .pointer (some ⟨b26, 0, none⟩)), (5, .pointer (some ⟨b32, 0, none⟩)), (7, .pointer (some ⟨b191, 0, none⟩)), (43, hd_Arcs), (44, .int .i64 (Arcs.length : Int)), (45, .int .i64 i0)] ∧ FrS ([b191] ++ f182) H197 H222 ∧ Ow enc_i64_i64_i64 3 H222 s226 c1 f227 ∧ Row H222 b191 [.int .i64 y178.1, s226] ∧ Inn f182 H197 f227) n220 ⟨0, y178.2, (.slice a188 n189 c190), f182, hn221, ⟨by kernel_rfl, by kernel_rfl, by kernel_rfl, by kernel_rfl, by kernel_rfl, by kernel_rfl, trivial⟩, (FrS.refl (W := ([b191] ++ f182)) e199.wf), u237, r200, Inn.refl'⟩ ?_
     rintro n220 α H222 ⟨i0, c1, s226, f227, hi232, hh231, e223, m225, m229, i230⟩ K238 k238
     obtain ⟨n233, z234, rfl, hz235, hn236⟩ := iter_succ hi232
     obtain ⟨β, rfl⟩ := has_ex hh231
     clear hh231
     replace hz235 : z_viaductref04_DocMerge_l0 Arcs i0 c1 = some z234 := hz235
     unfold z_viaductref04_DocMerge_l0 at hz235
     obtain ⟨a239, n240, c241, rfl⟩ := m225.form
     refine w_seqk fun K242 k242 => ?_
     refine w_reg (by kernel_rfl) ?_
     refine s_qk (.bool (decide (i0 < (Arcs.length : Int)))) (by kernel_rfl) ?_
     refine s_nil ?_
     refine k242 _ _ ?_
     refine w_seqk fun K243 k243 => ?_
     refine w_condp (i0 < (Arcs.length : Int)) (by kernel_rfl) rfl (fun h244 => ?_) (fun h244 => ?_)
     ·have r245 := ite_t h244 hz235
      refine w_skip ?_
      refine k243 _ _ ?_
      refine w_seqk fun K246 k246 => ?_
      refine w_block ?_
      refine w_seqk fun K247 k247 => ?_
      refine w_reg (by kernel_rfl) ?_
      obtain ⟨g248, r249⟩ := G_some r245
      have u250 := (u205.fr e223 (Dj.app (hb194.djn (h_Arcs.lt.le (ntr (ntr (ntr (ntr (ntr (ntr (ntr (ntr (ntr (ntr (ntr e15.next e21.next) e28.next) e34.next) e43.next) e54.next) e69.next) e78.next) e91.next) e100.next) e110.next) e184.next))) (i186.djn (h_Arcs.lt.le (ntr (ntr (ntr (ntr (ntr (ntr (ntr (ntr (ntr (ntr e15.next e21.next) e28.next) e34.next) e43.next) e54.next) e69.next) e78.next) e91.next) e100.next) e110.next)))))
      refine s_ql (elp hd_Arcs 3 i0.toNat 0) (x := aIndexAddr Try.prog 57 hd_Arcs (.int .i64 i0)) (by kernel_rfl) (u250.idxb (by kernel_rfl) g248 h244) ?_
      refine s_ql (.agg #[.int .i64 ((gt Arcs i0).1), .int .i64 ((gt Arcs i0).2.1), .int .i64 ((gt Arcs i0).2.2)]) (x := aLoad Try.prog 73 (elp hd_Arcs 3 i0.toNat 0) H222) (by kernel_rfl) (u250.ld g248 h244 (by kernel_rfl)) ?_
      refine s_rwk e223.wf [.int .i64 0, .int .i64 0, .int .i64 0] (by kernel_rfl) fun b251 H252 e253 hb254 r255 => ?_
      obtain ⟨H257, q258, e259, r260⟩ := Row.store (P := Try.prog) (t := 73) (p := 0) e253.wf r255 (.agg #[.int .i64 ((gt Arcs i0).1), .int .i64 ((gt Arcs i0).2.1), .int .i64 ((gt Arcs i0).2.2)]) [.int .i64 ((gt Arcs i0).1), .int .i64 ((gt Arcs i0).2.1), .int .i64 ((gt Arcs i0).2.2)] (by kernel_rfl) (by kernel_rfl) (one_cons (rfl) (one_cons (rfl) (one_cons (rfl) (one_nil)))) (Nat.le_of_ble_eq_true (by kernel_rfl)) [.int .i64 ((gt Arcs i0).1), .int .i64 ((gt Arcs i0).2.1), .int .i64 ((gt Arcs i0).2.2)] (by kernel_rfl)
      refine s_ek (undef) (by kernel_rfl) (map_ok q258) ?_
      refine s_nil ?_
      refine k247 _ _ ?_
      refine w_reg (by kernel_rfl) ?_
      refine s_qk (.pointer (some ⟨b191, 1, none⟩)) (by kernel_rfl) ?_
      have u261 := ((m229.ext e253).frS e259 (hb254.djn (r195.ltF.le (ntr e199.next e223.next))))
      refine s_ql (.slice a239 n240 c241) (x := aLoad Try.prog 57 (.pointer (some ⟨b191, 1, none⟩)) H257) (by kernel_rfl) (u261.ld (by kernel_rfl)) ?_
      refine s_ql (.agg #[.int .i64 ((gt Arcs i0).1), .int .i64 ((gt Arcs i0).2.1), .int .i64 ((gt Arcs i0).2.2)]) (x := aLoad Try.prog 73 (.pointer (some ⟨b251, 0, none⟩)) H257) (by kernel_rfl) (r260.ld (by kernel_rfl)) ?_
      refine s_owk (enc := enc_i64_i64_i64) (sz := 3) e259.wf [((gt Arcs i0).1, (gt Arcs i0).2.1, (gt Arcs i0).2.2)] 1 (by decide) (fun _ _ => rfl) (fun _ _ => rfl) rfl (by kernel_rfl) fun s262 f263 H264 e265 hf266 hm267 => ?_
      obtain ⟨a268, n269, c270, rfl⟩ := hm267.form
      have u272 := (((m225.ext e253).fr e259 (hb254.djn m225.lt)).ext e265)
      obtain ⟨g273, r274⟩ := G_some r249
      obtain ⟨s275, H276, f277, q281, e278, hm279, hf280⟩ := Ow.append (P := Try.prog) 24 e265.wf u272 hm267.sq (fun _ _ => rfl) (at_ := #[57, 57]) rfl rfl (by kernel_rfl) (by kernel_rfl) (by decide) (by have := g273; first | omega | (simp only [List.length_cons, List.length_nil] at this ⊢; omega) | (simp at this ⊢; omega))
      obtain ⟨a282, n283, c284, rfl⟩ := hm279.form
      refine s_ek (.slice a282 n283 c284) (by kernel_rfl) (q281) ?_
      refine s_qk (.pointer (some ⟨b191, 1, none⟩)) (by kernel_rfl) ?_
      have u290 := ((u261.ext e265).frS e278 (i230.dj (Dj.symm (hb194.djn m185.lt)) (r195.ltF.le e199.next)))
      obtain ⟨H286, q287, e288, r289⟩ := Row.store (P := Try.prog) (t := 57) (p := 1) e278.wf u290 (.slice a282 n283 c284) [.slice a282 n283 c284] (by kernel_rfl) (by kernel_rfl) (one_cons (hm279.one1) (one_nil)) (Nat.le_of_ble_eq_true (by kernel_rfl)) [.int .i64 y178.1, .slice a282 n283 c284] (by kernel_rfl)
      refine s_ek (undef) (by kernel_rfl) (map_ok q287) ?_
      refine s_nil ?_
      refine k246 _ _ ?_
      refine w_reg (by kernel_rfl) ?_
      obtain ⟨g291, r292⟩ := G_some r274
      refine s_w ((i0 + 1)) (k := .i64) (x := (i0 + 1)) (by kernel_rfl) (wrap64 (by have := g291; omega)) ?_
      refine s_qk (.int .i64 (i0 + 1)) (by kernel_rfl) ?_
      refine s_nil ?_
      have u293 := (hm279.fr e288 (Dj.symm (hf280.dj (i230.dj (Dj.symm (hb194.djn m185.lt)) (r195.ltF.le e199.next)) (r195.ltF.le (ntr (ntr (ntr (ntr e199.next e223.next) e253.next) e259.next) e265.next)))))
      obtain rfl := Option.some.inj r292
      exact k238 n233 _ _ (Nat.lt_succ_self _) ⟨(i0 + 1), (c1 ++ [((gt Arcs i0).1, (gt Arcs i0).2.1, (gt Arcs i0).2.2)]), (.slice a282 n283 c284), f277, hn236, ⟨by kernel_rfl, by kernel_rfl, by kernel_rfl, by kernel_rfl, by kernel_rfl, by kernel_rfl, trivial⟩, (FrS.step e199.wf (FrS.step e199.wf ((FrS.step e199.wf ((FrS.step e199.wf (FrS.refl (W := ([b191] ++ f182)) e199.wf) e223 (Inn.app Inn.left (Inn.right Inn.refl'))).extR e253) e259 (hb254.fresh e223.next)).extR e265) e278 (Inn.trans (Inn.right Inn.refl') (Nat.le_refl _) i230)) e288 Inn.left), u293, r289, (Inn.trans (Inn.trans Inn.refl' (Nat.le_refl _) i230) (ntr (ntr (ntr e223.next e253.next) e259.next) e265.next) hf280)⟩
     ·have r294 := ite_f h244 hz235
      refine w_exit (th_exit (th_exit (bl_eq ?_)))
      obtain rfl := Option.some.inj r294
      obtain rfl := it_inr hn236
      exact k218 _ _ ⟨(.slice a239 n240 c241), f227, ⟨by kernel_rfl, by kernel_rfl, by kernel_rfl, trivial⟩, (FrS.step e199.wf (FrS.refl (W := ([b191] ++ f182)) e199.wf) e223 (Inn.app Inn.left (Inn.right Inn.refl'))), m225, m229, (Inn.trans Inn.refl' (Nat.le_refl _) i230)⟩
    ·obtain ⟨s213, f214, hh219, e210, m212, m216, i217⟩ := hM
     obtain ⟨β, rfl⟩ := has_ex hh219
     clear hh219
     obtain ⟨a295, n296, c297, rfl⟩ := m212.form
     refine k202 _ _ ?_
     refine w_seqk fun K298 k298 => ?_
     refine w_reg (by kernel_rfl) ?_
     refine s_ql (.agg #[.int .i64 y178.1, .slice a295 n296 c297]) (x := aLoad Try.prog 59 (.pointer (some ⟨b191, 0, none⟩)) H209) (by kernel_rfl) (m216.ld (by kernel_rfl)) ?_
     refine s_qk (.agg #[.int .i64 0, .slice none 0 0]) (by kernel_rfl) ?_
     have u303 := ((((((((((((r30.ext e34).ext e43).frS e54 Dj.nil_l).frS e69 Dj.nil_l).ext e78).frS e91 Dj.nil_l).frS e100 (hb44.djn (r30.ltF.le e34.next))).frS e110 Dj.nil_l).frS e184 Dj.nil_l).ext e193).frS e199 (hb194.djn (r30.ltF.le (ntr (ntr (ntr (ntr (ntr (ntr (ntr (ntr e34.next e43.next) e54.next) e69.next) e78.next) e91.next) e100.next) e110.next) e184.next)))).frS e210 (Dj.app (hb194.djn (r30.ltF.le (ntr (ntr (ntr (ntr (ntr (ntr (ntr (ntr e34.next e43.next) e54.next) e69.next) e78.next) e91.next) e100.next) e110.next) e184.next))) (i186.djn (r30.ltF.le (ntr (ntr (ntr (ntr (ntr (ntr (ntr e34.next e43.next) e54.next) e69.next) e78.next) e91.next) e100.next) e110.next)))))
     obtain ⟨H299, q300, e301, r302⟩ := Row.store (P := Try.prog) (t := 59) (p := 0) e210.wf u303 (.agg #[.int .i64 y178.1, .slice a295 n296 c297]) [.int .i64 y178.1, .slice a295 n296 c297] (by kernel_rfl) (by kernel_rfl) (one_cons (rfl) (one_cons (m212.one1) (one_nil))) (Nat.le_of_ble_eq_true (by kernel_rfl)) [.int .i64 y178.1, .slice a295 n296 c297] (by kernel_rfl)
     refine s_ek (undef) (by kernel_rfl) (map_ok q300) ?_
     have u308 := ((((((((((((r36.ext e43).frS e54 Dj.nil_l).frS e69 Dj.nil_l).ext e78).frS e91 Dj.nil_l).frS e100 (hb44.djn r36.ltF)).frS e110 Dj.nil_l).frS e184 Dj.nil_l).ext e193).frS e199 (hb194.djn (r36.ltF.le (ntr (ntr (ntr (ntr (ntr (ntr (ntr e43.next e54.next) e69.next) e78.next) e91.next) e100.next) e110.next) e184.next)))).frS e210 (Dj.app (hb194.djn (r36.ltF.le (ntr (ntr (ntr (ntr (ntr (ntr (ntr e43.next e54.next) e69.next) e78.next) e91.next) e100.next) e110.next) e184.next))) (i186.djn (r36.ltF.le (ntr (ntr (ntr (ntr (ntr (ntr e43.next e54.next) e69.next) e78.next) e91.next) e100.next) e110.next))))).frS e301 (Dj.symm (hb35.djn r30.ltF)))
     obtain ⟨H304, q305, e306, r307⟩ := Row.store (P := Try.prog) (t := 46) (p := 0) e301.wf u308 (.agg #[.int .i64 0, .slice none 0 0]) [.int .i64 0, .slice none 0 0] (by kernel_rfl) (by kernel_rfl) (one_cons (rfl) (one_cons (rfl) (one_nil))) (Nat.le_of_ble_eq_true (by kernel_rfl)) [.int .i64 0, .slice none 0 0] (by kernel_rfl)
     refine s_ek (undef) (by kernel_rfl) (map_ok q305) ?_
     refine s_nil ?_
     refine k298 _ _ ?_
     refine w_ret ?_
     have u309 := (r302.frS e306 (hb35.djn r30.ltF))
     refine b_ret (fn := Try.f32) (vs := [.agg #[.int .i64 y178.1, .slice a295 n296 c297], .agg #[.int .i64 0, .slice none 0 0]]) (aRes_cell (Eq.trans (b := aLoad Try.prog 59 (.pointer (some ⟨b26, 0, none⟩)) H304) (by kernel_rfl) (u309.ld (by kernel_rfl))) (aRes_cell (Eq.trans (b := aLoad Try.prog 46 (.pointer (some ⟨b32, 0, none⟩)) H304) (by kernel_rfl) (r307.ld (by kernel_rfl))) (rfl))) ?_
     have u310 := ((m212.fr e301 (Dj.symm (i217.dj (i186.djn (r30.ltF.le (ntr (ntr (ntr (ntr (ntr (ntr (ntr e34.next e43.next) e54.next) e69.next) e78.next) e91.next) e100.next) e110.next))) (r30.ltF.le (ntr (ntr (ntr (ntr (ntr (ntr (ntr (ntr (ntr (ntr e34.next e43.next) e54.next) e69.next) e78.next) e91.next) e100.next) e110.next) e184.next) e193.next) e199.next))))).fr e306 (Dj.symm (i217.dj (i186.djn (r36.ltF.le (ntr (ntr (ntr (ntr (ntr (ntr e43.next e54.next) e69.next) e78.next) e91.next) e100.next) e110.next))) (r36.ltF.le (ntr (ntr (ntr (ntr (ntr (ntr (ntr (ntr (ntr e43.next e54.next) e69.next) e78.next) e91.next) e100.next) e110.next) e184.next) e193.next) e199.next)))))
     obtain rfl := Option.some.inj r208
     exact ⟨(.slice a295 n296 c297), f214, (.slice none 0 0), [], rfl, (FrS.step wf (FrS.step wf (FrS.step wf (FrS.step wf ((FrS.step wf (FrS.step wf (FrS.step wf (FrS.step wf ((FrS.step wf (FrS.step wf ((((((FrS.refl (W := []) wf).extR e15).extR e21).extR e28).extR e34).extR e43) e54 Inn.nil) e69 Inn.nil).extR e78) e91 Inn.nil) e100 (hb44.fresh (ntr (ntr (ntr e15.next e21.next) e28.next) e34.next))) e110 Inn.nil) e184 Inn.nil).extR e193) e199 (hb194.fresh (ntr (ntr (ntr (ntr (ntr (ntr (ntr (ntr (ntr (ntr (ntr e15.next e21.next) e28.next) e34.next) e43.next) e54.next) e69.next) e78.next) e91.next) e100.next) e110.next) e184.next))) e210 (Inn.app (hb194.fresh (ntr (ntr (ntr (ntr (ntr (ntr (ntr (ntr (ntr (ntr (ntr e15.next e21.next) e28.next) e34.next) e43.next) e54.next) e69.next) e78.next) e91.next) e100.next) e110.next) e184.next)) (i186.fresh (ntr (ntr (ntr (ntr (ntr (ntr (ntr (ntr (ntr (ntr e15.next e21.next) e28.next) e34.next) e43.next) e54.next) e69.next) e78.next) e91.next) e100.next) e110.next)))) e301 (hb29.fresh (ntr e15.next e21.next))) e306 (hb35.fresh (ntr (ntr e15.next e21.next) e28.next))), u310, (Sq.nil (by decide)), (Inn.trans (i186.fresh (ntr (ntr (ntr (ntr (ntr (ntr (ntr (ntr (ntr (ntr e15.next e21.next) e28.next) e34.next) e43.next) e54.next) e69.next) e78.next) e91.next) e100.next) e110.next)) (ntr (ntr (ntr (ntr (ntr (ntr (ntr (ntr (ntr (ntr (ntr (ntr (ntr e15.next e21.next) e28.next) e34.next) e43.next) e54.next) e69.next) e78.next) e91.next) e100.next) e110.next) e184.next) e193.next) e199.next) i217), Inn.nil, Dj.nil_r⟩

theorem c_viaductref03_Same {H : AH} {hd_Arcs : Value} {fp_Arcs : Fp} {hd_Arcs_ : Value} {fp_Arcs_ : Fp} {N_ : Int} {Arcs : List (Int × Int × Int)} {N_2 : Int} {Arcs_ : List (Int × Int × Int)} {r : Bool}
  (wf : WF H) (h_Arcs : Sq enc_i64_i64_i64 3 H hd_Arcs Arcs fp_Arcs) (h_Arcs_ : Sq enc_i64_i64_i64 3 H hd_Arcs_ Arcs_ fp_Arcs_) (hr : z_viaductref03_Same N_ Arcs N_2 Arcs_ = some r) :
  ACalls Try.prog 33 #[.agg #[.int .i64 N_, hd_Arcs], .agg #[.int .i64 N_2, hd_Arcs_]] H fun v H' => v = .bool r ∧ FrS [] H H' := by
 refine acalls_of_body mixed Try.func33 rfl (Nat.le_of_ble_eq_true rfl) ?_
 unfold z_viaductref03_Same at hr
 refine w_seqk fun K1 k1 => ?_
 refine w_reg (by kernel_rfl) ?_
 refine s_rwl wf [.int .i64 N_, hd_Arcs] (one_cons (rfl) (one_cons (h_Arcs.one1) (one_nil))) (by kernel_rfl) fun b2 H3 e4 hb5 r6 => ?_
 have u13 := (h_Arcs_.ext e4)
 refine s_rwl e4.wf [.int .i64 N_2, hd_Arcs_] (one_cons (rfl) (one_cons (u13.one1) (one_nil))) (by kernel_rfl) fun b8 H9 e10 hb11 r12 => ?_
 refine s_qk (.bool false) (by kernel_rfl) ?_
 refine s_nil ?_
 refine k1 _ _ ?_
 refine w_seqk fun K15 k15 => ?_
 refine w_reg (by kernel_rfl) ?_
 refine s_qk (.pointer (some ⟨b2, 0, none⟩)) (by kernel_rfl) ?_
 have u16 := (r6.ext e10)
 refine s_ql (.int .i64 N_) (x := aLoad Try.prog 3 (.pointer (some ⟨b2, 0, none⟩)) H9) (by kernel_rfl) (u16.ld (by kernel_rfl)) ?_
 refine s_qk (.pointer (some ⟨b8, 0, none⟩)) (by kernel_rfl) ?_
 refine s_ql (.int .i64 N_2) (x := aLoad Try.prog 3 (.pointer (some ⟨b8, 0, none⟩)) H9) (by kernel_rfl) (r12.ld (by kernel_rfl)) ?_
 refine s_b (N_ = N_2) (by kernel_rfl) (fun h17 => ?_) (fun h17 => ?_)
 ·have r18 := ite_t h17 hr
  refine s_qk (.bool true) (by kernel_rfl) ?_
  refine s_qk (.pointer (some ⟨b2, 1, none⟩)) (by kernel_rfl) ?_
  refine s_ql (hd_Arcs) (x := aLoad Try.prog 57 (.pointer (some ⟨b2, 1, none⟩)) H9) (by kernel_rfl) (u16.ld (by kernel_rfl)) ?_
  refine s_qk (.pointer (some ⟨b8, 1, none⟩)) (by kernel_rfl) ?_
  refine s_ql (hd_Arcs_) (x := aLoad Try.prog 57 (.pointer (some ⟨b8, 1, none⟩)) H9) (by kernel_rfl) (r12.ld (by kernel_rfl)) ?_
  have u19 := ((h_Arcs.ext e4).ext e10)
  have u20 := (u13.ext e10)
  obtain ⟨y21, hy22, r23⟩ := bind_some r18
  refine s_ck 80 #[hd_Arcs, hd_Arcs_] (by kernel_rfl) (c_viaductref03_SameArcs e10.wf u19 u20 hy22) ?_
  rintro _ _ ⟨rfl, rfl⟩
  refine s_qk (.bool y21) (by kernel_rfl) ?_
  refine s_qk (.bool y21) (by kernel_rfl) ?_
  refine s_nil ?_
  refine k15 _ _ ?_
  refine w_ret ?_
  refine b_ret (fn := Try.f33) (vs := [.bool y21]) (aRes_tmp (by kernel_rfl) (rfl)) ?_
  obtain rfl := Option.some.inj r23
  exact ⟨rfl, (((FrS.refl (W := []) wf).extR e4).extR e10)⟩
 ·have r26 := ite_f h17 hr
  refine s_qk (.bool false) (by kernel_rfl) ?_
  refine s_no (by kernel_rfl) ?_
  refine s_no (by kernel_rfl) ?_
  refine s_no (by kernel_rfl) ?_
  refine s_no (by kernel_rfl) ?_
  refine s_no (by kernel_rfl) ?_
  refine s_qk (.bool false) (by kernel_rfl) ?_
  refine s_qk (.bool false) (by kernel_rfl) ?_
  refine s_nil ?_
  refine k15 _ _ ?_
  refine w_ret ?_
  refine b_ret (fn := Try.f33) (vs := [.bool false]) (aRes_tmp (by kernel_rfl) (rfl)) ?_
  obtain rfl := Option.some.inj r26
  exact ⟨rfl, (((FrS.refl (W := []) wf).extR e4).extR e10)⟩


end Go.Vd

/-! (KNy4) -/

set_option maxRecDepth 100000
set_option maxHeartbeats 4000000
set_option linter.unusedVariables false
namespace Go.Vd
open Go.Proofs
attribute [local irreducible] wpSeq wpOrd aWp
theorem c_viaductlaw04_NormalMemory {H : AH} {hd_Arcs : Value} {fp_Arcs : Fp} {N_ : Int} {Arcs : List (Int × Int × Int)} {r : Bool}
  (wf : WF H) (h_Arcs : Sq enc_i64_i64_i64 3 H hd_Arcs Arcs fp_Arcs) (hr : z_viaductlaw04_NormalMemory N_ Arcs = some r) :
  ACalls Try.prog 4 #[.agg #[.int .i64 N_, hd_Arcs]] H fun v H' => v = .bool r ∧ FrS [] H H' := by
 refine acalls_of_body mixed Try.func4 rfl (Nat.le_of_ble_eq_true rfl) ?_
 unfold z_viaductlaw04_NormalMemory at hr
 refine w_seqk fun K1 k1 => ?_
 refine w_reg (by kernel_rfl) ?_
 refine s_rwl wf [.int .i64 N_, hd_Arcs] (one_cons (rfl) (one_cons (h_Arcs.one1) (one_nil))) (by kernel_rfl) fun b2 H3 e4 hb5 r6 => ?_
 refine s_qk (.bool false) (by kernel_rfl) ?_
 refine s_nil ?_
 refine k1 _ _ ?_
 refine w_seqk fun K8 k8 => ?_
 refine w_seqk fun K9 k9 => ?_
 refine w_reg (by kernel_rfl) ?_
 refine s_ck 21 #[] (by kernel_rfl) c_viaductlaw04_awake ?_
 rintro _ _ ⟨rfl, rfl⟩
 refine s_qk (.bool false) (by kernel_rfl) ?_
 refine s_nil ?_
 refine k9 _ _ ?_
 refine w_cond false (by kernel_rfl) rfl (fun h => by cases h) (fun _ => ?_)
 refine w_skip ?_
 refine k8 _ _ ?_
 refine w_seqk fun K10 k10 => ?_
 refine w_seqk fun K11 k11 => ?_
 refine w_reg (by kernel_rfl) ?_
 refine s_ql (.agg #[.int .i64 N_, hd_Arcs]) (x := aLoad Try.prog 59 (.pointer (some ⟨b2, 0, none⟩)) H3) (by kernel_rfl) (r6.ld (by kernel_rfl)) ?_
 have u12 := (h_Arcs.ext e4)
 obtain ⟨y13, hy14, r15⟩ := bind_some hr
 refine s_ck 22 #[.agg #[.int .i64 N_, hd_Arcs]] (by kernel_rfl) (c_viaductlaw04_great e4.wf u12 hy14) ?_
 rintro _ H16 ⟨rfl, e17⟩
 refine s_nil ?_
 refine k11 _ _ ?_
 refine w_cond (y13) (by kernel_rfl) rfl (fun h18 => ?_) (fun h18 => ?_)
 ·have r19 := ite_t h18 r15
  refine w_seqk fun K20 k20 => ?_
  refine w_reg (by kernel_rfl) ?_
  refine s_qk (.bool true) (by kernel_rfl) ?_
  refine s_nil ?_
  refine k20 _ _ ?_
  refine w_ret (th_ret ?_)
  refine b_ret (fn := Try.f4) (vs := [.bool true]) (aRes_tmp (by kernel_rfl) (rfl)) ?_
  obtain rfl := Option.some.inj r19
  exact ⟨rfl, (FrS.step wf ((FrS.refl (W := []) wf).extR e4) e17 Inn.nil)⟩
 ·have r21 := ite_bf h18 r15
  refine w_skip ?_
  refine k10 _ _ ?_
  refine w_seqk fun K22 k22 => ?_
  refine w_reg (by kernel_rfl) ?_
  have u23 := (r6.frS e17 Dj.nil_l)
  refine s_ql (.agg #[.int .i64 N_, hd_Arcs]) (x := aLoad Try.prog 59 (.pointer (some ⟨b2, 0, none⟩)) H16) (by kernel_rfl) (u23.ld (by kernel_rfl)) ?_
  have u24 := (u12.fr e17 Dj.nil_l)
  obtain ⟨y25, hy26, r27⟩ := bind_some r21
  refine s_ck 23 #[.agg #[.int .i64 N_, hd_Arcs]] (by kernel_rfl) (c_viaductref03_Spare e17.wf u24 hy26) ?_
  rintro _ H31 ⟨s28, f29, s30, rfl, e32, m33, m34, i35⟩
  obtain ⟨a38, n39, c40, rfl⟩ := m33.form
  obtain ⟨a41, n42, c43, rfl⟩ := m34.form
  refine s_qk (.tuple #[.agg #[.int .i64 y25.1, .slice a38 n39 c40], .slice a41 n42 c43]) (by kernel_rfl) ?_
  refine s_qk (.agg #[.int .i64 y25.1, .slice a38 n39 c40]) (by kernel_rfl) ?_
  refine s_qk (.slice a41 n42 c43) (by kernel_rfl) ?_
  refine s_rwk e32.wf [.int .i64 0, .slice none 0 0] (by kernel_rfl) fun b44 H45 e46 hb47 r48 => ?_
  have u54 := (m33.ext e46)
  obtain ⟨H50, q51, e52, r53⟩ := Row.store (P := Try.prog) (t := 59) (p := 0) e46.wf r48 (.agg #[.int .i64 y25.1, .slice a38 n39 c40]) [.int .i64 y25.1, .slice a38 n39 c40] (by kernel_rfl) (by kernel_rfl) (one_cons (rfl) (one_cons (u54.one1) (one_nil))) (Nat.le_of_ble_eq_true (by kernel_rfl)) [.int .i64 y25.1, .slice a38 n39 c40] (by kernel_rfl)
  refine s_ek (undef) (by kernel_rfl) (map_ok q51) ?_
  refine s_qk (.slice a41 n42 c43) (by kernel_rfl) ?_
  refine s_nil ?_
  refine k22 _ _ ?_
  refine w_seqk fun K55 k55 => ?_
  refine w_reg (by kernel_rfl) ?_
  refine s_qk (.slice none 0 0) (by kernel_rfl) ?_
  refine s_nil ?_
  refine k55 _ _ ?_
  refine w_seqk fun K56 k56 => ?_
  refine w_seqk fun K57 k57 => ?_
  refine w_reg (by kernel_rfl) ?_
  refine s_qk (.int .i64 0) (by kernel_rfl) ?_
  refine s_nil ?_
  refine k57 _ _ ?_
  obtain ⟨o58, hx59, r60⟩ := bind_some r27
  refine w_mid (fun α H61 => ∃ (s65 : Value) (f66 : Fp), Has α [(1, .pointer (some ⟨b2, 0, none⟩)), (4, .slice a41 n42 c43), (5, s65)] ∧ FrS [] H50 H61 ∧ Nst (CR.prod (CR.int .i64) (CR.sl enc_i64_i64_i64 3)) H61 s65 o58 f66 ∧ Inn [] H50 f66) (fun K68 k68 => ?_) (fun α H61 hM => ?_)
  ·refine w_block ?_
   obtain ⟨n70, hn71⟩ := loopO_iff.1 hx59
   refine w_loopn (fun n α H72 => ∃ (i0 : Int), ∃ (all1 : List (Int × List (Int × Int × Int))), ∃ (s76 : Value), ∃ (f77 : Fp), iterO (fun zz_ => z_viaductlaw04_NormalMemory_l0 y25 zz_.1 zz_.2) n (i0, all1) = some o58 ∧ Has α [(1, .pointer (some ⟨b2, 0, none⟩)), (3, .pointer (some ⟨b44, 0, none⟩)), (4, .slice a41 n42 c43), (5, s76), (33, .int .i64 i0)] ∧ FrS [] H50 H72 ∧ Nst (CR.prod (CR.int .i64) (CR.sl enc_i64_i64_i64 3)) H72 s76 all1 f77 ∧ Inn [] H50 f77) n70 ⟨0, [], (.slice none 0 0), [], hn71, ⟨by kernel_rfl, by kernel_rfl, by kernel_rfl, by kernel_rfl, by kernel_rfl, trivial⟩, (FrS.refl (W := []) e52.wf), Nst.nil, Inn.nil⟩ ?_
   rintro n70 α H72 ⟨i0, all1, s76, f77, hi80, hh79, e73, m75, i78⟩ K85 k85
   obtain ⟨n81, z82, rfl, hz83, hn84⟩ := iter_succ hi80
   obtain ⟨β, rfl⟩ := has_ex hh79
   clear hh79
   replace hz83 : z_viaductlaw04_NormalMemory_l0 y25 i0 all1 = some z82 := hz83
   unfold z_viaductlaw04_NormalMemory_l0 at hz83
   obtain ⟨a86, n87, c88, rfl⟩ := m75.form
   refine w_seqk fun K89 k89 => ?_
   refine w_reg (by kernel_rfl) ?_
   refine s_qk (.bool (decide (i0 < 2))) (by kernel_rfl) ?_
   refine s_nil ?_
   refine k89 _ _ ?_
   refine w_seqk fun K90 k90 => ?_
   refine w_condp (i0 < 2) (by kernel_rfl) rfl (fun h91 => ?_) (fun h91 => ?_)
   ·have r92 := ite_t h91 hz83
    refine w_skip ?_
    refine k90 _ _ ?_
    refine w_seqk fun K93 k93 => ?_
    refine w_block ?_
    refine w_seqk fun K94 k94 => ?_
    refine w_reg (by kernel_rfl) ?_
    have u95 := (r53.frS e73 Dj.nil_l)
    refine s_ql (.agg #[.int .i64 y25.1, .slice a38 n39 c40]) (x := aLoad Try.prog 59 (.pointer (some ⟨b44, 0, none⟩)) H72) (by kernel_rfl) (u95.ld (by kernel_rfl)) ?_
    have u96 := ((u54.fr e52 (hb47.djn m33.lt)).fr e73 Dj.nil_l)
    obtain ⟨y97, hy98, r99⟩ := bind_some r92
    refine s_ck 24 #[.agg #[.int .i64 y25.1, .slice a38 n39 c40]] (by kernel_rfl) (c_normal_Of e73.wf u96.sq hy98) ?_
    rintro _ H104 ⟨s100, f101, v102, f103, rfl, e105, m106, m107, i108, i109, d110⟩
    obtain ⟨a113, n114, c115, rfl⟩ := m106.form
    refine s_qk (.tuple #[.agg #[.int .i64 y97.1, .slice a113 n114 c115], v102]) (by kernel_rfl) ?_
    refine s_qk (.agg #[.int .i64 y97.1, .slice a113 n114 c115]) (by kernel_rfl) ?_
    refine s_qk (v102) (by kernel_rfl) ?_
    refine s_rwk e105.wf [.int .i64 0, .slice none 0 0] (by kernel_rfl) fun b116 H117 e118 hb119 r120 => ?_
    have u126 := (m106.ext e118)
    obtain ⟨H122, q123, e124, r125⟩ := Row.store (P := Try.prog) (t := 59) (p := 0) e118.wf r120 (.agg #[.int .i64 y97.1, .slice a113 n114 c115]) [.int .i64 y97.1, .slice a113 n114 c115] (by kernel_rfl) (by kernel_rfl) (one_cons (rfl) (one_cons (u126.one1) (one_nil))) (Nat.le_of_ble_eq_true (by kernel_rfl)) [.int .i64 y97.1, .slice a113 n114 c115] (by kernel_rfl)
    refine s_ek (undef) (by kernel_rfl) (map_ok q123) ?_
    refine s_qk (v102) (by kernel_rfl) ?_
    refine s_nil ?_
    refine k94 _ _ ?_
    refine w_seqk fun K127 k127 => ?_
    refine w_reg (by kernel_rfl) ?_
    have u128 := (((u95.frS e105 Dj.nil_l).ext e118).frS e124 (hb119.djn (r48.ltF.le (ntr (ntr e52.next e73.next) e105.next))))
    refine s_ql (.agg #[.int .i64 y25.1, .slice a38 n39 c40]) (x := aLoad Try.prog 59 (.pointer (some ⟨b44, 0, none⟩)) H122) (by kernel_rfl) (u128.ld (by kernel_rfl)) ?_
    have u129 := (((u96.fr e105 Dj.nil_l).ext e118).fr e124 (hb119.djn (m33.lt.le (ntr (ntr (ntr e46.next e52.next) e73.next) e105.next))))
    obtain ⟨y130, hy131, r132⟩ := bind_some r99
    refine s_ck 25 #[.agg #[.int .i64 y25.1, .slice a38 n39 c40]] (by kernel_rfl) (c_normal_Reverse e124.wf u129.sq hy131) ?_
    rintro _ H137 ⟨s133, f134, v135, f136, rfl, e138, m139, m140, i141, i142, d143⟩
    obtain ⟨a146, n147, c148, rfl⟩ := m139.form
    refine s_qk (.tuple #[.agg #[.int .i64 y130.1, .slice a146 n147 c148], v135]) (by kernel_rfl) ?_
    refine s_qk (.agg #[.int .i64 y130.1, .slice a146 n147 c148]) (by kernel_rfl) ?_
    refine s_qk (v135) (by kernel_rfl) ?_
    refine s_rwk e138.wf [.int .i64 0, .slice none 0 0] (by kernel_rfl) fun b149 H150 e151 hb152 r153 => ?_
    have u159 := (m139.ext e151)
    obtain ⟨H155, q156, e157, r158⟩ := Row.store (P := Try.prog) (t := 59) (p := 0) e151.wf r153 (.agg #[.int .i64 y130.1, .slice a146 n147 c148]) [.int .i64 y130.1, .slice a146 n147 c148] (by kernel_rfl) (by kernel_rfl) (one_cons (rfl) (one_cons (u159.one1) (one_nil))) (Nat.le_of_ble_eq_true (by kernel_rfl)) [.int .i64 y130.1, .slice a146 n147 c148] (by kernel_rfl)
    refine s_ek (undef) (by kernel_rfl) (map_ok q156) ?_
    refine s_qk (v135) (by kernel_rfl) ?_
    refine s_nil ?_
    refine k127 _ _ ?_
    refine w_seqk fun K160 k160 => ?_
    refine w_reg (by kernel_rfl) ?_
    have u161 := (((u128.frS e138 Dj.nil_l).ext e151).frS e157 (hb152.djn (r48.ltF.le (ntr (ntr (ntr (ntr (ntr e52.next e73.next) e105.next) e118.next) e124.next) e138.next))))
    refine s_ql (.agg #[.int .i64 y25.1, .slice a38 n39 c40]) (x := aLoad Try.prog 59 (.pointer (some ⟨b44, 0, none⟩)) H155) (by kernel_rfl) (u161.ld (by kernel_rfl)) ?_
    refine s_ql (.agg #[.int .i64 y25.1, .slice a38 n39 c40]) (x := aLoad Try.prog 59 (.pointer (some ⟨b44, 0, none⟩)) H155) (by kernel_rfl) (u161.ld (by kernel_rfl)) ?_
    have u162 := (((u129.fr e138 Dj.nil_l).ext e151).fr e157 (hb152.djn (m33.lt.le (ntr (ntr (ntr (ntr (ntr (ntr e46.next e52.next) e73.next) e105.next) e118.next) e124.next) e138.next))))
    obtain ⟨y163, hy164, r165⟩ := bind_some r132
    refine s_ck 26 #[.agg #[.int .i64 y25.1, .slice a38 n39 c40], .agg #[.int .i64 y25.1, .slice a38 n39 c40]] (by kernel_rfl) (c_normal_Merge e157.wf u162.sq hy164) ?_
    rintro _ H170 ⟨s166, f167, v168, f169, rfl, e171, m172, m173, i174, i175, d176⟩
    obtain ⟨a179, n180, c181, rfl⟩ := m172.form
    refine s_qk (.tuple #[.agg #[.int .i64 y163.1, .slice a179 n180 c181], v168]) (by kernel_rfl) ?_
    refine s_qk (.agg #[.int .i64 y163.1, .slice a179 n180 c181]) (by kernel_rfl) ?_
    refine s_qk (v168) (by kernel_rfl) ?_
    refine s_rwk e171.wf [.int .i64 0, .slice none 0 0] (by kernel_rfl) fun b182 H183 e184 hb185 r186 => ?_
    have u192 := (m172.ext e184)
    obtain ⟨H188, q189, e190, r191⟩ := Row.store (P := Try.prog) (t := 59) (p := 0) e184.wf r186 (.agg #[.int .i64 y163.1, .slice a179 n180 c181]) [.int .i64 y163.1, .slice a179 n180 c181] (by kernel_rfl) (by kernel_rfl) (one_cons (rfl) (one_cons (u192.one1) (one_nil))) (Nat.le_of_ble_eq_true (by kernel_rfl)) [.int .i64 y163.1, .slice a179 n180 c181] (by kernel_rfl)
    refine s_ek (undef) (by kernel_rfl) (map_ok q189) ?_
    refine s_qk (v168) (by kernel_rfl) ?_
    refine s_nil ?_
    refine k160 _ _ ?_
    refine w_seqk fun K193 k193 => ?_
    refine w_reg (by kernel_rfl) ?_
    refine s_qk (.slice a86 n87 c88) (by kernel_rfl) ?_
    have u194 := ((((((r125.frS e138 Dj.nil_l).ext e151).frS e157 (hb152.djn (r120.ltF.le (ntr e124.next e138.next)))).frS e171 Dj.nil_l).ext e184).frS e190 (hb185.djn (r120.ltF.le (ntr (ntr (ntr (ntr e124.next e138.next) e151.next) e157.next) e171.next))))
    refine s_ql (.agg #[.int .i64 y97.1, .slice a113 n114 c115]) (x := aLoad Try.prog 59 (.pointer (some ⟨b116, 0, none⟩)) H188) (by kernel_rfl) (u194.ld (by kernel_rfl)) ?_
    have u195 := (((r158.frS e171 Dj.nil_l).ext e184).frS e190 (hb185.djn (r153.ltF.le (ntr e157.next e171.next))))
    refine s_ql (.agg #[.int .i64 y130.1, .slice a146 n147 c148]) (x := aLoad Try.prog 59 (.pointer (some ⟨b149, 0, none⟩)) H188) (by kernel_rfl) (u195.ld (by kernel_rfl)) ?_
    refine s_ql (.agg #[.int .i64 y163.1, .slice a179 n180 c181]) (x := aLoad Try.prog 59 (.pointer (some ⟨b182, 0, none⟩)) H188) (by kernel_rfl) (r191.ld (by kernel_rfl)) ?_
    have u201 := (u192.fr e190 (hb185.djn m172.lt))
    have u202 := ((((u159.fr e157 (hb152.djn m139.lt)).fr e171 Dj.nil_l).ext e184).fr e190 (hb185.djn (m139.lt.le (ntr (ntr e151.next e157.next) e171.next))))
    have u203 := (((((((u126.fr e124 (hb119.djn m106.lt)).fr e138 Dj.nil_l).ext e151).fr e157 (hb152.djn (m106.lt.le (ntr (ntr e118.next e124.next) e138.next)))).fr e171 Dj.nil_l).ext e184).fr e190 (hb185.djn (m106.lt.le (ntr (ntr (ntr (ntr (ntr e118.next e124.next) e138.next) e151.next) e157.next) e171.next))))
    refine s_lsl e190.wf [.int .i64 y97.1, .slice a113 n114 c115, .int .i64 y130.1, .slice a146 n147 c148, .int .i64 y163.1, .slice a179 n180 c181] 3 (one_cons (rfl) (one_cons (u203.one1) (one_cons (rfl) (one_cons (u202.one1) (one_cons (rfl) (one_cons (u201.one1) (one_nil))))))) (by kernel_rfl) fun b196 H197 e198 hb199 r200 => ?_
    have u205 := ((((((((((m75.fr e105 Dj.nil_l).ext e118).fr e124 (hb119.djn (m75.lt.le e105.next))).fr e138 Dj.nil_l).ext e151).fr e157 (hb152.djn (m75.lt.le (ntr (ntr (ntr e105.next e118.next) e124.next) e138.next)))).fr e171 Dj.nil_l).ext e184).fr e190 (hb185.djn (m75.lt.le (ntr (ntr (ntr (ntr (ntr (ntr e105.next e118.next) e124.next) e138.next) e151.next) e157.next) e171.next)))).ext e198)
    have u206 := (u203.ext e198)
    have u207 := (u202.ext e198)
    have u208 := (u201.ext e198)
    obtain ⟨g209, r210⟩ := G_some r165
    obtain ⟨s211, H212, f213, q217, e214, hm215, hf216⟩ := Nst.appendN (P := Try.prog) (C := (CR.prod (CR.int .i64) (CR.sl enc_i64_i64_i64 3))) 32 3 e198.wf u205 r200 (News.cons (cr_isl_mk u206) (News.cons (cr_isl_mk u207) (News.cons (cr_isl_mk u208) (News.nil (C := (CR.prod (CR.int .i64) (CR.sl enc_i64_i64_i64 3)))) (Dj.symm Dj.nil_l)) (Dj.symm (Dj.app (i174.djn (m139.lt.le (ntr e151.next e157.next))) Dj.nil_l))) (Dj.symm (Dj.app (i141.djn (m106.lt.le (ntr e118.next e124.next))) (Dj.app (i174.djn (m106.lt.le (ntr (ntr (ntr (ntr e118.next e124.next) e138.next) e151.next) e157.next))) Dj.nil_l)))) rfl rfl (Dj.symm (Dj.app (i108.djn m75.lt) (Dj.app (i141.djn (m75.lt.le (ntr (ntr e105.next e118.next) e124.next))) (Dj.app (i174.djn (m75.lt.le (ntr (ntr (ntr (ntr (ntr e105.next e118.next) e124.next) e138.next) e151.next) e157.next))) Dj.nil_l)))) (at_ := #[63, 63]) rfl rfl (by kernel_rfl) (by kernel_rfl) (by decide) (by have := g209; first | omega | (simp at this ⊢; omega))
    obtain ⟨a218, n219, c220, rfl⟩ := hm215.form
    have w222 := hf216.grow2 (Inn.app (i108.fresh (Nat.le_refl _)) (Inn.app (i141.fresh (ntr (ntr e105.next e118.next) e124.next)) (Inn.app (i174.fresh (ntr (ntr (ntr (ntr (ntr e105.next e118.next) e124.next) e138.next) e151.next) e157.next)) Inn.nil))) (ntr (ntr (ntr (ntr (ntr (ntr (ntr (ntr (ntr e105.next e118.next) e124.next) e138.next) e151.next) e157.next) e171.next) e184.next) e190.next) e198.next)
    refine s_ek (.slice a218 n219 c220) (by kernel_rfl) (q217) ?_
    refine s_qk (.slice a218 n219 c220) (by kernel_rfl) ?_
    refine s_nil ?_
    refine k193 _ _ ?_
    refine w_seqk fun K223 k223 => ?_
    refine w_reg (by kernel_rfl) ?_
    have u224 := (((((u161.frS e171 Dj.nil_l).ext e184).frS e190 (hb185.djn (r48.ltF.le (ntr (ntr (ntr (ntr (ntr (ntr (ntr (ntr e52.next e73.next) e105.next) e118.next) e124.next) e138.next) e151.next) e157.next) e171.next)))).ext e198).frS e214 (i78.djn (r48.ltF.le e52.next)))
    refine s_ql (.agg #[.int .i64 y25.1, .slice a38 n39 c40]) (x := aLoad Try.prog 59 (.pointer (some ⟨b44, 0, none⟩)) H212) (by kernel_rfl) (u224.ld (by kernel_rfl)) ?_
    have u225 := (((((u162.fr e171 Dj.nil_l).ext e184).fr e190 (hb185.djn (m33.lt.le (ntr (ntr (ntr (ntr (ntr (ntr (ntr (ntr (ntr e46.next e52.next) e73.next) e105.next) e118.next) e124.next) e138.next) e151.next) e157.next) e171.next)))).ext e198).fr e214 (i78.djn (m33.lt.le (ntr e46.next e52.next))))
    obtain ⟨y226, hy227, r228⟩ := bind_some r210
    refine s_ck 27 #[.agg #[.int .i64 y25.1, .slice a38 n39 c40]] (by kernel_rfl) (c_normal_Is e214.wf u225.sq hy227) ?_
    rintro _ H231 ⟨v229, f230, rfl, e232, m233, i234⟩
    refine s_nil ?_
    refine k223 _ _ ?_
    refine w_reg (by kernel_rfl) ?_
    have u236 := (u224.frS e232 Dj.nil_l)
    refine s_ql (.agg #[.int .i64 y25.1, .slice a38 n39 c40]) (x := aLoad Try.prog 59 (.pointer (some ⟨b44, 0, none⟩)) H231) (by kernel_rfl) (u236.ld (by kernel_rfl)) ?_
    have u237 := (u225.fr e232 Dj.nil_l)
    obtain ⟨y238, hy239, r240⟩ := bind_some r228
    refine s_ck 28 #[.agg #[.int .i64 y25.1, .slice a38 n39 c40]] (by kernel_rfl) (c_normal_Degrees e232.wf u237.sq hy239) ?_
    rintro _ H247 ⟨s241, f242, s243, f244, v245, f246, rfl, e248, m249, m250, m251, i252, i253, i254, d255, d256, d257⟩
    obtain ⟨a261, n262, c263, rfl⟩ := m249.form
    obtain ⟨a264, n265, c266, rfl⟩ := m250.form
    refine s_nil ?_
    refine k93 _ _ ?_
    refine w_reg (by kernel_rfl) ?_
    obtain ⟨g267, r268⟩ := G_some r240
    refine s_w ((i0 + 1)) (k := .i64) (x := (i0 + 1)) (by kernel_rfl) (wrap64 g267) ?_
    refine s_qk (.int .i64 (i0 + 1)) (by kernel_rfl) ?_
    refine s_nil ?_
    have u269 := ((hm215.fr e232 Dj.nil_l).fr e248 Dj.nil_l)
    obtain rfl := Option.some.inj r268
    exact k85 n81 _ _ (Nat.lt_succ_self _) ⟨(i0 + 1), (all1 ++ [(y97.1, y97.2.1), (y130.1, y130.2.1), (y163.1, y163.2.1)]), (.slice a218 n219 c220), f213, hn84, ⟨by kernel_rfl, by kernel_rfl, by kernel_rfl, by kernel_rfl, by kernel_rfl, trivial⟩, (FrS.step e52.wf (FrS.step e52.wf (FrS.step e52.wf ((FrS.step e52.wf ((FrS.step e52.wf (FrS.step e52.wf ((FrS.step e52.wf (FrS.step e52.wf ((FrS.step e52.wf (FrS.step e52.wf (FrS.refl (W := []) e52.wf) e73 Inn.nil) e105 Inn.nil).extR e118) e124 (hb119.fresh (ntr e73.next e105.next))) e138 Inn.nil).extR e151) e157 (hb152.fresh (ntr (ntr (ntr (ntr e73.next e105.next) e118.next) e124.next) e138.next))) e171 Inn.nil).extR e184) e190 (hb185.fresh (ntr (ntr (ntr (ntr (ntr (ntr (ntr e73.next e105.next) e118.next) e124.next) e138.next) e151.next) e157.next) e171.next))).extR e198) e214 (i78.fresh (Nat.le_refl _))) e232 Inn.nil) e248 Inn.nil), u269, (Inn.trans (i78.fresh (Nat.le_refl _)) e73.next w222)⟩
   ·have r270 := ite_f h91 hz83
    refine w_exit (th_exit (th_exit (bl_eq ?_)))
    obtain rfl := Option.some.inj r270
    obtain rfl := it_inr hn84
    exact k68 _ _ ⟨(.slice a86 n87 c88), f77, ⟨by kernel_rfl, by kernel_rfl, by kernel_rfl, trivial⟩, (FrS.step e52.wf (FrS.refl (W := []) e52.wf) e73 Inn.nil), m75, (i78.fresh (Nat.le_refl _))⟩
  ·obtain ⟨s65, f66, hh69, e62, m64, i67⟩ := hM
   obtain ⟨β, rfl⟩ := has_ex hh69
   clear hh69
   obtain ⟨a271, n272, c273, rfl⟩ := m64.form
   refine k56 _ _ ?_
   refine w_seqk fun K274 k274 => ?_
   refine w_seqk fun K275 k275 => ?_
   refine w_reg (by kernel_rfl) ?_
   have u276 := ((((u23.frS e32 Dj.nil_l).ext e46).frS e52 (hb47.djn (r6.ltF.le (ntr e17.next e32.next)))).frS e62 Dj.nil_l)
   refine s_ql (.agg #[.int .i64 N_, hd_Arcs]) (x := aLoad Try.prog 59 (.pointer (some ⟨b2, 0, none⟩)) H61) (by kernel_rfl) (u276.ld (by kernel_rfl)) ?_
   refine s_qk (.slice a41 n42 c43) (by kernel_rfl) ?_
   have u277 := ((((u24.fr e32 Dj.nil_l).ext e46).fr e52 (hb47.djn (h_Arcs.lt.le (ntr (ntr e4.next e17.next) e32.next)))).fr e62 Dj.nil_l)
   have u278 := (((m34.ext e46).fr e52 (hb47.djn m33.lt)).fr e62 Dj.nil_l)
   obtain ⟨y279, hy280, r281⟩ := bind_some r60
   refine s_ck 29 #[.agg #[.int .i64 N_, hd_Arcs], .slice a41 n42 c43] (by kernel_rfl) (c_viaductref03_Kept e62.wf u277 u278.sq hy280) ?_
   rintro _ H282 ⟨rfl, e283⟩
   refine s_qk (.bool (!y279)) (by kernel_rfl) ?_
   refine s_nil ?_
   refine k275 _ _ ?_
   refine w_cond ((!y279)) (by kernel_rfl) rfl (fun h284 => ?_) (fun h284 => ?_)
   ·have r285 := ite_t h284 r281
    refine w_seqk fun K286 k286 => ?_
    refine w_reg (by kernel_rfl) ?_
    refine s_qk (.bool false) (by kernel_rfl) ?_
    refine s_nil ?_
    refine k286 _ _ ?_
    refine w_ret (th_ret ?_)
    refine b_ret (fn := Try.f4) (vs := [.bool false]) (aRes_tmp (by kernel_rfl) (rfl)) ?_
    obtain rfl := Option.some.inj r285
    exact ⟨rfl, (FrS.step wf (FrS.step wf (FrS.step wf ((FrS.step wf (FrS.step wf ((FrS.refl (W := []) wf).extR e4) e17 Inn.nil) e32 Inn.nil).extR e46) e52 (hb47.fresh (ntr (ntr e4.next e17.next) e32.next))) e62 Inn.nil) e283 Inn.nil)⟩
   ·have r287 := ite_bf h284 r281
    refine w_skip ?_
    refine k274 _ _ ?_
    refine w_seqk fun K288 k288 => ?_
    refine w_seqk fun K289 k289 => ?_
    refine w_reg (by kernel_rfl) ?_
    refine s_qk (.slice a41 n42 c43) (by kernel_rfl) ?_
    have u290 := (u278.fr e283 Dj.nil_l)
    refine s_ql (.int .i64 (y25.2.2.length : Int)) (x := aLen Try.prog 57 (.slice a41 n42 c43) H282) (by kernel_rfl) (u290.sq.lenb (by kernel_rfl)) ?_
    refine s_qk (.int .i64 0) (by kernel_rfl) ?_
    refine s_nil ?_
    refine k289 _ _ ?_
    obtain ⟨o291, hx292, r293⟩ := bind_some r287
    refine w_mid (fun α H294 => Has α [(1, .pointer (some ⟨b2, 0, none⟩)), (5, .slice a271 n272 c273)] ∧ FrS f29 H282 H294) (fun K296 k296 => ?_) (fun α H294 hM => ?_)
    ·refine w_block ?_
     obtain ⟨n298, hn299⟩ := loopO_iff.1 hx292
     refine w_loopn (fun n α H300 => ∃ (full2 : List (Int × Int × Int)), ∃ (i3 : Int), iterO (fun zz_ => z_viaductlaw04_NormalMemory_l1 y25 zz_.1 zz_.2) n (full2, i3) = some o291 ∧ Has α [(1, .pointer (some ⟨b2, 0, none⟩)), (4, .slice a41 n42 c43), (5, .slice a271 n272 c273), (67, .int .i64 (y25.2.2.length : Int)), (68, .int .i64 i3)] ∧ FrS f29 H282 H300 ∧ Ow enc_i64_i64_i64 3 H300 (.slice a41 n42 c43) full2 f29) n298 ⟨y25.2.2, 0, hn299, ⟨by kernel_rfl, by kernel_rfl, by kernel_rfl, by kernel_rfl, by kernel_rfl, trivial⟩, (FrS.refl (W := f29) e283.wf), u290⟩ ?_
     rintro n298 α H300 ⟨full2, i3, hi305, hh304, e301, m303⟩ K310 k310
     obtain ⟨n306, z307, rfl, hz308, hn309⟩ := iter_succ hi305
     obtain ⟨β, rfl⟩ := has_ex hh304
     clear hh304
     replace hz308 : z_viaductlaw04_NormalMemory_l1 y25 full2 i3 = some z307 := hz308
     unfold z_viaductlaw04_NormalMemory_l1 at hz308
     refine w_seqk fun K311 k311 => ?_
     refine w_reg (by kernel_rfl) ?_
     refine s_qk (.bool (decide (i3 < (y25.2.2.length : Int)))) (by kernel_rfl) ?_
     refine s_nil ?_
     refine k311 _ _ ?_
     refine w_seqk fun K312 k312 => ?_
     refine w_condp (i3 < (y25.2.2.length : Int)) (by kernel_rfl) rfl (fun h313 => ?_) (fun h313 => ?_)
     ·have r314 := ite_t h313 hz308
      refine w_skip ?_
      refine k312 _ _ ?_
      refine w_seqk fun K315 k315 => ?_
      refine w_block ?_
      refine w_seqk fun K316 k316 => ?_
      refine w_reg (by kernel_rfl) ?_
      refine s_qk (.int .i64 i3) (by kernel_rfl) ?_
      refine s_qk (.int .i64 i3) (by kernel_rfl) ?_
      refine s_nil ?_
      refine k316 _ _ ?_
      refine w_reg (by kernel_rfl) ?_
      refine s_qk (.slice a41 n42 c43) (by kernel_rfl) ?_
      refine s_qk (.int .i64 i3) (by kernel_rfl) ?_
      refine s_qk (.agg #[.int .i64 9, .int .i64 9, .int .i64 9]) (by kernel_rfl) ?_
      obtain ⟨g317, r318⟩ := G_some r314
      refine s_ql (elp (.slice a41 n42 c43) 3 i3.toNat 0) (x := aIndexAddr Try.prog 57 (.slice a41 n42 c43) (.int .i64 i3)) (by kernel_rfl) (m303.sq.idxb (by kernel_rfl) g317.1 g317.2) ?_
      obtain ⟨H319, q320, e321, hm322⟩ := Ow.store (P := Try.prog) (t := 73) (off := 0) e301.wf m303 g317.1 g317.2 (.agg #[.int .i64 9, .int .i64 9, .int .i64 9]) [.int .i64 9, .int .i64 9, .int .i64 9] (by kernel_rfl) (by kernel_rfl) rfl (9, 9, 9) (Nat.le_of_ble_eq_true rfl) (by kernel_rfl)
      refine s_ek (undef) (by kernel_rfl) (map_ok q320) ?_
      refine s_nil ?_
      refine k315 _ _ ?_
      refine w_reg (by kernel_rfl) ?_
      obtain ⟨g323, r324⟩ := G_some r318
      refine s_w ((i3 + 1)) (k := .i64) (x := (i3 + 1)) (by kernel_rfl) (wrap64 (by have := g323; omega)) ?_
      refine s_qk (.int .i64 (i3 + 1)) (by kernel_rfl) ?_
      refine s_nil ?_
      obtain rfl := Option.some.inj r324
      exact k310 n306 _ _ (Nat.lt_succ_self _) ⟨(full2.set i3.toNat (9, 9, 9)), (i3 + 1), hn309, ⟨by kernel_rfl, by kernel_rfl, by kernel_rfl, by kernel_rfl, by kernel_rfl, trivial⟩, (FrS.step e283.wf (FrS.step e283.wf (FrS.refl (W := f29) e283.wf) e301 Inn.refl') e321 Inn.refl'), hm322⟩
     ·have r325 := ite_f h313 hz308
      refine w_exit (th_exit (th_exit (bl_eq ?_)))
      obtain rfl := Option.some.inj r325
      obtain rfl := it_inr hn309
      exact k296 _ _ ⟨⟨by kernel_rfl, by kernel_rfl, trivial⟩, (FrS.step e283.wf (FrS.refl (W := f29) e283.wf) e301 Inn.refl')⟩
    ·obtain ⟨hh297, e295⟩ := hM
     obtain ⟨β, rfl⟩ := has_ex hh297
     clear hh297
     refine k288 _ _ ?_
     refine w_seqk fun K326 k326 => ?_
     refine w_reg (by kernel_rfl) ?_
     have u327 := ((u276.frS e283 Dj.nil_l).frS e295 (i35.djn (r6.ltF.le e17.next)))
     refine s_ql (.agg #[.int .i64 N_, hd_Arcs]) (x := aLoad Try.prog 59 (.pointer (some ⟨b2, 0, none⟩)) H294) (by kernel_rfl) (u327.ld (by kernel_rfl)) ?_
     have u328 := ((u277.fr e283 Dj.nil_l).fr e295 (i35.djn (h_Arcs.lt.le (ntr e4.next e17.next))))
     obtain ⟨y329, hy330, r331⟩ := bind_some r293
     refine s_ck 30 #[.agg #[.int .i64 N_, hd_Arcs]] (by kernel_rfl) (c_viaductref04_DocOf e295.wf u328 hy330) ?_
     rintro _ H336 ⟨s332, f333, s334, f335, rfl, e337, m338, m339, i340, i341, d342⟩
     obtain ⟨a345, n346, c347, rfl⟩ := m338.form
     obtain ⟨a348, n349, c350, rfl⟩ := m339.form
     refine s_qk (.tuple #[.agg #[.int .i64 y329.1, .slice a345 n346 c347], .agg #[.int .i64 y329.2.2.1, .slice a348 n349 c350]]) (by kernel_rfl) ?_
     refine s_qk (.agg #[.int .i64 y329.1, .slice a345 n346 c347]) (by kernel_rfl) ?_
     refine s_qk (.agg #[.int .i64 y329.2.2.1, .slice a348 n349 c350]) (by kernel_rfl) ?_
     refine s_rwk e337.wf [.int .i64 0, .slice none 0 0] (by kernel_rfl) fun b351 H352 e353 hb354 r355 => ?_
     refine s_rwk e353.wf [.int .i64 0, .slice none 0 0] (by kernel_rfl) fun b357 H358 e359 hb360 r361 => ?_
     have u367 := (r355.ext e359)
     have u368 := ((m338.ext e353).ext e359)
     obtain ⟨H363, q364, e365, r366⟩ := Row.store (P := Try.prog) (t := 59) (p := 0) e359.wf u367 (.agg #[.int .i64 y329.1, .slice a345 n346 c347]) [.int .i64 y329.1, .slice a345 n346 c347] (by kernel_rfl) (by kernel_rfl) (one_cons (rfl) (one_cons (u368.one1) (one_nil))) (Nat.le_of_ble_eq_true (by kernel_rfl)) [.int .i64 y329.1, .slice a345 n346 c347] (by kernel_rfl)
     refine s_ek (undef) (by kernel_rfl) (map_ok q364) ?_
     have u373 := (r361.frS e365 (Dj.symm (hb360.djn r355.ltF)))
     have u374 := (((m339.ext e353).ext e359).fr e365 (hb354.djn m339.lt))
     obtain ⟨H369, q370, e371, r372⟩ := Row.store (P := Try.prog) (t := 46) (p := 0) e365.wf u373 (.agg #[.int .i64 y329.2.2.1, .slice a348 n349 c350]) [.int .i64 y329.2.2.1, .slice a348 n349 c350] (by kernel_rfl) (by kernel_rfl) (one_cons (rfl) (one_cons (u374.one1) (one_nil))) (Nat.le_of_ble_eq_true (by kernel_rfl)) [.int .i64 y329.2.2.1, .slice a348 n349 c350] (by kernel_rfl)
     refine s_ek (undef) (by kernel_rfl) (map_ok q370) ?_
     refine s_nil ?_
     refine k326 _ _ ?_
     refine w_seqk fun K375 k375 => ?_
     refine w_reg (by kernel_rfl) ?_
     have u376 := (((((u327.frS e337 Dj.nil_l).ext e353).ext e359).frS e365 (hb354.djn (r6.ltF.le (ntr (ntr (ntr (ntr (ntr (ntr (ntr e17.next e32.next) e46.next) e52.next) e62.next) e283.next) e295.next) e337.next)))).frS e371 (hb360.djn (r6.ltF.le (ntr (ntr (ntr (ntr (ntr (ntr (ntr (ntr e17.next e32.next) e46.next) e52.next) e62.next) e283.next) e295.next) e337.next) e353.next))))
     refine s_ql (.agg #[.int .i64 N_, hd_Arcs]) (x := aLoad Try.prog 59 (.pointer (some ⟨b2, 0, none⟩)) H369) (by kernel_rfl) (u376.ld (by kernel_rfl)) ?_
     have u377 := (((((u328.fr e337 Dj.nil_l).ext e353).ext e359).fr e365 (hb354.djn (h_Arcs.lt.le (ntr (ntr (ntr (ntr (ntr (ntr (ntr (ntr e4.next e17.next) e32.next) e46.next) e52.next) e62.next) e283.next) e295.next) e337.next)))).fr e371 (hb360.djn (h_Arcs.lt.le (ntr (ntr (ntr (ntr (ntr (ntr (ntr (ntr (ntr e4.next e17.next) e32.next) e46.next) e52.next) e62.next) e283.next) e295.next) e337.next) e353.next))))
     obtain ⟨y378, hy379, r380⟩ := bind_some r331
     refine s_ck 31 #[.agg #[.int .i64 N_, hd_Arcs]] (by kernel_rfl) (c_viaductref04_DocReverse e371.wf u377 hy379) ?_
     rintro _ H385 ⟨s381, f382, s383, f384, rfl, e386, m387, m388, i389, i390, d391⟩
     obtain ⟨a394, n395, c396, rfl⟩ := m387.form
     obtain ⟨a397, n398, c399, rfl⟩ := m388.form
     refine s_qk (.tuple #[.agg #[.int .i64 y378.1, .slice a394 n395 c396], .agg #[.int .i64 y378.2.2.1, .slice a397 n398 c399]]) (by kernel_rfl) ?_
     refine s_qk (.agg #[.int .i64 y378.1, .slice a394 n395 c396]) (by kernel_rfl) ?_
     refine s_qk (.agg #[.int .i64 y378.2.2.1, .slice a397 n398 c399]) (by kernel_rfl) ?_
     refine s_rwk e386.wf [.int .i64 0, .slice none 0 0] (by kernel_rfl) fun b400 H401 e402 hb403 r404 => ?_
     refine s_rwk e402.wf [.int .i64 0, .slice none 0 0] (by kernel_rfl) fun b406 H407 e408 hb409 r410 => ?_
     have u416 := (r404.ext e408)
     have u417 := ((m387.ext e402).ext e408)
     obtain ⟨H412, q413, e414, r415⟩ := Row.store (P := Try.prog) (t := 59) (p := 0) e408.wf u416 (.agg #[.int .i64 y378.1, .slice a394 n395 c396]) [.int .i64 y378.1, .slice a394 n395 c396] (by kernel_rfl) (by kernel_rfl) (one_cons (rfl) (one_cons (u417.one1) (one_nil))) (Nat.le_of_ble_eq_true (by kernel_rfl)) [.int .i64 y378.1, .slice a394 n395 c396] (by kernel_rfl)
     refine s_ek (undef) (by kernel_rfl) (map_ok q413) ?_
     have u422 := (r410.frS e414 (Dj.symm (hb409.djn r404.ltF)))
     have u423 := (((m388.ext e402).ext e408).fr e414 (hb403.djn m388.lt))
     obtain ⟨H418, q419, e420, r421⟩ := Row.store (P := Try.prog) (t := 46) (p := 0) e414.wf u422 (.agg #[.int .i64 y378.2.2.1, .slice a397 n398 c399]) [.int .i64 y378.2.2.1, .slice a397 n398 c399] (by kernel_rfl) (by kernel_rfl) (one_cons (rfl) (one_cons (u423.one1) (one_nil))) (Nat.le_of_ble_eq_true (by kernel_rfl)) [.int .i64 y378.2.2.1, .slice a397 n398 c399] (by kernel_rfl)
     refine s_ek (undef) (by kernel_rfl) (map_ok q419) ?_
     refine s_nil ?_
     refine k375 _ _ ?_
     refine w_seqk fun K424 k424 => ?_
     refine w_reg (by kernel_rfl) ?_
     have u425 := (((((u376.frS e386 Dj.nil_l).ext e402).ext e408).frS e414 (hb403.djn (r6.ltF.le (ntr (ntr (ntr (ntr (ntr (ntr (ntr (ntr (ntr (ntr (ntr (ntr e17.next e32.next) e46.next) e52.next) e62.next) e283.next) e295.next) e337.next) e353.next) e359.next) e365.next) e371.next) e386.next)))).frS e420 (hb409.djn (r6.ltF.le (ntr (ntr (ntr (ntr (ntr (ntr (ntr (ntr (ntr (ntr (ntr (ntr (ntr e17.next e32.next) e46.next) e52.next) e62.next) e283.next) e295.next) e337.next) e353.next) e359.next) e365.next) e371.next) e386.next) e402.next))))
     refine s_ql (.agg #[.int .i64 N_, hd_Arcs]) (x := aLoad Try.prog 59 (.pointer (some ⟨b2, 0, none⟩)) H418) (by kernel_rfl) (u425.ld (by kernel_rfl)) ?_
     refine s_ql (.agg #[.int .i64 N_, hd_Arcs]) (x := aLoad Try.prog 59 (.pointer (some ⟨b2, 0, none⟩)) H418) (by kernel_rfl) (u425.ld (by kernel_rfl)) ?_
     have u426 := (((((u377.fr e386 Dj.nil_l).ext e402).ext e408).fr e414 (hb403.djn (h_Arcs.lt.le (ntr (ntr (ntr (ntr (ntr (ntr (ntr (ntr (ntr (ntr (ntr (ntr (ntr e4.next e17.next) e32.next) e46.next) e52.next) e62.next) e283.next) e295.next) e337.next) e353.next) e359.next) e365.next) e371.next) e386.next)))).fr e420 (hb409.djn (h_Arcs.lt.le (ntr (ntr (ntr (ntr (ntr (ntr (ntr (ntr (ntr (ntr (ntr (ntr (ntr (ntr e4.next e17.next) e32.next) e46.next) e52.next) e62.next) e283.next) e295.next) e337.next) e353.next) e359.next) e365.next) e371.next) e386.next) e402.next))))
     obtain ⟨y427, hy428, r429⟩ := bind_some r380
     refine s_ck 32 #[.agg #[.int .i64 N_, hd_Arcs], .agg #[.int .i64 N_, hd_Arcs]] (by kernel_rfl) (c_viaductref04_DocMerge e420.wf u426 hy428) ?_
     rintro _ H434 ⟨s430, f431, s432, f433, rfl, e435, m436, m437, i438, i439, d440⟩
     obtain ⟨a443, n444, c445, rfl⟩ := m436.form
     obtain ⟨a446, n447, c448, rfl⟩ := m437.form
     refine s_qk (.tuple #[.agg #[.int .i64 y427.1, .slice a443 n444 c445], .agg #[.int .i64 y427.2.2.1, .slice a446 n447 c448]]) (by kernel_rfl) ?_
     refine s_qk (.agg #[.int .i64 y427.1, .slice a443 n444 c445]) (by kernel_rfl) ?_
     refine s_qk (.agg #[.int .i64 y427.2.2.1, .slice a446 n447 c448]) (by kernel_rfl) ?_
     refine s_rwk e435.wf [.int .i64 0, .slice none 0 0] (by kernel_rfl) fun b449 H450 e451 hb452 r453 => ?_
     refine s_rwk e451.wf [.int .i64 0, .slice none 0 0] (by kernel_rfl) fun b455 H456 e457 hb458 r459 => ?_
     have u465 := (r453.ext e457)
     have u466 := ((m436.ext e451).ext e457)
     obtain ⟨H461, q462, e463, r464⟩ := Row.store (P := Try.prog) (t := 59) (p := 0) e457.wf u465 (.agg #[.int .i64 y427.1, .slice a443 n444 c445]) [.int .i64 y427.1, .slice a443 n444 c445] (by kernel_rfl) (by kernel_rfl) (one_cons (rfl) (one_cons (u466.one1) (one_nil))) (Nat.le_of_ble_eq_true (by kernel_rfl)) [.int .i64 y427.1, .slice a443 n444 c445] (by kernel_rfl)
     refine s_ek (undef) (by kernel_rfl) (map_ok q462) ?_
     have u471 := (r459.frS e463 (Dj.symm (hb458.djn r453.ltF)))
     have u472 := (((m437.ext e451).ext e457).fr e463 (hb452.djn m437.lt))
     obtain ⟨H467, q468, e469, r470⟩ := Row.store (P := Try.prog) (t := 46) (p := 0) e463.wf u471 (.agg #[.int .i64 y427.2.2.1, .slice a446 n447 c448]) [.int .i64 y427.2.2.1, .slice a446 n447 c448] (by kernel_rfl) (by kernel_rfl) (one_cons (rfl) (one_cons (u472.one1) (one_nil))) (Nat.le_of_ble_eq_true (by kernel_rfl)) [.int .i64 y427.2.2.1, .slice a446 n447 c448] (by kernel_rfl)
     refine s_ek (undef) (by kernel_rfl) (map_ok q468) ?_
     refine s_nil ?_
     refine k424 _ _ ?_
     refine w_seqk fun K473 k473 => ?_
     refine w_reg (by kernel_rfl) ?_
     have u474 := (((((((((((r366.frS e371 (hb360.djn r355.ltF)).frS e386 Dj.nil_l).ext e402).ext e408).frS e414 (hb403.djn (r355.ltF.le (ntr (ntr (ntr e359.next e365.next) e371.next) e386.next)))).frS e420 (hb409.djn (r355.ltF.le (ntr (ntr (ntr (ntr e359.next e365.next) e371.next) e386.next) e402.next)))).frS e435 Dj.nil_l).ext e451).ext e457).frS e463 (hb452.djn (r355.ltF.le (ntr (ntr (ntr (ntr (ntr (ntr (ntr (ntr e359.next e365.next) e371.next) e386.next) e402.next) e408.next) e414.next) e420.next) e435.next)))).frS e469 (hb458.djn (r355.ltF.le (ntr (ntr (ntr (ntr (ntr (ntr (ntr (ntr (ntr e359.next e365.next) e371.next) e386.next) e402.next) e408.next) e414.next) e420.next) e435.next) e451.next))))
     refine s_ql (.agg #[.int .i64 y329.1, .slice a345 n346 c347]) (x := aLoad Try.prog 59 (.pointer (some ⟨b351, 0, none⟩)) H467) (by kernel_rfl) (u474.ld (by kernel_rfl)) ?_
     have u475 := ((((((r415.frS e420 (hb409.djn r404.ltF)).frS e435 Dj.nil_l).ext e451).ext e457).frS e463 (hb452.djn (r404.ltF.le (ntr (ntr (ntr e408.next e414.next) e420.next) e435.next)))).frS e469 (hb458.djn (r404.ltF.le (ntr (ntr (ntr (ntr e408.next e414.next) e420.next) e435.next) e451.next))))
     refine s_ql (.agg #[.int .i64 y378.1, .slice a394 n395 c396]) (x := aLoad Try.prog 59 (.pointer (some ⟨b400, 0, none⟩)) H467) (by kernel_rfl) (u475.ld (by kernel_rfl)) ?_
     have u476 := (r464.frS e469 (hb458.djn r453.ltF))
     refine s_ql (.agg #[.int .i64 y427.1, .slice a443 n444 c445]) (x := aLoad Try.prog 59 (.pointer (some ⟨b449, 0, none⟩)) H467) (by kernel_rfl) (u476.ld (by kernel_rfl)) ?_
     have u482 := ((u466.fr e463 (hb452.djn m436.lt)).fr e469 (hb458.djn (m436.lt.le e451.next)))
     have u483 := (((((((u417.fr e414 (hb403.djn m387.lt)).fr e420 (hb409.djn (m387.lt.le e402.next))).fr e435 Dj.nil_l).ext e451).ext e457).fr e463 (hb452.djn (m387.lt.le (ntr (ntr (ntr (ntr e402.next e408.next) e414.next) e420.next) e435.next)))).fr e469 (hb458.djn (m387.lt.le (ntr (ntr (ntr (ntr (ntr e402.next e408.next) e414.next) e420.next) e435.next) e451.next))))
     have u484 := ((((((((((((u368.fr e365 (hb354.djn m338.lt)).fr e371 (hb360.djn (m338.lt.le e353.next))).fr e386 Dj.nil_l).ext e402).ext e408).fr e414 (hb403.djn (m338.lt.le (ntr (ntr (ntr (ntr e353.next e359.next) e365.next) e371.next) e386.next)))).fr e420 (hb409.djn (m338.lt.le (ntr (ntr (ntr (ntr (ntr e353.next e359.next) e365.next) e371.next) e386.next) e402.next)))).fr e435 Dj.nil_l).ext e451).ext e457).fr e463 (hb452.djn (m338.lt.le (ntr (ntr (ntr (ntr (ntr (ntr (ntr (ntr (ntr e353.next e359.next) e365.next) e371.next) e386.next) e402.next) e408.next) e414.next) e420.next) e435.next)))).fr e469 (hb458.djn (m338.lt.le (ntr (ntr (ntr (ntr (ntr (ntr (ntr (ntr (ntr (ntr e353.next e359.next) e365.next) e371.next) e386.next) e402.next) e408.next) e414.next) e420.next) e435.next) e451.next))))
     refine s_lsl e469.wf [.int .i64 y329.1, .slice a345 n346 c347, .int .i64 y378.1, .slice a394 n395 c396, .int .i64 y427.1, .slice a443 n444 c445] 3 (one_cons (rfl) (one_cons (u484.one1) (one_cons (rfl) (one_cons (u483.one1) (one_cons (rfl) (one_cons (u482.one1) (one_nil))))))) (by kernel_rfl) fun b477 H478 e479 hb480 r481 => ?_
     have u486 := (u484.ext e479)
     have u487 := (u483.ext e479)
     have u488 := (u482.ext e479)
     have hm489 := Row.nst (C := (CR.prod (CR.int .i64) (CR.sl enc_i64_i64_i64 3))) 3 r481 (News.cons (cr_isl_mk u486) (News.cons (cr_isl_mk u487) (News.cons (cr_isl_mk u488) (News.nil (C := (CR.prod (CR.int .i64) (CR.sl enc_i64_i64_i64 3)))) (Dj.symm Dj.nil_l)) (Dj.symm (Dj.app (i438.djn (m387.lt.le (ntr (ntr (ntr e402.next e408.next) e414.next) e420.next))) Dj.nil_l))) (Dj.symm (Dj.app (i389.djn (m338.lt.le (ntr (ntr (ntr e353.next e359.next) e365.next) e371.next))) (Dj.app (i438.djn (m338.lt.le (ntr (ntr (ntr (ntr (ntr (ntr (ntr (ntr e353.next e359.next) e365.next) e371.next) e386.next) e402.next) e408.next) e414.next) e420.next))) Dj.nil_l)))) rfl rfl (Dj.symm (Dj.app (Dj.symm (hb480.djn (m338.lt.le (ntr (ntr (ntr (ntr (ntr (ntr (ntr (ntr (ntr (ntr (ntr (ntr (ntr e353.next e359.next) e365.next) e371.next) e386.next) e402.next) e408.next) e414.next) e420.next) e435.next) e451.next) e457.next) e463.next) e469.next)))) (Dj.app (Dj.symm (hb480.djn (m387.lt.le (ntr (ntr (ntr (ntr (ntr (ntr (ntr (ntr e402.next e408.next) e414.next) e420.next) e435.next) e451.next) e457.next) e463.next) e469.next)))) (Dj.app (Dj.symm (hb480.djn (m436.lt.le (ntr (ntr (ntr e451.next e457.next) e463.next) e469.next)))) Dj.nil_l))))
     have hf491 : Inn [] H294 ([b477] ++ ((f333 ++ (f382 ++ (f431 ++ []))))) := Inn.app (hb480.fresh (ntr (ntr (ntr (ntr (ntr (ntr (ntr (ntr (ntr (ntr (ntr (ntr (ntr (ntr e337.next e353.next) e359.next) e365.next) e371.next) e386.next) e402.next) e408.next) e414.next) e420.next) e435.next) e451.next) e457.next) e463.next) e469.next)) (Inn.app (i340.fresh (Nat.le_refl _)) (Inn.app (i389.fresh (ntr (ntr (ntr (ntr e337.next e353.next) e359.next) e365.next) e371.next)) (Inn.app (i438.fresh (ntr (ntr (ntr (ntr (ntr (ntr (ntr (ntr (ntr e337.next e353.next) e359.next) e365.next) e371.next) e386.next) e402.next) e408.next) e414.next) e420.next)) Inn.nil)))
     generalize hfe_ : [b477] ++ ((f333 ++ (f382 ++ (f431 ++ [])))) = f490 at hm489 hf491
     clear hfe_
     refine s_qk (.slice (some ⟨b477, 0, none⟩) 3 3) (by kernel_rfl) ?_
     refine s_nil ?_
     refine k473 _ _ ?_
     refine w_seqk fun K493 k493 => ?_
     refine w_seqk fun K494 k494 => ?_
     refine w_reg (by kernel_rfl) ?_
     refine s_qk (.slice a271 n272 c273) (by kernel_rfl) ?_
     have u495 := ((((((((((((((((((m64.fr e283 Dj.nil_l).fr e295 (Dj.symm (i67.djn (m33.lt.le (ntr e46.next e52.next))))).fr e337 Dj.nil_l).ext e353).ext e359).fr e365 (hb354.djn (m64.lt.le (ntr (ntr e283.next e295.next) e337.next)))).fr e371 (hb360.djn (m64.lt.le (ntr (ntr (ntr e283.next e295.next) e337.next) e353.next)))).fr e386 Dj.nil_l).ext e402).ext e408).fr e414 (hb403.djn (m64.lt.le (ntr (ntr (ntr (ntr (ntr (ntr (ntr e283.next e295.next) e337.next) e353.next) e359.next) e365.next) e371.next) e386.next)))).fr e420 (hb409.djn (m64.lt.le (ntr (ntr (ntr (ntr (ntr (ntr (ntr (ntr e283.next e295.next) e337.next) e353.next) e359.next) e365.next) e371.next) e386.next) e402.next)))).fr e435 Dj.nil_l).ext e451).ext e457).fr e463 (hb452.djn (m64.lt.le (ntr (ntr (ntr (ntr (ntr (ntr (ntr (ntr (ntr (ntr (ntr (ntr e283.next e295.next) e337.next) e353.next) e359.next) e365.next) e371.next) e386.next) e402.next) e408.next) e414.next) e420.next) e435.next)))).fr e469 (hb458.djn (m64.lt.le (ntr (ntr (ntr (ntr (ntr (ntr (ntr (ntr (ntr (ntr (ntr (ntr (ntr e283.next e295.next) e337.next) e353.next) e359.next) e365.next) e371.next) e386.next) e402.next) e408.next) e414.next) e420.next) e435.next) e451.next)))).ext e479)
     refine s_ql (.int .i64 (o58.length : Int)) (x := aLen Try.prog 63 (.slice a271 n272 c273) H478) (by kernel_rfl) (u495.lenb (by kernel_rfl)) ?_
     refine s_qk (.int .i64 0) (by kernel_rfl) ?_
     refine s_nil ?_
     refine k494 _ _ ?_
     obtain ⟨z499, hx497, r498⟩ := bind_some r429
     refine w_mid (fun α H500 => ∃ o496, z499 = Sum.inr o496 ∧ Has α [] ∧ FrS f66 H478 H500) (fun K502 k502 => ?_) (fun α H500 hM => ?_)
     ·refine w_block ?_
      obtain ⟨n504, hn505⟩ := loopO_iff.1 hx497
      refine w_loopn (fun n α H506 => ∃ (all7 : List (Int × List (Int × Int × Int))), ∃ (i8 : Int), iterO (fun zz_ => z_viaductlaw04_NormalMemory_l4 o58 y329 y378 y427 zz_.1 zz_.2) n (all7, i8) = some z499 ∧ Has α [(5, .slice a271 n272 c273), (19, .slice (some ⟨b477, 0, none⟩) 3 3), (97, .int .i64 (o58.length : Int)), (98, .int .i64 i8)] ∧ FrS f66 H478 H506 ∧ Nst (CR.prod (CR.int .i64) (CR.sl enc_i64_i64_i64 3)) H506 (.slice a271 n272 c273) all7 f66) n504 ⟨o58, 0, hn505, ⟨by kernel_rfl, by kernel_rfl, by kernel_rfl, by kernel_rfl, trivial⟩, (FrS.refl (W := f66) e479.wf), u495⟩ ?_
      rintro n504 α H506 ⟨all7, i8, hi511, hh510, e507, m509⟩ K516 k516
      obtain ⟨n512, z513, rfl, hz514, hn515⟩ := iter_succ hi511
      obtain ⟨β, rfl⟩ := has_ex hh510
      clear hh510
      replace hz514 : z_viaductlaw04_NormalMemory_l4 o58 y329 y378 y427 all7 i8 = some z513 := hz514
      unfold z_viaductlaw04_NormalMemory_l4 at hz514
      refine w_seqk fun K517 k517 => ?_
      refine w_reg (by kernel_rfl) ?_
      refine s_qk (.bool (decide (i8 < (o58.length : Int)))) (by kernel_rfl) ?_
      refine s_nil ?_
      refine k517 _ _ ?_
      refine w_seqk fun K518 k518 => ?_
      refine w_condp (i8 < (o58.length : Int)) (by kernel_rfl) rfl (fun h519 => ?_) (fun h519 => ?_)
      ·have r520 := ite_t h519 hz514
       refine w_skip ?_
       refine k518 _ _ ?_
       refine w_seqk fun K521 k521 => ?_
       refine w_block ?_
       refine w_seqk fun K522 k522 => ?_
       refine w_reg (by kernel_rfl) ?_
       refine s_qk (.int .i64 i8) (by kernel_rfl) ?_
       refine s_qk (.int .i64 i8) (by kernel_rfl) ?_
       refine s_nil ?_
       refine k522 _ _ ?_
       refine w_seqk fun K523 k523 => ?_
       refine w_seqk fun K524 k524 => ?_
       refine w_draw [0, 1, 2, 3, 4, 5, 6, 7, 8, 9, 10] (by kernel_rfl) ?_
       refine d_qk (.slice a271 n272 c273) (by kernel_rfl) ?_
       refine d_qk (.int .i64 i8) (by kernel_rfl) ?_
       obtain ⟨g525, r526⟩ := G_some r520
       refine d_ql (elp (.slice a271 n272 c273) 2 i8.toNat 0) (x := aIndexAddr Try.prog 63 (.slice a271 n272 c273) (.int .i64 i8)) (by kernel_rfl) (m509.idxb (by kernel_rfl) g525.1 g525.2) ?_
       obtain ⟨cs527, f528, hk529, hs530, hl531, hq532⟩ := m509.kid g525.1 g525.2
       obtain ⟨s533, rfl, g534, gs536, ho535⟩ := cr_isl_open hk529
       have hs537 := fun t ht => hs530 t (gs536 t ht)
       have kd538 : KdS enc_i64_i64_i64 3 H506 s533 ((gt all7 i8).2) f66 (.slice a271 n272 c273) 2 i8.toNat 1 := ⟨ho535.sq.up hs537 m509.lt, hq532 1 _ rfl (by decide)⟩
       obtain ⟨a539, n540, c541, rfl⟩ := kd538.sq.form
       refine d_ql (.agg #[.int .i64 ((gt all7 i8).1), .slice a539 n540 c541]) (x := aLoad Try.prog 59 (elp (.slice a271 n272 c273) 2 i8.toNat 0) H506) (by kernel_rfl) (hl531 _ _ _ _ (by kernel_rfl)) ?_
       refine d_qk (.slice (some ⟨b477, 0, none⟩) 3 3) (by kernel_rfl) ?_
       refine d_qk (.int .i64 i8) (by kernel_rfl) ?_
       refine d_qk (.int .i64 (Int.tmod i8 3)) (by kernel_rfl) ?_
       obtain ⟨g543, r544⟩ := G_some r526
       have u545 := (hm489.fr e507 (Dj.symm (hf491.djn (m64.lt.le (ntr e283.next e295.next)))))
       refine d_ql (elp (.slice (some ⟨b477, 0, none⟩) 3 3) 2 (Int.tmod i8 3).toNat 0) (x := aIndexAddr Try.prog 63 (.slice (some ⟨b477, 0, none⟩) 3 3) (.int .i64 (Int.tmod i8 3))) (by kernel_rfl) (u545.idxb (by kernel_rfl) g543.1 g543.2) ?_
       obtain ⟨cs546, f547, hk548, hs549, hl550, hq551⟩ := u545.kid g543.1 g543.2
       obtain ⟨s552, rfl, g553, gs555, ho554⟩ := cr_isl_open hk548
       have hs556 := fun t ht => hs549 t (gs555 t ht)
       have kd557 : KdS enc_i64_i64_i64 3 H506 s552 ((gt [(y329.1, y329.2.1), (y378.1, y378.2.1), (y427.1, y427.2.1)] (Int.tmod i8 3)).2) f490 (.slice (some ⟨b477, 0, none⟩) 3 3) 2 (Int.tmod i8 3).toNat 1 := ⟨ho554.sq.up hs556 u545.lt, hq551 1 _ rfl (by decide)⟩
       obtain ⟨a558, n559, c560, rfl⟩ := kd557.sq.form
       refine d_ql (.agg #[.int .i64 ((gt [(y329.1, y329.2.1), (y378.1, y378.2.1), (y427.1, y427.2.1)] (Int.tmod i8 3)).1), .slice a558 n559 c560]) (x := aLoad Try.prog 59 (elp (.slice (some ⟨b477, 0, none⟩) 3 3) 2 (Int.tmod i8 3).toNat 0) H506) (by kernel_rfl) (hl550 _ _ _ _ (by kernel_rfl)) ?_
       obtain ⟨y562, hy563, r564⟩ := bind_some r544
       refine d_ck 33 #[.agg #[.int .i64 ((gt all7 i8).1), .slice a539 n540 c541], .agg #[.int .i64 ((gt [(y329.1, y329.2.1), (y378.1, y378.2.1), (y427.1, y427.2.1)] (Int.tmod i8 3)).1), .slice a558 n559 c560]] (by kernel_rfl) (c_viaductref03_Same e507.wf kd538.sq kd557.sq hy563) ?_
       rintro _ H565 ⟨rfl, e566⟩
       refine ⟨st_nil, ?_⟩
       refine d_qk (.bool (!y562)) (by kernel_rfl) ?_
       refine d_nil ?_
       refine k524 _ _ ?_
       refine w_cond ((!y562)) (by kernel_rfl) rfl (fun h567 => ?_) (fun h567 => ?_)
       ·have r568 := ite_t h567 r564
        refine w_seqk fun K569 k569 => ?_
        refine w_reg (by kernel_rfl) ?_
        refine s_qk (.bool false) (by kernel_rfl) ?_
        refine s_nil ?_
        refine k569 _ _ ?_
        refine w_ret (th_ret (bl_ret (th_ret (th_ret (bl_ret (th_ret (th_ret ?_)))))))
        obtain ⟨v570, hv571, hz572⟩ := map_some r568
        subst hz572
        obtain rfl := it_inr hn515
        have hq573 := elim_inl r498
        rw [hq573] at hv571
        refine b_ret (fn := Try.f4) (vs := [.bool false]) (aRes_tmp (by kernel_rfl) (rfl)) ?_
        have c574 := (FrS.step wf (FrS.step wf (FrS.step wf (FrS.step wf ((FrS.step wf (FrS.step wf ((FrS.refl (W := []) wf).extR e4) e17 Inn.nil) e32 Inn.nil).extR e46) e52 (hb47.fresh (ntr (ntr e4.next e17.next) e32.next))) e62 Inn.nil) e283 Inn.nil) e295 (i35.fresh (ntr e4.next e17.next)))
        have c575 := (((FrS.step e295.wf (FrS.step e295.wf (FrS.step e295.wf (((FrS.step e295.wf (FrS.refl (W := []) e295.wf) e337 Inn.nil).extR e353).extR e359) e365 (hb354.fresh e337.next)) e371 (hb360.fresh (ntr e337.next e353.next))) e386 Inn.nil).extR e402).extR e408)
        have n576 := (ntr (ntr (ntr (ntr (ntr (ntr (ntr e4.next e17.next) e32.next) e46.next) e52.next) e62.next) e283.next) e295.next)
        have n577 := (ntr (ntr (ntr (ntr (ntr (ntr (ntr e337.next e353.next) e359.next) e365.next) e371.next) e386.next) e402.next) e408.next)
        obtain rfl := Option.some.inj hv571
        exact ⟨rfl, (FrS.step wf (FrS.step wf ((FrS.step wf (FrS.step wf (((FrS.step wf (FrS.step wf (FrS.step wf (FrS.step wf (FrS.step wf (FrS.refl (W := []) wf) c574 Inn.nil) c575 Inn.nil) e414 (hb403.fresh (ntr (ntr (ntr (ntr (ntr (ntr (ntr (ntr (ntr (ntr (ntr (ntr (ntr e4.next e17.next) e32.next) e46.next) e52.next) e62.next) e283.next) e295.next) e337.next) e353.next) e359.next) e365.next) e371.next) e386.next))) e420 (hb409.fresh (ntr (ntr (ntr (ntr (ntr (ntr (ntr (ntr (ntr (ntr (ntr (ntr (ntr (ntr e4.next e17.next) e32.next) e46.next) e52.next) e62.next) e283.next) e295.next) e337.next) e353.next) e359.next) e365.next) e371.next) e386.next) e402.next))) e435 Inn.nil).extR e451).extR e457) e463 (hb452.fresh (ntr (ntr (ntr (ntr n576 n577) e414.next) e420.next) e435.next))) e469 (hb458.fresh (ntr (ntr (ntr (ntr (ntr n576 n577) e414.next) e420.next) e435.next) e451.next))).extR e479) e507 (i67.fresh (ntr (ntr (ntr (ntr e4.next e17.next) e32.next) e46.next) e52.next))) e566 Inn.nil)⟩
       ·have r578 := ite_bf h567 r564
        refine w_skip ?_
        refine k523 _ _ ?_
        refine w_seqk fun K579 k579 => ?_
        refine w_seqk fun K580 k580 => ?_
        refine w_reg (by kernel_rfl) ?_
        refine s_qk (.slice a271 n272 c273) (by kernel_rfl) ?_
        refine s_qk (.int .i64 i8) (by kernel_rfl) ?_
        have u581 := (m509.fr e566 Dj.nil_l)
        refine s_ql (elp (.slice a271 n272 c273) 2 i8.toNat 0) (x := aIndexAddr Try.prog 63 (.slice a271 n272 c273) (.int .i64 i8)) (by kernel_rfl) (u581.idxb (by kernel_rfl) g525.1 g525.2) ?_
        refine s_ql (elp (.slice a271 n272 c273) 2 i8.toNat 1) (x := aFieldAddr Try.prog 59 (elp (.slice a271 n272 c273) 2 i8.toNat 0) 1) (by kernel_rfl) (Nst.fldq (d := 1) u581 g525.1 g525.2 (by kernel_rfl)) ?_
        obtain ⟨cs582, f583, hk584, hs585, hl586, hq587⟩ := u581.kid g525.1 g525.2
        obtain ⟨s588, rfl, g589, gs591, ho590⟩ := cr_isl_open hk584
        have hs592 := fun t ht => hs585 t (gs591 t ht)
        have kd593 : KdS enc_i64_i64_i64 3 H565 s588 ((gt all7 i8).2) f66 (.slice a271 n272 c273) 2 i8.toNat 1 := ⟨ho590.sq.up hs592 u581.lt, hq587 1 _ rfl (by decide)⟩
        obtain ⟨a594, n595, c596, rfl⟩ := kd593.sq.form
        refine s_ql (.slice a594 n595 c596) (x := aLoad Try.prog 57 (elp (.slice a271 n272 c273) 2 i8.toNat 1) H565) (by kernel_rfl) (hl586 _ _ _ _ (by kernel_rfl)) ?_
        refine s_ql (.int .i64 (((gt all7 i8).2).length : Int)) (x := aLen Try.prog 57 (.slice a594 n595 c596) H565) (by kernel_rfl) (kd593.sq.lenb (by kernel_rfl)) ?_
        refine s_qk (.int .i64 0) (by kernel_rfl) ?_
        refine s_nil ?_
        refine k580 _ _ ?_
        obtain ⟨o598, hx599, r600⟩ := bind_some r578
        refine w_mid (fun α H601 => Has α [(5, .slice a271 n272 c273), (19, .slice (some ⟨b477, 0, none⟩) 3 3), (20, .int .i64 i8), (97, .int .i64 (o58.length : Int)), (98, .int .i64 i8)] ∧ FrS f66 H565 H601 ∧ Nst (CR.prod (CR.int .i64) (CR.sl enc_i64_i64_i64 3)) H601 (.slice a271 n272 c273) o598 f66) (fun K605 k605 => ?_) (fun α H601 hM => ?_)
        ·refine w_block ?_
         obtain ⟨n607, hn608⟩ := loopO_iff.1 hx599
         refine w_loopn (fun n α H609 => ∃ (i4 : Int), ∃ (all5 : List (Int × List (Int × Int × Int))), iterO (fun zz_ => z_viaductlaw04_NormalMemory_l2 all7 i8 zz_.1 zz_.2) n (i4, all5) = some o598 ∧ Has α [(5, .slice a271 n272 c273), (19, .slice (some ⟨b477, 0, none⟩) 3 3), (20, .int .i64 i8), (97, .int .i64 (o58.length : Int)), (98, .int .i64 i8), (117, .int .i64 (((gt all7 i8).2).length : Int)), (118, .int .i64 i4)] ∧ FrS f66 H565 H609 ∧ Nst (CR.prod (CR.int .i64) (CR.sl enc_i64_i64_i64 3)) H609 (.slice a271 n272 c273) all5 f66) n607 ⟨0, all7, hn608, ⟨by kernel_rfl, by kernel_rfl, by kernel_rfl, by kernel_rfl, by kernel_rfl, by kernel_rfl, by kernel_rfl, trivial⟩, (FrS.refl (W := f66) e566.wf), u581⟩ ?_
         rintro n607 α H609 ⟨i4, all5, hi614, hh613, e610, m612⟩ K619 k619
         obtain ⟨n615, z616, rfl, hz617, hn618⟩ := iter_succ hi614
         obtain ⟨β, rfl⟩ := has_ex hh613
         clear hh613
         replace hz617 : z_viaductlaw04_NormalMemory_l2 all7 i8 i4 all5 = some z616 := hz617
         unfold z_viaductlaw04_NormalMemory_l2 at hz617
         refine w_seqk fun K620 k620 => ?_
         refine w_reg (by kernel_rfl) ?_
         refine s_qk (.bool (decide (i4 < (((gt all7 i8).2).length : Int)))) (by kernel_rfl) ?_
         refine s_nil ?_
         refine k620 _ _ ?_
         refine w_seqk fun K621 k621 => ?_
         refine w_condp (i4 < (((gt all7 i8).2).length : Int)) (by kernel_rfl) rfl (fun h622 => ?_) (fun h622 => ?_)
         ·have r623 := ite_t h622 hz617
          refine w_skip ?_
          refine k621 _ _ ?_
          refine w_seqk fun K624 k624 => ?_
          refine w_block ?_
          refine w_seqk fun K625 k625 => ?_
          refine w_reg (by kernel_rfl) ?_
          refine s_qk (.int .i64 i4) (by kernel_rfl) ?_
          refine s_qk (.int .i64 i4) (by kernel_rfl) ?_
          refine s_nil ?_
          refine k625 _ _ ?_
          refine w_reg (by kernel_rfl) ?_
          refine s_qk (.slice a271 n272 c273) (by kernel_rfl) ?_
          refine s_qk (.int .i64 i8) (by kernel_rfl) ?_
          obtain ⟨g626, r627⟩ := G_some r623
          refine s_ql (elp (.slice a271 n272 c273) 2 i8.toNat 0) (x := aIndexAddr Try.prog 63 (.slice a271 n272 c273) (.int .i64 i8)) (by kernel_rfl) (m612.idxb (by kernel_rfl) g525.1 g626) ?_
          refine s_ql (elp (.slice a271 n272 c273) 2 i8.toNat 1) (x := aFieldAddr Try.prog 59 (elp (.slice a271 n272 c273) 2 i8.toNat 0) 1) (by kernel_rfl) (Nst.fldq (d := 1) m612 g525.1 g626 (by kernel_rfl)) ?_
          obtain ⟨cs628, f629, hk630, hs631, hl632, hq633⟩ := m612.kid g525.1 g626
          obtain ⟨s634, rfl, g635, gs637, ho636⟩ := cr_isl_open hk630
          have hs638 := fun t ht => hs631 t (gs637 t ht)
          have kd639 : KdS enc_i64_i64_i64 3 H609 s634 ((gt all5 i8).2) f66 (.slice a271 n272 c273) 2 i8.toNat 1 := ⟨ho636.sq.up hs638 m612.lt, hq633 1 _ rfl (by decide)⟩
          obtain ⟨a640, n641, c642, rfl⟩ := kd639.sq.form
          refine s_ql (.slice a640 n641 c642) (x := aLoad Try.prog 57 (elp (.slice a271 n272 c273) 2 i8.toNat 1) H609) (by kernel_rfl) (hl632 _ _ _ _ (by kernel_rfl)) ?_
          refine s_qk (.int .i64 i4) (by kernel_rfl) ?_
          obtain ⟨g644, r645⟩ := G_some r627
          refine s_ql (elp (.slice a640 n641 c642) 3 i4.toNat 0) (x := aIndexAddr Try.prog 57 (.slice a640 n641 c642) (.int .i64 i4)) (by kernel_rfl) (kd639.sq.idxb (by kernel_rfl) g644.1 g644.2) ?_
          refine s_ql (elp (.slice a640 n641 c642) 3 i4.toNat 2) (x := aFieldAddr Try.prog 73 (elp (.slice a640 n641 c642) 3 i4.toNat 0) 2) (by kernel_rfl) (Sq.fldq (d := 2) kd639.sq g644.1 g644.2 (by kernel_rfl)) ?_
          obtain ⟨H646, q647, e648, hm649, kd650⟩ := Nst.inner cr_isl_lens (P := Try.prog) (t := 3) (o2 := 2) e610.wf m612 g525.1 g626 kd639 rfl g644.1 g644.2 (.int .i64 (-1)) [.int .i64 (-1)] (by kernel_rfl) (by kernel_rfl) rfl ((gt ((gt all5 i8).2) i4).1, (gt ((gt all5 i8).2) i4).2.1, (-1)) (Nat.le_of_ble_eq_true rfl) (by kernel_rfl)
          have h1651 : i8 < ((all5.set i8.toNat ((gt all5 i8).1, (((gt all5 i8).2).set i4.toNat ((gt ((gt all5 i8).2) i4).1, (gt ((gt all5 i8).2) i4).2.1, (-1))))).length : Int) := by rw [List.length_set]; exact g626
          have eq652 : (((gt all5 i8).2).set i4.toNat ((gt ((gt all5 i8).2) i4).1, (gt ((gt all5 i8).2) i4).2.1, (-1))) = (gt (all5.set i8.toNat ((gt all5 i8).1, (((gt all5 i8).2).set i4.toNat ((gt ((gt all5 i8).2) i4).1, (gt ((gt all5 i8).2) i4).2.1, (-1))))) i8).2 := (congrArg Prod.snd (gt_set_self g525.1 g626 (((gt all5 i8).1, (((gt all5 i8).2).set i4.toNat ((gt ((gt all5 i8).2) i4).1, (gt ((gt all5 i8).2) i4).2.1, (-1))))))).symm
          refine s_ek (undef) (by kernel_rfl) (map_ok q647) ?_
          refine s_nil ?_
          refine k624 _ _ ?_
          refine w_reg (by kernel_rfl) ?_
          obtain ⟨g653, r654⟩ := G_some r645
          refine s_w ((i4 + 1)) (k := .i64) (x := (i4 + 1)) (by kernel_rfl) (wrap64 (by have := g653; omega)) ?_
          refine s_qk (.int .i64 (i4 + 1)) (by kernel_rfl) ?_
          refine s_nil ?_
          obtain rfl := Option.some.inj r654
          exact k619 n615 _ _ (Nat.lt_succ_self _) ⟨(i4 + 1), (all5.set i8.toNat ((gt all5 i8).1, (((gt all5 i8).2).set i4.toNat ((gt ((gt all5 i8).2) i4).1, (gt ((gt all5 i8).2) i4).2.1, (-1))))), hn618, ⟨by kernel_rfl, by kernel_rfl, by kernel_rfl, by kernel_rfl, by kernel_rfl, by kernel_rfl, by kernel_rfl, trivial⟩, (FrS.step e566.wf (FrS.step e566.wf (FrS.refl (W := f66) e566.wf) e610 Inn.refl') e648 Inn.refl'), hm649⟩
         ·have r655 := ite_f h622 hz617
          refine w_exit (th_exit (th_exit (bl_eq ?_)))
          obtain rfl := Option.some.inj r655
          obtain rfl := it_inr hn618
          exact k605 _ _ ⟨⟨by kernel_rfl, by kernel_rfl, by kernel_rfl, by kernel_rfl, by kernel_rfl, trivial⟩, (FrS.step e566.wf (FrS.refl (W := f66) e566.wf) e610 Inn.refl'), m612⟩
        ·obtain ⟨hh606, e602, m604⟩ := hM
         obtain ⟨β, rfl⟩ := has_ex hh606
         clear hh606
         refine k579 _ _ ?_
         refine w_seqk fun K656 k656 => ?_
         refine w_seqk fun K657 k657 => ?_
         refine w_reg (by kernel_rfl) ?_
         refine s_qk (.slice a271 n272 c273) (by kernel_rfl) ?_
         refine s_qk (.int .i64 i8) (by kernel_rfl) ?_
         obtain ⟨g658, r659⟩ := G_some r600
         refine s_ql (elp (.slice a271 n272 c273) 2 i8.toNat 0) (x := aIndexAddr Try.prog 63 (.slice a271 n272 c273) (.int .i64 i8)) (by kernel_rfl) (m604.idxb (by kernel_rfl) g525.1 g658) ?_
         refine s_ql (elp (.slice a271 n272 c273) 2 i8.toNat 1) (x := aFieldAddr Try.prog 59 (elp (.slice a271 n272 c273) 2 i8.toNat 0) 1) (by kernel_rfl) (Nst.fldq (d := 1) m604 g525.1 g658 (by kernel_rfl)) ?_
         obtain ⟨cs660, f661, hk662, hs663, hl664, hq665⟩ := m604.kid g525.1 g658
         obtain ⟨s666, rfl, g667, gs669, ho668⟩ := cr_isl_open hk662
         have hs670 := fun t ht => hs663 t (gs669 t ht)
         have kd671 : KdS enc_i64_i64_i64 3 H601 s666 ((gt o598 i8).2) f66 (.slice a271 n272 c273) 2 i8.toNat 1 := ⟨ho668.sq.up hs670 m604.lt, hq665 1 _ rfl (by decide)⟩
         obtain ⟨a672, n673, c674, rfl⟩ := kd671.sq.form
         refine s_ql (.slice a672 n673 c674) (x := aLoad Try.prog 57 (elp (.slice a271 n272 c273) 2 i8.toNat 1) H601) (by kernel_rfl) (hl664 _ _ _ _ (by kernel_rfl)) ?_
         refine s_qk (.agg #[.int .i64 0, .int .i64 0, .int .i64 0]) (by kernel_rfl) ?_
         refine s_qk (.agg #[.int .i64 0, .int .i64 0, .int .i64 0]) (by kernel_rfl) ?_
         refine s_owk (enc := enc_i64_i64_i64) (sz := 3) e602.wf [(0, 0, 0), (0, 0, 0)] 2 (by decide) (fun _ _ => rfl) (fun _ _ => rfl) rfl (by kernel_rfl) fun s676 f677 H678 e679 hf680 hm681 => ?_
         obtain ⟨a682, n683, c684, rfl⟩ := hm681.form
         have u686 := (kd671.ext e679)
         obtain ⟨g687, r688⟩ := G_some r659
         have u703 := (m604.ext e679)
         obtain ⟨s689, f691, H696, H697, q695, q698, hf694, hk699⟩ := Nst.appendKid (P := Try.prog) cr_isl_lens (fun _ => rfl) 24 e679.wf u703 g525.1 g658 u686 rfl hm681.sq (fun _ _ => rfl) (at_ := #[57, 57]) rfl rfl (by kernel_rfl) (by kernel_rfl) (by decide) (by have := g687; first | omega | (simp only [List.length_cons, List.length_nil] at this ⊢; omega) | (simp at this ⊢; omega))
         refine s_apk (by kernel_rfl) (by kernel_rfl) q695 q698 fun H690 hH700 => ?_
         obtain ⟨e692, hm693, hm701, kd702⟩ := hk699 H690 hH700
         obtain ⟨a704, n705, c706, rfl⟩ := hm693.form
         refine s_qk (.slice a704 n705 c706) (by kernel_rfl) ?_
         refine s_nil ?_
         refine k657 _ _ ?_
         refine w_seqk fun K708 k708 => ?_
         refine w_reg (by kernel_rfl) ?_
         refine s_qk (.slice a704 n705 c706) (by kernel_rfl) ?_
         refine s_ql (.int .i64 (((gt o598 i8).2 ++ [(0, 0, 0), (0, 0, 0)]).length : Int)) (x := aLen Try.prog 57 (.slice a704 n705 c706) H690) (by kernel_rfl) (hm693.sq.lenb (by kernel_rfl)) ?_
         refine s_qk (.slice a271 n272 c273) (by kernel_rfl) ?_
         refine s_qk (.int .i64 i8) (by kernel_rfl) ?_
         refine s_ql (elp (.slice a271 n272 c273) 2 i8.toNat 0) (x := aIndexAddr Try.prog 63 (.slice a271 n272 c273) (.int .i64 i8)) (by kernel_rfl) (hm701.idxb (by kernel_rfl) g525.1 g658) ?_
         refine s_ql (elp (.slice a271 n272 c273) 2 i8.toNat 1) (x := aFieldAddr Try.prog 59 (elp (.slice a271 n272 c273) 2 i8.toNat 0) 1) (by kernel_rfl) (Nst.fldq (d := 1) hm701 g525.1 g658 (by kernel_rfl)) ?_
         obtain ⟨cs709, f710, hk711, hs712, hl713, hq714⟩ := hm701.kid g525.1 g658
         obtain ⟨s715, rfl, g716, gs718, ho717⟩ := cr_isl_open hk711
         have hs719 := fun t ht => hs712 t (gs718 t ht)
         have kd720 : KdS enc_i64_i64_i64 3 H690 s715 ((gt o598 i8).2) f66 (.slice a271 n272 c273) 2 i8.toNat 1 := ⟨ho717.sq.up hs719 hm701.lt, hq714 1 _ rfl (by decide)⟩
         obtain ⟨a721, n722, c723, rfl⟩ := kd720.sq.form
         refine s_ql (.slice a721 n722 c723) (x := aLoad Try.prog 57 (elp (.slice a271 n272 c273) 2 i8.toNat 1) H690) (by kernel_rfl) (hl713 _ _ _ _ (by kernel_rfl)) ?_
         refine s_ql (.int .i64 (((gt o598 i8).2).length : Int)) (x := aLen Try.prog 57 (.slice a721 n722 c723) H690) (by kernel_rfl) (kd720.sq.lenb (by kernel_rfl)) ?_
         obtain ⟨g725, r726⟩ := G_some r688
         refine s_w (((((gt o598 i8).2).length : Int) + 2)) (k := .i64) (x := ((((gt o598 i8).2).length : Int) + 2)) (by kernel_rfl) (wrap64 g725) ?_
         refine s_qk (.bool (!decide ((((gt o598 i8).2 ++ [(0, 0, 0), (0, 0, 0)]).length : Int) = ((((gt o598 i8).2).length : Int) + 2)))) (by kernel_rfl) ?_
         refine s_nil ?_
         refine k708 _ _ ?_
         refine w_condn ((((gt o598 i8).2 ++ [(0, 0, 0), (0, 0, 0)]).length : Int) = ((((gt o598 i8).2).length : Int) + 2)) (by kernel_rfl) rfl (fun h727 => ?_) (fun h727 => ?_)
         ·have r728 := ite_f h727 r726
          refine w_seqk fun K729 k729 => ?_
          refine w_reg (by kernel_rfl) ?_
          refine s_qk (.bool false) (by kernel_rfl) ?_
          refine s_nil ?_
          refine k729 _ _ ?_
          refine w_ret (th_ret (bl_ret (th_ret (th_ret (bl_ret (th_ret (th_ret ?_)))))))
          obtain ⟨v730, hv731, hz732⟩ := map_some r728
          subst hz732
          obtain rfl := it_inr hn515
          have hq733 := elim_inl r498
          rw [hq733] at hv731
          refine b_ret (fn := Try.f4) (vs := [.bool false]) (aRes_tmp (by kernel_rfl) (rfl)) ?_
          have c734 := (FrS.step wf (FrS.step wf (FrS.step wf (FrS.step wf ((FrS.step wf (FrS.step wf ((FrS.refl (W := []) wf).extR e4) e17 Inn.nil) e32 Inn.nil).extR e46) e52 (hb47.fresh (ntr (ntr e4.next e17.next) e32.next))) e62 Inn.nil) e283 Inn.nil) e295 (i35.fresh (ntr e4.next e17.next)))
          have c735 := (((FrS.step e295.wf (FrS.step e295.wf (FrS.step e295.wf (((FrS.step e295.wf (FrS.refl (W := []) e295.wf) e337 Inn.nil).extR e353).extR e359) e365 (hb354.fresh e337.next)) e371 (hb360.fresh (ntr e337.next e353.next))) e386 Inn.nil).extR e402).extR e408)
          have n736 := (ntr (ntr (ntr (ntr (ntr (ntr (ntr e4.next e17.next) e32.next) e46.next) e52.next) e62.next) e283.next) e295.next)
          have n737 := (ntr (ntr (ntr (ntr (ntr (ntr (ntr e337.next e353.next) e359.next) e365.next) e371.next) e386.next) e402.next) e408.next)
          obtain rfl := Option.some.inj hv731
          exact ⟨rfl, (FrS.step wf ((FrS.step wf (FrS.step wf (FrS.step wf ((FrS.step wf (FrS.step wf (((FrS.step wf (FrS.step wf (FrS.step wf (FrS.step wf (FrS.step wf (FrS.refl (W := []) wf) c734 Inn.nil) c735 Inn.nil) e414 (hb403.fresh (ntr (ntr (ntr (ntr (ntr (ntr (ntr (ntr (ntr (ntr (ntr (ntr (ntr e4.next e17.next) e32.next) e46.next) e52.next) e62.next) e283.next) e295.next) e337.next) e353.next) e359.next) e365.next) e371.next) e386.next))) e420 (hb409.fresh (ntr (ntr (ntr (ntr (ntr (ntr (ntr (ntr (ntr (ntr (ntr (ntr (ntr (ntr e4.next e17.next) e32.next) e46.next) e52.next) e62.next) e283.next) e295.next) e337.next) e353.next) e359.next) e365.next) e371.next) e386.next) e402.next))) e435 Inn.nil).extR e451).extR e457) e463 (hb452.fresh (ntr (ntr (ntr (ntr n736 n737) e414.next) e420.next) e435.next))) e469 (hb458.fresh (ntr (ntr (ntr (ntr (ntr n736 n737) e414.next) e420.next) e435.next) e451.next))).extR e479) e507 (i67.fresh (ntr (ntr (ntr (ntr e4.next e17.next) e32.next) e46.next) e52.next))) e566 Inn.nil) e602 (i67.fresh (ntr (ntr (ntr (ntr e4.next e17.next) e32.next) e46.next) e52.next))).extR e679) e692 (i67.fresh (ntr (ntr (ntr (ntr e4.next e17.next) e32.next) e46.next) e52.next)))⟩
         ·have r738 := ite_t h727 r726
          refine w_skip ?_
          refine k656 _ _ ?_
          refine w_seqk fun K739 k739 => ?_
          refine w_reg (by kernel_rfl) ?_
          refine s_qk (.int .i64 i8) (by kernel_rfl) ?_
          obtain ⟨g740, r741⟩ := G_some r738
          refine s_w ((i8 + 1)) (k := .i64) (x := (i8 + 1)) (by kernel_rfl) (wrap64 (by have := g740; omega)) ?_
          refine s_qk (.int .i64 (i8 + 1)) (by kernel_rfl) ?_
          refine s_nil ?_
          refine k739 _ _ ?_
          obtain ⟨z745, hx743, r744⟩ := bind_some r741
          refine w_mid (fun α H746 => ∃ o742, z745 = Sum.inr o742 ∧ Has α [(5, .slice a271 n272 c273), (19, .slice (some ⟨b477, 0, none⟩) 3 3), (97, .int .i64 (o58.length : Int)), (98, .int .i64 i8)] ∧ FrS [] H690 H746) (fun K748 k748 => ?_) (fun α H746 hM => ?_)
          ·refine w_block ?_
           obtain ⟨n750, hn751⟩ := loopO_iff.1 hx743
           refine w_loopn (fun n α H752 => ∃ (j6 : Int), iterO (fun zz_ => z_viaductlaw04_NormalMemory_l3 y329 y378 y427 o598 zz_) n j6 = some z745 ∧ Has α [(5, .slice a271 n272 c273), (19, .slice (some ⟨b477, 0, none⟩) 3 3), (23, .int .i64 j6), (97, .int .i64 (o58.length : Int)), (98, .int .i64 i8)] ∧ FrS [] H690 H752) n750 ⟨(i8 + 1), hn751, ⟨by kernel_rfl, by kernel_rfl, by kernel_rfl, by kernel_rfl, by kernel_rfl, trivial⟩, (FrS.refl (W := []) e692.wf)⟩ ?_
           rintro n750 α H752 ⟨j6, hi755, hh754, e753⟩ K760 k760
           obtain ⟨n756, z757, rfl, hz758, hn759⟩ := iter_succ hi755
           obtain ⟨β, rfl⟩ := has_ex hh754
           clear hh754
           replace hz758 : z_viaductlaw04_NormalMemory_l3 y329 y378 y427 o598 j6 = some z757 := hz758
           unfold z_viaductlaw04_NormalMemory_l3 at hz758
           refine w_seqk fun K761 k761 => ?_
           refine w_seqk fun K762 k762 => ?_
           refine w_reg (by kernel_rfl) ?_
           refine s_qk (.int .i64 j6) (by kernel_rfl) ?_
           refine s_qk (.slice a271 n272 c273) (by kernel_rfl) ?_
           have u763 := (hm701.fr e753 Dj.nil_l)
           refine s_ql (.int .i64 (o598.length : Int)) (x := aLen Try.prog 63 (.slice a271 n272 c273) H752) (by kernel_rfl) (u763.lenb (by kernel_rfl)) ?_
           refine s_qk (.bool (decide (j6 < (o598.length : Int)))) (by kernel_rfl) ?_
           refine s_nil ?_
           refine k762 _ _ ?_
           refine w_condp (j6 < (o598.length : Int)) (by kernel_rfl) rfl (fun h764 => ?_) (fun h764 => ?_)
           ·have r765 := ite_t h764 hz758
            refine w_skip ?_
            refine k761 _ _ ?_
            refine w_seqk fun K766 k766 => ?_
            refine w_block ?_
            refine w_seqk fun K767 k767 => ?_
            refine w_draw [0, 1, 2, 3, 4, 5, 6, 7, 8, 9, 10] (by kernel_rfl) ?_
            refine d_qk (.slice a271 n272 c273) (by kernel_rfl) ?_
            refine d_qk (.int .i64 j6) (by kernel_rfl) ?_
            obtain ⟨g768, r769⟩ := G_some r765
            refine d_ql (elp (.slice a271 n272 c273) 2 j6.toNat 0) (x := aIndexAddr Try.prog 63 (.slice a271 n272 c273) (.int .i64 j6)) (by kernel_rfl) (u763.idxb (by kernel_rfl) g768 h764) ?_
            obtain ⟨cs770, f771, hk772, hs773, hl774, hq775⟩ := u763.kid g768 h764
            obtain ⟨s776, rfl, g777, gs779, ho778⟩ := cr_isl_open hk772
            have hs780 := fun t ht => hs773 t (gs779 t ht)
            have kd781 : KdS enc_i64_i64_i64 3 H752 s776 ((gt o598 j6).2) f66 (.slice a271 n272 c273) 2 j6.toNat 1 := ⟨ho778.sq.up hs780 u763.lt, hq775 1 _ rfl (by decide)⟩
            obtain ⟨a782, n783, c784, rfl⟩ := kd781.sq.form
            refine d_ql (.agg #[.int .i64 ((gt o598 j6).1), .slice a782 n783 c784]) (x := aLoad Try.prog 59 (elp (.slice a271 n272 c273) 2 j6.toNat 0) H752) (by kernel_rfl) (hl774 _ _ _ _ (by kernel_rfl)) ?_
            refine d_qk (.slice (some ⟨b477, 0, none⟩) 3 3) (by kernel_rfl) ?_
            refine d_qk (.int .i64 j6) (by kernel_rfl) ?_
            refine d_qk (.int .i64 (Int.tmod j6 3)) (by kernel_rfl) ?_
            obtain ⟨g786, r787⟩ := G_some r769
            have u788 := (((((u545.fr e566 Dj.nil_l).fr e602 (Dj.symm (hf491.djn (m64.lt.le (ntr e283.next e295.next))))).ext e679).fr e692 (Dj.symm (hf491.djn (m64.lt.le (ntr e283.next e295.next))))).fr e753 Dj.nil_l)
            refine d_ql (elp (.slice (some ⟨b477, 0, none⟩) 3 3) 2 (Int.tmod j6 3).toNat 0) (x := aIndexAddr Try.prog 63 (.slice (some ⟨b477, 0, none⟩) 3 3) (.int .i64 (Int.tmod j6 3))) (by kernel_rfl) (u788.idxb (by kernel_rfl) g786.1 g786.2) ?_
            obtain ⟨cs789, f790, hk791, hs792, hl793, hq794⟩ := u788.kid g786.1 g786.2
            obtain ⟨s795, rfl, g796, gs798, ho797⟩ := cr_isl_open hk791
            have hs799 := fun t ht => hs792 t (gs798 t ht)
            have kd800 : KdS enc_i64_i64_i64 3 H752 s795 ((gt [(y329.1, y329.2.1), (y378.1, y378.2.1), (y427.1, y427.2.1)] (Int.tmod j6 3)).2) f490 (.slice (some ⟨b477, 0, none⟩) 3 3) 2 (Int.tmod j6 3).toNat 1 := ⟨ho797.sq.up hs799 u788.lt, hq794 1 _ rfl (by decide)⟩
            obtain ⟨a801, n802, c803, rfl⟩ := kd800.sq.form
            refine d_ql (.agg #[.int .i64 ((gt [(y329.1, y329.2.1), (y378.1, y378.2.1), (y427.1, y427.2.1)] (Int.tmod j6 3)).1), .slice a801 n802 c803]) (x := aLoad Try.prog 59 (elp (.slice (some ⟨b477, 0, none⟩) 3 3) 2 (Int.tmod j6 3).toNat 0) H752) (by kernel_rfl) (hl793 _ _ _ _ (by kernel_rfl)) ?_
            obtain ⟨y805, hy806, r807⟩ := bind_some r787
            refine d_ck 33 #[.agg #[.int .i64 ((gt o598 j6).1), .slice a782 n783 c784], .agg #[.int .i64 ((gt [(y329.1, y329.2.1), (y378.1, y378.2.1), (y427.1, y427.2.1)] (Int.tmod j6 3)).1), .slice a801 n802 c803]] (by kernel_rfl) (c_viaductref03_Same e753.wf kd781.sq kd800.sq hy806) ?_
            rintro _ H808 ⟨rfl, e809⟩
            refine ⟨st_nil, ?_⟩
            refine d_qk (.bool (!y805)) (by kernel_rfl) ?_
            refine d_nil ?_
            refine k767 _ _ ?_
            refine w_cond ((!y805)) (by kernel_rfl) rfl (fun h810 => ?_) (fun h810 => ?_)
            ·have r811 := ite_t h810 r807
             refine w_seqk fun K812 k812 => ?_
             refine w_reg (by kernel_rfl) ?_
             refine s_qk (.bool false) (by kernel_rfl) ?_
             refine s_nil ?_
             refine k812 _ _ ?_
             refine w_ret (bl_ret (th_ret (th_ret (bl_ret (th_ret (bl_ret (th_ret (th_ret (bl_ret (th_ret (th_ret ?_)))))))))))
             obtain ⟨v813, hv814, hz815⟩ := map_some r811
             subst hz815
             obtain rfl := it_inr hn759
             have hq816 := elim_inl r744
             rw [hq816] at hv814
             obtain ⟨v817, hv818, hz819⟩ := map_some hv814
             subst hz819
             obtain rfl := it_inr hn515
             have hq820 := elim_inl r498
             rw [hq820] at hv818
             refine b_ret (fn := Try.f4) (vs := [.bool false]) (aRes_tmp (by kernel_rfl) (rfl)) ?_
             have c821 := (FrS.step wf (FrS.step wf (FrS.step wf (FrS.step wf ((FrS.step wf (FrS.step wf ((FrS.refl (W := []) wf).extR e4) e17 Inn.nil) e32 Inn.nil).extR e46) e52 (hb47.fresh (ntr (ntr e4.next e17.next) e32.next))) e62 Inn.nil) e283 Inn.nil) e295 (i35.fresh (ntr e4.next e17.next)))
             have c822 := (((FrS.step e295.wf (FrS.step e295.wf (FrS.step e295.wf (((FrS.step e295.wf (FrS.refl (W := []) e295.wf) e337 Inn.nil).extR e353).extR e359) e365 (hb354.fresh e337.next)) e371 (hb360.fresh (ntr e337.next e353.next))) e386 Inn.nil).extR e402).extR e408)
             have n823 := (ntr (ntr (ntr (ntr (ntr (ntr (ntr e4.next e17.next) e32.next) e46.next) e52.next) e62.next) e283.next) e295.next)
             have n824 := (ntr (ntr (ntr (ntr (ntr (ntr (ntr e337.next e353.next) e359.next) e365.next) e371.next) e386.next) e402.next) e408.next)
             obtain rfl := Option.some.inj hv818
             exact ⟨rfl, (FrS.step wf (FrS.step wf (FrS.step wf ((FrS.step wf (FrS.step wf (FrS.step wf ((FrS.step wf (FrS.step wf (((FrS.step wf (FrS.step wf (FrS.step wf (FrS.step wf (FrS.step wf (FrS.refl (W := []) wf) c821 Inn.nil) c822 Inn.nil) e414 (hb403.fresh (ntr (ntr (ntr (ntr (ntr (ntr (ntr (ntr (ntr (ntr (ntr (ntr (ntr e4.next e17.next) e32.next) e46.next) e52.next) e62.next) e283.next) e295.next) e337.next) e353.next) e359.next) e365.next) e371.next) e386.next))) e420 (hb409.fresh (ntr (ntr (ntr (ntr (ntr (ntr (ntr (ntr (ntr (ntr (ntr (ntr (ntr (ntr e4.next e17.next) e32.next) e46.next) e52.next) e62.next) e283.next) e295.next) e337.next) e353.next) e359.next) e365.next) e371.next) e386.next) e402.next))) e435 Inn.nil).extR e451).extR e457) e463 (hb452.fresh (ntr (ntr (ntr (ntr n823 n824) e414.next) e420.next) e435.next))) e469 (hb458.fresh (ntr (ntr (ntr (ntr (ntr n823 n824) e414.next) e420.next) e435.next) e451.next))).extR e479) e507 (i67.fresh (ntr (ntr (ntr (ntr e4.next e17.next) e32.next) e46.next) e52.next))) e566 Inn.nil) e602 (i67.fresh (ntr (ntr (ntr (ntr e4.next e17.next) e32.next) e46.next) e52.next))).extR e679) e692 (i67.fresh (ntr (ntr (ntr (ntr e4.next e17.next) e32.next) e46.next) e52.next))) e753 Inn.nil) e809 Inn.nil)⟩
            ·have r825 := ite_bf h810 r807
             refine w_skip ?_
             refine k766 _ _ ?_
             refine w_reg (by kernel_rfl) ?_
             refine s_qk (.int .i64 j6) (by kernel_rfl) ?_
             obtain ⟨g826, r827⟩ := G_some r825
             refine s_w ((j6 + 1)) (k := .i64) (x := (j6 + 1)) (by kernel_rfl) (wrap64 (by have := g826; omega)) ?_
             refine s_qk (.int .i64 (j6 + 1)) (by kernel_rfl) ?_
             refine s_nil ?_
             obtain rfl := Option.some.inj r827
             exact k760 n756 _ _ (Nat.lt_succ_self _) ⟨(j6 + 1), hn759, ⟨by kernel_rfl, by kernel_rfl, by kernel_rfl, by kernel_rfl, by kernel_rfl, trivial⟩, (FrS.step e692.wf (FrS.step e692.wf (FrS.refl (W := []) e692.wf) e753 Inn.nil) e809 Inn.nil)⟩
           ·have r828 := ite_f h764 hz758
            refine w_exit (th_exit (th_exit (bl_eq ?_)))
            obtain rfl := Option.some.inj r828
            obtain rfl := it_inr hn759
            exact k748 _ _ ⟨_, rfl, ⟨by kernel_rfl, by kernel_rfl, by kernel_rfl, by kernel_rfl, trivial⟩, (FrS.step e692.wf (FrS.refl (W := []) e692.wf) e753 Inn.nil)⟩
          ·obtain ⟨o742, rfl, hh749, e747⟩ := hM
           have r829 := elim_inr r744
           obtain ⟨β, rfl⟩ := has_ex hh749
           clear hh749
           refine k521 _ _ ?_
           refine w_reg (by kernel_rfl) ?_
           refine s_w ((i8 + 1)) (k := .i64) (x := (i8 + 1)) (by kernel_rfl) (wrap64 (by have := g740; omega)) ?_
           refine s_qk (.int .i64 (i8 + 1)) (by kernel_rfl) ?_
           refine s_nil ?_
           have u830 := (hm701.fr e747 Dj.nil_l)
           obtain rfl := Option.some.inj r829
           exact k516 n512 _ _ (Nat.lt_succ_self _) ⟨o598, (i8 + 1), hn515, ⟨by kernel_rfl, by kernel_rfl, by kernel_rfl, by kernel_rfl, trivial⟩, (FrS.step e479.wf (FrS.step e479.wf ((FrS.step e479.wf (FrS.step e479.wf (FrS.step e479.wf (FrS.refl (W := f66) e479.wf) e507 Inn.refl') e566 Inn.nil) e602 Inn.refl').extR e679) e692 Inn.refl') e747 Inn.nil), u830⟩
      ·have r831 := ite_f h519 hz514
       refine w_exit (th_exit (th_exit (bl_eq ?_)))
       obtain rfl := Option.some.inj r831
       obtain rfl := it_inr hn515
       exact k502 _ _ ⟨_, rfl, trivial, (FrS.step e479.wf (FrS.refl (W := f66) e479.wf) e507 Inn.refl')⟩
     ·obtain ⟨o496, rfl, hh503, e501⟩ := hM
      have r832 := elim_inr r498
      obtain ⟨β, rfl⟩ := has_ex hh503
      clear hh503
      refine k493 _ _ ?_
      refine w_seqk fun K833 k833 => ?_
      refine w_reg (by kernel_rfl) ?_
      refine s_qk (.bool true) (by kernel_rfl) ?_
      refine s_nil ?_
      refine k833 _ _ ?_
      refine w_ret ?_
      refine b_ret (fn := Try.f4) (vs := [.bool true]) (aRes_tmp (by kernel_rfl) (rfl)) ?_
      have c834 := (FrS.step wf (FrS.step wf (FrS.step wf (FrS.step wf ((FrS.step wf (FrS.step wf ((FrS.refl (W := []) wf).extR e4) e17 Inn.nil) e32 Inn.nil).extR e46) e52 (hb47.fresh (ntr (ntr e4.next e17.next) e32.next))) e62 Inn.nil) e283 Inn.nil) e295 (i35.fresh (ntr e4.next e17.next)))
      have c835 := (((FrS.step e295.wf (FrS.step e295.wf (FrS.step e295.wf (((FrS.step e295.wf (FrS.refl (W := []) e295.wf) e337 Inn.nil).extR e353).extR e359) e365 (hb354.fresh e337.next)) e371 (hb360.fresh (ntr e337.next e353.next))) e386 Inn.nil).extR e402).extR e408)
      have n836 := (ntr (ntr (ntr (ntr (ntr (ntr (ntr e4.next e17.next) e32.next) e46.next) e52.next) e62.next) e283.next) e295.next)
      have n837 := (ntr (ntr (ntr (ntr (ntr (ntr (ntr e337.next e353.next) e359.next) e365.next) e371.next) e386.next) e402.next) e408.next)
      obtain rfl := Option.some.inj r832
      exact ⟨rfl, (FrS.step wf ((FrS.step wf (FrS.step wf (((FrS.step wf (FrS.step wf (FrS.step wf (FrS.step wf (FrS.step wf (FrS.refl (W := []) wf) c834 Inn.nil) c835 Inn.nil) e414 (hb403.fresh (ntr (ntr (ntr (ntr (ntr (ntr (ntr (ntr (ntr (ntr (ntr (ntr (ntr e4.next e17.next) e32.next) e46.next) e52.next) e62.next) e283.next) e295.next) e337.next) e353.next) e359.next) e365.next) e371.next) e386.next))) e420 (hb409.fresh (ntr (ntr (ntr (ntr (ntr (ntr (ntr (ntr (ntr (ntr (ntr (ntr (ntr (ntr e4.next e17.next) e32.next) e46.next) e52.next) e62.next) e283.next) e295.next) e337.next) e353.next) e359.next) e365.next) e371.next) e386.next) e402.next))) e435 Inn.nil).extR e451).extR e457) e463 (hb452.fresh (ntr (ntr (ntr (ntr n836 n837) e414.next) e420.next) e435.next))) e469 (hb458.fresh (ntr (ntr (ntr (ntr (ntr n836 n837) e414.next) e420.next) e435.next) e451.next))).extR e479) e501 (i67.fresh (ntr (ntr (ntr (ntr e4.next e17.next) e32.next) e46.next) e52.next)))⟩


end Go.Vd
