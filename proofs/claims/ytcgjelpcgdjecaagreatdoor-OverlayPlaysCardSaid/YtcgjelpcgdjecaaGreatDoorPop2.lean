/- The walks of the functions (printed by a program of ours). -/
import Derived.Test.YtcgjelpcgdjecaaGreatDoorPop1
import Derived.Test.YtcgjelpcgdjecaaGreatDoorPopDrG
import Derived.Test.YtcgjelpcgdjecaaGreatDoorPopIOp
import Derived.Test.YtcgjelpcgdjecaaGreatDoorPopVeN
import Derived.Test.YtcgjelpcgdjecaaGreatDoorPopVeM
import Derived.Test.YtcgjelpcgdjecaaGreatDoorPopVeG
import Derived.Test.YtcgjelpcgdjecaaGreatDoorPopSoA
import Derived.Test.YtcgjelpcgdjecaaGreatDoorPopVeV
set_option linter.unusedVariables false
set_option linter.unusedSimpArgs false
set_option linter.unusedSectionVars false
/-! (KOp4) -/

set_option maxRecDepth 100000
set_option maxHeartbeats 4000000
set_option linter.unusedVariables false
namespace Go.Vd
open Go.Proofs
attribute [local irreducible] wpSeq wpOrd aWp
theorem c_viaductref04_DocOf {H : AH} {hd_Arcs : Value} {fp_Arcs : Fp} {N_ : Int} {Arcs : List (Int × Int × Int)} {r : Int × List (Int × Int × Int) × Int × List (Int × Int)}
    (wf : WF H) (h_Arcs : Sq enc_i64_i64_i64 3 H hd_Arcs Arcs fp_Arcs) (hr : z_viaductref04_DocOf N_ Arcs = some r) :
    ACalls Tryz.prog 26 #[.agg #[i_ N_, hd_Arcs]] H fun v H' => ∃ (s3 : Value) (f4 : Fp) (s7 : Value) (f8 : Fp), v = .tuple #[.agg #[i_ r.1, s3], .agg #[i_ r.2.2.1, s7]] ∧ FrS [] H H' ∧ Ow enc_i64_i64_i64 3 H' s3 r.2.1 f4 ∧ Ow enc_i64_i64 2 H' s7 r.2.2.2 f8 ∧ Inn [] H f4 ∧ Inn [] H f8 ∧ Dj f4 f8 := by
 refine acalls_of_body mixed Tryz.func26 rfl (Nat.le_of_ble_eq_true rfl) ?_
 unfold z_viaductref04_DocOf at hr
 refine w_seqk fun _ k12 => ?_
 refine g_' ?_
 refine s_rwl wf [i_ N_, hd_Arcs] (one_cons (rfl) (one_cons (h_Arcs.one1) (one_nil))) (by kernel_rfl) fun b13 H14 e15 hb16 r17 => ?_
 refine s_rwk e15.wf [i_ 0, .slice none 0 0] (by kernel_rfl) fun b19 H20 e21 hb22 r23 => ?_
 refine s_rwk e21.wf [i_ 0, .slice none 0 0] (by kernel_rfl) fun b25 H26 e27 hb28 r29 => ?_
 refine s_nil (k12 _ _ ?_)
 refine w_seqk fun _ k31 => ?_
 refine w_seqk fun _ k32 => ?_
 refine g_' ?_
 have u33 := ((r17.ext e21).ext e27)
 refine l_' (.agg #[i_ N_, hd_Arcs]) (aLoad Tryz.prog 24 (pt_ b13 0) H26) (u33.ld (by kernel_rfl)) ?_
 have u34 := (((h_Arcs.ext e15).ext e21).ext e27)
 obtain ⟨y35, hy36, r37⟩ := bind_some hr
 refine s_ck 6 #[.agg #[i_ N_, hd_Arcs]] (by kernel_rfl) (c_viaductref03_DocCheck e27.wf u34 hy36) ?_
 rintro _ H40 ⟨s38, f39, rfl, e41, m42, i43⟩
 obtain ⟨a45, n46, c47, rfl⟩ := m42.form
 refine s_rwk e41.wf [i_ 0, .slice none 0 0] (by kernel_rfl) fun b48 H49 e50 hb51 r52 => ?_
 have u58 := (m42.ext e50)
 obtain ⟨H54, q55, e56, r57⟩ := Row.store (P := Tryz.prog) (t := 34) (p := 0) e50.wf r52 (.agg #[i_ y35.1, .slice a45 n46 c47]) [i_ y35.1, .slice a45 n46 c47] (by kernel_rfl) (by kernel_rfl) (one_cons (rfl) (one_cons (u58.one1) (one_nil))) (Nat.le_of_ble_eq_true (by kernel_rfl)) [i_ y35.1, .slice a45 n46 c47] (by kernel_rfl)
 refine s_ek (undef) (by kernel_rfl) (map_ok q55) ?_
 refine s_nil (k32 _ _ ?_)
 refine w_seqk fun _ k59 => ?_
 refine g_' ?_
 refine l_' (.agg #[i_ y35.1, .slice a45 n46 c47]) (aLoad Tryz.prog 34 (pt_ b48 0) H54) (r57.ld (by kernel_rfl)) ?_
 have u60 := (u58.fr e56 (hb51.djn m42.lt))
 obtain ⟨y61, hy62, r63⟩ := bind_some r37
 refine s_ck 7 #[.agg #[i_ y35.1, .slice a45 n46 c47]] (by kernel_rfl) (c_viaductref01_Err_Bad e56.wf u60.sq hy62) ?_
 rintro _ H64 ⟨rfl, e65⟩
 refine s_nil (k59 _ _ ?_)
 refine w_cond (y61) (by kernel_rfl) rfl (fun h66 => ?_) (fun h66 => ?_)
 ·have r67 := ite_t h66 r63
  refine w_seqk fun _ k68 => ?_
  refine w_draw [0, 1, 2, 3] (by kernel_rfl) ?_
  refine e_' (.agg #[i_ 0, .slice none 0 0]) ?_
  have u69 := (r57.frS e65 Dj.nil_l)
  refine d_fl (.agg #[i_ y35.1, .slice a45 n46 c47]) (x := aLoad Tryz.prog 34 (pt_ b48 0) H64) (by kernel_rfl) (u69.ld (by kernel_rfl)) ?_
  have u74 := (((((r23.ext e27).frS e41 Dj.nil_l).ext e50).frS e56 (hb51.djn (r23.ltF.le (ntr e27.next e41.next)))).frS e65 Dj.nil_l)
  obtain ⟨H70, q71, e72, r73⟩ := Row.store (P := Tryz.prog) (t := 24) (p := 0) e65.wf u74 (.agg #[i_ 0, .slice none 0 0]) [i_ 0, .slice none 0 0] (by kernel_rfl) (by kernel_rfl) (one_cons (rfl) (one_cons (rfl) (one_nil))) (Nat.le_of_ble_eq_true (by kernel_rfl)) [i_ 0, .slice none 0 0] (by kernel_rfl)
  have u75 := (u69.frS e72 (Dj.symm (hb51.djn (r23.ltF.le (ntr e27.next e41.next)))))
  refine d_ek (undef) (by kernel_rfl) (map_ok q71) (st_ql (y := aLoad Tryz.prog 34 (pt_ b48 0) H70) (by kernel_rfl) (u75.ld (by kernel_rfl)) (st_nil)) ?_
  have u80 := (((((r29.frS e41 Dj.nil_l).ext e50).frS e56 (hb51.djn (r29.ltF.le e41.next))).frS e65 Dj.nil_l).frS e72 (Dj.symm (hb28.djn r23.ltF)))
  have u81 := ((u60.fr e65 Dj.nil_l).fr e72 (Dj.symm (i43.djn (r23.ltF.le e27.next))))
  obtain ⟨H76, q77, e78, r79⟩ := Row.store (P := Tryz.prog) (t := 34) (p := 0) e72.wf u80 (.agg #[i_ y35.1, .slice a45 n46 c47]) [i_ y35.1, .slice a45 n46 c47] (by kernel_rfl) (by kernel_rfl) (one_cons (rfl) (one_cons (u81.one1) (one_nil))) (Nat.le_of_ble_eq_true (by kernel_rfl)) [i_ y35.1, .slice a45 n46 c47] (by kernel_rfl)
  refine d_ek (undef) (by kernel_rfl) (map_ok q77) (st_anc (by kernel_rfl) (st_nil)) ?_
  refine d_nil ?_
  refine k68 _ _ ?_
  refine w_ret (th_ret ?_)
  have u82 := (r73.frS e78 (hb28.djn r23.ltF))
  refine b_ret (fn := Tryz.f26) (vs := [.agg #[i_ 0, .slice none 0 0], .agg #[i_ y35.1, .slice a45 n46 c47]]) (aRes_cell (Eq.trans (b := aLoad Tryz.prog 24 (pt_ b19 0) H76) (by kernel_rfl) (u82.ld (by kernel_rfl))) (aRes_cell (Eq.trans (b := aLoad Tryz.prog 34 (pt_ b25 0) H76) (by kernel_rfl) (r79.ld (by kernel_rfl))) (rfl))) ?_
  have u83 := (u81.fr e78 (Dj.symm (i43.djn r29.ltF)))
  obtain rfl := Option.some.inj r67
  exact ⟨(.slice none 0 0), [], (.slice a45 n46 c47), f39, rfl, (FrS.step wf (FrS.step wf (FrS.step wf (FrS.step wf ((FrS.step wf ((((FrS.refl (W := []) wf).extR e15).extR e21).extR e27) e41 Inn.nil).extR e50) e56 (hb51.fresh (ntr (ntr (ntr e15.next e21.next) e27.next) e41.next))) e65 Inn.nil) e72 (hb22.fresh e15.next)) e78 (hb28.fresh (ntr e15.next e21.next))), (Ow.nil (by decide)), u83, Inn.nil, (i43.fresh (ntr (ntr e15.next e21.next) e27.next)), Dj.nil_l⟩
 have r84 := ite_bf h66 r63
 refine w_skip ?_
 refine k31 _ _ ?_
 refine w_seqk fun _ k85 => ?_
 refine g_' ?_
 have u86 := ((((u33.frS e41 Dj.nil_l).ext e50).frS e56 (hb51.djn (r17.ltF.le (ntr (ntr e21.next e27.next) e41.next)))).frS e65 Dj.nil_l)
 refine l_' (.agg #[i_ N_, hd_Arcs]) (aLoad Tryz.prog 24 (pt_ b13 0) H64) (u86.ld (by kernel_rfl)) ?_
 have u87 := ((((u34.fr e41 Dj.nil_l).ext e50).fr e56 (hb51.djn (h_Arcs.lt.le (ntr (ntr (ntr e15.next e21.next) e27.next) e41.next)))).fr e65 Dj.nil_l)
 obtain ⟨y88, hy89, r90⟩ := bind_some r84
 refine s_ck 50 #[.agg #[i_ N_, hd_Arcs]] (by kernel_rfl) (c_viaductref04_Of e65.wf u87 hy89) ?_
 rintro _ H93 ⟨s91, f92, rfl, e94, m95, i96⟩
 obtain ⟨a98, n99, c100, rfl⟩ := m95.form
 refine q_ (.agg #[i_ 0, .slice none 0 0]) ?_
 have u105 := ((((((r23.ext e27).frS e41 Dj.nil_l).ext e50).frS e56 (hb51.djn (r23.ltF.le (ntr e27.next e41.next)))).frS e65 Dj.nil_l).frS e94 Dj.nil_l)
 obtain ⟨H101, q102, e103, r104⟩ := Row.store (P := Tryz.prog) (t := 24) (p := 0) e94.wf u105 (.agg #[i_ y88.1, .slice a98 n99 c100]) [i_ y88.1, .slice a98 n99 c100] (by kernel_rfl) (by kernel_rfl) (one_cons (rfl) (one_cons (m95.one1) (one_nil))) (Nat.le_of_ble_eq_true (by kernel_rfl)) [i_ y88.1, .slice a98 n99 c100] (by kernel_rfl)
 refine s_ek (undef) (by kernel_rfl) (map_ok q102) ?_
 have u110 := ((((((r29.frS e41 Dj.nil_l).ext e50).frS e56 (hb51.djn (r29.ltF.le e41.next))).frS e65 Dj.nil_l).frS e94 Dj.nil_l).frS e103 (Dj.symm (hb28.djn r23.ltF)))
 obtain ⟨H106, q107, e108, r109⟩ := Row.store (P := Tryz.prog) (t := 34) (p := 0) e103.wf u110 (.agg #[i_ 0, .slice none 0 0]) [i_ 0, .slice none 0 0] (by kernel_rfl) (by kernel_rfl) (one_cons (rfl) (one_cons (rfl) (one_nil))) (Nat.le_of_ble_eq_true (by kernel_rfl)) [i_ 0, .slice none 0 0] (by kernel_rfl)
 refine s_ek (undef) (by kernel_rfl) (map_ok q107) ?_
 refine s_nil (k85 _ _ ?_)
 refine w_ret ?_
 have u111 := (r104.frS e108 (hb28.djn r23.ltF))
 refine b_ret (fn := Tryz.f26) (vs := [.agg #[i_ y88.1, .slice a98 n99 c100], .agg #[i_ 0, .slice none 0 0]]) (aRes_cell (Eq.trans (b := aLoad Tryz.prog 24 (pt_ b19 0) H106) (by kernel_rfl) (u111.ld (by kernel_rfl))) (aRes_cell (Eq.trans (b := aLoad Tryz.prog 34 (pt_ b25 0) H106) (by kernel_rfl) (r109.ld (by kernel_rfl))) (rfl))) ?_
 have u112 := ((m95.fr e103 (Dj.symm (i96.djn (r23.ltF.le (ntr (ntr (ntr (ntr e27.next e41.next) e50.next) e56.next) e65.next))))).fr e108 (Dj.symm (i96.djn (r29.ltF.le (ntr (ntr (ntr e41.next e50.next) e56.next) e65.next)))))
 obtain rfl := Option.some.inj r90
 exact ⟨(.slice a98 n99 c100), f92, (.slice none 0 0), [], rfl, (FrS.step wf (FrS.step wf (FrS.step wf (FrS.step wf (FrS.step wf ((FrS.step wf ((((FrS.refl (W := []) wf).extR e15).extR e21).extR e27) e41 Inn.nil).extR e50) e56 (hb51.fresh (ntr (ntr (ntr e15.next e21.next) e27.next) e41.next))) e65 Inn.nil) e94 Inn.nil) e103 (hb22.fresh e15.next)) e108 (hb28.fresh (ntr e15.next e21.next))), u112, (Ow.nil (by decide)), (i96.fresh (ntr (ntr (ntr (ntr (ntr (ntr e15.next e21.next) e27.next) e41.next) e50.next) e56.next) e65.next)), Inn.nil, Dj.nil_r⟩

theorem c_viaductref11_New {H : AH} {hd_Arcs : Value} {fp_Arcs : Fp} {N_ : Int} {Arcs : List (Int × Int × Int)} {r : List (Bool) × List (Int × Int × Int × Int)}
    (wf : WF H) (h_Arcs : Sq enc_i64_i64_i64 3 H hd_Arcs Arcs fp_Arcs) (hr : z_viaductref11_New N_ Arcs = some r) :
    ACalls Tryz.prog 27 #[.agg #[i_ N_, hd_Arcs]] H fun v H' => ∃ (s3 : Value) (f4 : Fp) (s7 : Value) (f8 : Fp), v = .agg #[s3, s7] ∧ FrS [] H H' ∧ Ow encB 1 H' s3 r.1 f4 ∧ Ow enc_i64_i64_u64_i64 4 H' s7 r.2 f8 ∧ Inn [] H f4 ∧ Inn [] H f8 ∧ Dj f4 f8 := by
 refine acalls_of_body mixed Tryz.func27 rfl (Nat.le_of_ble_eq_true rfl) ?_
 unfold z_viaductref11_New at hr
 refine w_seqk fun _ k12 => ?_
 refine g_' ?_
 refine s_rwl wf [i_ N_, hd_Arcs] (one_cons (rfl) (one_cons (h_Arcs.one1) (one_nil))) (by kernel_rfl) fun b13 H14 e15 hb16 r17 => ?_
 refine s_rwk e15.wf [.slice none 0 0, .slice none 0 0] (by kernel_rfl) fun b19 H20 e21 hb22 r23 => ?_
 refine s_nil (k12 _ _ ?_)
 refine w_seqk fun _ k25 => ?_
 refine g_' ?_
 refine q_ (pt_ b13 0) ?_
 have u26 := (r17.ext e21)
 refine l_' (i_ N_) (aLoad Tryz.prog 3 (pt_ b13 0) H20) (u26.ld (by kernel_rfl)) ?_
 obtain ⟨g27, r28⟩ := G_some hr
 refine s_mks (t := 37) (m := 1) (l := N_) (c := N_) (enc := encB) (sz := 1) e21.wf (false : Bool) (by kernel_rfl) (by decide) g27.1 (Int.le_refl _) (by omega) (by have := g27; omega) (by kernel_rfl) fun s29 f30 H31 e32 hf33 hm34 => ?_
 obtain ⟨a35, n36, c37, rfl⟩ := hm34.form
 have hm34 : Ow encB 1 H31 (.slice a35 n36 c37) (List.replicate N_.toNat (false : Bool)) f30 := hm34
 refine q_ (.agg #[.slice a35 n36 c37, .slice none 0 0]) ?_
 refine s_rwk e32.wf [.slice none 0 0, .slice none 0 0] (by kernel_rfl) fun b39 H40 e41 hb42 r43 => ?_
 have u49 := (hm34.ext e41)
 obtain ⟨H45, q46, e47, r48⟩ := Row.store (P := Tryz.prog) (t := 40) (p := 0) e41.wf r43 (.agg #[.slice a35 n36 c37, .slice none 0 0]) [.slice a35 n36 c37, .slice none 0 0] (by kernel_rfl) (by kernel_rfl) (one_cons (u49.one1) (one_cons (rfl) (one_nil))) (Nat.le_of_ble_eq_true (by kernel_rfl)) [.slice a35 n36 c37, .slice none 0 0] (by kernel_rfl)
 refine s_ek (undef) (by kernel_rfl) (map_ok q46) ?_
 refine s_nil (k25 _ _ ?_)
 refine w_seqk fun _ k50 => ?_
 refine w_seqk fun _ k51 => ?_
 refine g_' ?_
 refine q_ (pt_ b39 0) ?_
 refine l_' (.slice a35 n36 c37) (aLoad Tryz.prog 37 (pt_ b39 0) H45) (r48.ld (by kernel_rfl)) ?_
 have u52 := (u49.fr e47 (hb42.djn hm34.lt))
 refine l_' (i_ ((List.replicate N_.toNat (false : Bool)).length : Int)) (aLen Tryz.prog 37 (.slice a35 n36 c37) H45) (u52.sq.lenb (by kernel_rfl)) ?_
 refine q_ (i_ 0) ?_
 refine s_nil (k51 _ _ ?_)
 obtain ⟨o53, hx54, r55⟩ := bind_some r28
 refine w_mid (fun α H56 => Has α [(1, pt_ b13 0), (2, pt_ b19 0), (3, pt_ b39 0)] ∧ FrS f30 H45 H56 ∧ Ow encB 1 H56 (.slice a35 n36 c37) o53 f30) (fun _ k60 => ?_) (fun α H56 hM => ?_)
 ·refine w_block ?_
  obtain ⟨n62, hn63⟩ := loopO_iff.1 hx54
  refine w_loopn (fun n α H64 => ∃ (i0 : Int), ∃ (o1 : List (Bool)), iterO (fun zz_ => z_viaductref11_New_l0 N_ zz_.1 zz_.2) n (i0, o1) = some o53 ∧ Has α [(1, pt_ b13 0), (2, pt_ b19 0), (3, pt_ b39 0), (13, i_ ((List.replicate N_.toNat (false : Bool)).length : Int)), (14, i_ i0)] ∧ FrS f30 H45 H64 ∧ Ow encB 1 H64 (.slice a35 n36 c37) o1 f30) n62 ⟨0, (List.replicate N_.toNat (false : Bool)), hn63, ha_, (FrS.refl (W := f30) e47.wf), u52⟩ ?_
  rintro n62 α H64 ⟨i0, o1, hi69, hh68, e65, m67⟩ K74 k74
  obtain ⟨n70, z71, rfl, hz72, hn73⟩ := iter_succ hi69
  obtain ⟨β, rfl⟩ := has_ex hh68
  clear hh68
  replace hz72 : z_viaductref11_New_l0 N_ i0 o1 = some z71 := hz72
  unfold z_viaductref11_New_l0 at hz72
  refine w_seqk fun _ k75 => ?_
  refine g_' ?_
  refine q_ (.bool (decide (i0 < ((List.replicate N_.toNat (false : Bool)).length : Int)))) ?_
  refine s_nil (k75 _ _ ?_)
  refine w_seqk fun _ k76 => ?_
  refine w_condp (i0 < ((List.replicate N_.toNat (false : Bool)).length : Int)) (by kernel_rfl) rfl (fun h77 => ?_) (fun h77 => ?_)
  ·have r78 := ite_t h77 hz72
   refine w_skip ?_
   refine k76 _ _ ?_
   refine w_seqk fun _ k79 => ?_
   refine w_block ?_
   refine w_seqk fun _ k80 => ?_
   refine g_' ?_
   refine q_ (i_ i0) ?_
   refine q_ (i_ i0) ?_
   refine s_nil (k80 _ _ ?_)
   refine g_' ?_
   refine q_ (pt_ b39 0) ?_
   have u81 := (r48.frS e65 (Dj.symm (hb42.djn hm34.lt)))
   refine l_' (.slice a35 n36 c37) (aLoad Tryz.prog 37 (pt_ b39 0) H64) (u81.ld (by kernel_rfl)) ?_
   refine q_ (i_ i0) ?_
   obtain ⟨g82, r83⟩ := G_some r78
   refine l_' (elp (.slice a35 n36 c37) 1 i0.toNat 0) (aIndexAddr Tryz.prog 37 (.slice a35 n36 c37) (i_ i0)) (m67.sq.idxb (by kernel_rfl) g82.1 g82.2) ?_
   obtain ⟨H84, q85, e86, hm87⟩ := Ow.store (P := Tryz.prog) (t := 4) (off := 0) e65.wf m67 g82.1 g82.2 (.bool true) [.bool true] (by kernel_rfl) (by kernel_rfl) rfl true (Nat.le_of_ble_eq_true rfl) (by kernel_rfl)
   refine s_ek (undef) (by kernel_rfl) (map_ok q85) ?_
   refine s_nil (k79 _ _ ?_)
   refine g_' ?_
   obtain ⟨g88, r89⟩ := G_some r83
   refine s_w ((i0 + 1)) (k := .i64) (x := (i0 + 1)) (by kernel_rfl) (wrap64 (by have := g88; omega)) ?_
   refine q_ (i_ (i0 + 1)) ?_
   refine s_nil ?_
   obtain rfl := Option.some.inj r89
   exact k74 n70 _ _ (Nat.lt_succ_self _) ⟨(i0 + 1), (o1.set i0.toNat true), hn73, ha_, (FrS.step e47.wf (FrS.step e47.wf (FrS.refl (W := f30) e47.wf) e65 Inn.refl') e86 Inn.refl'), hm87⟩
  have r90 := ite_f h77 hz72
  refine w_exit (th_exit (th_exit (bl_eq ?_)))
  obtain rfl := Option.some.inj r90
  obtain rfl := it_inr hn73
  exact k60 _ _ ⟨ha_, (FrS.step e47.wf (FrS.refl (W := f30) e47.wf) e65 Inn.refl'), m67⟩
 obtain ⟨hh61, e57, m59⟩ := hM
 obtain ⟨β, rfl⟩ := has_ex hh61
 clear hh61
 refine k50 _ _ ?_
 refine w_seqk fun _ k91 => ?_
 refine w_seqk fun _ k92 => ?_
 refine g_' ?_
 refine q_ (pt_ b13 1) ?_
 have u93 := ((((u26.ext e32).ext e41).frS e47 (hb42.djn (r17.ltF.le (ntr e21.next e32.next)))).frS e57 (hf33.djn (r17.ltF.le e21.next)))
 refine l_' (hd_Arcs) (aLoad Tryz.prog 22 (pt_ b13 1) H56) (u93.ld (by kernel_rfl)) ?_
 have u94 := ((((((h_Arcs.ext e15).ext e21).ext e32).ext e41).fr e47 (hb42.djn (h_Arcs.lt.le (ntr (ntr e15.next e21.next) e32.next)))).fr e57 (hf33.djn (h_Arcs.lt.le (ntr e15.next e21.next))))
 refine l_' (i_ (Arcs.length : Int)) (aLen Tryz.prog 22 hd_Arcs H56) (u94.lenb (by kernel_rfl)) ?_
 refine q_ (i_ 0) ?_
 refine s_nil (k92 _ _ ?_)
 obtain ⟨o95, hx96, r97⟩ := bind_some r55
 refine w_mid (fun α H98 => ∃ (s102 : Value) (f103 : Fp), Has α [(2, pt_ b19 0), (3, pt_ b39 0)] ∧ FrS [b39] H56 H98 ∧ Ow enc_i64_i64_u64_i64 4 H98 s102 o95 f103 ∧ Row H98 b39 [.slice a35 n36 c37, s102] ∧ Inn [] H56 f103) (fun _ k107 => ?_) (fun α H98 hM => ?_)
 ·refine w_block ?_
  obtain ⟨n109, hn110⟩ := loopO_iff.1 hx96
  have u126 := (r48.frS e57 (Dj.symm (hb42.djn hm34.lt)))
  refine w_loopn (fun n α H111 => ∃ (i2 : Int), ∃ (o3 : List (Int × Int × Int × Int)), ∃ (s115 : Value), ∃ (f116 : Fp), iterO (fun zz_ => z_viaductref11_New_l1 Arcs zz_.1 zz_.2) n (i2, o3) = some o95 ∧ Has α [(2, pt_ b19 0), (3, pt_ b39 0), (23, hd_Arcs), (24, i_ (Arcs.length : Int)), (25, i_ i2)] ∧ FrS [b39] H56 H111 ∧ Ow enc_i64_i64_u64_i64 4 H111 s115 o3 f116 ∧ Row H111 b39 [.slice a35 n36 c37, s115] ∧ Inn [] H56 f116) n109 ⟨0, [], (.slice none 0 0), [], hn110, ha_, (FrS.refl (W := [b39]) e57.wf), (Ow.nil (by decide)), u126, Inn.nil⟩ ?_
  rintro n109 α H111 ⟨i2, o3, s115, f116, hi121, hh120, e112, m114, m118, i119⟩ K127 k127
  obtain ⟨n122, z123, rfl, hz124, hn125⟩ := iter_succ hi121
  obtain ⟨β, rfl⟩ := has_ex hh120
  clear hh120
  replace hz124 : z_viaductref11_New_l1 Arcs i2 o3 = some z123 := hz124
  unfold z_viaductref11_New_l1 at hz124
  obtain ⟨a128, n129, c130, rfl⟩ := m114.form
  refine w_seqk fun _ k131 => ?_
  refine g_' ?_
  refine q_ (.bool (decide (i2 < (Arcs.length : Int)))) ?_
  refine s_nil (k131 _ _ ?_)
  refine w_seqk fun _ k132 => ?_
  refine w_condp (i2 < (Arcs.length : Int)) (by kernel_rfl) rfl (fun h133 => ?_) (fun h133 => ?_)
  ·have r134 := ite_t h133 hz124
   refine w_skip ?_
   refine k132 _ _ ?_
   refine w_seqk fun _ k135 => ?_
   refine w_block ?_
   refine w_seqk fun _ k136 => ?_
   refine g_' ?_
   obtain ⟨g137, r138⟩ := G_some r134
   have u139 := (u94.fr e112 (hb42.djn (h_Arcs.lt.le (ntr (ntr e15.next e21.next) e32.next))))
   refine l_' (elp hd_Arcs 3 i2.toNat 0) (aIndexAddr Tryz.prog 22 hd_Arcs (i_ i2)) (u139.idxb (by kernel_rfl) g137 h133) ?_
   refine l_' (.agg #[i_ ((gt Arcs i2).1), i_ ((gt Arcs i2).2.1), i_ ((gt Arcs i2).2.2)]) (aLoad Tryz.prog 55 (elp hd_Arcs 3 i2.toNat 0) H111) (u139.ld g137 h133 (by kernel_rfl)) ?_
   refine s_rwk e112.wf [i_ 0, i_ 0, i_ 0] (by kernel_rfl) fun b140 H141 e142 hb143 r144 => ?_
   obtain ⟨H146, q147, e148, r149⟩ := Row.store (P := Tryz.prog) (t := 55) (p := 0) e142.wf r144 (.agg #[i_ ((gt Arcs i2).1), i_ ((gt Arcs i2).2.1), i_ ((gt Arcs i2).2.2)]) [i_ ((gt Arcs i2).1), i_ ((gt Arcs i2).2.1), i_ ((gt Arcs i2).2.2)] (by kernel_rfl) (by kernel_rfl) (one_cons (rfl) (one_cons (rfl) (one_cons (rfl) (one_nil)))) (Nat.le_of_ble_eq_true (by kernel_rfl)) [i_ ((gt Arcs i2).1), i_ ((gt Arcs i2).2.1), i_ ((gt Arcs i2).2.2)] (by kernel_rfl)
   refine s_ek (undef) (by kernel_rfl) (map_ok q147) ?_
   refine s_nil (k136 _ _ ?_)
   refine g_' ?_
   refine q_ (pt_ b39 1) ?_
   have u150 := ((m118.ext e142).frS e148 (hb143.djn (r43.ltF.le (ntr (ntr e47.next e57.next) e112.next))))
   refine l_' (.slice a128 n129 c130) (aLoad Tryz.prog 38 (pt_ b39 1) H146) (u150.ld (by kernel_rfl)) ?_
   refine q_ (pt_ b140 0) ?_
   refine l_' (i_ ((gt Arcs i2).1)) (aLoad Tryz.prog 3 (pt_ b140 0) H146) (r149.ld (by kernel_rfl)) ?_
   refine q_ (pt_ b140 1) ?_
   refine l_' (i_ ((gt Arcs i2).2.1)) (aLoad Tryz.prog 3 (pt_ b140 1) H146) (r149.ld (by kernel_rfl)) ?_
   refine q_ (pt_ b140 2) ?_
   refine l_' (i_ ((gt Arcs i2).2.2)) (aLoad Tryz.prog 3 (pt_ b140 2) H146) (r149.ld (by kernel_rfl)) ?_
   obtain ⟨g151, r152⟩ := G_some r138
   refine s_w ((gt Arcs i2).2.2) (k := .u64) (x := (gt Arcs i2).2.2) (by kernel_rfl) (wrapu64 g151) ?_
   refine q_ (.agg #[i_ ((gt Arcs i2).1), i_ ((gt Arcs i2).2.1), .int .u64 ((gt Arcs i2).2.2), i_ (-1)]) ?_
   refine s_owk (enc := enc_i64_i64_u64_i64) (sz := 4) e148.wf [((gt Arcs i2).1, (gt Arcs i2).2.1, (gt Arcs i2).2.2, (-1))] 1 (by decide) (fun _ _ => rfl) (fun _ _ => rfl) rfl (by kernel_rfl) fun s153 f154 H155 e156 hf157 hm158 => ?_
   obtain ⟨a159, n160, c161, rfl⟩ := hm158.form
   have u163 := (((m114.ext e142).fr e148 (hb143.djn m114.lt)).ext e156)
   obtain ⟨g164, r165⟩ := G_some r152
   obtain ⟨s166, H167, f168, q172, e169, hm170, hf171⟩ := Ow.append (P := Tryz.prog) 32 e156.wf u163 hm158.sq (fun _ _ => rfl) (at_ := #[38, 38]) rfl rfl (by kernel_rfl) (by kernel_rfl) (by decide) (by have := g164; first | omega | (simp only [List.length_cons, List.length_nil] at this ⊢; omega) | (simp at this ⊢; omega))
   obtain ⟨a173, n174, c175, rfl⟩ := hm170.form
   refine s_ek (.slice a173 n174 c175) (by kernel_rfl) (q172) ?_
   refine q_ (pt_ b39 1) ?_
   have u181 := ((u150.ext e156).frS e169 (i119.djn (r43.ltF.le (ntr e47.next e57.next))))
   obtain ⟨H177, q178, e179, r180⟩ := Row.store (P := Tryz.prog) (t := 38) (p := 1) e169.wf u181 (.slice a173 n174 c175) [.slice a173 n174 c175] (by kernel_rfl) (by kernel_rfl) (one_cons (hm170.one1) (one_nil)) (Nat.le_of_ble_eq_true (by kernel_rfl)) [.slice a35 n36 c37, .slice a173 n174 c175] (by kernel_rfl)
   refine s_ek (undef) (by kernel_rfl) (map_ok q178) ?_
   refine s_nil (k135 _ _ ?_)
   refine g_' ?_
   obtain ⟨g182, r183⟩ := G_some r165
   refine s_w ((i2 + 1)) (k := .i64) (x := (i2 + 1)) (by kernel_rfl) (wrap64 (by have := g182; omega)) ?_
   refine q_ (i_ (i2 + 1)) ?_
   refine s_nil ?_
   have u184 := (hm170.fr e179 (Dj.symm (hf171.dj (i119.djn (r43.ltF.le (ntr e47.next e57.next))) (r43.ltF.le (ntr (ntr (ntr (ntr (ntr e47.next e57.next) e112.next) e142.next) e148.next) e156.next)))))
   obtain rfl := Option.some.inj r183
   exact k127 n122 _ _ (Nat.lt_succ_self _) ⟨(i2 + 1), (o3 ++ [((gt Arcs i2).1, (gt Arcs i2).2.1, (gt Arcs i2).2.2, (-1))]), (.slice a173 n174 c175), f168, hn125, ha_, (FrS.step e57.wf (FrS.step e57.wf ((FrS.step e57.wf ((FrS.step e57.wf (FrS.refl (W := [b39]) e57.wf) e112 Inn.refl').extR e142) e148 (hb143.fresh e112.next)).extR e156) e169 (i119.fresh (Nat.le_refl _))) e179 Inn.refl'), u184, r180, (Inn.trans (i119.fresh (Nat.le_refl _)) (ntr (ntr (ntr e112.next e142.next) e148.next) e156.next) hf171)⟩
  have r185 := ite_f h133 hz124
  refine w_exit (th_exit (th_exit (bl_eq ?_)))
  obtain rfl := Option.some.inj r185
  obtain rfl := it_inr hn125
  exact k107 _ _ ⟨(.slice a128 n129 c130), f116, ha_, (FrS.step e57.wf (FrS.refl (W := [b39]) e57.wf) e112 Inn.refl'), m114, m118, (i119.fresh (Nat.le_refl _))⟩
 obtain ⟨s102, f103, hh108, e99, m101, m105, i106⟩ := hM
 obtain ⟨β, rfl⟩ := has_ex hh108
 clear hh108
 obtain ⟨a186, n187, c188, rfl⟩ := m101.form
 refine k91 _ _ ?_
 refine w_seqk fun _ k189 => ?_
 refine g_' ?_
 refine l_' (.agg #[.slice a35 n36 c37, .slice a186 n187 c188]) (aLoad Tryz.prog 40 (pt_ b39 0) H98) (m105.ld (by kernel_rfl)) ?_
 have u194 := (((((r23.ext e32).ext e41).frS e47 (hb42.djn (r23.ltF.le e32.next))).frS e57 (hf33.djn r23.ltF)).frS e99 (hb42.djn (r23.ltF.le e32.next)))
 have u195 := (m59.fr e99 (hb42.djn hm34.lt))
 obtain ⟨H190, q191, e192, r193⟩ := Row.store (P := Tryz.prog) (t := 40) (p := 0) e99.wf u194 (.agg #[.slice a35 n36 c37, .slice a186 n187 c188]) [.slice a35 n36 c37, .slice a186 n187 c188] (by kernel_rfl) (by kernel_rfl) (one_cons (u195.one1) (one_cons (m101.one1) (one_nil))) (Nat.le_of_ble_eq_true (by kernel_rfl)) [.slice a35 n36 c37, .slice a186 n187 c188] (by kernel_rfl)
 refine s_ek (undef) (by kernel_rfl) (map_ok q191) ?_
 refine s_nil (k189 _ _ ?_)
 refine w_ret ?_
 refine b_ret (fn := Tryz.f27) (vs := [.agg #[.slice a35 n36 c37, .slice a186 n187 c188]]) (aRes_cell (Eq.trans (b := aLoad Tryz.prog 40 (pt_ b19 0) H190) (by kernel_rfl) (r193.ld (by kernel_rfl))) (rfl)) ?_
 have u196 := (u195.fr e192 (Dj.symm (hf33.djn r23.ltF)))
 have u197 := (m101.fr e192 (Dj.symm (i106.djn (r23.ltF.le (ntr (ntr (ntr e32.next e41.next) e47.next) e57.next)))))
 obtain rfl := Option.some.inj r97
 exact ⟨(.slice a35 n36 c37), f30, (.slice a186 n187 c188), f103, rfl, (FrS.step wf (FrS.step wf (FrS.step wf (FrS.step wf (((((FrS.refl (W := []) wf).extR e15).extR e21).extR e32).extR e41) e47 (hb42.fresh (ntr (ntr e15.next e21.next) e32.next))) e57 (hf33.fresh (ntr e15.next e21.next))) e99 (hb42.fresh (ntr (ntr e15.next e21.next) e32.next))) e192 (hb22.fresh e15.next)), u196, u197, (hf33.fresh (ntr e15.next e21.next)), (i106.fresh (ntr (ntr (ntr (ntr (ntr e15.next e21.next) e32.next) e41.next) e47.next) e57.next)), (Dj.symm (i106.djn (hm34.lt.le (ntr (ntr e41.next e47.next) e57.next))))⟩

theorem c_viaductref11_DocNew {H : AH} {hd_Arcs : Value} {fp_Arcs : Fp} {N_ : Int} {Arcs : List (Int × Int × Int)} {r : List (Bool) × List (Int × Int × Int × Int) × Int × List (Int × Int)}
    (wf : WF H) (h_Arcs : Sq enc_i64_i64_i64 3 H hd_Arcs Arcs fp_Arcs) (hr : z_viaductref11_DocNew N_ Arcs = some r) :
    ACalls Tryz.prog 9 #[.agg #[i_ N_, hd_Arcs]] H fun v H' => ∃ (s3 : Value) (f4 : Fp) (s7 : Value) (f8 : Fp) (s11 : Value) (f12 : Fp), v = .tuple #[.agg #[s3, s7], .agg #[i_ r.2.2.1, s11]] ∧ FrS [] H H' ∧ Ow encB 1 H' s3 r.1 f4 ∧ Ow enc_i64_i64_u64_i64 4 H' s7 r.2.1 f8 ∧ Ow enc_i64_i64 2 H' s11 r.2.2.2 f12 ∧ Inn [] H f4 ∧ Inn [] H f8 ∧ Inn [] H f12 ∧ Dj f4 f8 ∧ Dj f4 f12 ∧ Dj f8 f12 := by
 refine acalls_of_body mixed Tryz.func9 rfl (Nat.le_of_ble_eq_true rfl) ?_
 unfold z_viaductref11_DocNew at hr
 refine w_seqk fun _ k19 => ?_
 refine g_' ?_
 refine s_rwl wf [i_ N_, hd_Arcs] (one_cons (rfl) (one_cons (h_Arcs.one1) (one_nil))) (by kernel_rfl) fun b20 H21 e22 hb23 r24 => ?_
 refine s_rwk e22.wf [.slice none 0 0, .slice none 0 0] (by kernel_rfl) fun b26 H27 e28 hb29 r30 => ?_
 refine s_rwk e28.wf [i_ 0, .slice none 0 0] (by kernel_rfl) fun b32 H33 e34 hb35 r36 => ?_
 refine s_nil (k19 _ _ ?_)
 refine w_seqk fun _ k38 => ?_
 refine g_' ?_
 have u39 := ((r24.ext e28).ext e34)
 refine l_' (.agg #[i_ N_, hd_Arcs]) (aLoad Tryz.prog 24 (pt_ b20 0) H33) (u39.ld (by kernel_rfl)) ?_
 have u40 := (((h_Arcs.ext e22).ext e28).ext e34)
 obtain ⟨y41, hy42, r43⟩ := bind_some hr
 refine s_ck 26 #[.agg #[i_ N_, hd_Arcs]] (by kernel_rfl) (c_viaductref04_DocOf e34.wf u40 hy42) ?_
 rintro _ H48 ⟨s44, f45, s46, f47, rfl, e49, m50, m51, i52, i53, d54⟩
 obtain ⟨a57, n58, c59, rfl⟩ := m50.form
 obtain ⟨a60, n61, c62, rfl⟩ := m51.form
 refine q_ (.tuple #[.agg #[i_ y41.1, .slice a57 n58 c59], .agg #[i_ y41.2.2.1, .slice a60 n61 c62]]) ?_
 refine q_ (.agg #[i_ y41.1, .slice a57 n58 c59]) ?_
 refine q_ (.agg #[i_ y41.2.2.1, .slice a60 n61 c62]) ?_
 refine s_rwk e49.wf [i_ 0, .slice none 0 0] (by kernel_rfl) fun b63 H64 e65 hb66 r67 => ?_
 refine s_rwk e65.wf [i_ 0, .slice none 0 0] (by kernel_rfl) fun b69 H70 e71 hb72 r73 => ?_
 have u79 := (r67.ext e71)
 have u80 := ((m50.ext e65).ext e71)
 obtain ⟨H75, q76, e77, r78⟩ := Row.store (P := Tryz.prog) (t := 24) (p := 0) e71.wf u79 (.agg #[i_ y41.1, .slice a57 n58 c59]) [i_ y41.1, .slice a57 n58 c59] (by kernel_rfl) (by kernel_rfl) (one_cons (rfl) (one_cons (u80.one1) (one_nil))) (Nat.le_of_ble_eq_true (by kernel_rfl)) [i_ y41.1, .slice a57 n58 c59] (by kernel_rfl)
 refine s_ek (undef) (by kernel_rfl) (map_ok q76) ?_
 have u85 := (r73.frS e77 (Dj.symm (hb72.djn r67.ltF)))
 have u86 := (((m51.ext e65).ext e71).fr e77 (hb66.djn m51.lt))
 obtain ⟨H81, q82, e83, r84⟩ := Row.store (P := Tryz.prog) (t := 34) (p := 0) e77.wf u85 (.agg #[i_ y41.2.2.1, .slice a60 n61 c62]) [i_ y41.2.2.1, .slice a60 n61 c62] (by kernel_rfl) (by kernel_rfl) (one_cons (rfl) (one_cons (u86.one1) (one_nil))) (Nat.le_of_ble_eq_true (by kernel_rfl)) [i_ y41.2.2.1, .slice a60 n61 c62] (by kernel_rfl)
 refine s_ek (undef) (by kernel_rfl) (map_ok q82) ?_
 refine s_nil (k38 _ _ ?_)
 refine w_seqk fun _ k87 => ?_
 refine w_seqk fun _ k88 => ?_
 refine g_' ?_
 refine l_' (.agg #[i_ y41.2.2.1, .slice a60 n61 c62]) (aLoad Tryz.prog 34 (pt_ b69 0) H81) (r84.ld (by kernel_rfl)) ?_
 have u89 := (u86.fr e83 (hb72.djn (m51.lt.le e65.next)))
 obtain ⟨y90, hy91, r92⟩ := bind_some r43
 refine s_ck 7 #[.agg #[i_ y41.2.2.1, .slice a60 n61 c62]] (by kernel_rfl) (c_viaductref01_Err_Bad e83.wf u89.sq hy91) ?_
 rintro _ H93 ⟨rfl, e94⟩
 refine s_nil (k88 _ _ ?_)
 refine w_cond (y90) (by kernel_rfl) rfl (fun h95 => ?_) (fun h95 => ?_)
 ·have r96 := ite_t h95 r92
  refine w_seqk fun _ k97 => ?_
  refine w_draw [0, 1, 2, 3] (by kernel_rfl) ?_
  refine e_' (.agg #[.slice none 0 0, .slice none 0 0]) ?_
  have u98 := (r84.frS e94 Dj.nil_l)
  refine d_fl (.agg #[i_ y41.2.2.1, .slice a60 n61 c62]) (x := aLoad Tryz.prog 34 (pt_ b69 0) H93) (by kernel_rfl) (u98.ld (by kernel_rfl)) ?_
  have u103 := (((((((r30.ext e34).frS e49 Dj.nil_l).ext e65).ext e71).frS e77 (hb66.djn (r30.ltF.le (ntr e34.next e49.next)))).frS e83 (hb72.djn (r30.ltF.le (ntr (ntr e34.next e49.next) e65.next)))).frS e94 Dj.nil_l)
  obtain ⟨H99, q100, e101, r102⟩ := Row.store (P := Tryz.prog) (t := 40) (p := 0) e94.wf u103 (.agg #[.slice none 0 0, .slice none 0 0]) [.slice none 0 0, .slice none 0 0] (by kernel_rfl) (by kernel_rfl) (one_cons (rfl) (one_cons (rfl) (one_nil))) (Nat.le_of_ble_eq_true (by kernel_rfl)) [.slice none 0 0, .slice none 0 0] (by kernel_rfl)
  have u104 := (u98.frS e101 (Dj.symm (hb72.djn (r30.ltF.le (ntr (ntr e34.next e49.next) e65.next)))))
  refine d_ek (undef) (by kernel_rfl) (map_ok q100) (st_ql (y := aLoad Tryz.prog 34 (pt_ b69 0) H99) (by kernel_rfl) (u104.ld (by kernel_rfl)) (st_nil)) ?_
  have u109 := (((((((r36.frS e49 Dj.nil_l).ext e65).ext e71).frS e77 (hb66.djn (r36.ltF.le e49.next))).frS e83 (hb72.djn (r36.ltF.le (ntr e49.next e65.next)))).frS e94 Dj.nil_l).frS e101 (Dj.symm (hb35.djn r30.ltF)))
  have u110 := ((u89.fr e94 Dj.nil_l).fr e101 (Dj.symm (i53.djn (r30.ltF.le e34.next))))
  obtain ⟨H105, q106, e107, r108⟩ := Row.store (P := Tryz.prog) (t := 34) (p := 0) e101.wf u109 (.agg #[i_ y41.2.2.1, .slice a60 n61 c62]) [i_ y41.2.2.1, .slice a60 n61 c62] (by kernel_rfl) (by kernel_rfl) (one_cons (rfl) (one_cons (u110.one1) (one_nil))) (Nat.le_of_ble_eq_true (by kernel_rfl)) [i_ y41.2.2.1, .slice a60 n61 c62] (by kernel_rfl)
  refine d_ek (undef) (by kernel_rfl) (map_ok q106) (st_anc (by kernel_rfl) (st_nil)) ?_
  refine d_nil ?_
  refine k97 _ _ ?_
  refine w_ret (th_ret ?_)
  have u111 := (r102.frS e107 (hb35.djn r30.ltF))
  refine b_ret (fn := Tryz.f9) (vs := [.agg #[.slice none 0 0, .slice none 0 0], .agg #[i_ y41.2.2.1, .slice a60 n61 c62]]) (aRes_cell (Eq.trans (b := aLoad Tryz.prog 40 (pt_ b26 0) H105) (by kernel_rfl) (u111.ld (by kernel_rfl))) (aRes_cell (Eq.trans (b := aLoad Tryz.prog 34 (pt_ b32 0) H105) (by kernel_rfl) (r108.ld (by kernel_rfl))) (rfl))) ?_
  have u112 := (u110.fr e107 (Dj.symm (i53.djn r36.ltF)))
  obtain rfl := Option.some.inj r96
  exact ⟨(.slice none 0 0), [], (.slice none 0 0), [], (.slice a60 n61 c62), f47, rfl, (FrS.step wf (FrS.step wf (FrS.step wf (FrS.step wf (FrS.step wf (((FrS.step wf ((((FrS.refl (W := []) wf).extR e22).extR e28).extR e34) e49 Inn.nil).extR e65).extR e71) e77 (hb66.fresh (ntr (ntr (ntr e22.next e28.next) e34.next) e49.next))) e83 (hb72.fresh (ntr (ntr (ntr (ntr e22.next e28.next) e34.next) e49.next) e65.next))) e94 Inn.nil) e101 (hb29.fresh e22.next)) e107 (hb35.fresh (ntr e22.next e28.next))), (Ow.nil (by decide)), (Ow.nil (by decide)), u112, Inn.nil, Inn.nil, (i53.fresh (ntr (ntr e22.next e28.next) e34.next)), Dj.nil_l, Dj.nil_l, Dj.nil_l⟩
 have r113 := ite_bf h95 r92
 refine w_skip ?_
 refine k87 _ _ ?_
 refine w_seqk fun _ k114 => ?_
 refine w_draw [0, 2, 1, 3, 4] (by kernel_rfl) ?_
 have u115 := ((r78.frS e83 (hb72.djn r67.ltF)).frS e94 Dj.nil_l)
 refine m_' (.agg #[i_ y41.1, .slice a57 n58 c59]) (aLoad Tryz.prog 24 (pt_ b63 0) H93) (u115.ld (by kernel_rfl)) ?_
 have u116 := (r84.frS e94 Dj.nil_l)
 refine d_fl (.agg #[i_ y41.2.2.1, .slice a60 n61 c62]) (x := aLoad Tryz.prog 34 (pt_ b69 0) H93) (by kernel_rfl) (u116.ld (by kernel_rfl)) ?_
 have u117 := (((u80.fr e77 (hb66.djn m50.lt)).fr e83 (hb72.djn (m50.lt.le e65.next))).fr e94 Dj.nil_l)
 obtain ⟨y118, hy119, r120⟩ := bind_some r113
 refine d_ck 27 #[.agg #[i_ y41.1, .slice a57 n58 c59]] (by kernel_rfl) (c_viaductref11_New e94.wf u117.sq hy119) ?_
 rintro _ H125 ⟨s121, f122, s123, f124, rfl, e126, m127, m128, i129, i130, d131⟩
 obtain ⟨a134, n135, c136, rfl⟩ := m127.form
 obtain ⟨a137, n138, c139, rfl⟩ := m128.form
 have u140 := (u116.frS e126 Dj.nil_l)
 refine ⟨st_ql (y := aLoad Tryz.prog 34 (pt_ b69 0) H125) (by kernel_rfl) (u140.ld (by kernel_rfl)) (st_nil), ?_⟩
 have u145 := ((((((((r30.ext e34).frS e49 Dj.nil_l).ext e65).ext e71).frS e77 (hb66.djn (r30.ltF.le (ntr e34.next e49.next)))).frS e83 (hb72.djn (r30.ltF.le (ntr (ntr e34.next e49.next) e65.next)))).frS e94 Dj.nil_l).frS e126 Dj.nil_l)
 obtain ⟨H141, q142, e143, r144⟩ := Row.store (P := Tryz.prog) (t := 40) (p := 0) e126.wf u145 (.agg #[.slice a134 n135 c136, .slice a137 n138 c139]) [.slice a134 n135 c136, .slice a137 n138 c139] (by kernel_rfl) (by kernel_rfl) (one_cons (m127.one1) (one_cons (m128.one1) (one_nil))) (Nat.le_of_ble_eq_true (by kernel_rfl)) [.slice a134 n135 c136, .slice a137 n138 c139] (by kernel_rfl)
 have u146 := (u140.frS e143 (Dj.symm (hb72.djn (r30.ltF.le (ntr (ntr e34.next e49.next) e65.next)))))
 refine d_ek (undef) (by kernel_rfl) (map_ok q142) (st_ql (y := aLoad Tryz.prog 34 (pt_ b69 0) H141) (by kernel_rfl) (u146.ld (by kernel_rfl)) (st_nil)) ?_
 have u151 := ((((((((r36.frS e49 Dj.nil_l).ext e65).ext e71).frS e77 (hb66.djn (r36.ltF.le e49.next))).frS e83 (hb72.djn (r36.ltF.le (ntr e49.next e65.next)))).frS e94 Dj.nil_l).frS e126 Dj.nil_l).frS e143 (Dj.symm (hb35.djn r30.ltF)))
 have u152 := (((u89.fr e94 Dj.nil_l).fr e126 Dj.nil_l).fr e143 (Dj.symm (i53.djn (r30.ltF.le e34.next))))
 obtain ⟨H147, q148, e149, r150⟩ := Row.store (P := Tryz.prog) (t := 34) (p := 0) e143.wf u151 (.agg #[i_ y41.2.2.1, .slice a60 n61 c62]) [i_ y41.2.2.1, .slice a60 n61 c62] (by kernel_rfl) (by kernel_rfl) (one_cons (rfl) (one_cons (u152.one1) (one_nil))) (Nat.le_of_ble_eq_true (by kernel_rfl)) [i_ y41.2.2.1, .slice a60 n61 c62] (by kernel_rfl)
 refine d_ek (undef) (by kernel_rfl) (map_ok q148) (st_anc (by kernel_rfl) (st_nil)) ?_
 refine d_nil ?_
 refine k114 _ _ ?_
 refine w_ret ?_
 have u153 := (r144.frS e149 (hb35.djn r30.ltF))
 refine b_ret (fn := Tryz.f9) (vs := [.agg #[.slice a134 n135 c136, .slice a137 n138 c139], .agg #[i_ y41.2.2.1, .slice a60 n61 c62]]) (aRes_cell (Eq.trans (b := aLoad Tryz.prog 40 (pt_ b26 0) H147) (by kernel_rfl) (u153.ld (by kernel_rfl))) (aRes_cell (Eq.trans (b := aLoad Tryz.prog 34 (pt_ b32 0) H147) (by kernel_rfl) (r150.ld (by kernel_rfl))) (rfl))) ?_
 have u154 := ((m127.fr e143 (Dj.symm (i129.djn (r30.ltF.le (ntr (ntr (ntr (ntr (ntr (ntr e34.next e49.next) e65.next) e71.next) e77.next) e83.next) e94.next))))).fr e149 (Dj.symm (i129.djn (r36.ltF.le (ntr (ntr (ntr (ntr (ntr e49.next e65.next) e71.next) e77.next) e83.next) e94.next)))))
 have u155 := ((m128.fr e143 (Dj.symm (i130.djn (r30.ltF.le (ntr (ntr (ntr (ntr (ntr (ntr e34.next e49.next) e65.next) e71.next) e77.next) e83.next) e94.next))))).fr e149 (Dj.symm (i130.djn (r36.ltF.le (ntr (ntr (ntr (ntr (ntr e49.next e65.next) e71.next) e77.next) e83.next) e94.next)))))
 have u156 := (u152.fr e149 (Dj.symm (i53.djn r36.ltF)))
 obtain rfl := Option.some.inj r120
 exact ⟨(.slice a134 n135 c136), f122, (.slice a137 n138 c139), f124, (.slice a60 n61 c62), f47, rfl, (FrS.step wf (FrS.step wf (FrS.step wf (FrS.step wf (FrS.step wf (FrS.step wf (((FrS.step wf ((((FrS.refl (W := []) wf).extR e22).extR e28).extR e34) e49 Inn.nil).extR e65).extR e71) e77 (hb66.fresh (ntr (ntr (ntr e22.next e28.next) e34.next) e49.next))) e83 (hb72.fresh (ntr (ntr (ntr (ntr e22.next e28.next) e34.next) e49.next) e65.next))) e94 Inn.nil) e126 Inn.nil) e143 (hb29.fresh e22.next)) e149 (hb35.fresh (ntr e22.next e28.next))), u154, u155, u156, (i129.fresh (ntr (ntr (ntr (ntr (ntr (ntr (ntr (ntr e22.next e28.next) e34.next) e49.next) e65.next) e71.next) e77.next) e83.next) e94.next)), (i130.fresh (ntr (ntr (ntr (ntr (ntr (ntr (ntr (ntr e22.next e28.next) e34.next) e49.next) e65.next) e71.next) e77.next) e83.next) e94.next)), (i53.fresh (ntr (ntr e22.next e28.next) e34.next)), d131, (i129.djn (m51.lt.le (ntr (ntr (ntr (ntr e65.next e71.next) e77.next) e83.next) e94.next))), (i130.djn (m51.lt.le (ntr (ntr (ntr (ntr e65.next e71.next) e77.next) e83.next) e94.next)))⟩

theorem c_viaductref11_Lives {H : AH} {hd_Alive : Value} {fp_Alive : Fp} {hd_Arcs : Value} {fp_Arcs : Fp} {Alive : List (Bool)} {Arcs : List (Int × Int × Int × Int)} {v_ : Int} {r : Bool}
    (wf : WF H) (h_Alive : Sq encB 1 H hd_Alive Alive fp_Alive) (h_Arcs : Sq enc_i64_i64_u64_i64 4 H hd_Arcs Arcs fp_Arcs) (hr : z_viaductref11_Lives Alive Arcs v_ = some r) :
    ACalls Tryz.prog 30 #[.agg #[hd_Alive, hd_Arcs], i_ v_] H fun v H' => v = .bool r ∧ FrS [] H H' := by
 refine acalls_of_body mixed Tryz.func30 rfl (Nat.le_of_ble_eq_true rfl) ?_
 unfold z_viaductref11_Lives at hr
 refine w_seqk fun _ k1 => ?_
 refine g_' ?_
 refine s_rwl wf [hd_Alive, hd_Arcs] (one_cons (h_Alive.one1) (one_cons (h_Arcs.one1) (one_nil))) (by kernel_rfl) fun b2 H3 e4 hb5 r6 => ?_
 refine q_ (.bool false) ?_
 refine s_nil (k1 _ _ ?_)
 refine w_seqk fun _ k8 => ?_
 refine g_' ?_
 refine q_ (i_ v_) ?_
 refine s_b (v_ ≥ 0) (by kernel_rfl) (fun h9 => ?_) (fun h9 => ?_)
 ·have r10 := ite_t h9 hr
  refine q_ (.bool true) ?_
  refine q_ (i_ v_) ?_
  refine q_ (pt_ b2 0) ?_
  refine l_' (hd_Alive) (aLoad Tryz.prog 37 (pt_ b2 0) H3) (r6.ld (by kernel_rfl)) ?_
  have u11 := (h_Alive.ext e4)
  refine l_' (i_ (Alive.length : Int)) (aLen Tryz.prog 37 hd_Alive H3) (u11.lenb (by kernel_rfl)) ?_
  refine s_b (v_ < (Alive.length : Int)) (by kernel_rfl) (fun h12 => ?_) (fun h12 => ?_)
  ·have r13 := ite_t h12 r10
   refine q_ (.bool true) ?_
   refine q_ (.bool true) ?_
   refine q_ (pt_ b2 0) ?_
   refine l_' (hd_Alive) (aLoad Tryz.prog 37 (pt_ b2 0) H3) (r6.ld (by kernel_rfl)) ?_
   refine q_ (i_ v_) ?_
   obtain ⟨g14, r15⟩ := G_some r13
   refine l_' (elp hd_Alive 1 v_.toNat 0) (aIndexAddr Tryz.prog 37 hd_Alive (i_ v_)) (u11.idxb (by kernel_rfl) g14 h12) ?_
   refine l_' (.bool (gt Alive v_)) (aLoad Tryz.prog 4 (elp hd_Alive 1 v_.toNat 0) H3) (u11.ld g14 h12 (by kernel_rfl)) ?_
   refine q_ (.bool (gt Alive v_)) ?_
   refine q_ (.bool (gt Alive v_)) ?_
   refine s_nil (k8 _ _ ?_)
   refine w_ret ?_
   refine b_ret (fn := Tryz.f30) (vs := [.bool (gt Alive v_)]) (aRes_tmp (by kernel_rfl) (rfl)) ?_
   obtain rfl := Option.some.inj r15
   exact ⟨rfl, ((FrS.refl (W := []) wf).extR e4)⟩
  have r16 := ite_f h12 r10
  refine q_ (.bool false) ?_
  refine q_ (.bool false) ?_
  refine n_' ?_
  refine n_' ?_
  refine n_' ?_
  refine n_' ?_
  refine n_' ?_
  refine q_ (.bool false) ?_
  refine q_ (.bool false) ?_
  refine s_nil (k8 _ _ ?_)
  refine w_ret ?_
  refine b_ret (fn := Tryz.f30) (vs := [.bool false]) (aRes_tmp (by kernel_rfl) (rfl)) ?_
  obtain rfl := Option.some.inj r16
  exact ⟨rfl, ((FrS.refl (W := []) wf).extR e4)⟩
 have r17 := ite_f h9 hr
 refine q_ (.bool false) ?_
 refine n_' ?_
 refine n_' ?_
 refine n_' ?_
 refine n_' ?_
 refine n_' ?_
 refine q_ (.bool false) ?_
 refine q_ (.bool false) ?_
 refine n_' ?_
 refine n_' ?_
 refine n_' ?_
 refine n_' ?_
 refine n_' ?_
 refine q_ (.bool false) ?_
 refine q_ (.bool false) ?_
 refine s_nil (k8 _ _ ?_)
 refine w_ret ?_
 refine b_ret (fn := Tryz.f30) (vs := [.bool false]) (aRes_tmp (by kernel_rfl) (rfl)) ?_
 obtain rfl := Option.some.inj r17
 exact ⟨rfl, ((FrS.refl (W := []) wf).extR e4)⟩

theorem c_viaductref11_DocPut {H : AH} {hd_Alive : Value} {fp_Alive : Fp} {hd_Arcs : Value} {fp_Arcs : Fp} {Alive : List (Bool)} {Arcs : List (Int × Int × Int × Int)} {u : Int} {w : Int} {weight : Int} {via : Int} {r : Int}
    (wf : WF H) (h_Alive : Sq encB 1 H hd_Alive Alive fp_Alive) (h_Arcs : Sq enc_i64_i64_u64_i64 4 H hd_Arcs Arcs fp_Arcs) (hr : z_viaductref11_DocPut Alive Arcs u w weight via = some r) :
    ACalls Tryz.prog 28 #[.agg #[hd_Alive, hd_Arcs], i_ u, i_ w, .int .u64 weight, i_ via] H fun v H' => v = .agg #[i_ r, .slice none 0 0] ∧ FrS [] H H' := by
 refine acalls_of_body mixed Tryz.func28 rfl (Nat.le_of_ble_eq_true rfl) ?_
 unfold z_viaductref11_DocPut at hr
 refine w_seqk fun _ k1 => ?_
 refine g_' ?_
 refine s_rwl wf [hd_Alive, hd_Arcs] (one_cons (h_Alive.one1) (one_cons (h_Arcs.one1) (one_nil))) (by kernel_rfl) fun b2 H3 e4 hb5 r6 => ?_
 refine s_rwk e4.wf [i_ 0, .slice none 0 0] (by kernel_rfl) fun b8 H9 e10 hb11 r12 => ?_
 refine s_nil (k1 _ _ ?_)
 refine w_seqk fun _ k14 => ?_
 refine w_block ?_
 refine w_seqk fun _ k15 => ?_
 obtain ⟨o16, hx17, r18⟩ := bind_some hr
 refine w_mid (fun α H19 => Has α [(1, i_ u), (2, i_ w), (3, .int .u64 weight), (4, i_ via), (5, pt_ b2 0), (10, pt_ b8 0), (11, .bool o16)] ∧ FrS [] H9 H19) (fun _ k21 => ?_) (fun α H19 hM => ?_)
 ·refine g_' ?_
  have u23 := (r6.ext e10)
  refine l_' (.agg #[hd_Alive, hd_Arcs]) (aLoad Tryz.prog 40 (pt_ b2 0) H9) (u23.ld (by kernel_rfl)) ?_
  refine q_ (i_ u) ?_
  have u24 := ((h_Alive.ext e4).ext e10)
  have u25 := ((h_Arcs.ext e4).ext e10)
  obtain ⟨y26, hy27, r28⟩ := bind_some hx17
  refine s_ck 30 #[.agg #[hd_Alive, hd_Arcs], i_ u] (by kernel_rfl) (c_viaductref11_Lives e10.wf u24 u25 hy27) ?_
  rintro _ H29 ⟨rfl, e30⟩
  by_cases h31 : y26 = true
  ·have r32 := ite_t h31 r28
   rw [h31]
   refine q_ (.bool false) ?_
   refine q_ (.bool false) ?_
   have u34 := (u23.frS e30 Dj.nil_l)
   refine l_' (.agg #[hd_Alive, hd_Arcs]) (aLoad Tryz.prog 40 (pt_ b2 0) H29) (u34.ld (by kernel_rfl)) ?_
   refine q_ (i_ w) ?_
   have u35 := (u24.fr e30 Dj.nil_l)
   have u36 := (u25.fr e30 Dj.nil_l)
   obtain ⟨y37, hy38, r39⟩ := bind_some r32
   refine s_ck 30 #[.agg #[hd_Alive, hd_Arcs], i_ w] (by kernel_rfl) (c_viaductref11_Lives e30.wf u35 u36 hy38) ?_
   rintro _ H40 ⟨rfl, e41⟩
   refine q_ (.bool (!y37)) ?_
   refine q_ (.bool (!y37)) ?_
   refine q_ (.bool (!y37)) ?_
   refine s_nil ?_
   obtain rfl := Option.some.inj r39
   exact k21 _ _ ⟨ha_, (FrS.step e10.wf (FrS.step e10.wf (FrS.refl (W := []) e10.wf) e30 Inn.nil) e41 Inn.nil)⟩
  have r42 := ite_f h31 r28
  rw [nb h31]
  refine q_ (.bool true) ?_
  refine q_ (.bool true) ?_
  refine n_' ?_
  refine n_' ?_
  refine n_' ?_
  refine n_' ?_
  refine q_ (.bool true) ?_
  refine q_ (.bool true) ?_
  refine s_nil ?_
  obtain rfl := Option.some.inj r42
  exact k21 _ _ ⟨ha_, (FrS.step e10.wf (FrS.refl (W := []) e10.wf) e30 Inn.nil)⟩
 obtain ⟨hh22, e20⟩ := hM
 obtain ⟨β, rfl⟩ := has_ex hh22
 clear hh22
 refine k15 _ _ ?_
 refine w_cond (o16) (by kernel_rfl) rfl (fun h44 => ?_) (fun h44 => ?_)
 ·have r45 := ite_t h44 r18
  refine w_seqk fun _ k46 => ?_
  refine g_' ?_
  obtain ⟨y47, hy48, r49⟩ := bind_some r45
  refine s_ck 22 #[i_ 7] (by kernel_rfl) (c_viaductref01_E e20.wf hy48) ?_
  rintro _ H50 ⟨rfl, e51⟩
  have u56 := ((r12.frS e20 Dj.nil_l).frS e51 Dj.nil_l)
  obtain ⟨H52, q53, e54, r55⟩ := Row.store (P := Tryz.prog) (t := 34) (p := 0) e51.wf u56 (.agg #[i_ y47, .slice none 0 0]) [i_ y47, .slice none 0 0] (by kernel_rfl) (by kernel_rfl) (one_cons (rfl) (one_cons (rfl) (one_nil))) (Nat.le_of_ble_eq_true (by kernel_rfl)) [i_ y47, .slice none 0 0] (by kernel_rfl)
  refine s_ek (undef) (by kernel_rfl) (map_ok q53) ?_
  refine s_nil (k46 _ _ ?_)
  refine w_ret (bl_ret (th_ret ?_))
  refine b_ret (fn := Tryz.f28) (vs := [.agg #[i_ y47, .slice none 0 0]]) (aRes_cell (Eq.trans (b := aLoad Tryz.prog 34 (pt_ b8 0) H52) (by kernel_rfl) (r55.ld (by kernel_rfl))) (rfl)) ?_
  obtain rfl := Option.some.inj r49
  exact ⟨rfl, (FrS.step wf (FrS.step wf (FrS.step wf (((FrS.refl (W := []) wf).extR e4).extR e10) e20 Inn.nil) e51 Inn.nil) e54 (hb11.fresh e4.next))⟩
 have r57 := ite_bf h44 r18
 refine w_seqk fun _ k58 => ?_
 refine g_' ?_
 refine q_ (i_ u) ?_
 refine q_ (i_ w) ?_
 refine q_ (.bool (decide (u = w))) ?_
 refine q_ (.bool (decide (u = w))) ?_
 refine s_nil (k58 _ _ ?_)
 refine w_condp (u = w) (by kernel_rfl) rfl (fun h59 => ?_) (fun h59 => ?_)
 ·have r60 := ite_t h59 r57
  refine w_seqk fun _ k61 => ?_
  refine g_' ?_
  obtain ⟨y62, hy63, r64⟩ := bind_some r60
  refine s_ck 22 #[i_ 1] (by kernel_rfl) (c_viaductref01_E e20.wf hy63) ?_
  rintro _ H65 ⟨rfl, e66⟩
  have u71 := ((r12.frS e20 Dj.nil_l).frS e66 Dj.nil_l)
  obtain ⟨H67, q68, e69, r70⟩ := Row.store (P := Tryz.prog) (t := 34) (p := 0) e66.wf u71 (.agg #[i_ y62, .slice none 0 0]) [i_ y62, .slice none 0 0] (by kernel_rfl) (by kernel_rfl) (one_cons (rfl) (one_cons (rfl) (one_nil))) (Nat.le_of_ble_eq_true (by kernel_rfl)) [i_ y62, .slice none 0 0] (by kernel_rfl)
  refine s_ek (undef) (by kernel_rfl) (map_ok q68) ?_
  refine s_nil (k61 _ _ ?_)
  refine w_ret (bl_ret (th_ret ?_))
  refine b_ret (fn := Tryz.f28) (vs := [.agg #[i_ y62, .slice none 0 0]]) (aRes_cell (Eq.trans (b := aLoad Tryz.prog 34 (pt_ b8 0) H67) (by kernel_rfl) (r70.ld (by kernel_rfl))) (rfl)) ?_
  obtain rfl := Option.some.inj r64
  exact ⟨rfl, (FrS.step wf (FrS.step wf (FrS.step wf (((FrS.refl (W := []) wf).extR e4).extR e10) e20 Inn.nil) e66 Inn.nil) e69 (hb11.fresh e4.next))⟩
 have r72 := ite_f h59 r57
 refine w_seqk fun _ k73 => ?_
 refine g_' ?_
 refine q_ (.int .u64 weight) ?_
 refine q_ (.bool (decide (weight > 140737488355328))) ?_
 refine q_ (.bool (decide (weight > 140737488355328))) ?_
 refine s_nil (k73 _ _ ?_)
 refine w_condp (weight > 140737488355328) (by kernel_rfl) rfl (fun h74 => ?_) (fun h74 => ?_)
 ·have r75 := ite_t h74 r72
  refine w_seqk fun _ k76 => ?_
  refine g_' ?_
  obtain ⟨y77, hy78, r79⟩ := bind_some r75
  refine s_ck 22 #[i_ 8] (by kernel_rfl) (c_viaductref01_E e20.wf hy78) ?_
  rintro _ H80 ⟨rfl, e81⟩
  have u86 := ((r12.frS e20 Dj.nil_l).frS e81 Dj.nil_l)
  obtain ⟨H82, q83, e84, r85⟩ := Row.store (P := Tryz.prog) (t := 34) (p := 0) e81.wf u86 (.agg #[i_ y77, .slice none 0 0]) [i_ y77, .slice none 0 0] (by kernel_rfl) (by kernel_rfl) (one_cons (rfl) (one_cons (rfl) (one_nil))) (Nat.le_of_ble_eq_true (by kernel_rfl)) [i_ y77, .slice none 0 0] (by kernel_rfl)
  refine s_ek (undef) (by kernel_rfl) (map_ok q83) ?_
  refine s_nil (k76 _ _ ?_)
  refine w_ret (bl_ret (th_ret ?_))
  refine b_ret (fn := Tryz.f28) (vs := [.agg #[i_ y77, .slice none 0 0]]) (aRes_cell (Eq.trans (b := aLoad Tryz.prog 34 (pt_ b8 0) H82) (by kernel_rfl) (r85.ld (by kernel_rfl))) (rfl)) ?_
  obtain rfl := Option.some.inj r79
  exact ⟨rfl, (FrS.step wf (FrS.step wf (FrS.step wf (((FrS.refl (W := []) wf).extR e4).extR e10) e20 Inn.nil) e81 Inn.nil) e84 (hb11.fresh e4.next))⟩
 have r87 := ite_f h74 r72
 refine w_seqk fun _ k88 => ?_
 obtain ⟨o89, hx90, r91⟩ := bind_some r87
 refine w_mid (fun α H92 => Has α [(10, pt_ b8 0), (32, .bool o89)] ∧ H19 = H92) (fun _ k94 => ?_) (fun α H92 hM => ?_)
 ·refine g_' ?_
  refine q_ (i_ via) ?_
  refine s_bn (via = (-1)) (by kernel_rfl) (fun h96 => ?_) (fun h96 => ?_)
  ·have r97 := ite_t h96 hx90
   refine q_ (.bool false) ?_
   refine n_' ?_
   refine n_' ?_
   refine n_' ?_
   refine n_' ?_
   refine n_' ?_
   refine n_' ?_
   refine n_' ?_
   refine n_' ?_
   refine n_' ?_
   refine n_' ?_
   refine n_' ?_
   refine n_' ?_
   refine n_' ?_
   refine n_' ?_
   refine n_' ?_
   refine n_' ?_
   refine q_ (.bool false) ?_
   refine q_ (.bool false) ?_
   refine s_nil ?_
   obtain rfl := Option.some.inj r97
   exact k94 _ _ ⟨ha_, rfl⟩
  have r98 := ite_f h96 hx90
  refine q_ (.bool true) ?_
  refine q_ (i_ via) ?_
  refine s_b (via < 0) (by kernel_rfl) (fun h99 => ?_) (fun h99 => ?_)
  ·have r100 := ite_t h99 r98
   refine q_ (.bool true) ?_
   refine n_' ?_
   refine n_' ?_
   refine n_' ?_
   refine n_' ?_
   refine n_' ?_
   refine q_ (.bool true) ?_
   refine q_ (.bool true) ?_
   refine n_' ?_
   refine n_' ?_
   refine n_' ?_
   refine n_' ?_
   refine n_' ?_
   refine q_ (.bool true) ?_
   refine q_ (.bool true) ?_
   refine q_ (.bool true) ?_
   refine s_nil ?_
   obtain rfl := Option.some.inj r100
   exact k94 _ _ ⟨ha_, rfl⟩
  have r101 := ite_f h99 r98
  refine q_ (.bool false) ?_
  refine q_ (i_ via) ?_
  refine q_ (pt_ b2 0) ?_
  have u102 := ((r6.ext e10).frS e20 Dj.nil_l)
  refine l_' (hd_Alive) (aLoad Tryz.prog 37 (pt_ b2 0) H19) (u102.ld (by kernel_rfl)) ?_
  have u103 := (((h_Alive.ext e4).ext e10).fr e20 Dj.nil_l)
  refine l_' (i_ (Alive.length : Int)) (aLen Tryz.prog 37 hd_Alive H19) (u103.lenb (by kernel_rfl)) ?_
  refine s_b (via ≥ (Alive.length : Int)) (by kernel_rfl) (fun h104 => ?_) (fun h104 => ?_)
  ·have r105 := ite_t h104 r101
   refine q_ (.bool true) ?_
   refine q_ (.bool true) ?_
   refine n_' ?_
   refine n_' ?_
   refine n_' ?_
   refine n_' ?_
   refine n_' ?_
   refine q_ (.bool true) ?_
   refine q_ (.bool true) ?_
   refine q_ (.bool true) ?_
   refine s_nil ?_
   obtain rfl := Option.some.inj r105
   exact k94 _ _ ⟨ha_, rfl⟩
  have r106 := ite_f h104 r101
  refine q_ (.bool false) ?_
  refine q_ (.bool false) ?_
  refine q_ (pt_ b2 0) ?_
  refine l_' (hd_Alive) (aLoad Tryz.prog 37 (pt_ b2 0) H19) (u102.ld (by kernel_rfl)) ?_
  refine q_ (i_ via) ?_
  obtain ⟨g107, r108⟩ := G_some r106
  refine l_' (elp hd_Alive 1 via.toNat 0) (aIndexAddr Tryz.prog 37 hd_Alive (i_ via)) (u103.idxb (by kernel_rfl) g107.1 g107.2) ?_
  refine l_' (.bool (gt Alive via)) (aLoad Tryz.prog 4 (elp hd_Alive 1 via.toNat 0) H19) (u103.ld g107.1 g107.2 (by kernel_rfl)) ?_
  refine q_ (.bool (gt Alive via)) ?_
  refine q_ (.bool (gt Alive via)) ?_
  refine q_ (.bool (gt Alive via)) ?_
  refine s_nil ?_
  obtain rfl := Option.some.inj r108
  exact k94 _ _ ⟨ha_, rfl⟩
 obtain ⟨hh95, rfl⟩ := hM
 obtain ⟨β, rfl⟩ := has_ex hh95
 clear hh95
 refine k88 _ _ ?_
 refine w_cond (o89) (by kernel_rfl) rfl (fun h109 => ?_) (fun h109 => ?_)
 ·have r110 := ite_t h109 r91
  refine w_seqk fun _ k111 => ?_
  refine g_' ?_
  obtain ⟨y112, hy113, r114⟩ := bind_some r110
  refine s_ck 22 #[i_ 1] (by kernel_rfl) (c_viaductref01_E e20.wf hy113) ?_
  rintro _ H115 ⟨rfl, e116⟩
  have u121 := ((r12.frS e20 Dj.nil_l).frS e116 Dj.nil_l)
  obtain ⟨H117, q118, e119, r120⟩ := Row.store (P := Tryz.prog) (t := 34) (p := 0) e116.wf u121 (.agg #[i_ y112, .slice none 0 0]) [i_ y112, .slice none 0 0] (by kernel_rfl) (by kernel_rfl) (one_cons (rfl) (one_cons (rfl) (one_nil))) (Nat.le_of_ble_eq_true (by kernel_rfl)) [i_ y112, .slice none 0 0] (by kernel_rfl)
  refine s_ek (undef) (by kernel_rfl) (map_ok q118) ?_
  refine s_nil (k111 _ _ ?_)
  refine w_ret (bl_ret (th_ret ?_))
  refine b_ret (fn := Tryz.f28) (vs := [.agg #[i_ y112, .slice none 0 0]]) (aRes_cell (Eq.trans (b := aLoad Tryz.prog 34 (pt_ b8 0) H117) (by kernel_rfl) (r120.ld (by kernel_rfl))) (rfl)) ?_
  obtain rfl := Option.some.inj r114
  exact ⟨rfl, (FrS.step wf (FrS.step wf (FrS.step wf (((FrS.refl (W := []) wf).extR e4).extR e10) e20 Inn.nil) e116 Inn.nil) e119 (hb11.fresh e4.next))⟩
 have r122 := ite_bf h109 r91
 refine w_skip ?_
 refine k14 _ _ ?_
 refine w_seqk fun _ k123 => ?_
 refine g_' ?_
 refine q_ (.agg #[i_ 0, .slice none 0 0]) ?_
 have u128 := (r12.frS e20 Dj.nil_l)
 obtain ⟨H124, q125, e126, r127⟩ := Row.store (P := Tryz.prog) (t := 34) (p := 0) e20.wf u128 (.agg #[i_ 0, .slice none 0 0]) [i_ 0, .slice none 0 0] (by kernel_rfl) (by kernel_rfl) (one_cons (rfl) (one_cons (rfl) (one_nil))) (Nat.le_of_ble_eq_true (by kernel_rfl)) [i_ 0, .slice none 0 0] (by kernel_rfl)
 refine s_ek (undef) (by kernel_rfl) (map_ok q125) ?_
 refine s_nil (k123 _ _ ?_)
 refine w_ret ?_
 refine b_ret (fn := Tryz.f28) (vs := [.agg #[i_ 0, .slice none 0 0]]) (aRes_cell (Eq.trans (b := aLoad Tryz.prog 34 (pt_ b8 0) H124) (by kernel_rfl) (r127.ld (by kernel_rfl))) (rfl)) ?_
 obtain rfl := Option.some.inj r122
 exact ⟨rfl, (FrS.step wf (FrS.step wf (((FrS.refl (W := []) wf).extR e4).extR e10) e20 Inn.nil) e126 (hb11.fresh e4.next))⟩

theorem c_viaductref11_Put {H : AH} {hd_Alive : Value} {fp_Alive : Fp} {hd_Arcs : Value} {fp_Arcs : Fp} {Alive : List (Bool)} {Arcs : List (Int × Int × Int × Int)} {From : Int} {To : Int} {Weight : Int} {Via : Int} {r : List (Int × Int × Int × Int) × Bool}
    (wf : WF H) (h_Alive : Sq encB 1 H hd_Alive Alive fp_Alive) (h_Arcs : Sq enc_i64_i64_u64_i64 4 H hd_Arcs Arcs fp_Arcs) (hr : z_viaductref11_Put Alive Arcs From To Weight Via = some r) :
    ACalls Tryz.prog 29 #[.agg #[hd_Alive, hd_Arcs], .agg #[i_ From, i_ To, .int .u64 Weight, i_ Via]] H fun v H' => ∃ (s3 : Value) (f4 : Fp), v = .tuple #[.agg #[hd_Alive, s3], .bool r.2] ∧ FrS [] H H' ∧ Sq enc_i64_i64_u64_i64 4 H' s3 r.1 f4 ∧ Inn fp_Arcs H f4 := by
 refine acalls_of_body mixed Tryz.func29 rfl (Nat.le_of_ble_eq_true rfl) ?_
 unfold z_viaductref11_Put at hr
 refine w_seqk fun _ k6 => ?_
 refine g_' ?_
 refine s_rwl wf [hd_Alive, hd_Arcs] (one_cons (h_Alive.one1) (one_cons (h_Arcs.one1) (one_nil))) (by kernel_rfl) fun b7 H8 e9 hb10 r11 => ?_
 refine s_rwl e9.wf [i_ From, i_ To, .int .u64 Weight, i_ Via] (one_cons (rfl) (one_cons (rfl) (one_cons (rfl) (one_cons (rfl) (one_nil))))) (by kernel_rfl) fun b13 H14 e15 hb16 r17 => ?_
 refine s_rwk e15.wf [.slice none 0 0, .slice none 0 0] (by kernel_rfl) fun b19 H20 e21 hb22 r23 => ?_
 refine q_ (.bool false) ?_
 refine s_nil (k6 _ _ ?_)
 refine w_seqk fun _ k25 => ?_
 refine g_' ?_
 refine q_ (pt_ b7 0) ?_
 have u26 := ((r11.ext e15).ext e21)
 refine l_' (hd_Alive) (aLoad Tryz.prog 37 (pt_ b7 0) H20) (u26.ld (by kernel_rfl)) ?_
 have u27 := (((h_Alive.ext e9).ext e15).ext e21)
 obtain ⟨a28, n29, c30, rfl⟩ := u27.form
 refine q_ (.agg #[.slice a28 n29 c30, .slice none 0 0]) ?_
 refine s_rwk e21.wf [.slice none 0 0, .slice none 0 0] (by kernel_rfl) fun b31 H32 e33 hb34 r35 => ?_
 have u41 := (u27.ext e33)
 obtain ⟨H37, q38, e39, r40⟩ := Row.store (P := Tryz.prog) (t := 40) (p := 0) e33.wf r35 (.agg #[.slice a28 n29 c30, .slice none 0 0]) [.slice a28 n29 c30, .slice none 0 0] (by kernel_rfl) (by kernel_rfl) (one_cons (u41.one1) (one_cons (rfl) (one_nil))) (Nat.le_of_ble_eq_true (by kernel_rfl)) [.slice a28 n29 c30, .slice none 0 0] (by kernel_rfl)
 refine s_ek (undef) (by kernel_rfl) (map_ok q38) ?_
 refine s_nil (k25 _ _ ?_)
 refine w_seqk fun _ k42 => ?_
 refine g_' ?_
 refine q_ (.bool true) ?_
 refine s_nil (k42 _ _ ?_)
 refine w_seqk fun _ k43 => ?_
 refine w_seqk fun _ k44 => ?_
 refine g_' ?_
 refine q_ (pt_ b7 1) ?_
 have u45 := ((u26.ext e33).frS e39 (hb34.djn (r11.ltF.le (ntr e15.next e21.next))))
 refine l_' (hd_Arcs) (aLoad Tryz.prog 38 (pt_ b7 1) H37) (u45.ld (by kernel_rfl)) ?_
 have u46 := (((((h_Arcs.ext e9).ext e15).ext e21).ext e33).fr e39 (hb34.djn (h_Arcs.lt.le (ntr (ntr e9.next e15.next) e21.next))))
 refine l_' (i_ (Arcs.length : Int)) (aLen Tryz.prog 38 hd_Arcs H37) (u46.lenb (by kernel_rfl)) ?_
 refine q_ (i_ 0) ?_
 refine s_nil (k44 _ _ ?_)
 obtain ⟨z50, hx48, r49⟩ := bind_some hr
 refine w_mid (fun α H51 => ∃ o47, z50 = Sum.inr o47 ∧ ∃ (s55 : Value) (f56 : Fp), Has α [(3, pt_ b13 0), (4, pt_ b19 0), (6, pt_ b31 0), (7, .bool true)] ∧ FrS [b31] H37 H51 ∧ Ow enc_i64_i64_u64_i64 4 H51 s55 o47 f56 ∧ Row H51 b31 [.slice a28 n29 c30, s55] ∧ Inn [] H37 f56) (fun _ k60 => ?_) (fun α H51 hM => ?_)
 ·refine w_block ?_
  obtain ⟨n62, hn63⟩ := loopO_iff.1 hx48
  refine w_loopn (fun n α H64 => ∃ (i0 : Int), ∃ (p1 : List (Int × Int × Int × Int)), ∃ (s68 : Value), ∃ (f69 : Fp), iterO (fun zz_ => z_viaductref11_Put_l0 Arcs From To Weight zz_.1 zz_.2) n (i0, p1) = some z50 ∧ Has α [(2, pt_ b7 0), (3, pt_ b13 0), (4, pt_ b19 0), (6, pt_ b31 0), (7, .bool true), (14, hd_Arcs), (15, i_ (Arcs.length : Int)), (16, i_ i0)] ∧ FrS [b31] H37 H64 ∧ Ow enc_i64_i64_u64_i64 4 H64 s68 p1 f69 ∧ Row H64 b31 [.slice a28 n29 c30, s68] ∧ Inn [] H37 f69) n62 ⟨0, [], (.slice none 0 0), [], hn63, ha_, (FrS.refl (W := [b31]) e39.wf), (Ow.nil (by decide)), r40, Inn.nil⟩ ?_
  rintro n62 α H64 ⟨i0, p1, s68, f69, hi74, hh73, e65, m67, m71, i72⟩ K79 k79
  obtain ⟨n75, z76, rfl, hz77, hn78⟩ := iter_succ hi74
  obtain ⟨β, rfl⟩ := has_ex hh73
  clear hh73
  replace hz77 : z_viaductref11_Put_l0 Arcs From To Weight i0 p1 = some z76 := hz77
  unfold z_viaductref11_Put_l0 at hz77
  obtain ⟨a80, n81, c82, rfl⟩ := m67.form
  refine w_seqk fun _ k83 => ?_
  refine g_' ?_
  refine q_ (.bool (decide (i0 < (Arcs.length : Int)))) ?_
  refine s_nil (k83 _ _ ?_)
  refine w_seqk fun _ k84 => ?_
  refine w_condp (i0 < (Arcs.length : Int)) (by kernel_rfl) rfl (fun h85 => ?_) (fun h85 => ?_)
  ·have r86 := ite_t h85 hz77
   refine w_skip ?_
   refine k84 _ _ ?_
   refine w_seqk fun _ k87 => ?_
   refine w_block ?_
   refine w_seqk fun _ k88 => ?_
   refine g_' ?_
   obtain ⟨g89, r90⟩ := G_some r86
   have u91 := (u46.fr e65 (hb34.djn (h_Arcs.lt.le (ntr (ntr e9.next e15.next) e21.next))))
   refine l_' (elp hd_Arcs 4 i0.toNat 0) (aIndexAddr Tryz.prog 38 hd_Arcs (i_ i0)) (u91.idxb (by kernel_rfl) g89 h85) ?_
   refine l_' (.agg #[i_ ((gt Arcs i0).1), i_ ((gt Arcs i0).2.1), .int .u64 ((gt Arcs i0).2.2.1), i_ ((gt Arcs i0).2.2.2)]) (aLoad Tryz.prog 90 (elp hd_Arcs 4 i0.toNat 0) H64) (u91.ld g89 h85 (by kernel_rfl)) ?_
   refine s_rwk e65.wf [i_ 0, i_ 0, .int .u64 0, i_ 0] (by kernel_rfl) fun b92 H93 e94 hb95 r96 => ?_
   obtain ⟨H98, q99, e100, r101⟩ := Row.store (P := Tryz.prog) (t := 90) (p := 0) e94.wf r96 (.agg #[i_ ((gt Arcs i0).1), i_ ((gt Arcs i0).2.1), .int .u64 ((gt Arcs i0).2.2.1), i_ ((gt Arcs i0).2.2.2)]) [i_ ((gt Arcs i0).1), i_ ((gt Arcs i0).2.1), .int .u64 ((gt Arcs i0).2.2.1), i_ ((gt Arcs i0).2.2.2)] (by kernel_rfl) (by kernel_rfl) (one_cons (rfl) (one_cons (rfl) (one_cons (rfl) (one_cons (rfl) (one_nil))))) (Nat.le_of_ble_eq_true (by kernel_rfl)) [i_ ((gt Arcs i0).1), i_ ((gt Arcs i0).2.1), .int .u64 ((gt Arcs i0).2.2.1), i_ ((gt Arcs i0).2.2.2)] (by kernel_rfl)
   refine s_ek (undef) (by kernel_rfl) (map_ok q99) ?_
   refine s_nil (k88 _ _ ?_)
   refine w_seqk fun _ k102 => ?_
   refine w_seqk fun _ k103 => ?_
   obtain ⟨o104, hx105, r106⟩ := bind_some r90
   refine w_mid (fun α H107 => Has α [(2, pt_ b7 0), (3, pt_ b13 0), (4, pt_ b19 0), (6, pt_ b31 0), (7, .bool true), (9, pt_ b92 0), (14, hd_Arcs), (15, i_ (Arcs.length : Int)), (16, i_ i0), (31, .bool o104)] ∧ H98 = H107) (fun _ k109 => ?_) (fun α H107 hM => ?_)
   ·refine g_' ?_
    refine q_ (pt_ b92 0) ?_
    refine l_' (i_ ((gt Arcs i0).1)) (aLoad Tryz.prog 3 (pt_ b92 0) H98) (r101.ld (by kernel_rfl)) ?_
    refine q_ (pt_ b13 0) ?_
    have u111 := ((((((r17.ext e21).ext e33).frS e39 (hb34.djn (r17.ltF.le e21.next))).frS e65 (hb34.djn (r17.ltF.le e21.next))).ext e94).frS e100 (hb95.djn (r17.ltF.le (ntr (ntr (ntr e21.next e33.next) e39.next) e65.next))))
    refine l_' (i_ From) (aLoad Tryz.prog 3 (pt_ b13 0) H98) (u111.ld (by kernel_rfl)) ?_
    refine s_b (((gt Arcs i0).1) = From) (by kernel_rfl) (fun h112 => ?_) (fun h112 => ?_)
    ·have r113 := ite_t h112 hx105
     refine q_ (.bool true) ?_
     refine q_ (pt_ b92 1) ?_
     refine l_' (i_ ((gt Arcs i0).2.1)) (aLoad Tryz.prog 3 (pt_ b92 1) H98) (r101.ld (by kernel_rfl)) ?_
     refine q_ (pt_ b13 1) ?_
     refine l_' (i_ To) (aLoad Tryz.prog 3 (pt_ b13 1) H98) (u111.ld (by kernel_rfl)) ?_
     refine q_ (.bool (decide (((gt Arcs i0).2.1) = To))) ?_
     refine q_ (.bool (decide (((gt Arcs i0).2.1) = To))) ?_
     refine s_nil ?_
     obtain rfl := Option.some.inj r113
     exact k109 _ _ ⟨ha_, rfl⟩
    have r114 := ite_f h112 hx105
    refine q_ (.bool false) ?_
    refine n_' ?_
    refine n_' ?_
    refine n_' ?_
    refine n_' ?_
    refine n_' ?_
    refine q_ (.bool false) ?_
    refine s_nil ?_
    obtain rfl := Option.some.inj r114
    exact k109 _ _ ⟨ha_, rfl⟩
   obtain ⟨hh110, rfl⟩ := hM
   obtain ⟨β, rfl⟩ := has_ex hh110
   clear hh110
   refine k103 _ _ ?_
   refine w_cond (o104) (by kernel_rfl) rfl (fun h115 => ?_) (fun h115 => ?_)
   ·have r116 := ite_t h115 r106
    refine w_seqk fun _ k117 => ?_
    refine w_seqk fun _ k118 => ?_
    refine g_' ?_
    refine q_ (pt_ b92 2) ?_
    refine l_' (.int .u64 ((gt Arcs i0).2.2.1)) (aLoad Tryz.prog 43 (pt_ b92 2) H98) (r101.ld (by kernel_rfl)) ?_
    refine q_ (pt_ b13 2) ?_
    have u119 := ((((((r17.ext e21).ext e33).frS e39 (hb34.djn (r17.ltF.le e21.next))).frS e65 (hb34.djn (r17.ltF.le e21.next))).ext e94).frS e100 (hb95.djn (r17.ltF.le (ntr (ntr (ntr e21.next e33.next) e39.next) e65.next))))
    refine l_' (.int .u64 Weight) (aLoad Tryz.prog 43 (pt_ b13 2) H98) (u119.ld (by kernel_rfl)) ?_
    refine q_ (.bool (decide (((gt Arcs i0).2.2.1) ≤ Weight))) ?_
    refine s_nil (k118 _ _ ?_)
    refine w_condp (((gt Arcs i0).2.2.1) ≤ Weight) (by kernel_rfl) rfl (fun h120 => ?_) (fun h120 => ?_)
    ·have r121 := ite_t h120 r116
     refine w_seqk fun _ k122 => ?_
     refine g_' ?_
     have u123 := (((u45.frS e65 (hb34.djn (r11.ltF.le (ntr e15.next e21.next)))).ext e94).frS e100 (hb95.djn (r11.ltF.le (ntr (ntr (ntr (ntr e15.next e21.next) e33.next) e39.next) e65.next))))
     refine l_' (.agg #[.slice a28 n29 c30, hd_Arcs]) (aLoad Tryz.prog 40 (pt_ b7 0) H98) (u123.ld (by kernel_rfl)) ?_
     have u128 := (((((r23.ext e33).frS e39 (hb34.djn r23.ltF)).frS e65 (hb34.djn r23.ltF)).ext e94).frS e100 (hb95.djn (r23.ltF.le (ntr (ntr e33.next e39.next) e65.next))))
     have u129 := ((u91.ext e94).fr e100 (hb95.djn (h_Arcs.lt.le (ntr (ntr (ntr (ntr (ntr e9.next e15.next) e21.next) e33.next) e39.next) e65.next))))
     have u130 := ((((u41.fr e39 (hb34.djn (h_Alive.lt.le (ntr (ntr e9.next e15.next) e21.next)))).fr e65 (hb34.djn (h_Alive.lt.le (ntr (ntr e9.next e15.next) e21.next)))).ext e94).fr e100 (hb95.djn (h_Alive.lt.le (ntr (ntr (ntr (ntr (ntr e9.next e15.next) e21.next) e33.next) e39.next) e65.next))))
     obtain ⟨H124, q125, e126, r127⟩ := Row.store (P := Tryz.prog) (t := 40) (p := 0) e100.wf u128 (.agg #[.slice a28 n29 c30, hd_Arcs]) [.slice a28 n29 c30, hd_Arcs] (by kernel_rfl) (by kernel_rfl) (one_cons (u130.one1) (one_cons (u129.one1) (one_nil))) (Nat.le_of_ble_eq_true (by kernel_rfl)) [.slice a28 n29 c30, hd_Arcs] (by kernel_rfl)
     refine s_ek (undef) (by kernel_rfl) (map_ok q125) ?_
     refine q_ (.bool false) ?_
     refine s_nil (k122 _ _ ?_)
     refine w_ret (th_ret (th_ret (bl_ret (th_ret (th_ret (bl_ret (th_ret (th_ret ?_))))))))
     obtain ⟨v131, hv132, hz133⟩ := map_some r121
     subst hz133
     obtain rfl := it_inr hn78
     have hq134 := elim_inl r49
     rw [hq134] at hv132
     refine b_ret (fn := Tryz.f29) (vs := [.agg #[.slice a28 n29 c30, hd_Arcs], .bool false]) (aRes_cell (Eq.trans (b := aLoad Tryz.prog 40 (pt_ b19 0) H124) (by kernel_rfl) (r127.ld (by kernel_rfl))) (aRes_tmp (by kernel_rfl) (rfl))) ?_
     have u135 := (u129.fr e126 (hb22.djn (h_Arcs.lt.le (ntr e9.next e15.next))))
     obtain rfl := Option.some.inj hv132
     exact ⟨(hd_Arcs), fp_Arcs, rfl, (FrS.step wf (FrS.step wf ((FrS.step wf (FrS.step wf (((((FrS.refl (W := []) wf).extR e9).extR e15).extR e21).extR e33) e39 (hb34.fresh (ntr (ntr e9.next e15.next) e21.next))) e65 (hb34.fresh (ntr (ntr e9.next e15.next) e21.next))).extR e94) e100 (hb95.fresh (ntr (ntr (ntr (ntr (ntr e9.next e15.next) e21.next) e33.next) e39.next) e65.next))) e126 (hb22.fresh (ntr e9.next e15.next))), u135, Inn.refl'⟩
    have r136 := ite_f h120 r116
    refine w_skip ?_
    refine k117 _ _ ?_
    refine w_exit (th_exit (bl_eq ?_))
    refine k87 _ _ ?_
    refine g_' ?_
    obtain ⟨g137, r138⟩ := G_some r136
    refine s_w ((i0 + 1)) (k := .i64) (x := (i0 + 1)) (by kernel_rfl) (wrap64 (by have := g137; omega)) ?_
    refine q_ (i_ (i0 + 1)) ?_
    refine s_nil ?_
    have u139 := ((m67.ext e94).fr e100 (hb95.djn m67.lt))
    have u140 := ((m71.ext e94).frS e100 (hb95.djn (r35.ltF.le (ntr e39.next e65.next))))
    obtain rfl := Option.some.inj r138
    exact k79 n75 _ _ (Nat.lt_succ_self _) ⟨(i0 + 1), p1, (.slice a80 n81 c82), f69, hn78, ha_, (FrS.step e39.wf ((FrS.step e39.wf (FrS.refl (W := [b31]) e39.wf) e65 Inn.refl').extR e94) e100 (hb95.fresh e65.next)), u139, u140, (i72.fresh (Nat.le_refl _))⟩
   have r141 := ite_bf h115 r106
   refine w_skip ?_
   refine k102 _ _ ?_
   refine g_' ?_
   refine q_ (pt_ b31 1) ?_
   have u142 := ((m71.ext e94).frS e100 (hb95.djn (r35.ltF.le (ntr e39.next e65.next))))
   refine l_' (.slice a80 n81 c82) (aLoad Tryz.prog 38 (pt_ b31 1) H98) (u142.ld (by kernel_rfl)) ?_
   refine l_' (.agg #[i_ ((gt Arcs i0).1), i_ ((gt Arcs i0).2.1), .int .u64 ((gt Arcs i0).2.2.1), i_ ((gt Arcs i0).2.2.2)]) (aLoad Tryz.prog 90 (pt_ b92 0) H98) (r101.ld (by kernel_rfl)) ?_
   refine s_owk (enc := enc_i64_i64_u64_i64) (sz := 4) e100.wf [((gt Arcs i0).1, (gt Arcs i0).2.1, (gt Arcs i0).2.2.1, (gt Arcs i0).2.2.2)] 1 (by decide) (fun _ _ => rfl) (fun _ _ => rfl) rfl (by kernel_rfl) fun s143 f144 H145 e146 hf147 hm148 => ?_
   obtain ⟨a149, n150, c151, rfl⟩ := hm148.form
   have u153 := (((m67.ext e94).fr e100 (hb95.djn m67.lt)).ext e146)
   obtain ⟨g154, r155⟩ := G_some r141
   obtain ⟨s156, H157, f158, q162, e159, hm160, hf161⟩ := Ow.append (P := Tryz.prog) 32 e146.wf u153 hm148.sq (fun _ _ => rfl) (at_ := #[38, 38]) rfl rfl (by kernel_rfl) (by kernel_rfl) (by decide) (by have := g154; first | omega | (simp only [List.length_cons, List.length_nil] at this ⊢; omega) | (simp at this ⊢; omega))
   obtain ⟨a163, n164, c165, rfl⟩ := hm160.form
   refine s_ek (.slice a163 n164 c165) (by kernel_rfl) (q162) ?_
   refine q_ (pt_ b31 1) ?_
   have u171 := ((u142.ext e146).frS e159 (i72.djn (r35.ltF.le e39.next)))
   obtain ⟨H167, q168, e169, r170⟩ := Row.store (P := Tryz.prog) (t := 38) (p := 1) e159.wf u171 (.slice a163 n164 c165) [.slice a163 n164 c165] (by kernel_rfl) (by kernel_rfl) (one_cons (hm160.one1) (one_nil)) (Nat.le_of_ble_eq_true (by kernel_rfl)) [.slice a28 n29 c30, .slice a163 n164 c165] (by kernel_rfl)
   refine s_ek (undef) (by kernel_rfl) (map_ok q168) ?_
   refine s_nil (k87 _ _ ?_)
   refine g_' ?_
   obtain ⟨g172, r173⟩ := G_some r155
   refine s_w ((i0 + 1)) (k := .i64) (x := (i0 + 1)) (by kernel_rfl) (wrap64 (by have := g172; omega)) ?_
   refine q_ (i_ (i0 + 1)) ?_
   refine s_nil ?_
   have u174 := (hm160.fr e169 (Dj.symm (hf161.dj (i72.djn (r35.ltF.le e39.next)) (r35.ltF.le (ntr (ntr (ntr (ntr e39.next e65.next) e94.next) e100.next) e146.next)))))
   obtain rfl := Option.some.inj r173
   exact k79 n75 _ _ (Nat.lt_succ_self _) ⟨(i0 + 1), (p1 ++ [((gt Arcs i0).1, (gt Arcs i0).2.1, (gt Arcs i0).2.2.1, (gt Arcs i0).2.2.2)]), (.slice a163 n164 c165), f158, hn78, ha_, (FrS.step e39.wf (FrS.step e39.wf ((FrS.step e39.wf ((FrS.step e39.wf (FrS.refl (W := [b31]) e39.wf) e65 Inn.refl').extR e94) e100 (hb95.fresh e65.next)).extR e146) e159 (i72.fresh (Nat.le_refl _))) e169 Inn.refl'), u174, r170, (Inn.trans (i72.fresh (Nat.le_refl _)) (ntr (ntr (ntr e65.next e94.next) e100.next) e146.next) hf161)⟩
  have r175 := ite_f h85 hz77
  refine w_exit (th_exit (th_exit (bl_eq ?_)))
  obtain rfl := Option.some.inj r175
  obtain rfl := it_inr hn78
  exact k60 _ _ ⟨_, rfl, (.slice a80 n81 c82), f69, ha_, (FrS.step e39.wf (FrS.refl (W := [b31]) e39.wf) e65 Inn.refl'), m67, m71, (i72.fresh (Nat.le_refl _))⟩
 obtain ⟨o47, rfl, s55, f56, hh61, e52, m54, m58, i59⟩ := hM
 have r176 := elim_inr r49
 obtain ⟨β, rfl⟩ := has_ex hh61
 clear hh61
 obtain ⟨a177, n178, c179, rfl⟩ := m54.form
 refine k43 _ _ ?_
 refine w_seqk fun _ k180 => ?_
 refine g_' ?_
 refine q_ (pt_ b31 1) ?_
 refine l_' (.slice a177 n178 c179) (aLoad Tryz.prog 38 (pt_ b31 1) H51) (m58.ld (by kernel_rfl)) ?_
 have u181 := ((((r17.ext e21).ext e33).frS e39 (hb34.djn (r17.ltF.le e21.next))).frS e52 (hb34.djn (r17.ltF.le e21.next)))
 refine l_' (.agg #[i_ From, i_ To, .int .u64 Weight, i_ Via]) (aLoad Tryz.prog 90 (pt_ b13 0) H51) (u181.ld (by kernel_rfl)) ?_
 refine s_owk (enc := enc_i64_i64_u64_i64) (sz := 4) e52.wf [(From, To, Weight, Via)] 1 (by decide) (fun _ _ => rfl) (fun _ _ => rfl) rfl (by kernel_rfl) fun s182 f183 H184 e185 hf186 hm187 => ?_
 obtain ⟨a188, n189, c190, rfl⟩ := hm187.form
 have u192 := (m54.ext e185)
 obtain ⟨g193, r194⟩ := G_some r176
 obtain ⟨s195, H196, f197, q201, e198, hm199, hf200⟩ := Ow.append (P := Tryz.prog) 32 e185.wf u192 hm187.sq (fun _ _ => rfl) (at_ := #[38, 38]) rfl rfl (by kernel_rfl) (by kernel_rfl) (by decide) (by have := g193; first | omega | (simp only [List.length_cons, List.length_nil] at this ⊢; omega) | (simp at this ⊢; omega))
 obtain ⟨a202, n203, c204, rfl⟩ := hm199.form
 refine s_ek (.slice a202 n203 c204) (by kernel_rfl) (q201) ?_
 refine q_ (pt_ b31 1) ?_
 have u210 := ((m58.ext e185).frS e198 (i59.djn (r35.ltF.le e39.next)))
 obtain ⟨H206, q207, e208, r209⟩ := Row.store (P := Tryz.prog) (t := 38) (p := 1) e198.wf u210 (.slice a202 n203 c204) [.slice a202 n203 c204] (by kernel_rfl) (by kernel_rfl) (one_cons (hm199.one1) (one_nil)) (Nat.le_of_ble_eq_true (by kernel_rfl)) [.slice a28 n29 c30, .slice a202 n203 c204] (by kernel_rfl)
 refine s_ek (undef) (by kernel_rfl) (map_ok q207) ?_
 refine s_nil (k180 _ _ ?_)
 refine w_seqk fun _ k211 => ?_
 refine g_' ?_
 refine l_' (.agg #[.slice a28 n29 c30, .slice a202 n203 c204]) (aLoad Tryz.prog 40 (pt_ b31 0) H206) (r209.ld (by kernel_rfl)) ?_
 refine q_ (.bool true) ?_
 have u216 := ((((((r23.ext e33).frS e39 (hb34.djn r23.ltF)).frS e52 (hb34.djn r23.ltF)).ext e185).frS e198 (i59.djn (r23.ltF.le (ntr e33.next e39.next)))).frS e208 (hb34.djn r23.ltF))
 have u217 := (hm199.fr e208 (Dj.symm (hf200.dj (i59.djn (r35.ltF.le e39.next)) (r35.ltF.le (ntr (ntr e39.next e52.next) e185.next)))))
 have u218 := (((((u41.fr e39 (hb34.djn (h_Alive.lt.le (ntr (ntr e9.next e15.next) e21.next)))).fr e52 (hb34.djn (h_Alive.lt.le (ntr (ntr e9.next e15.next) e21.next)))).ext e185).fr e198 (i59.djn (h_Alive.lt.le (ntr (ntr (ntr (ntr e9.next e15.next) e21.next) e33.next) e39.next)))).fr e208 (hb34.djn (h_Alive.lt.le (ntr (ntr e9.next e15.next) e21.next))))
 obtain ⟨H212, q213, e214, r215⟩ := Row.store (P := Tryz.prog) (t := 40) (p := 0) e208.wf u216 (.agg #[.slice a28 n29 c30, .slice a202 n203 c204]) [.slice a28 n29 c30, .slice a202 n203 c204] (by kernel_rfl) (by kernel_rfl) (one_cons (u218.one1) (one_cons (u217.one1) (one_nil))) (Nat.le_of_ble_eq_true (by kernel_rfl)) [.slice a28 n29 c30, .slice a202 n203 c204] (by kernel_rfl)
 refine s_ek (undef) (by kernel_rfl) (map_ok q213) ?_
 refine q_ (.bool true) ?_
 refine s_nil (k211 _ _ ?_)
 refine w_ret ?_
 refine b_ret (fn := Tryz.f29) (vs := [.agg #[.slice a28 n29 c30, .slice a202 n203 c204], .bool true]) (aRes_cell (Eq.trans (b := aLoad Tryz.prog 40 (pt_ b19 0) H212) (by kernel_rfl) (r215.ld (by kernel_rfl))) (aRes_tmp (by kernel_rfl) (rfl))) ?_
 have u219 := (u217.fr e214 (Dj.symm (hf200.dj (i59.djn (r23.ltF.le (ntr e33.next e39.next))) (r23.ltF.le (ntr (ntr (ntr e33.next e39.next) e52.next) e185.next)))))
 obtain rfl := Option.some.inj r194
 exact ⟨(.slice a202 n203 c204), f197, rfl, (FrS.step wf (FrS.step wf (FrS.step wf ((FrS.step wf (FrS.step wf (((((FrS.refl (W := []) wf).extR e9).extR e15).extR e21).extR e33) e39 (hb34.fresh (ntr (ntr e9.next e15.next) e21.next))) e52 (hb34.fresh (ntr (ntr e9.next e15.next) e21.next))).extR e185) e198 (i59.fresh (ntr (ntr (ntr (ntr e9.next e15.next) e21.next) e33.next) e39.next))) e208 (hb34.fresh (ntr (ntr e9.next e15.next) e21.next))) e214 (hb22.fresh (ntr e9.next e15.next))), u219.sq, (Inn.trans (i59.fresh (ntr (ntr (ntr (ntr e9.next e15.next) e21.next) e33.next) e39.next)) (ntr (ntr (ntr (ntr (ntr (ntr e9.next e15.next) e21.next) e33.next) e39.next) e52.next) e185.next) hf200)⟩


end Go.Vd

/-! (KOp5) -/

set_option maxRecDepth 100000
set_option maxHeartbeats 4000000
set_option linter.unusedVariables false
namespace Go.Vd
open Go.Proofs
attribute [local irreducible] wpSeq wpOrd aWp
theorem c_viaductref11_Remove {H : AH} {hd_Alive : Value} {fp_Alive : Fp} {hd_Arcs : Value} {fp_Arcs : Fp} {Alive : List (Bool)} {Arcs : List (Int × Int × Int × Int)} {v_ : Int} {r : List (Bool) × List (Int × Int × Int × Int)}
    (wf : WF H) (h_Alive : Sq encB 1 H hd_Alive Alive fp_Alive) (h_Arcs : Sq enc_i64_i64_u64_i64 4 H hd_Arcs Arcs fp_Arcs) (hr : z_viaductref11_Remove Alive Arcs v_ = some r) :
    ACalls Tryz.prog 31 #[.agg #[hd_Alive, hd_Arcs], i_ v_] H fun v H' => ∃ (s3 : Value) (f4 : Fp) (s7 : Value) (f8 : Fp), v = .agg #[s3, s7] ∧ FrS [] H H' ∧ Ow encB 1 H' s3 r.1 f4 ∧ Ow enc_i64_i64_u64_i64 4 H' s7 r.2 f8 ∧ Inn [] H f4 ∧ Inn [] H f8 ∧ Dj f4 f8 := by
 refine acalls_of_body mixed Tryz.func31 rfl (Nat.le_of_ble_eq_true rfl) ?_
 unfold z_viaductref11_Remove at hr
 refine w_seqk fun _ k12 => ?_
 refine g_' ?_
 refine s_rwl wf [hd_Alive, hd_Arcs] (one_cons (h_Alive.one1) (one_cons (h_Arcs.one1) (one_nil))) (by kernel_rfl) fun b13 H14 e15 hb16 r17 => ?_
 refine s_rwk e15.wf [.slice none 0 0, .slice none 0 0] (by kernel_rfl) fun b19 H20 e21 hb22 r23 => ?_
 refine s_nil (k12 _ _ ?_)
 refine w_seqk fun _ k25 => ?_
 refine g_' ?_
 refine s_rwk e21.wf [.slice none 0 0, .slice none 0 0] (by kernel_rfl) fun b26 H27 e28 hb29 r30 => ?_
 refine s_nil (k25 _ _ ?_)
 refine w_seqk fun _ k32 => ?_
 refine g_' ?_
 refine q_ (pt_ b26 0) ?_
 refine l_' (.slice none 0 0) (aLoad Tryz.prog 37 (pt_ b26 0) H27) (r30.ld (by kernel_rfl)) ?_
 refine q_ (pt_ b13 0) ?_
 have u33 := ((r17.ext e21).ext e28)
 refine l_' (hd_Alive) (aLoad Tryz.prog 37 (pt_ b13 0) H27) (u33.ld (by kernel_rfl)) ?_
 obtain ⟨g34, r35⟩ := G_some hr
 have u43 := (((h_Alive.ext e15).ext e21).ext e28)
 obtain ⟨s36, H37, f38, q42, e39, hm40, hf41⟩ := Ow.append (P := Tryz.prog) 1 e28.wf (Ow.nil (enc := encB) (sz := 1) (by decide)) u43 (fun _ _ => rfl) (at_ := #[37, 37]) rfl rfl (by kernel_rfl) (by kernel_rfl) (by decide) (by have := g34; first | omega | (simp only [List.length_cons, List.length_nil] at this ⊢; omega) | (simp at this ⊢; omega))
 obtain ⟨a44, n45, c46, rfl⟩ := hm40.form
 refine s_ek (.slice a44 n45 c46) (by kernel_rfl) (q42) ?_
 refine q_ (pt_ b26 0) ?_
 have u52 := (r30.frS e39 Dj.nil_l)
 obtain ⟨H48, q49, e50, r51⟩ := Row.store (P := Tryz.prog) (t := 37) (p := 0) e39.wf u52 (.slice a44 n45 c46) [.slice a44 n45 c46] (by kernel_rfl) (by kernel_rfl) (one_cons (hm40.one1) (one_nil)) (Nat.le_of_ble_eq_true (by kernel_rfl)) [.slice a44 n45 c46, .slice none 0 0] (by kernel_rfl)
 refine s_ek (undef) (by kernel_rfl) (map_ok q49) ?_
 refine s_nil (k32 _ _ ?_)
 refine w_seqk fun _ k53 => ?_
 refine g_' ?_
 refine q_ (pt_ b26 0) ?_
 refine l_' (.slice a44 n45 c46) (aLoad Tryz.prog 37 (pt_ b26 0) H48) (r51.ld (by kernel_rfl)) ?_
 refine q_ (i_ v_) ?_
 obtain ⟨g54, r55⟩ := G_some r35
 have u56 := (hm40.fr e50 (Dj.symm (hf41.djn r30.ltF)))
 refine l_' (elp (.slice a44 n45 c46) 1 v_.toNat 0) (aIndexAddr Tryz.prog 37 (.slice a44 n45 c46) (i_ v_)) (u56.sq.idxb (by kernel_rfl) g54.1 g54.2) ?_
 obtain ⟨H57, q58, e59, hm60⟩ := Ow.store (P := Tryz.prog) (t := 4) (off := 0) e50.wf u56 g54.1 g54.2 (.bool false) [.bool false] (by kernel_rfl) (by kernel_rfl) rfl false (Nat.le_of_ble_eq_true rfl) (by kernel_rfl)
 refine s_ek (undef) (by kernel_rfl) (map_ok q58) ?_
 refine s_nil (k53 _ _ ?_)
 refine w_seqk fun _ k61 => ?_
 refine w_seqk fun _ k62 => ?_
 refine g_' ?_
 refine q_ (pt_ b13 1) ?_
 have u63 := (((u33.frS e39 Dj.nil_l).frS e50 (hb29.djn (r17.ltF.le e21.next))).frS e59 (hf41.djn (r17.ltF.le (ntr e21.next e28.next))))
 refine l_' (hd_Arcs) (aLoad Tryz.prog 38 (pt_ b13 1) H57) (u63.ld (by kernel_rfl)) ?_
 have u64 := ((((((h_Arcs.ext e15).ext e21).ext e28).fr e39 Dj.nil_l).fr e50 (hb29.djn (h_Arcs.lt.le (ntr e15.next e21.next)))).fr e59 (hf41.djn (h_Arcs.lt.le (ntr (ntr e15.next e21.next) e28.next))))
 refine l_' (i_ (Arcs.length : Int)) (aLen Tryz.prog 38 hd_Arcs H57) (u64.lenb (by kernel_rfl)) ?_
 refine q_ (i_ 0) ?_
 refine s_nil (k62 _ _ ?_)
 obtain ⟨o65, hx66, r67⟩ := bind_some r55
 refine w_mid (fun α H68 => ∃ (s72 : Value) (f73 : Fp), Has α [(4, pt_ b19 0), (5, pt_ b26 0)] ∧ FrS [b26] H57 H68 ∧ Ow enc_i64_i64_u64_i64 4 H68 s72 o65 f73 ∧ Row H68 b26 [.slice a44 n45 c46, s72] ∧ Inn [] H57 f73) (fun _ k77 => ?_) (fun α H68 hM => ?_)
 ·refine w_block ?_
  obtain ⟨n79, hn80⟩ := loopO_iff.1 hx66
  have u96 := (r51.frS e59 (hf41.djn r30.ltF))
  refine w_loopn (fun n α H81 => ∃ (i0 : Int), ∃ (p1 : List (Int × Int × Int × Int)), ∃ (s85 : Value), ∃ (f86 : Fp), iterO (fun zz_ => z_viaductref11_Remove_l0 Arcs v_ zz_.1 zz_.2) n (i0, p1) = some o65 ∧ Has α [(1, i_ v_), (4, pt_ b19 0), (5, pt_ b26 0), (19, hd_Arcs), (20, i_ (Arcs.length : Int)), (21, i_ i0)] ∧ FrS [b26] H57 H81 ∧ Ow enc_i64_i64_u64_i64 4 H81 s85 p1 f86 ∧ Row H81 b26 [.slice a44 n45 c46, s85] ∧ Inn [] H57 f86) n79 ⟨0, [], (.slice none 0 0), [], hn80, ha_, (FrS.refl (W := [b26]) e59.wf), (Ow.nil (by decide)), u96, Inn.nil⟩ ?_
  rintro n79 α H81 ⟨i0, p1, s85, f86, hi91, hh90, e82, m84, m88, i89⟩ K97 k97
  obtain ⟨n92, z93, rfl, hz94, hn95⟩ := iter_succ hi91
  obtain ⟨β, rfl⟩ := has_ex hh90
  clear hh90
  replace hz94 : z_viaductref11_Remove_l0 Arcs v_ i0 p1 = some z93 := hz94
  unfold z_viaductref11_Remove_l0 at hz94
  obtain ⟨a98, n99, c100, rfl⟩ := m84.form
  refine w_seqk fun _ k101 => ?_
  refine g_' ?_
  refine q_ (.bool (decide (i0 < (Arcs.length : Int)))) ?_
  refine s_nil (k101 _ _ ?_)
  refine w_seqk fun _ k102 => ?_
  refine w_condp (i0 < (Arcs.length : Int)) (by kernel_rfl) rfl (fun h103 => ?_) (fun h103 => ?_)
  ·have r104 := ite_t h103 hz94
   refine w_skip ?_
   refine k102 _ _ ?_
   refine w_seqk fun _ k105 => ?_
   refine w_block ?_
   refine w_seqk fun _ k106 => ?_
   refine g_' ?_
   obtain ⟨g107, r108⟩ := G_some r104
   have u109 := (u64.fr e82 (hb29.djn (h_Arcs.lt.le (ntr e15.next e21.next))))
   refine l_' (elp hd_Arcs 4 i0.toNat 0) (aIndexAddr Tryz.prog 38 hd_Arcs (i_ i0)) (u109.idxb (by kernel_rfl) g107 h103) ?_
   refine l_' (.agg #[i_ ((gt Arcs i0).1), i_ ((gt Arcs i0).2.1), .int .u64 ((gt Arcs i0).2.2.1), i_ ((gt Arcs i0).2.2.2)]) (aLoad Tryz.prog 90 (elp hd_Arcs 4 i0.toNat 0) H81) (u109.ld g107 h103 (by kernel_rfl)) ?_
   refine s_rwk e82.wf [i_ 0, i_ 0, .int .u64 0, i_ 0] (by kernel_rfl) fun b110 H111 e112 hb113 r114 => ?_
   obtain ⟨H116, q117, e118, r119⟩ := Row.store (P := Tryz.prog) (t := 90) (p := 0) e112.wf r114 (.agg #[i_ ((gt Arcs i0).1), i_ ((gt Arcs i0).2.1), .int .u64 ((gt Arcs i0).2.2.1), i_ ((gt Arcs i0).2.2.2)]) [i_ ((gt Arcs i0).1), i_ ((gt Arcs i0).2.1), .int .u64 ((gt Arcs i0).2.2.1), i_ ((gt Arcs i0).2.2.2)] (by kernel_rfl) (by kernel_rfl) (one_cons (rfl) (one_cons (rfl) (one_cons (rfl) (one_cons (rfl) (one_nil))))) (Nat.le_of_ble_eq_true (by kernel_rfl)) [i_ ((gt Arcs i0).1), i_ ((gt Arcs i0).2.1), .int .u64 ((gt Arcs i0).2.2.1), i_ ((gt Arcs i0).2.2.2)] (by kernel_rfl)
   refine s_ek (undef) (by kernel_rfl) (map_ok q117) ?_
   refine s_nil (k106 _ _ ?_)
   refine w_seqk fun _ k120 => ?_
   obtain ⟨o121, hx122, r123⟩ := bind_some r108
   refine w_mid (fun α H124 => Has α [(1, i_ v_), (4, pt_ b19 0), (5, pt_ b26 0), (7, pt_ b110 0), (19, hd_Arcs), (20, i_ (Arcs.length : Int)), (21, i_ i0), (34, .bool o121)] ∧ H116 = H124) (fun _ k126 => ?_) (fun α H124 hM => ?_)
   ·refine g_' ?_
    refine q_ (pt_ b110 0) ?_
    refine l_' (i_ ((gt Arcs i0).1)) (aLoad Tryz.prog 3 (pt_ b110 0) H116) (r119.ld (by kernel_rfl)) ?_
    refine q_ (i_ v_) ?_
    refine s_bn (((gt Arcs i0).1) = v_) (by kernel_rfl) (fun h128 => ?_) (fun h128 => ?_)
    ·have r129 := ite_t h128 hx122
     refine q_ (.bool false) ?_
     refine n_' ?_
     refine n_' ?_
     refine n_' ?_
     refine n_' ?_
     refine q_ (.bool false) ?_
     refine s_nil ?_
     obtain rfl := Option.some.inj r129
     exact k126 _ _ ⟨ha_, rfl⟩
    have r130 := ite_f h128 hx122
    refine q_ (.bool true) ?_
    refine q_ (pt_ b110 1) ?_
    refine l_' (i_ ((gt Arcs i0).2.1)) (aLoad Tryz.prog 3 (pt_ b110 1) H116) (r119.ld (by kernel_rfl)) ?_
    refine q_ (i_ v_) ?_
    refine q_ (.bool (!decide (((gt Arcs i0).2.1) = v_))) ?_
    refine q_ (.bool (!decide (((gt Arcs i0).2.1) = v_))) ?_
    refine s_nil ?_
    obtain rfl := Option.some.inj r130
    exact k126 _ _ ⟨ha_, rfl⟩
   obtain ⟨hh127, rfl⟩ := hM
   obtain ⟨β, rfl⟩ := has_ex hh127
   clear hh127
   refine k120 _ _ ?_
   refine w_cond (o121) (by kernel_rfl) rfl (fun h131 => ?_) (fun h131 => ?_)
   ·have r132 := ite_t h131 r123
    refine g_' ?_
    refine q_ (pt_ b26 1) ?_
    have u133 := ((m88.ext e112).frS e118 (hb113.djn (r30.ltF.le (ntr (ntr (ntr e39.next e50.next) e59.next) e82.next))))
    refine l_' (.slice a98 n99 c100) (aLoad Tryz.prog 38 (pt_ b26 1) H116) (u133.ld (by kernel_rfl)) ?_
    refine l_' (.agg #[i_ ((gt Arcs i0).1), i_ ((gt Arcs i0).2.1), .int .u64 ((gt Arcs i0).2.2.1), i_ ((gt Arcs i0).2.2.2)]) (aLoad Tryz.prog 90 (pt_ b110 0) H116) (r119.ld (by kernel_rfl)) ?_
    refine s_owk (enc := enc_i64_i64_u64_i64) (sz := 4) e118.wf [((gt Arcs i0).1, (gt Arcs i0).2.1, (gt Arcs i0).2.2.1, (gt Arcs i0).2.2.2)] 1 (by decide) (fun _ _ => rfl) (fun _ _ => rfl) rfl (by kernel_rfl) fun s134 f135 H136 e137 hf138 hm139 => ?_
    obtain ⟨a140, n141, c142, rfl⟩ := hm139.form
    have u144 := (((m84.ext e112).fr e118 (hb113.djn m84.lt)).ext e137)
    obtain ⟨g145, r146⟩ := G_some r132
    obtain ⟨s147, H148, f149, q153, e150, hm151, hf152⟩ := Ow.append (P := Tryz.prog) 32 e137.wf u144 hm139.sq (fun _ _ => rfl) (at_ := #[38, 38]) rfl rfl (by kernel_rfl) (by kernel_rfl) (by decide) (by have := g145; first | omega | (simp only [List.length_cons, List.length_nil] at this ⊢; omega) | (simp at this ⊢; omega))
    obtain ⟨a154, n155, c156, rfl⟩ := hm151.form
    refine s_ek (.slice a154 n155 c156) (by kernel_rfl) (q153) ?_
    refine q_ (pt_ b26 1) ?_
    have u162 := ((u133.ext e137).frS e150 (i89.djn (r30.ltF.le (ntr (ntr e39.next e50.next) e59.next))))
    obtain ⟨H158, q159, e160, r161⟩ := Row.store (P := Tryz.prog) (t := 38) (p := 1) e150.wf u162 (.slice a154 n155 c156) [.slice a154 n155 c156] (by kernel_rfl) (by kernel_rfl) (one_cons (hm151.one1) (one_nil)) (Nat.le_of_ble_eq_true (by kernel_rfl)) [.slice a44 n45 c46, .slice a154 n155 c156] (by kernel_rfl)
    refine s_ek (undef) (by kernel_rfl) (map_ok q159) ?_
    refine s_nil (k105 _ _ ?_)
    refine g_' ?_
    obtain ⟨g163, r164⟩ := G_some r146
    refine s_w ((i0 + 1)) (k := .i64) (x := (i0 + 1)) (by kernel_rfl) (wrap64 (by have := g163; omega)) ?_
    refine q_ (i_ (i0 + 1)) ?_
    refine s_nil ?_
    have u165 := (hm151.fr e160 (Dj.symm (hf152.dj (i89.djn (r30.ltF.le (ntr (ntr e39.next e50.next) e59.next))) (r30.ltF.le (ntr (ntr (ntr (ntr (ntr (ntr e39.next e50.next) e59.next) e82.next) e112.next) e118.next) e137.next)))))
    obtain rfl := Option.some.inj r164
    exact k97 n92 _ _ (Nat.lt_succ_self _) ⟨(i0 + 1), (p1 ++ [((gt Arcs i0).1, (gt Arcs i0).2.1, (gt Arcs i0).2.2.1, (gt Arcs i0).2.2.2)]), (.slice a154 n155 c156), f149, hn95, ha_, (FrS.step e59.wf (FrS.step e59.wf ((FrS.step e59.wf ((FrS.step e59.wf (FrS.refl (W := [b26]) e59.wf) e82 Inn.refl').extR e112) e118 (hb113.fresh e82.next)).extR e137) e150 (i89.fresh (Nat.le_refl _))) e160 Inn.refl'), u165, r161, (Inn.trans (i89.fresh (Nat.le_refl _)) (ntr (ntr (ntr e82.next e112.next) e118.next) e137.next) hf152)⟩
   have r166 := ite_bf h131 r123
   refine w_skip ?_
   refine k105 _ _ ?_
   refine g_' ?_
   obtain ⟨g167, r168⟩ := G_some r166
   refine s_w ((i0 + 1)) (k := .i64) (x := (i0 + 1)) (by kernel_rfl) (wrap64 (by have := g167; omega)) ?_
   refine q_ (i_ (i0 + 1)) ?_
   refine s_nil ?_
   have u169 := ((m84.ext e112).fr e118 (hb113.djn m84.lt))
   have u170 := ((m88.ext e112).frS e118 (hb113.djn (r30.ltF.le (ntr (ntr (ntr e39.next e50.next) e59.next) e82.next))))
   obtain rfl := Option.some.inj r168
   exact k97 n92 _ _ (Nat.lt_succ_self _) ⟨(i0 + 1), p1, (.slice a98 n99 c100), f86, hn95, ha_, (FrS.step e59.wf ((FrS.step e59.wf (FrS.refl (W := [b26]) e59.wf) e82 Inn.refl').extR e112) e118 (hb113.fresh e82.next)), u169, u170, (i89.fresh (Nat.le_refl _))⟩
  have r171 := ite_f h103 hz94
  refine w_exit (th_exit (th_exit (bl_eq ?_)))
  obtain rfl := Option.some.inj r171
  obtain rfl := it_inr hn95
  exact k77 _ _ ⟨(.slice a98 n99 c100), f86, ha_, (FrS.step e59.wf (FrS.refl (W := [b26]) e59.wf) e82 Inn.refl'), m84, m88, (i89.fresh (Nat.le_refl _))⟩
 obtain ⟨s72, f73, hh78, e69, m71, m75, i76⟩ := hM
 obtain ⟨β, rfl⟩ := has_ex hh78
 clear hh78
 obtain ⟨a172, n173, c174, rfl⟩ := m71.form
 refine k61 _ _ ?_
 refine w_seqk fun _ k175 => ?_
 refine g_' ?_
 refine l_' (.agg #[.slice a44 n45 c46, .slice a172 n173 c174]) (aLoad Tryz.prog 40 (pt_ b26 0) H68) (m75.ld (by kernel_rfl)) ?_
 have u180 := (((((r23.ext e28).frS e39 Dj.nil_l).frS e50 (hb29.djn r23.ltF)).frS e59 (hf41.djn (r23.ltF.le e28.next))).frS e69 (hb29.djn r23.ltF))
 have u181 := (hm60.fr e69 (Dj.symm (hf41.djn r30.ltF)))
 obtain ⟨H176, q177, e178, r179⟩ := Row.store (P := Tryz.prog) (t := 40) (p := 0) e69.wf u180 (.agg #[.slice a44 n45 c46, .slice a172 n173 c174]) [.slice a44 n45 c46, .slice a172 n173 c174] (by kernel_rfl) (by kernel_rfl) (one_cons (u181.one1) (one_cons (m71.one1) (one_nil))) (Nat.le_of_ble_eq_true (by kernel_rfl)) [.slice a44 n45 c46, .slice a172 n173 c174] (by kernel_rfl)
 refine s_ek (undef) (by kernel_rfl) (map_ok q177) ?_
 refine s_nil (k175 _ _ ?_)
 refine w_ret ?_
 refine b_ret (fn := Tryz.f31) (vs := [.agg #[.slice a44 n45 c46, .slice a172 n173 c174]]) (aRes_cell (Eq.trans (b := aLoad Tryz.prog 40 (pt_ b19 0) H176) (by kernel_rfl) (r179.ld (by kernel_rfl))) (rfl)) ?_
 have u182 := (u181.fr e178 (Dj.symm (hf41.djn (r23.ltF.le e28.next))))
 have u183 := (m71.fr e178 (Dj.symm (i76.djn (r23.ltF.le (ntr (ntr (ntr e28.next e39.next) e50.next) e59.next)))))
 obtain rfl := Option.some.inj r67
 exact ⟨(.slice a44 n45 c46), f38, (.slice a172 n173 c174), f73, rfl, (FrS.step wf (FrS.step wf (FrS.step wf (FrS.step wf (FrS.step wf ((((FrS.refl (W := []) wf).extR e15).extR e21).extR e28) e39 Inn.nil) e50 (hb29.fresh (ntr e15.next e21.next))) e59 (hf41.fresh (ntr (ntr e15.next e21.next) e28.next))) e69 (hb29.fresh (ntr e15.next e21.next))) e178 (hb22.fresh e15.next)), u182, u183, (hf41.fresh (ntr (ntr e15.next e21.next) e28.next)), (i76.fresh (ntr (ntr (ntr (ntr (ntr e15.next e21.next) e28.next) e39.next) e50.next) e59.next)), (Dj.symm (i76.djn (hm40.lt.le (ntr e50.next e59.next))))⟩

theorem c_viaductref11_put {H : AH} {hd_l : Value} {fp_l : Fp} {l : List (Int × Int × Int)} {Node : Int} {Weight : Int} {Via : Int} {r : List (Int × Int × Int)}
    (wf : WF H) (h_l : Sq enc_i64_u64_i64 3 H hd_l l fp_l) (hr : z_viaductref11_put l Node Weight Via = some r) :
    ACalls Tryz.prog 36 #[hd_l, .agg #[i_ Node, .int .u64 Weight, i_ Via]] H fun v H' => ∃ (s3 : Value) (f4 : Fp), v = s3 ∧ FrS [] H H' ∧ Ow enc_i64_u64_i64 3 H' s3 r f4 ∧ Inn [] H f4 := by
 refine acalls_of_body mixed Tryz.func36 rfl (Nat.le_of_ble_eq_true rfl) ?_
 unfold z_viaductref11_put at hr
 refine w_seqk fun _ k6 => ?_
 refine g_' ?_
 refine s_rwl wf [i_ Node, .int .u64 Weight, i_ Via] (one_cons (rfl) (one_cons (rfl) (one_cons (rfl) (one_nil)))) (by kernel_rfl) fun b7 H8 e9 hb10 r11 => ?_
 refine q_ (.slice none 0 0) ?_
 refine s_nil (k6 _ _ ?_)
 refine w_seqk fun _ k13 => ?_
 refine g_' ?_
 refine q_ (i_ 0) ?_
 refine s_nil (k13 _ _ ?_)
 refine w_seqk fun _ k14 => ?_
 obtain ⟨o15, hx16, r17⟩ := bind_some hr
 refine w_mid (fun α H18 => Has α [(0, hd_l), (3, pt_ b7 0), (5, i_ o15)] ∧ H8 = H18) (fun _ k20 => ?_) (fun α H18 hM => ?_)
 ·refine w_block ?_
  obtain ⟨n22, hn23⟩ := loopO_iff.1 hx16
  refine w_loopn (fun n α H24 => ∃ (i0 : Int), iterO (fun zz_ => z_viaductref11_put_l0 l Node zz_) n i0 = some o15 ∧ Has α [(0, hd_l), (3, pt_ b7 0), (5, i_ i0)] ∧ H8 = H24) n22 ⟨0, hn23, ha_, rfl⟩ ?_
  rintro n22 α H24 ⟨i0, hi27, hh26, rfl⟩ K32 k32
  obtain ⟨n28, z29, rfl, hz30, hn31⟩ := iter_succ hi27
  obtain ⟨β, rfl⟩ := has_ex hh26
  clear hh26
  replace hz30 : z_viaductref11_put_l0 l Node i0 = some z29 := hz30
  unfold z_viaductref11_put_l0 at hz30
  refine w_seqk fun _ k33 => ?_
  refine w_seqk fun _ k34 => ?_
  refine w_draw [0, 1, 2, 3, 4, 5, 6, 7, 8, 9, 10, 11, 12, 13] (by kernel_rfl) ?_
  refine e_' (i_ i0) ?_
  refine e_' (hd_l) ?_
  have u35 := (h_l.ext e9)
  refine m_' (i_ (l.length : Int)) (aLen Tryz.prog 51 hd_l H8) (u35.lenb (by kernel_rfl)) ?_
  refine d_b (i0 < (l.length : Int)) (by kernel_rfl) (fun h36 => ?_) (fun h36 => ?_)
  ·have r37 := ite_t h36 hz30
   refine e_' (.bool true) ?_
   refine e_' (hd_l) ?_
   refine e_' (i_ i0) ?_
   obtain ⟨g38, r39⟩ := G_some r37
   refine m_' (elp hd_l 3 i0.toNat 0) (aIndexAddr Tryz.prog 51 hd_l (i_ i0)) (u35.idxb (by kernel_rfl) g38 h36) ?_
   refine m_' (elp hd_l 3 i0.toNat 0) (aFieldAddr Tryz.prog 61 (elp hd_l 3 i0.toNat 0) 0) (Sq.fldq (d := 0) u35 g38 h36 (by kernel_rfl)) ?_
   refine m_' (i_ ((gt l i0).1)) (aLoad Tryz.prog 3 (elp hd_l 3 i0.toNat 0) H8) (u35.ld g38 h36 (by kernel_rfl)) ?_
   refine e_' (pt_ b7 0) ?_
   refine m_' (i_ Node) (aLoad Tryz.prog 3 (pt_ b7 0) H8) (r11.ld (by kernel_rfl)) ?_
   refine e_' (.bool (decide (((gt l i0).1) < Node))) ?_
   refine e_' (.bool (decide (((gt l i0).1) < Node))) ?_
   refine d_nil ?_
   refine k34 _ _ ?_
   refine w_condp (((gt l i0).1) < Node) (by kernel_rfl) rfl (fun h40 => ?_) (fun h40 => ?_)
   ·have r41 := ite_t h40 r39
    refine w_skip ?_
    refine k33 _ _ ?_
    refine w_block ?_
    refine g_' ?_
    refine q_ (i_ i0) ?_
    obtain ⟨g42, r43⟩ := G_some r41
    refine s_w ((i0 + 1)) (k := .i64) (x := (i0 + 1)) (by kernel_rfl) (wrap64 (by have := g42; omega)) ?_
    refine q_ (i_ (i0 + 1)) ?_
    refine s_nil ?_
    obtain rfl := Option.some.inj r43
    exact k32 n28 _ _ (Nat.lt_succ_self _) ⟨(i0 + 1), hn31, ha_, rfl⟩
   have r44 := ite_f h40 r39
   refine w_exit (th_exit (th_exit (bl_eq ?_)))
   obtain rfl := Option.some.inj r44
   obtain rfl := it_inr hn31
   exact k20 _ _ ⟨ha_, rfl⟩
  have r45 := ite_f h36 hz30
  refine e_' (.bool false) ?_
  refine j_' ?_
  refine j_' ?_
  refine j_' ?_
  refine j_' ?_
  refine j_' ?_
  refine j_' ?_
  refine j_' ?_
  refine j_' ?_
  refine e_' (.bool false) ?_
  refine d_nil ?_
  refine k34 _ _ ?_
  refine w_cond false (by kernel_rfl) rfl (fun h => by cases h) (fun _ => ?_)
  refine w_exit (th_exit (th_exit (bl_eq ?_)))
  obtain rfl := Option.some.inj r45
  obtain rfl := it_inr hn31
  exact k20 _ _ ⟨ha_, rfl⟩
 obtain ⟨hh21, rfl⟩ := hM
 obtain ⟨β, rfl⟩ := has_ex hh21
 clear hh21
 refine k14 _ _ ?_
 refine w_seqk fun _ k46 => ?_
 refine g_' ?_
 refine q_ (.slice none 0 0) ?_
 refine s_nil (k46 _ _ ?_)
 refine w_seqk fun _ k47 => ?_
 refine g_' ?_
 refine q_ (.slice none 0 0) ?_
 refine q_ (hd_l) ?_
 refine q_ (i_ o15) ?_
 obtain ⟨g48, r49⟩ := G_some r17
 have u53 := (h_l.ext e9)
 obtain ⟨s50, q51, hs52⟩ := Sq.cut (P := Tryz.prog) u53 (t := 51) (by kernel_rfl) (lo := none) (hi := (some (i_ o15))) (l := 0) (r := o15.toNat) (rfl) (aBound_int _ (by have := g48; omega)) (by have := g48; omega) (by have := g48; omega)
 obtain ⟨a54, n55, c56, rfl⟩ := hs52.form
 refine s_ql (.slice a54 n55 c56) (by kernel_rfl) q51 ?_
 obtain ⟨g58, r59⟩ := G_some r49
 obtain ⟨s60, H61, f62, q66, e63, hm64, hf65⟩ := Ow.append (P := Tryz.prog) 24 e9.wf (Ow.nil (enc := enc_i64_u64_i64) (sz := 3) (by decide)) hs52 (fun _ _ => rfl) (at_ := #[51, 51]) rfl rfl (by kernel_rfl) (by kernel_rfl) (by decide) (by have := g58; first | omega | (simp only [List.length_cons, List.length_nil] at this ⊢; omega) | (simp at this ⊢; omega))
 obtain ⟨a67, n68, c69, rfl⟩ := hm64.form
 refine s_ek (.slice a67 n68 c69) (by kernel_rfl) (q66) ?_
 refine q_ (.slice a67 n68 c69) ?_
 refine s_nil (k47 _ _ ?_)
 refine w_seqk fun _ k71 => ?_
 refine g_' ?_
 refine q_ (.slice a67 n68 c69) ?_
 have u72 := (r11.frS e63 Dj.nil_l)
 refine l_' (.agg #[i_ Node, .int .u64 Weight, i_ Via]) (aLoad Tryz.prog 61 (pt_ b7 0) H61) (u72.ld (by kernel_rfl)) ?_
 refine s_owk (enc := enc_i64_u64_i64) (sz := 3) e63.wf [(Node, Weight, Via)] 1 (by decide) (fun _ _ => rfl) (fun _ _ => rfl) rfl (by kernel_rfl) fun s73 f74 H75 e76 hf77 hm78 => ?_
 obtain ⟨a79, n80, c81, rfl⟩ := hm78.form
 have u83 := (hm64.ext e76)
 obtain ⟨g84, r85⟩ := G_some r59
 obtain ⟨s86, H87, f88, q92, e89, hm90, hf91⟩ := Ow.append (P := Tryz.prog) 24 e76.wf u83 hm78.sq (fun _ _ => rfl) (at_ := #[51, 51]) rfl rfl (by kernel_rfl) (by kernel_rfl) (by decide) (by have := g84; first | omega | (simp only [List.length_cons, List.length_nil] at this ⊢; omega) | (simp at this ⊢; omega))
 obtain ⟨a93, n94, c95, rfl⟩ := hm90.form
 refine s_ek (.slice a93 n94 c95) (by kernel_rfl) (q92) ?_
 refine q_ (.slice a93 n94 c95) ?_
 refine s_nil (k71 _ _ ?_)
 refine w_seqk fun _ k97 => ?_
 refine g_' ?_
 refine q_ (.slice a93 n94 c95) ?_
 refine q_ (hd_l) ?_
 refine q_ (i_ o15) ?_
 have u101 := (((u53.fr e63 Dj.nil_l).ext e76).fr e89 (hf65.djn (h_l.lt.le e9.next)))
 obtain ⟨s98, q99, hs100⟩ := Sq.cut (P := Tryz.prog) u101 (t := 51) (by kernel_rfl) (lo := (some (i_ o15))) (hi := none) (l := o15.toNat) (r := l.length) (aBound_int _ (by have := g48; omega)) (rfl) (by have := g48; omega) (by have := g48; omega)
 obtain ⟨a102, n103, c104, rfl⟩ := hs100.form
 refine s_ql (.slice a102 n103 c104) (by kernel_rfl) q99 ?_
 obtain ⟨g106, r107⟩ := G_some r85
 obtain ⟨s108, H109, f110, q114, e111, hm112, hf113⟩ := Ow.append (P := Tryz.prog) 24 e89.wf hm90 hs100 (fun _ _ => rfl) (at_ := #[51, 51]) rfl rfl (by kernel_rfl) (by kernel_rfl) (by decide) (by have := g106; first | omega | (simp only [List.length_cons, List.length_nil] at this ⊢; omega) | (simp at this ⊢; omega))
 obtain ⟨a115, n116, c117, rfl⟩ := hm112.form
 refine s_ek (.slice a115 n116 c117) (by kernel_rfl) (q114) ?_
 refine q_ (.slice a115 n116 c117) ?_
 refine s_nil (k97 _ _ ?_)
 refine w_ret ?_
 refine b_ret (fn := Tryz.f36) (vs := [.slice a115 n116 c117]) (aRes_tmp (by kernel_rfl) (rfl)) ?_
 obtain rfl := Option.some.inj r107
 exact ⟨(.slice a115 n116 c117), f110, rfl, (FrS.step wf (FrS.step wf ((FrS.step wf ((FrS.refl (W := []) wf).extR e9) e63 Inn.nil).extR e76) e89 (hf65.fresh e9.next)) e111 (Inn.trans (hf65.fresh e9.next) (ntr (ntr e9.next e63.next) e76.next) hf91)), hm112, (Inn.trans (Inn.trans (hf65.fresh e9.next) (ntr (ntr e9.next e63.next) e76.next) hf91) (ntr (ntr (ntr e9.next e63.next) e76.next) e89.next) hf113)⟩

theorem c_viaductref11_Out {H : AH} {hd_Alive : Value} {fp_Alive : Fp} {hd_Arcs : Value} {fp_Arcs : Fp} {Alive : List (Bool)} {Arcs : List (Int × Int × Int × Int)} {v_ : Int} {r : List (Int × Int × Int)}
    (wf : WF H) (h_Alive : Sq encB 1 H hd_Alive Alive fp_Alive) (h_Arcs : Sq enc_i64_i64_u64_i64 4 H hd_Arcs Arcs fp_Arcs) (hr : z_viaductref11_Out Alive Arcs v_ = some r) :
    ACalls Tryz.prog 13 #[.agg #[hd_Alive, hd_Arcs], i_ v_] H fun v H' => ∃ (s3 : Value) (f4 : Fp), v = s3 ∧ FrS [] H H' ∧ Ow enc_i64_u64_i64 3 H' s3 r f4 ∧ Inn [] H f4 := by
 refine acalls_of_body mixed Tryz.func13 rfl (Nat.le_of_ble_eq_true rfl) ?_
 unfold z_viaductref11_Out at hr
 refine w_seqk fun _ k6 => ?_
 refine g_' ?_
 refine s_rwl wf [hd_Alive, hd_Arcs] (one_cons (h_Alive.one1) (one_cons (h_Arcs.one1) (one_nil))) (by kernel_rfl) fun b7 H8 e9 hb10 r11 => ?_
 refine q_ (.slice none 0 0) ?_
 refine s_nil (k6 _ _ ?_)
 refine w_seqk fun _ k13 => ?_
 refine g_' ?_
 refine q_ (.slice none 0 0) ?_
 refine s_nil (k13 _ _ ?_)
 refine w_seqk fun _ k14 => ?_
 refine w_seqk fun _ k15 => ?_
 refine g_' ?_
 refine q_ (pt_ b7 1) ?_
 refine l_' (hd_Arcs) (aLoad Tryz.prog 38 (pt_ b7 1) H8) (r11.ld (by kernel_rfl)) ?_
 have u16 := (h_Arcs.ext e9)
 refine l_' (i_ (Arcs.length : Int)) (aLen Tryz.prog 38 hd_Arcs H8) (u16.lenb (by kernel_rfl)) ?_
 refine q_ (i_ 0) ?_
 refine s_nil (k15 _ _ ?_)
 obtain ⟨o17, hx18, r19⟩ := bind_some hr
 refine w_mid (fun α H20 => ∃ (s24 : Value) (f25 : Fp), Has α [(5, s24)] ∧ FrS [] H8 H20 ∧ Ow enc_i64_u64_i64 3 H20 s24 o17 f25 ∧ Inn [] H8 f25) (fun _ k27 => ?_) (fun α H20 hM => ?_)
 ·refine w_block ?_
  obtain ⟨n29, hn30⟩ := loopO_iff.1 hx18
  refine w_loopn (fun n α H31 => ∃ (i0 : Int), ∃ (l1 : List (Int × Int × Int)), ∃ (s35 : Value), ∃ (f36 : Fp), iterO (fun zz_ => z_viaductref11_Out_l0 Arcs v_ zz_.1 zz_.2) n (i0, l1) = some o17 ∧ Has α [(1, i_ v_), (5, s35), (9, hd_Arcs), (10, i_ (Arcs.length : Int)), (11, i_ i0)] ∧ FrS [] H8 H31 ∧ Ow enc_i64_u64_i64 3 H31 s35 l1 f36 ∧ Inn [] H8 f36) n29 ⟨0, [], (.slice none 0 0), [], hn30, ha_, (FrS.refl (W := []) e9.wf), (Ow.nil (by decide)), Inn.nil⟩ ?_
  rintro n29 α H31 ⟨i0, l1, s35, f36, hi39, hh38, e32, m34, i37⟩ K44 k44
  obtain ⟨n40, z41, rfl, hz42, hn43⟩ := iter_succ hi39
  obtain ⟨β, rfl⟩ := has_ex hh38
  clear hh38
  replace hz42 : z_viaductref11_Out_l0 Arcs v_ i0 l1 = some z41 := hz42
  unfold z_viaductref11_Out_l0 at hz42
  obtain ⟨a45, n46, c47, rfl⟩ := m34.form
  refine w_seqk fun _ k48 => ?_
  refine g_' ?_
  refine q_ (.bool (decide (i0 < (Arcs.length : Int)))) ?_
  refine s_nil (k48 _ _ ?_)
  refine w_seqk fun _ k49 => ?_
  refine w_condp (i0 < (Arcs.length : Int)) (by kernel_rfl) rfl (fun h50 => ?_) (fun h50 => ?_)
  ·have r51 := ite_t h50 hz42
   refine w_skip ?_
   refine k49 _ _ ?_
   refine w_seqk fun _ k52 => ?_
   refine w_block ?_
   refine w_seqk fun _ k53 => ?_
   refine g_' ?_
   obtain ⟨g54, r55⟩ := G_some r51
   have u56 := (u16.fr e32 Dj.nil_l)
   refine l_' (elp hd_Arcs 4 i0.toNat 0) (aIndexAddr Tryz.prog 38 hd_Arcs (i_ i0)) (u56.idxb (by kernel_rfl) g54 h50) ?_
   refine l_' (.agg #[i_ ((gt Arcs i0).1), i_ ((gt Arcs i0).2.1), .int .u64 ((gt Arcs i0).2.2.1), i_ ((gt Arcs i0).2.2.2)]) (aLoad Tryz.prog 90 (elp hd_Arcs 4 i0.toNat 0) H31) (u56.ld g54 h50 (by kernel_rfl)) ?_
   refine s_rwk e32.wf [i_ 0, i_ 0, .int .u64 0, i_ 0] (by kernel_rfl) fun b57 H58 e59 hb60 r61 => ?_
   obtain ⟨H63, q64, e65, r66⟩ := Row.store (P := Tryz.prog) (t := 90) (p := 0) e59.wf r61 (.agg #[i_ ((gt Arcs i0).1), i_ ((gt Arcs i0).2.1), .int .u64 ((gt Arcs i0).2.2.1), i_ ((gt Arcs i0).2.2.2)]) [i_ ((gt Arcs i0).1), i_ ((gt Arcs i0).2.1), .int .u64 ((gt Arcs i0).2.2.1), i_ ((gt Arcs i0).2.2.2)] (by kernel_rfl) (by kernel_rfl) (one_cons (rfl) (one_cons (rfl) (one_cons (rfl) (one_cons (rfl) (one_nil))))) (Nat.le_of_ble_eq_true (by kernel_rfl)) [i_ ((gt Arcs i0).1), i_ ((gt Arcs i0).2.1), .int .u64 ((gt Arcs i0).2.2.1), i_ ((gt Arcs i0).2.2.2)] (by kernel_rfl)
   refine s_ek (undef) (by kernel_rfl) (map_ok q64) ?_
   refine s_nil (k53 _ _ ?_)
   refine w_seqk fun _ k67 => ?_
   refine g_' ?_
   refine q_ (pt_ b57 0) ?_
   refine l_' (i_ ((gt Arcs i0).1)) (aLoad Tryz.prog 3 (pt_ b57 0) H63) (r66.ld (by kernel_rfl)) ?_
   refine q_ (i_ v_) ?_
   refine q_ (.bool (decide (((gt Arcs i0).1) = v_))) ?_
   refine s_nil (k67 _ _ ?_)
   refine w_condp (((gt Arcs i0).1) = v_) (by kernel_rfl) rfl (fun h68 => ?_) (fun h68 => ?_)
   ·have r69 := ite_t h68 r55
    refine g_' ?_
    refine q_ (.slice a45 n46 c47) ?_
    refine q_ (pt_ b57 1) ?_
    refine l_' (i_ ((gt Arcs i0).2.1)) (aLoad Tryz.prog 3 (pt_ b57 1) H63) (r66.ld (by kernel_rfl)) ?_
    refine q_ (pt_ b57 2) ?_
    refine l_' (.int .u64 ((gt Arcs i0).2.2.1)) (aLoad Tryz.prog 43 (pt_ b57 2) H63) (r66.ld (by kernel_rfl)) ?_
    refine q_ (pt_ b57 3) ?_
    refine l_' (i_ ((gt Arcs i0).2.2.2)) (aLoad Tryz.prog 3 (pt_ b57 3) H63) (r66.ld (by kernel_rfl)) ?_
    refine q_ (.agg #[i_ ((gt Arcs i0).2.1), .int .u64 ((gt Arcs i0).2.2.1), i_ ((gt Arcs i0).2.2.2)]) ?_
    have u70 := ((m34.ext e59).fr e65 (hb60.djn m34.lt))
    obtain ⟨y71, hy72, r73⟩ := bind_some r69
    refine s_ck 36 #[.slice a45 n46 c47, .agg #[i_ ((gt Arcs i0).2.1), .int .u64 ((gt Arcs i0).2.2.1), i_ ((gt Arcs i0).2.2.2)]] (by kernel_rfl) (c_viaductref11_put e65.wf u70.sq hy72) ?_
    rintro s74 H76 ⟨_, f75, rfl, e77, m78, i79⟩
    obtain ⟨a81, n82, c83, rfl⟩ := m78.form
    refine q_ (.slice a81 n82 c83) ?_
    refine s_nil (k52 _ _ ?_)
    refine g_' ?_
    obtain ⟨g84, r85⟩ := G_some r73
    refine s_w ((i0 + 1)) (k := .i64) (x := (i0 + 1)) (by kernel_rfl) (wrap64 (by have := g84; omega)) ?_
    refine q_ (i_ (i0 + 1)) ?_
    refine s_nil ?_
    obtain rfl := Option.some.inj r85
    exact k44 n40 _ _ (Nat.lt_succ_self _) ⟨(i0 + 1), y71, (.slice a81 n82 c83), f75, hn43, ha_, (FrS.step e9.wf (FrS.step e9.wf ((FrS.step e9.wf (FrS.refl (W := []) e9.wf) e32 Inn.nil).extR e59) e65 (hb60.fresh e32.next)) e77 Inn.nil), m78, (i79.fresh (ntr (ntr e32.next e59.next) e65.next))⟩
   have r86 := ite_f h68 r55
   refine w_skip ?_
   refine k52 _ _ ?_
   refine g_' ?_
   obtain ⟨g87, r88⟩ := G_some r86
   refine s_w ((i0 + 1)) (k := .i64) (x := (i0 + 1)) (by kernel_rfl) (wrap64 (by have := g87; omega)) ?_
   refine q_ (i_ (i0 + 1)) ?_
   refine s_nil ?_
   have u89 := ((m34.ext e59).fr e65 (hb60.djn m34.lt))
   obtain rfl := Option.some.inj r88
   exact k44 n40 _ _ (Nat.lt_succ_self _) ⟨(i0 + 1), l1, (.slice a45 n46 c47), f36, hn43, ha_, (FrS.step e9.wf ((FrS.step e9.wf (FrS.refl (W := []) e9.wf) e32 Inn.nil).extR e59) e65 (hb60.fresh e32.next)), u89, (i37.fresh (Nat.le_refl _))⟩
  have r90 := ite_f h50 hz42
  refine w_exit (th_exit (th_exit (bl_eq ?_)))
  obtain rfl := Option.some.inj r90
  obtain rfl := it_inr hn43
  exact k27 _ _ ⟨(.slice a45 n46 c47), f36, ha_, (FrS.step e9.wf (FrS.refl (W := []) e9.wf) e32 Inn.nil), m34, (i37.fresh (Nat.le_refl _))⟩
 obtain ⟨s24, f25, hh28, e21, m23, i26⟩ := hM
 obtain ⟨β, rfl⟩ := has_ex hh28
 clear hh28
 obtain ⟨a91, n92, c93, rfl⟩ := m23.form
 refine k14 _ _ ?_
 refine w_seqk fun _ k94 => ?_
 refine g_' ?_
 refine q_ (.slice a91 n92 c93) ?_
 refine q_ (.slice a91 n92 c93) ?_
 refine s_nil (k94 _ _ ?_)
 refine w_ret ?_
 refine b_ret (fn := Tryz.f13) (vs := [.slice a91 n92 c93]) (aRes_tmp (by kernel_rfl) (rfl)) ?_
 obtain rfl := Option.some.inj r19
 exact ⟨(.slice a91 n92 c93), f25, rfl, (FrS.step wf ((FrS.refl (W := []) wf).extR e9) e21 Inn.nil), m23, (i26.fresh e9.next)⟩

theorem c_viaductref11_In {H : AH} {hd_Alive : Value} {fp_Alive : Fp} {hd_Arcs : Value} {fp_Arcs : Fp} {Alive : List (Bool)} {Arcs : List (Int × Int × Int × Int)} {v_ : Int} {r : List (Int × Int × Int)}
    (wf : WF H) (h_Alive : Sq encB 1 H hd_Alive Alive fp_Alive) (h_Arcs : Sq enc_i64_i64_u64_i64 4 H hd_Arcs Arcs fp_Arcs) (hr : z_viaductref11_In Alive Arcs v_ = some r) :
    ACalls Tryz.prog 15 #[.agg #[hd_Alive, hd_Arcs], i_ v_] H fun v H' => ∃ (s3 : Value) (f4 : Fp), v = s3 ∧ FrS [] H H' ∧ Ow enc_i64_u64_i64 3 H' s3 r f4 ∧ Inn [] H f4 := by
 refine acalls_of_body mixed Tryz.func15 rfl (Nat.le_of_ble_eq_true rfl) ?_
 unfold z_viaductref11_In at hr
 refine w_seqk fun _ k6 => ?_
 refine g_' ?_
 refine s_rwl wf [hd_Alive, hd_Arcs] (one_cons (h_Alive.one1) (one_cons (h_Arcs.one1) (one_nil))) (by kernel_rfl) fun b7 H8 e9 hb10 r11 => ?_
 refine q_ (.slice none 0 0) ?_
 refine s_nil (k6 _ _ ?_)
 refine w_seqk fun _ k13 => ?_
 refine g_' ?_
 refine q_ (.slice none 0 0) ?_
 refine s_nil (k13 _ _ ?_)
 refine w_seqk fun _ k14 => ?_
 refine w_seqk fun _ k15 => ?_
 refine g_' ?_
 refine q_ (pt_ b7 1) ?_
 refine l_' (hd_Arcs) (aLoad Tryz.prog 38 (pt_ b7 1) H8) (r11.ld (by kernel_rfl)) ?_
 have u16 := (h_Arcs.ext e9)
 refine l_' (i_ (Arcs.length : Int)) (aLen Tryz.prog 38 hd_Arcs H8) (u16.lenb (by kernel_rfl)) ?_
 refine q_ (i_ 0) ?_
 refine s_nil (k15 _ _ ?_)
 obtain ⟨o17, hx18, r19⟩ := bind_some hr
 refine w_mid (fun α H20 => ∃ (s24 : Value) (f25 : Fp), Has α [(5, s24)] ∧ FrS [] H8 H20 ∧ Ow enc_i64_u64_i64 3 H20 s24 o17 f25 ∧ Inn [] H8 f25) (fun _ k27 => ?_) (fun α H20 hM => ?_)
 ·refine w_block ?_
  obtain ⟨n29, hn30⟩ := loopO_iff.1 hx18
  refine w_loopn (fun n α H31 => ∃ (i0 : Int), ∃ (l1 : List (Int × Int × Int)), ∃ (s35 : Value), ∃ (f36 : Fp), iterO (fun zz_ => z_viaductref11_In_l0 Arcs v_ zz_.1 zz_.2) n (i0, l1) = some o17 ∧ Has α [(1, i_ v_), (5, s35), (9, hd_Arcs), (10, i_ (Arcs.length : Int)), (11, i_ i0)] ∧ FrS [] H8 H31 ∧ Ow enc_i64_u64_i64 3 H31 s35 l1 f36 ∧ Inn [] H8 f36) n29 ⟨0, [], (.slice none 0 0), [], hn30, ha_, (FrS.refl (W := []) e9.wf), (Ow.nil (by decide)), Inn.nil⟩ ?_
  rintro n29 α H31 ⟨i0, l1, s35, f36, hi39, hh38, e32, m34, i37⟩ K44 k44
  obtain ⟨n40, z41, rfl, hz42, hn43⟩ := iter_succ hi39
  obtain ⟨β, rfl⟩ := has_ex hh38
  clear hh38
  replace hz42 : z_viaductref11_In_l0 Arcs v_ i0 l1 = some z41 := hz42
  unfold z_viaductref11_In_l0 at hz42
  obtain ⟨a45, n46, c47, rfl⟩ := m34.form
  refine w_seqk fun _ k48 => ?_
  refine g_' ?_
  refine q_ (.bool (decide (i0 < (Arcs.length : Int)))) ?_
  refine s_nil (k48 _ _ ?_)
  refine w_seqk fun _ k49 => ?_
  refine w_condp (i0 < (Arcs.length : Int)) (by kernel_rfl) rfl (fun h50 => ?_) (fun h50 => ?_)
  ·have r51 := ite_t h50 hz42
   refine w_skip ?_
   refine k49 _ _ ?_
   refine w_seqk fun _ k52 => ?_
   refine w_block ?_
   refine w_seqk fun _ k53 => ?_
   refine g_' ?_
   obtain ⟨g54, r55⟩ := G_some r51
   have u56 := (u16.fr e32 Dj.nil_l)
   refine l_' (elp hd_Arcs 4 i0.toNat 0) (aIndexAddr Tryz.prog 38 hd_Arcs (i_ i0)) (u56.idxb (by kernel_rfl) g54 h50) ?_
   refine l_' (.agg #[i_ ((gt Arcs i0).1), i_ ((gt Arcs i0).2.1), .int .u64 ((gt Arcs i0).2.2.1), i_ ((gt Arcs i0).2.2.2)]) (aLoad Tryz.prog 90 (elp hd_Arcs 4 i0.toNat 0) H31) (u56.ld g54 h50 (by kernel_rfl)) ?_
   refine s_rwk e32.wf [i_ 0, i_ 0, .int .u64 0, i_ 0] (by kernel_rfl) fun b57 H58 e59 hb60 r61 => ?_
   obtain ⟨H63, q64, e65, r66⟩ := Row.store (P := Tryz.prog) (t := 90) (p := 0) e59.wf r61 (.agg #[i_ ((gt Arcs i0).1), i_ ((gt Arcs i0).2.1), .int .u64 ((gt Arcs i0).2.2.1), i_ ((gt Arcs i0).2.2.2)]) [i_ ((gt Arcs i0).1), i_ ((gt Arcs i0).2.1), .int .u64 ((gt Arcs i0).2.2.1), i_ ((gt Arcs i0).2.2.2)] (by kernel_rfl) (by kernel_rfl) (one_cons (rfl) (one_cons (rfl) (one_cons (rfl) (one_cons (rfl) (one_nil))))) (Nat.le_of_ble_eq_true (by kernel_rfl)) [i_ ((gt Arcs i0).1), i_ ((gt Arcs i0).2.1), .int .u64 ((gt Arcs i0).2.2.1), i_ ((gt Arcs i0).2.2.2)] (by kernel_rfl)
   refine s_ek (undef) (by kernel_rfl) (map_ok q64) ?_
   refine s_nil (k53 _ _ ?_)
   refine w_seqk fun _ k67 => ?_
   refine g_' ?_
   refine q_ (pt_ b57 1) ?_
   refine l_' (i_ ((gt Arcs i0).2.1)) (aLoad Tryz.prog 3 (pt_ b57 1) H63) (r66.ld (by kernel_rfl)) ?_
   refine q_ (i_ v_) ?_
   refine q_ (.bool (decide (((gt Arcs i0).2.1) = v_))) ?_
   refine s_nil (k67 _ _ ?_)
   refine w_condp (((gt Arcs i0).2.1) = v_) (by kernel_rfl) rfl (fun h68 => ?_) (fun h68 => ?_)
   ·have r69 := ite_t h68 r55
    refine g_' ?_
    refine q_ (.slice a45 n46 c47) ?_
    refine q_ (pt_ b57 0) ?_
    refine l_' (i_ ((gt Arcs i0).1)) (aLoad Tryz.prog 3 (pt_ b57 0) H63) (r66.ld (by kernel_rfl)) ?_
    refine q_ (pt_ b57 2) ?_
    refine l_' (.int .u64 ((gt Arcs i0).2.2.1)) (aLoad Tryz.prog 43 (pt_ b57 2) H63) (r66.ld (by kernel_rfl)) ?_
    refine q_ (pt_ b57 3) ?_
    refine l_' (i_ ((gt Arcs i0).2.2.2)) (aLoad Tryz.prog 3 (pt_ b57 3) H63) (r66.ld (by kernel_rfl)) ?_
    refine q_ (.agg #[i_ ((gt Arcs i0).1), .int .u64 ((gt Arcs i0).2.2.1), i_ ((gt Arcs i0).2.2.2)]) ?_
    have u70 := ((m34.ext e59).fr e65 (hb60.djn m34.lt))
    obtain ⟨y71, hy72, r73⟩ := bind_some r69
    refine s_ck 36 #[.slice a45 n46 c47, .agg #[i_ ((gt Arcs i0).1), .int .u64 ((gt Arcs i0).2.2.1), i_ ((gt Arcs i0).2.2.2)]] (by kernel_rfl) (c_viaductref11_put e65.wf u70.sq hy72) ?_
    rintro s74 H76 ⟨_, f75, rfl, e77, m78, i79⟩
    obtain ⟨a81, n82, c83, rfl⟩ := m78.form
    refine q_ (.slice a81 n82 c83) ?_
    refine s_nil (k52 _ _ ?_)
    refine g_' ?_
    obtain ⟨g84, r85⟩ := G_some r73
    refine s_w ((i0 + 1)) (k := .i64) (x := (i0 + 1)) (by kernel_rfl) (wrap64 (by have := g84; omega)) ?_
    refine q_ (i_ (i0 + 1)) ?_
    refine s_nil ?_
    obtain rfl := Option.some.inj r85
    exact k44 n40 _ _ (Nat.lt_succ_self _) ⟨(i0 + 1), y71, (.slice a81 n82 c83), f75, hn43, ha_, (FrS.step e9.wf (FrS.step e9.wf ((FrS.step e9.wf (FrS.refl (W := []) e9.wf) e32 Inn.nil).extR e59) e65 (hb60.fresh e32.next)) e77 Inn.nil), m78, (i79.fresh (ntr (ntr e32.next e59.next) e65.next))⟩
   have r86 := ite_f h68 r55
   refine w_skip ?_
   refine k52 _ _ ?_
   refine g_' ?_
   obtain ⟨g87, r88⟩ := G_some r86
   refine s_w ((i0 + 1)) (k := .i64) (x := (i0 + 1)) (by kernel_rfl) (wrap64 (by have := g87; omega)) ?_
   refine q_ (i_ (i0 + 1)) ?_
   refine s_nil ?_
   have u89 := ((m34.ext e59).fr e65 (hb60.djn m34.lt))
   obtain rfl := Option.some.inj r88
   exact k44 n40 _ _ (Nat.lt_succ_self _) ⟨(i0 + 1), l1, (.slice a45 n46 c47), f36, hn43, ha_, (FrS.step e9.wf ((FrS.step e9.wf (FrS.refl (W := []) e9.wf) e32 Inn.nil).extR e59) e65 (hb60.fresh e32.next)), u89, (i37.fresh (Nat.le_refl _))⟩
  have r90 := ite_f h50 hz42
  refine w_exit (th_exit (th_exit (bl_eq ?_)))
  obtain rfl := Option.some.inj r90
  obtain rfl := it_inr hn43
  exact k27 _ _ ⟨(.slice a45 n46 c47), f36, ha_, (FrS.step e9.wf (FrS.refl (W := []) e9.wf) e32 Inn.nil), m34, (i37.fresh (Nat.le_refl _))⟩
 obtain ⟨s24, f25, hh28, e21, m23, i26⟩ := hM
 obtain ⟨β, rfl⟩ := has_ex hh28
 clear hh28
 obtain ⟨a91, n92, c93, rfl⟩ := m23.form
 refine k14 _ _ ?_
 refine w_seqk fun _ k94 => ?_
 refine g_' ?_
 refine q_ (.slice a91 n92 c93) ?_
 refine q_ (.slice a91 n92 c93) ?_
 refine s_nil (k94 _ _ ?_)
 refine w_ret ?_
 refine b_ret (fn := Tryz.f15) (vs := [.slice a91 n92 c93]) (aRes_tmp (by kernel_rfl) (rfl)) ?_
 obtain rfl := Option.some.inj r19
 exact ⟨(.slice a91 n92 c93), f25, rfl, (FrS.step wf ((FrS.refl (W := []) wf).extR e9) e21 Inn.nil), m23, (i26.fresh e9.next)⟩

theorem c_viaductref11_Weight {H : AH} {hd_Alive : Value} {fp_Alive : Fp} {hd_Arcs : Value} {fp_Arcs : Fp} {Alive : List (Bool)} {Arcs : List (Int × Int × Int × Int)} {u : Int} {w : Int} {r : Int × Bool}
    (wf : WF H) (h_Alive : Sq encB 1 H hd_Alive Alive fp_Alive) (h_Arcs : Sq enc_i64_i64_u64_i64 4 H hd_Arcs Arcs fp_Arcs) (hr : z_viaductref11_Weight Alive Arcs u w = some r) :
    ACalls Tryz.prog 33 #[.agg #[hd_Alive, hd_Arcs], i_ u, i_ w] H fun v H' => v = .tuple #[.int .u64 r.1, .bool r.2] ∧ FrS [] H H' := by
 refine acalls_of_body mixed Tryz.func33 rfl (Nat.le_of_ble_eq_true rfl) ?_
 unfold z_viaductref11_Weight at hr
 refine w_seqk fun _ k1 => ?_
 refine g_' ?_
 refine s_rwl wf [hd_Alive, hd_Arcs] (one_cons (h_Alive.one1) (one_cons (h_Arcs.one1) (one_nil))) (by kernel_rfl) fun b2 H3 e4 hb5 r6 => ?_
 refine q_ (.int .u64 0) ?_
 refine q_ (.bool false) ?_
 refine s_nil (k1 _ _ ?_)
 refine w_seqk fun _ k8 => ?_
 refine w_seqk fun _ k9 => ?_
 refine g_' ?_
 refine q_ (pt_ b2 1) ?_
 refine l_' (hd_Arcs) (aLoad Tryz.prog 38 (pt_ b2 1) H3) (r6.ld (by kernel_rfl)) ?_
 have u10 := (h_Arcs.ext e4)
 refine l_' (i_ (Arcs.length : Int)) (aLen Tryz.prog 38 hd_Arcs H3) (u10.lenb (by kernel_rfl)) ?_
 refine q_ (i_ 0) ?_
 refine s_nil (k9 _ _ ?_)
 obtain ⟨z14, hx12, r13⟩ := bind_some hr
 refine w_mid (fun α H15 => ∃ o11, z14 = Sum.inr o11 ∧ Has α [] ∧ FrS [] H3 H15) (fun _ k17 => ?_) (fun α H15 hM => ?_)
 ·refine w_block ?_
  obtain ⟨n19, hn20⟩ := loopO_iff.1 hx12
  refine w_loopn (fun n α H21 => ∃ (i0 : Int), iterO (fun zz_ => z_viaductref11_Weight_l0 Arcs u w zz_) n i0 = some z14 ∧ Has α [(1, i_ u), (2, i_ w), (11, hd_Arcs), (12, i_ (Arcs.length : Int)), (13, i_ i0)] ∧ FrS [] H3 H21) n19 ⟨0, hn20, ha_, (FrS.refl (W := []) e4.wf)⟩ ?_
  rintro n19 α H21 ⟨i0, hi24, hh23, e22⟩ K29 k29
  obtain ⟨n25, z26, rfl, hz27, hn28⟩ := iter_succ hi24
  obtain ⟨β, rfl⟩ := has_ex hh23
  clear hh23
  replace hz27 : z_viaductref11_Weight_l0 Arcs u w i0 = some z26 := hz27
  unfold z_viaductref11_Weight_l0 at hz27
  refine w_seqk fun _ k30 => ?_
  refine g_' ?_
  refine q_ (.bool (decide (i0 < (Arcs.length : Int)))) ?_
  refine s_nil (k30 _ _ ?_)
  refine w_seqk fun _ k31 => ?_
  refine w_condp (i0 < (Arcs.length : Int)) (by kernel_rfl) rfl (fun h32 => ?_) (fun h32 => ?_)
  ·have r33 := ite_t h32 hz27
   refine w_skip ?_
   refine k31 _ _ ?_
   refine w_seqk fun _ k34 => ?_
   refine w_block ?_
   refine w_seqk fun _ k35 => ?_
   refine g_' ?_
   obtain ⟨g36, r37⟩ := G_some r33
   have u38 := (u10.fr e22 Dj.nil_l)
   refine l_' (elp hd_Arcs 4 i0.toNat 0) (aIndexAddr Tryz.prog 38 hd_Arcs (i_ i0)) (u38.idxb (by kernel_rfl) g36 h32) ?_
   refine l_' (.agg #[i_ ((gt Arcs i0).1), i_ ((gt Arcs i0).2.1), .int .u64 ((gt Arcs i0).2.2.1), i_ ((gt Arcs i0).2.2.2)]) (aLoad Tryz.prog 90 (elp hd_Arcs 4 i0.toNat 0) H21) (u38.ld g36 h32 (by kernel_rfl)) ?_
   refine s_rwk e22.wf [i_ 0, i_ 0, .int .u64 0, i_ 0] (by kernel_rfl) fun b39 H40 e41 hb42 r43 => ?_
   obtain ⟨H45, q46, e47, r48⟩ := Row.store (P := Tryz.prog) (t := 90) (p := 0) e41.wf r43 (.agg #[i_ ((gt Arcs i0).1), i_ ((gt Arcs i0).2.1), .int .u64 ((gt Arcs i0).2.2.1), i_ ((gt Arcs i0).2.2.2)]) [i_ ((gt Arcs i0).1), i_ ((gt Arcs i0).2.1), .int .u64 ((gt Arcs i0).2.2.1), i_ ((gt Arcs i0).2.2.2)] (by kernel_rfl) (by kernel_rfl) (one_cons (rfl) (one_cons (rfl) (one_cons (rfl) (one_cons (rfl) (one_nil))))) (Nat.le_of_ble_eq_true (by kernel_rfl)) [i_ ((gt Arcs i0).1), i_ ((gt Arcs i0).2.1), .int .u64 ((gt Arcs i0).2.2.1), i_ ((gt Arcs i0).2.2.2)] (by kernel_rfl)
   refine s_ek (undef) (by kernel_rfl) (map_ok q46) ?_
   refine s_nil (k35 _ _ ?_)
   refine w_seqk fun _ k49 => ?_
   refine g_' ?_
   refine q_ (pt_ b39 0) ?_
   refine l_' (i_ ((gt Arcs i0).1)) (aLoad Tryz.prog 3 (pt_ b39 0) H45) (r48.ld (by kernel_rfl)) ?_
   refine q_ (i_ u) ?_
   refine s_b (((gt Arcs i0).1) = u) (by kernel_rfl) (fun h50 => ?_) (fun h50 => ?_)
   ·have r51 := ite_t h50 r37
    refine q_ (.bool true) ?_
    refine q_ (pt_ b39 1) ?_
    refine l_' (i_ ((gt Arcs i0).2.1)) (aLoad Tryz.prog 3 (pt_ b39 1) H45) (r48.ld (by kernel_rfl)) ?_
    refine q_ (i_ w) ?_
    refine q_ (.bool (decide (((gt Arcs i0).2.1) = w))) ?_
    refine q_ (.bool (decide (((gt Arcs i0).2.1) = w))) ?_
    refine s_nil (k49 _ _ ?_)
    refine w_condp (((gt Arcs i0).2.1) = w) (by kernel_rfl) rfl (fun h52 => ?_) (fun h52 => ?_)
    ·have r53 := ite_t h52 r51
     refine w_seqk fun _ k54 => ?_
     refine g_' ?_
     refine q_ (pt_ b39 2) ?_
     refine l_' (.int .u64 ((gt Arcs i0).2.2.1)) (aLoad Tryz.prog 43 (pt_ b39 2) H45) (r48.ld (by kernel_rfl)) ?_
     refine q_ (.int .u64 ((gt Arcs i0).2.2.1)) ?_
     refine q_ (.bool true) ?_
     refine s_nil (k54 _ _ ?_)
     refine w_ret (bl_ret (th_ret (th_ret (bl_ret (th_ret (th_ret ?_))))))
     obtain ⟨v55, hv56, hz57⟩ := map_some r53
     subst hz57
     obtain rfl := it_inr hn28
     have hq58 := elim_inl r13
     rw [hq58] at hv56
     refine b_ret (fn := Tryz.f33) (vs := [.int .u64 ((gt Arcs i0).2.2.1), .bool true]) (aRes_tmp (by kernel_rfl) (aRes_tmp (by kernel_rfl) (rfl))) ?_
     obtain rfl := Option.some.inj hv56
     exact ⟨rfl, (FrS.step wf ((FrS.step wf ((FrS.refl (W := []) wf).extR e4) e22 Inn.nil).extR e41) e47 (hb42.fresh (ntr e4.next e22.next)))⟩
    have r59 := ite_f h52 r51
    refine w_skip ?_
    refine k34 _ _ ?_
    refine g_' ?_
    obtain ⟨g60, r61⟩ := G_some r59
    refine s_w ((i0 + 1)) (k := .i64) (x := (i0 + 1)) (by kernel_rfl) (wrap64 (by have := g60; omega)) ?_
    refine q_ (i_ (i0 + 1)) ?_
    refine s_nil ?_
    obtain rfl := Option.some.inj r61
    exact k29 n25 _ _ (Nat.lt_succ_self _) ⟨(i0 + 1), hn28, ha_, (FrS.step e4.wf ((FrS.step e4.wf (FrS.refl (W := []) e4.wf) e22 Inn.nil).extR e41) e47 (hb42.fresh e22.next))⟩
   have r62 := ite_f h50 r37
   refine q_ (.bool false) ?_
   refine n_' ?_
   refine n_' ?_
   refine n_' ?_
   refine n_' ?_
   refine q_ (.bool false) ?_
   refine s_nil (k49 _ _ ?_)
   refine w_cond false (by kernel_rfl) rfl (fun h => by cases h) (fun _ => ?_)
   refine w_skip ?_
   refine k34 _ _ ?_
   refine g_' ?_
   obtain ⟨g63, r64⟩ := G_some r62
   refine s_w ((i0 + 1)) (k := .i64) (x := (i0 + 1)) (by kernel_rfl) (wrap64 (by have := g63; omega)) ?_
   refine q_ (i_ (i0 + 1)) ?_
   refine s_nil ?_
   obtain rfl := Option.some.inj r64
   exact k29 n25 _ _ (Nat.lt_succ_self _) ⟨(i0 + 1), hn28, ha_, (FrS.step e4.wf ((FrS.step e4.wf (FrS.refl (W := []) e4.wf) e22 Inn.nil).extR e41) e47 (hb42.fresh e22.next))⟩
  have r65 := ite_f h32 hz27
  refine w_exit (th_exit (th_exit (bl_eq ?_)))
  obtain rfl := Option.some.inj r65
  obtain rfl := it_inr hn28
  exact k17 _ _ ⟨_, rfl, trivial, (FrS.step e4.wf (FrS.refl (W := []) e4.wf) e22 Inn.nil)⟩
 obtain ⟨o11, rfl, hh18, e16⟩ := hM
 have r66 := elim_inr r13
 obtain ⟨β, rfl⟩ := has_ex hh18
 clear hh18
 refine k8 _ _ ?_
 refine w_seqk fun _ k67 => ?_
 refine g_' ?_
 refine q_ (.int .u64 0) ?_
 refine q_ (.bool false) ?_
 refine s_nil (k67 _ _ ?_)
 refine w_ret ?_
 refine b_ret (fn := Tryz.f33) (vs := [.int .u64 0, .bool false]) (aRes_tmp (by kernel_rfl) (aRes_tmp (by kernel_rfl) (rfl))) ?_
 obtain rfl := Option.some.inj r66
 exact ⟨rfl, (FrS.step wf ((FrS.refl (W := []) wf).extR e4) e16 Inn.nil)⟩

theorem c_viaductref11_Len {H : AH} {hd_Alive : Value} {fp_Alive : Fp} {hd_Arcs : Value} {fp_Arcs : Fp} {Alive : List (Bool)} {Arcs : List (Int × Int × Int × Int)} {r : Int}
    (wf : WF H) (h_Alive : Sq encB 1 H hd_Alive Alive fp_Alive) (h_Arcs : Sq enc_i64_i64_u64_i64 4 H hd_Arcs Arcs fp_Arcs) (hr : z_viaductref11_Len Alive Arcs = some r) :
    ACalls Tryz.prog 34 #[.agg #[hd_Alive, hd_Arcs]] H fun v H' => v = i_ r ∧ FrS [] H H' := by
 refine acalls_of_body mixed Tryz.func34 rfl (Nat.le_of_ble_eq_true rfl) ?_
 unfold z_viaductref11_Len at hr
 refine w_seqk fun _ k1 => ?_
 refine g_' ?_
 refine s_rwl wf [hd_Alive, hd_Arcs] (one_cons (h_Alive.one1) (one_cons (h_Arcs.one1) (one_nil))) (by kernel_rfl) fun b2 H3 e4 hb5 r6 => ?_
 refine q_ (i_ 0) ?_
 refine s_nil (k1 _ _ ?_)
 refine w_seqk fun _ k8 => ?_
 refine g_' ?_
 refine q_ (i_ 0) ?_
 refine s_nil (k8 _ _ ?_)
 refine w_seqk fun _ k9 => ?_
 refine w_seqk fun _ k10 => ?_
 refine g_' ?_
 refine q_ (pt_ b2 0) ?_
 refine l_' (hd_Alive) (aLoad Tryz.prog 37 (pt_ b2 0) H3) (r6.ld (by kernel_rfl)) ?_
 have u11 := (h_Alive.ext e4)
 refine l_' (i_ (Alive.length : Int)) (aLen Tryz.prog 37 hd_Alive H3) (u11.lenb (by kernel_rfl)) ?_
 refine q_ (i_ 0) ?_
 refine s_nil (k10 _ _ ?_)
 obtain ⟨o12, hx13, r14⟩ := bind_some hr
 refine w_mid (fun α H15 => Has α [(3, i_ o12)] ∧ H3 = H15) (fun _ k17 => ?_) (fun α H15 hM => ?_)
 ·refine w_block ?_
  obtain ⟨n19, hn20⟩ := loopO_iff.1 hx13
  refine w_loopn (fun n α H21 => ∃ (n0 : Int), ∃ (i1 : Int), iterO (fun zz_ => z_viaductref11_Len_l0 Alive zz_.1 zz_.2) n (n0, i1) = some o12 ∧ Has α [(3, i_ n0), (7, hd_Alive), (8, i_ (Alive.length : Int)), (9, i_ i1)] ∧ H3 = H21) n19 ⟨0, 0, hn20, ha_, rfl⟩ ?_
  rintro n19 α H21 ⟨n0, i1, hi24, hh23, rfl⟩ K29 k29
  obtain ⟨n25, z26, rfl, hz27, hn28⟩ := iter_succ hi24
  obtain ⟨β, rfl⟩ := has_ex hh23
  clear hh23
  replace hz27 : z_viaductref11_Len_l0 Alive n0 i1 = some z26 := hz27
  unfold z_viaductref11_Len_l0 at hz27
  refine w_seqk fun _ k30 => ?_
  refine g_' ?_
  refine q_ (.bool (decide (i1 < (Alive.length : Int)))) ?_
  refine s_nil (k30 _ _ ?_)
  refine w_seqk fun _ k31 => ?_
  refine w_condp (i1 < (Alive.length : Int)) (by kernel_rfl) rfl (fun h32 => ?_) (fun h32 => ?_)
  ·have r33 := ite_t h32 hz27
   refine w_skip ?_
   refine k31 _ _ ?_
   refine w_seqk fun _ k34 => ?_
   refine w_block ?_
   refine w_seqk fun _ k35 => ?_
   refine g_' ?_
   obtain ⟨g36, r37⟩ := G_some r33
   refine l_' (elp hd_Alive 1 i1.toNat 0) (aIndexAddr Tryz.prog 37 hd_Alive (i_ i1)) (u11.idxb (by kernel_rfl) g36 h32) ?_
   refine l_' (.bool (gt Alive i1)) (aLoad Tryz.prog 4 (elp hd_Alive 1 i1.toNat 0) H3) (u11.ld g36 h32 (by kernel_rfl)) ?_
   refine q_ (.bool (gt Alive i1)) ?_
   refine s_nil (k35 _ _ ?_)
   refine w_seqk fun _ k38 => ?_
   refine g_' ?_
   refine q_ (.bool (gt Alive i1)) ?_
   refine s_nil (k38 _ _ ?_)
   refine w_cond ((gt Alive i1)) (by kernel_rfl) rfl (fun h39 => ?_) (fun h39 => ?_)
   ·have r40 := ite_t h39 r37
    refine g_' ?_
    refine q_ (i_ n0) ?_
    obtain ⟨g41, r42⟩ := G_some r40
    refine s_w ((n0 + 1)) (k := .i64) (x := (n0 + 1)) (by kernel_rfl) (wrap64 g41) ?_
    refine q_ (i_ (n0 + 1)) ?_
    refine s_nil (k34 _ _ ?_)
    refine g_' ?_
    obtain ⟨g43, r44⟩ := G_some r42
    refine s_w ((i1 + 1)) (k := .i64) (x := (i1 + 1)) (by kernel_rfl) (wrap64 (by have := g43; omega)) ?_
    refine q_ (i_ (i1 + 1)) ?_
    refine s_nil ?_
    obtain rfl := Option.some.inj r44
    exact k29 n25 _ _ (Nat.lt_succ_self _) ⟨(n0 + 1), (i1 + 1), hn28, ha_, rfl⟩
   have r45 := ite_bf h39 r37
   refine w_skip ?_
   refine k34 _ _ ?_
   refine g_' ?_
   obtain ⟨g46, r47⟩ := G_some r45
   refine s_w ((i1 + 1)) (k := .i64) (x := (i1 + 1)) (by kernel_rfl) (wrap64 (by have := g46; omega)) ?_
   refine q_ (i_ (i1 + 1)) ?_
   refine s_nil ?_
   obtain rfl := Option.some.inj r47
   exact k29 n25 _ _ (Nat.lt_succ_self _) ⟨n0, (i1 + 1), hn28, ha_, rfl⟩
  have r48 := ite_f h32 hz27
  refine w_exit (th_exit (th_exit (bl_eq ?_)))
  obtain rfl := Option.some.inj r48
  obtain rfl := it_inr hn28
  exact k17 _ _ ⟨ha_, rfl⟩
 obtain ⟨hh18, rfl⟩ := hM
 obtain ⟨β, rfl⟩ := has_ex hh18
 clear hh18
 refine k9 _ _ ?_
 refine w_seqk fun _ k49 => ?_
 refine g_' ?_
 refine q_ (i_ o12) ?_
 refine q_ (i_ o12) ?_
 refine s_nil (k49 _ _ ?_)
 refine w_ret ?_
 refine b_ret (fn := Tryz.f34) (vs := [i_ o12]) (aRes_tmp (by kernel_rfl) (rfl)) ?_
 obtain rfl := Option.some.inj r14
 exact ⟨rfl, ((FrS.refl (W := []) wf).extR e4)⟩


end Go.Vd

/-! (KOp6) -/

set_option maxRecDepth 100000
set_option maxHeartbeats 4000000
set_option linter.unusedVariables false
namespace Go.Vd
open Go.Proofs
attribute [local irreducible] wpSeq wpOrd aWp
theorem c_viaductlaw11_step {H : AH} {b_o : Nat} {hd_o_ : Value} {fp_o_ : Fp} {hd_Alive : Value} {fp_Alive : Fp} {hd_Arcs : Value} {fp_Arcs : Fp} {o_ : List (Bool × List (Int × Int × Int) × List (Int × Int × Int))} {o_2 : Int} {o_3 : Int} {Alive : List (Bool)} {Arcs : List (Int × Int × Int × Int)} {Kind : Int} {U : Int} {W : Int} {Weight : Int} {Via : Int} {r : List (Bool) × List (Int × Int × Int × Int) × Bool × List (Bool × List (Int × Int × Int) × List (Int × Int × Int)) × Int × Int}
    (wf : WF H) (h_o_ : Nd enc_i64_u64_i64 3 H hd_o_ o_ fp_o_ []) (h_o : Row H b_o [hd_o_, i_ o_2, i_ o_3]) (h_Alive : Sq encB 1 H hd_Alive Alive fp_Alive) (h_Arcs : Sq enc_i64_i64_u64_i64 4 H hd_Arcs Arcs fp_Arcs) (dj_b_o_fp_o_ : Dj [b_o] fp_o_) (dj_fp_o__fp_Alive : Dj fp_o_ fp_Alive) (dj_b_o_fp_Alive : Dj [b_o] fp_Alive) (dj_fp_o__fp_Arcs : Dj fp_o_ fp_Arcs) (dj_b_o_fp_Arcs : Dj [b_o] fp_Arcs) (dj_fp_Alive_fp_Arcs : Dj fp_Alive fp_Arcs) (dj_fp_Arcs_fp_Alive : Dj fp_Arcs fp_Alive) (dj_fp_o__b_o : Dj fp_o_ [b_o]) (dj_fp_Alive_fp_o_ : Dj fp_Alive fp_o_) (dj_fp_Arcs_fp_o_ : Dj fp_Arcs fp_o_) (hr : z_viaductlaw11_step o_ o_2 o_3 Alive Arcs Kind U W Weight Via = some r) :
    ACalls Tryz.prog 10 #[pt_ b_o 0, .agg #[hd_Alive, hd_Arcs], .agg #[.int .u8 Kind, i_ U, i_ W, .int .u64 Weight, i_ Via]] H fun v H' => ∃ (s3 : Value) (f4 : Fp) (s7 : Value) (f8 : Fp) (f11 : Fp), v = .tuple #[.agg #[s3, s7], .bool r.2.2.1] ∧ FrS ([b_o] ++ fp_o_) H H' ∧ Sq encB 1 H' s3 r.1 f4 ∧ Sq enc_i64_i64_u64_i64 4 H' s7 r.2.1 f8 ∧ Nd enc_i64_u64_i64 3 H' hd_o_ r.2.2.2.1 f11 [] ∧ Row H' b_o [hd_o_, i_ r.2.2.2.2.1, i_ r.2.2.2.2.2] ∧ Inn fp_Alive H f4 ∧ Inn fp_Arcs H f8 ∧ Inn fp_o_ H f11 ∧ Dj f4 f8 ∧ Dj f4 f11 ∧ Dj f8 f11 := by
 refine acalls_of_body mixed Tryz.func10 rfl (Nat.le_of_ble_eq_true rfl) ?_
 unfold z_viaductlaw11_step at hr
 refine w_seqk fun _ k20 => ?_
 refine g_' ?_
 refine s_rwl wf [hd_Alive, hd_Arcs] (one_cons (h_Alive.one1) (one_cons (h_Arcs.one1) (one_nil))) (by kernel_rfl) fun b21 H22 e23 hb24 r25 => ?_
 refine s_rwl e23.wf [.int .u8 Kind, i_ U, i_ W, .int .u64 Weight, i_ Via] (one_cons (rfl) (one_cons (rfl) (one_cons (rfl) (one_cons (rfl) (one_cons (rfl) (one_nil)))))) (by kernel_rfl) fun b27 H28 e29 hb30 r31 => ?_
 refine s_rwk e29.wf [.slice none 0 0, .slice none 0 0] (by kernel_rfl) fun b33 H34 e35 hb36 r37 => ?_
 refine q_ (.bool false) ?_
 refine s_nil (k20 _ _ ?_)
 refine w_seqk fun _ k39 => ?_
 refine w_seqk fun _ k40 => ?_
 refine g_' ?_
 refine q_ (pt_ b27 0) ?_
 have u41 := (r31.ext e35)
 refine l_' (.int .u8 Kind) (aLoad Tryz.prog 5 (pt_ b27 0) H34) (u41.ld (by kernel_rfl)) ?_
 refine s_nil (k40 _ _ ?_)
 refine w_block ?_
 refine w_seqk fun _ k42 => ?_
 refine g_' ?_
 refine q_ (.bool (decide (Kind = 1))) ?_
 refine q_ (.bool (decide (Kind = 1))) ?_
 refine s_nil (k42 _ _ ?_)
 refine w_condp (Kind = 1) (by kernel_rfl) rfl (fun h43 => ?_) (fun h43 => ?_)
 ·have r44 := ite_t h43 hr
  refine w_seqk fun _ k45 => ?_
  refine g_' ?_
  refine q_ (pt_ b_o 0) ?_
  refine q_ (pt_ b27 1) ?_
  refine l_' (i_ U) (aLoad Tryz.prog 3 (pt_ b27 1) H34) (u41.ld (by kernel_rfl)) ?_
  refine q_ (pt_ b27 2) ?_
  refine l_' (i_ W) (aLoad Tryz.prog 3 (pt_ b27 2) H34) (u41.ld (by kernel_rfl)) ?_
  refine q_ (pt_ b27 3) ?_
  refine l_' (.int .u64 Weight) (aLoad Tryz.prog 43 (pt_ b27 3) H34) (u41.ld (by kernel_rfl)) ?_
  refine q_ (pt_ b27 4) ?_
  refine l_' (i_ Via) (aLoad Tryz.prog 3 (pt_ b27 4) H34) (u41.ld (by kernel_rfl)) ?_
  have u46 := (((h_o_.ext e23).ext e29).ext e35)
  have u47 := (((h_o.ext e23).ext e29).ext e35)
  obtain ⟨y48, hy49, r50⟩ := bind_some r44
  refine s_ck 19 #[pt_ b_o 0, i_ U, i_ W, .int .u64 Weight, i_ Via] (by kernel_rfl) (c_overlay_Overlay_Put e35.wf u46 u47 dj_b_o_fp_o_ hy49) ?_
  rintro _ H54 ⟨v51, f52, f53, rfl, e55, m56, m57, m58, i59, i60, d61⟩
  refine q_ (.tuple #[.bool y48.1, v51]) ?_
  refine q_ (.bool y48.1) ?_
  refine q_ (v51) ?_
  refine q_ (.bool y48.1) ?_
  refine q_ (v51) ?_
  refine s_nil (k45 _ _ ?_)
  refine w_seqk fun _ k63 => ?_
  refine g_' ?_
  have u64 := (((r25.ext e29).ext e35).frS e55 (Dj.app (Dj.symm (hb24.djn h_o.ltF)) (Dj.symm (hb24.djn h_o_.lt))))
  refine l_' (.agg #[hd_Alive, hd_Arcs]) (aLoad Tryz.prog 40 (pt_ b21 0) H54) (u64.ld (by kernel_rfl)) ?_
  refine q_ (pt_ b27 1) ?_
  have u65 := (u41.frS e55 (Dj.app (Dj.symm (hb30.djn (h_o.ltF.le e23.next))) (Dj.symm (hb30.djn (h_o_.lt.le e23.next)))))
  refine l_' (i_ U) (aLoad Tryz.prog 3 (pt_ b27 1) H54) (u65.ld (by kernel_rfl)) ?_
  refine q_ (pt_ b27 2) ?_
  refine l_' (i_ W) (aLoad Tryz.prog 3 (pt_ b27 2) H54) (u65.ld (by kernel_rfl)) ?_
  refine q_ (pt_ b27 3) ?_
  refine l_' (.int .u64 Weight) (aLoad Tryz.prog 43 (pt_ b27 3) H54) (u65.ld (by kernel_rfl)) ?_
  refine q_ (pt_ b27 4) ?_
  refine l_' (i_ Via) (aLoad Tryz.prog 3 (pt_ b27 4) H54) (u65.ld (by kernel_rfl)) ?_
  have u66 := ((((h_Alive.ext e23).ext e29).ext e35).fr e55 (Dj.app dj_b_o_fp_Alive dj_fp_o__fp_Alive))
  have u67 := ((((h_Arcs.ext e23).ext e29).ext e35).fr e55 (Dj.app dj_b_o_fp_Arcs dj_fp_o__fp_Arcs))
  obtain ⟨y68, hy69, r70⟩ := bind_some r50
  refine s_ck 28 #[.agg #[hd_Alive, hd_Arcs], i_ U, i_ W, .int .u64 Weight, i_ Via] (by kernel_rfl) (c_viaductref11_DocPut e55.wf u66 u67 hy69) ?_
  rintro _ H71 ⟨rfl, e72⟩
  refine s_rwk e72.wf [i_ 0, .slice none 0 0] (by kernel_rfl) fun b73 H74 e75 hb76 r77 => ?_
  obtain ⟨H79, q80, e81, r82⟩ := Row.store (P := Tryz.prog) (t := 34) (p := 0) e75.wf r77 (.agg #[i_ y68, .slice none 0 0]) [i_ y68, .slice none 0 0] (by kernel_rfl) (by kernel_rfl) (one_cons (rfl) (one_cons (rfl) (one_nil))) (Nat.le_of_ble_eq_true (by kernel_rfl)) [i_ y68, .slice none 0 0] (by kernel_rfl)
  refine s_ek (undef) (by kernel_rfl) (map_ok q80) ?_
  refine s_nil (k63 _ _ ?_)
  refine w_seqk fun _ k83 => ?_
  refine w_seqk fun _ k84 => ?_
  refine g_' ?_
  refine l_' (.agg #[i_ y68, .slice none 0 0]) (aLoad Tryz.prog 34 (pt_ b73 0) H79) (r82.ld (by kernel_rfl)) ?_
  obtain ⟨y85, hy86, r87⟩ := bind_some r70
  refine s_ck 7 #[.agg #[i_ y68, .slice none 0 0]] (by kernel_rfl) (c_viaductref01_Err_Bad e81.wf (Sq.nil (enc := enc_i64_i64) (sz := 2) (by decide)) hy86) ?_
  rintro _ H88 ⟨rfl, e89⟩
  refine s_nil (k84 _ _ ?_)
  refine w_cond (y85) (by kernel_rfl) rfl (fun h90 => ?_) (fun h90 => ?_)
  ·have r91 := ite_t h90 r87
   refine w_seqk fun _ k92 => ?_
   obtain ⟨o93, hx94, r95⟩ := bind_some r91
   refine w_mid (fun α H96 => Has α [(6, pt_ b33 0), (7, .bool o93)] ∧ FrS [b33] H88 H96 ∧ Row H96 b33 [hd_Alive, hd_Arcs]) (fun _ k100 => ?_) (fun α H96 hM => ?_)
   ·refine w_draw [0, 1, 2, 3, 4, 5, 6, 7, 8, 9] (by kernel_rfl) ?_
    have u102 := ((((u64.frS e72 Dj.nil_l).ext e75).frS e81 (hb76.djn (r25.ltF.le (ntr (ntr (ntr e29.next e35.next) e55.next) e72.next)))).frS e89 Dj.nil_l)
    refine d_fl (.agg #[hd_Alive, hd_Arcs]) (x := aLoad Tryz.prog 40 (pt_ b21 0) H88) (by kernel_rfl) (u102.ld (by kernel_rfl)) ?_
    refine e_' (.bool y48.1) ?_
    refine e_' (.bool (!y48.1)) ?_
    refine e_' (.bool (!y48.1)) ?_
    by_cases h103 : (!y48.1) = true
    ·have r104 := ite_t h103 hx94
     rw [h103]
     refine e_' (v51) ?_
     have u105 := (r82.frS e89 Dj.nil_l)
     refine m_' (.agg #[i_ y68, .slice none 0 0]) (aLoad Tryz.prog 34 (pt_ b73 0) H88) (u105.ld (by kernel_rfl)) ?_
     have u106 := ((((m56.fr e72 Dj.nil_l).ext e75).fr e81 (hb76.djn (m56.lt.le e72.next))).fr e89 Dj.nil_l)
     obtain ⟨y107, hy108, r109⟩ := bind_some r104
     refine d_ck 8 #[v51, .agg #[i_ y68, .slice none 0 0]] (by kernel_rfl) (c_viaductseen_Same e89.wf u106 (Sq.nil (enc := enc_i64_i64) (sz := 2) (by decide)) hy108) ?_
     rintro _ H110 ⟨rfl, e111⟩
     have u112 := (u102.frS e111 Dj.nil_l)
     refine ⟨st_ql (y := aLoad Tryz.prog 40 (pt_ b21 0) H110) (by kernel_rfl) (u112.ld (by kernel_rfl)) (st_nil), ?_⟩
     refine e_' (.bool y107) ?_
     have u117 := ((((((r37.frS e55 (Dj.app (Dj.symm (hb36.djn (h_o.ltF.le (ntr e23.next e29.next)))) (Dj.symm (hb36.djn (h_o_.lt.le (ntr e23.next e29.next)))))).frS e72 Dj.nil_l).ext e75).frS e81 (hb76.djn (r37.ltF.le (ntr e55.next e72.next)))).frS e89 Dj.nil_l).frS e111 Dj.nil_l)
     have u118 := (((((u67.fr e72 Dj.nil_l).ext e75).fr e81 (hb76.djn (h_Arcs.lt.le (ntr (ntr (ntr (ntr e23.next e29.next) e35.next) e55.next) e72.next)))).fr e89 Dj.nil_l).fr e111 Dj.nil_l)
     have u119 := (((((u66.fr e72 Dj.nil_l).ext e75).fr e81 (hb76.djn (h_Alive.lt.le (ntr (ntr (ntr (ntr e23.next e29.next) e35.next) e55.next) e72.next)))).fr e89 Dj.nil_l).fr e111 Dj.nil_l)
     obtain ⟨H113, q114, e115, r116⟩ := Row.store (P := Tryz.prog) (t := 40) (p := 0) e111.wf u117 (.agg #[hd_Alive, hd_Arcs]) [hd_Alive, hd_Arcs] (by kernel_rfl) (by kernel_rfl) (one_cons (u119.one1) (one_cons (u118.one1) (one_nil))) (Nat.le_of_ble_eq_true (by kernel_rfl)) [hd_Alive, hd_Arcs] (by kernel_rfl)
     refine d_ek (undef) (by kernel_rfl) (map_ok q114) (st_anc (by kernel_rfl) (st_nil)) ?_
     refine e_' (.bool y107) ?_
     refine d_nil ?_
     obtain rfl := Option.some.inj r109
     exact k100 _ _ ⟨ha_, (FrS.step e89.wf (FrS.step e89.wf (FrS.refl (W := [b33]) e89.wf) e111 Inn.nil) e115 Inn.refl'), r116⟩
    have r120 := ite_f h103 hx94
    rw [nb h103]
    refine j_' ?_
    refine j_' ?_
    refine j_' ?_
    refine e_' (.bool false) ?_
    have u125 := (((((r37.frS e55 (Dj.app (Dj.symm (hb36.djn (h_o.ltF.le (ntr e23.next e29.next)))) (Dj.symm (hb36.djn (h_o_.lt.le (ntr e23.next e29.next)))))).frS e72 Dj.nil_l).ext e75).frS e81 (hb76.djn (r37.ltF.le (ntr e55.next e72.next)))).frS e89 Dj.nil_l)
    have u126 := ((((u67.fr e72 Dj.nil_l).ext e75).fr e81 (hb76.djn (h_Arcs.lt.le (ntr (ntr (ntr (ntr e23.next e29.next) e35.next) e55.next) e72.next)))).fr e89 Dj.nil_l)
    have u127 := ((((u66.fr e72 Dj.nil_l).ext e75).fr e81 (hb76.djn (h_Alive.lt.le (ntr (ntr (ntr (ntr e23.next e29.next) e35.next) e55.next) e72.next)))).fr e89 Dj.nil_l)
    obtain ⟨H121, q122, e123, r124⟩ := Row.store (P := Tryz.prog) (t := 40) (p := 0) e89.wf u125 (.agg #[hd_Alive, hd_Arcs]) [hd_Alive, hd_Arcs] (by kernel_rfl) (by kernel_rfl) (one_cons (u127.one1) (one_cons (u126.one1) (one_nil))) (Nat.le_of_ble_eq_true (by kernel_rfl)) [hd_Alive, hd_Arcs] (by kernel_rfl)
    refine d_ek (undef) (by kernel_rfl) (map_ok q122) (st_anc (by kernel_rfl) (st_nil)) ?_
    refine e_' (.bool false) ?_
    refine d_nil ?_
    obtain rfl := Option.some.inj r120
    exact k100 _ _ ⟨ha_, (FrS.step e89.wf (FrS.refl (W := [b33]) e89.wf) e123 Inn.refl'), r124⟩
   obtain ⟨hh101, e97, m99⟩ := hM
   obtain ⟨β, rfl⟩ := has_ex hh101
   clear hh101
   refine k92 _ _ ?_
   refine w_ret (th_ret (bl_ret (th_ret ?_)))
   refine b_ret (fn := Tryz.f10) (vs := [.agg #[hd_Alive, hd_Arcs], .bool o93]) (aRes_cell (Eq.trans (b := aLoad Tryz.prog 40 (pt_ b33 0) H96) (by kernel_rfl) (m99.ld (by kernel_rfl))) (aRes_tmp (by kernel_rfl) (rfl))) ?_
   have u128 := (((((u66.fr e72 Dj.nil_l).ext e75).fr e81 (hb76.djn (h_Alive.lt.le (ntr (ntr (ntr (ntr e23.next e29.next) e35.next) e55.next) e72.next)))).fr e89 Dj.nil_l).fr e97 (hb36.djn (h_Alive.lt.le (ntr e23.next e29.next))))
   have u129 := (((((u67.fr e72 Dj.nil_l).ext e75).fr e81 (hb76.djn (h_Arcs.lt.le (ntr (ntr (ntr (ntr e23.next e29.next) e35.next) e55.next) e72.next)))).fr e89 Dj.nil_l).fr e97 (hb36.djn (h_Arcs.lt.le (ntr e23.next e29.next))))
   have u130 := (((((m57.fr e72 Dj.nil_l).ext e75).fr e81 (hb76.djn (m57.lt.le e72.next))).fr e89 Dj.nil_l).fr e97 (Dj.symm (i60.dj (Dj.symm (hb36.djn (h_o_.lt.le (ntr e23.next e29.next)))) r37.ltF)))
   have u131 := (((((m58.frS e72 Dj.nil_l).ext e75).frS e81 (hb76.djn (h_o.ltF.le (ntr (ntr (ntr (ntr e23.next e29.next) e35.next) e55.next) e72.next)))).frS e89 Dj.nil_l).frS e97 (hb36.djn (h_o.ltF.le (ntr e23.next e29.next))))
   obtain rfl := Option.some.inj r95
   exact ⟨(hd_Alive), fp_Alive, (hd_Arcs), fp_Arcs, f53, rfl, (FrS.step wf (FrS.step wf (FrS.step wf ((FrS.step wf (FrS.step wf ((((FrS.refl (W := ([b_o] ++ fp_o_)) wf).extR e23).extR e29).extR e35) e55 (Inn.app Inn.left (Inn.right Inn.refl'))) e72 Inn.nil).extR e75) e81 (hb76.fresh (ntr (ntr (ntr (ntr e23.next e29.next) e35.next) e55.next) e72.next))) e89 Inn.nil) e97 (hb36.fresh (ntr e23.next e29.next))), u128, u129, u130, u131, Inn.refl', Inn.refl', (Inn.trans Inn.refl' (ntr (ntr e23.next e29.next) e35.next) i60), dj_fp_Alive_fp_Arcs, (Dj.symm (i60.dj dj_fp_o__fp_Alive (h_Alive.lt.le (ntr (ntr e23.next e29.next) e35.next)))), (Dj.symm (i60.dj dj_fp_o__fp_Arcs (h_Arcs.lt.le (ntr (ntr e23.next e29.next) e35.next))))⟩
  have r132 := ite_bf h90 r87
  refine w_skip ?_
  refine k83 _ _ ?_
  refine w_seqk fun _ k133 => ?_
  refine g_' ?_
  have u134 := ((((u64.frS e72 Dj.nil_l).ext e75).frS e81 (hb76.djn (r25.ltF.le (ntr (ntr (ntr e29.next e35.next) e55.next) e72.next)))).frS e89 Dj.nil_l)
  refine l_' (.agg #[hd_Alive, hd_Arcs]) (aLoad Tryz.prog 40 (pt_ b21 0) H88) (u134.ld (by kernel_rfl)) ?_
  refine q_ (pt_ b27 1) ?_
  have u135 := ((((u65.frS e72 Dj.nil_l).ext e75).frS e81 (hb76.djn (r31.ltF.le (ntr (ntr e35.next e55.next) e72.next)))).frS e89 Dj.nil_l)
  refine l_' (i_ U) (aLoad Tryz.prog 3 (pt_ b27 1) H88) (u135.ld (by kernel_rfl)) ?_
  refine q_ (pt_ b27 2) ?_
  refine l_' (i_ W) (aLoad Tryz.prog 3 (pt_ b27 2) H88) (u135.ld (by kernel_rfl)) ?_
  refine q_ (pt_ b27 3) ?_
  refine l_' (.int .u64 Weight) (aLoad Tryz.prog 43 (pt_ b27 3) H88) (u135.ld (by kernel_rfl)) ?_
  refine q_ (pt_ b27 4) ?_
  refine l_' (i_ Via) (aLoad Tryz.prog 3 (pt_ b27 4) H88) (u135.ld (by kernel_rfl)) ?_
  refine q_ (.agg #[i_ U, i_ W, .int .u64 Weight, i_ Via]) ?_
  have u136 := ((((u66.fr e72 Dj.nil_l).ext e75).fr e81 (hb76.djn (h_Alive.lt.le (ntr (ntr (ntr (ntr e23.next e29.next) e35.next) e55.next) e72.next)))).fr e89 Dj.nil_l)
  have u137 := ((((u67.fr e72 Dj.nil_l).ext e75).fr e81 (hb76.djn (h_Arcs.lt.le (ntr (ntr (ntr (ntr e23.next e29.next) e35.next) e55.next) e72.next)))).fr e89 Dj.nil_l)
  obtain ⟨y138, hy139, r140⟩ := bind_some r132
  refine s_ck 29 #[.agg #[hd_Alive, hd_Arcs], .agg #[i_ U, i_ W, .int .u64 Weight, i_ Via]] (by kernel_rfl) (c_viaductref11_Put e89.wf u136 u137 hy139) ?_
  rintro _ H143 ⟨s141, f142, rfl, e144, m145, i146⟩
  obtain ⟨a148, n149, c150, rfl⟩ := m145.form
  refine q_ (.tuple #[.agg #[hd_Alive, .slice a148 n149 c150], .bool y138.2]) ?_
  refine q_ (.agg #[hd_Alive, .slice a148 n149 c150]) ?_
  refine q_ (.bool y138.2) ?_
  refine s_rwk e144.wf [.slice none 0 0, .slice none 0 0] (by kernel_rfl) fun b151 H152 e153 hb154 r155 => ?_
  have u161 := (m145.ext e153)
  have u162 := ((u136.fr e144 Dj.nil_l).ext e153)
  obtain ⟨H157, q158, e159, r160⟩ := Row.store (P := Tryz.prog) (t := 40) (p := 0) e153.wf r155 (.agg #[hd_Alive, .slice a148 n149 c150]) [hd_Alive, .slice a148 n149 c150] (by kernel_rfl) (by kernel_rfl) (one_cons (u162.one1) (one_cons (u161.one1) (one_nil))) (Nat.le_of_ble_eq_true (by kernel_rfl)) [hd_Alive, .slice a148 n149 c150] (by kernel_rfl)
  refine s_ek (undef) (by kernel_rfl) (map_ok q158) ?_
  refine q_ (.bool y138.2) ?_
  refine s_nil (k133 _ _ ?_)
  refine w_seqk fun _ k163 => ?_
  refine w_draw [0, 1, 2, 3, 4, 5, 6, 7, 8, 9] (by kernel_rfl) ?_
  refine m_' (.agg #[hd_Alive, .slice a148 n149 c150]) (aLoad Tryz.prog 40 (pt_ b151 0) H157) (r160.ld (by kernel_rfl)) ?_
  refine e_' (v51) ?_
  have u167 := (((((((m56.fr e72 Dj.nil_l).ext e75).fr e81 (hb76.djn (m56.lt.le e72.next))).fr e89 Dj.nil_l).fr e144 Dj.nil_l).ext e153).fr e159 (hb154.djn (m56.lt.le (ntr (ntr (ntr (ntr e72.next e75.next) e81.next) e89.next) e144.next))))
  rcases (u167).cases with ⟨h164, rfl⟩ | ⟨h164, t165, x166, rfl⟩
  ·have r168 := ite_t h164 r140
   refine e_' (.bool true) ?_
   refine e_' (.bool true) ?_
   refine e_' (.bool y48.1) ?_
   refine e_' (.bool y138.2) ?_
   refine e_' (.bool (decide (y48.1 = y138.2))) ?_
   refine e_' (.bool (decide (y48.1 = y138.2))) ?_
   have u173 := ((((((((r37.frS e55 (Dj.app (Dj.symm (hb36.djn (h_o.ltF.le (ntr e23.next e29.next)))) (Dj.symm (hb36.djn (h_o_.lt.le (ntr e23.next e29.next)))))).frS e72 Dj.nil_l).ext e75).frS e81 (hb76.djn (r37.ltF.le (ntr e55.next e72.next)))).frS e89 Dj.nil_l).frS e144 Dj.nil_l).ext e153).frS e159 (hb154.djn (r37.ltF.le (ntr (ntr (ntr (ntr (ntr e55.next e72.next) e75.next) e81.next) e89.next) e144.next))))
   have u174 := (u161.fr e159 (hb154.djn m145.lt))
   have u175 := (u162.fr e159 (hb154.djn (h_Alive.lt.le (ntr (ntr (ntr (ntr (ntr (ntr (ntr (ntr e23.next e29.next) e35.next) e55.next) e72.next) e75.next) e81.next) e89.next) e144.next))))
   obtain ⟨H169, q170, e171, r172⟩ := Row.store (P := Tryz.prog) (t := 40) (p := 0) e159.wf u173 (.agg #[hd_Alive, .slice a148 n149 c150]) [hd_Alive, .slice a148 n149 c150] (by kernel_rfl) (by kernel_rfl) (one_cons (u175.one1) (one_cons (u174.one1) (one_nil))) (Nat.le_of_ble_eq_true (by kernel_rfl)) [hd_Alive, .slice a148 n149 c150] (by kernel_rfl)
   refine d_ek (undef) (by kernel_rfl) (map_ok q170) (st_nil) ?_
   refine e_' (.bool (decide (y48.1 = y138.2))) ?_
   refine d_nil ?_
   refine k163 _ _ ?_
   refine w_ret (bl_ret (th_ret ?_))
   refine b_ret (fn := Tryz.f10) (vs := [.agg #[hd_Alive, .slice a148 n149 c150], .bool (decide (y48.1 = y138.2))]) (aRes_cell (Eq.trans (b := aLoad Tryz.prog 40 (pt_ b33 0) H169) (by kernel_rfl) (r172.ld (by kernel_rfl))) (aRes_tmp (by kernel_rfl) (rfl))) ?_
   have u176 := (u175.fr e171 (hb36.djn (h_Alive.lt.le (ntr e23.next e29.next))))
   have u177 := (u174.fr e171 (Dj.symm (i146.dj (Dj.symm (hb36.djn (h_Arcs.lt.le (ntr e23.next e29.next)))) (r37.ltF.le (ntr (ntr (ntr (ntr e55.next e72.next) e75.next) e81.next) e89.next)))))
   have u178 := ((((((((m57.fr e72 Dj.nil_l).ext e75).fr e81 (hb76.djn (m57.lt.le e72.next))).fr e89 Dj.nil_l).fr e144 Dj.nil_l).ext e153).fr e159 (hb154.djn (m57.lt.le (ntr (ntr (ntr (ntr e72.next e75.next) e81.next) e89.next) e144.next)))).fr e171 (Dj.symm (i60.dj (Dj.symm (hb36.djn (h_o_.lt.le (ntr e23.next e29.next)))) r37.ltF)))
   have u179 := ((((((((m58.frS e72 Dj.nil_l).ext e75).frS e81 (hb76.djn (h_o.ltF.le (ntr (ntr (ntr (ntr e23.next e29.next) e35.next) e55.next) e72.next)))).frS e89 Dj.nil_l).frS e144 Dj.nil_l).ext e153).frS e159 (hb154.djn (h_o.ltF.le (ntr (ntr (ntr (ntr (ntr (ntr (ntr (ntr e23.next e29.next) e35.next) e55.next) e72.next) e75.next) e81.next) e89.next) e144.next)))).frS e171 (hb36.djn (h_o.ltF.le (ntr e23.next e29.next))))
   obtain rfl := Option.some.inj r168
   exact ⟨(hd_Alive), fp_Alive, (.slice a148 n149 c150), f142, f53, rfl, (FrS.step wf (FrS.step wf ((FrS.step wf (FrS.step wf (FrS.step wf ((FrS.step wf (FrS.step wf ((((FrS.refl (W := ([b_o] ++ fp_o_)) wf).extR e23).extR e29).extR e35) e55 (Inn.app Inn.left (Inn.right Inn.refl'))) e72 Inn.nil).extR e75) e81 (hb76.fresh (ntr (ntr (ntr (ntr e23.next e29.next) e35.next) e55.next) e72.next))) e89 Inn.nil) e144 Inn.nil).extR e153) e159 (hb154.fresh (ntr (ntr (ntr (ntr (ntr (ntr (ntr (ntr e23.next e29.next) e35.next) e55.next) e72.next) e75.next) e81.next) e89.next) e144.next))) e171 (hb36.fresh (ntr e23.next e29.next))), u176, u177, u178, u179, Inn.refl', (Inn.trans Inn.refl' (ntr (ntr (ntr (ntr (ntr (ntr (ntr e23.next e29.next) e35.next) e55.next) e72.next) e75.next) e81.next) e89.next) i146), (Inn.trans Inn.refl' (ntr (ntr e23.next e29.next) e35.next) i60), (Dj.symm (i146.dj dj_fp_Arcs_fp_Alive (h_Alive.lt.le (ntr (ntr (ntr (ntr (ntr (ntr (ntr e23.next e29.next) e35.next) e55.next) e72.next) e75.next) e81.next) e89.next)))), (Dj.symm (i60.dj dj_fp_o__fp_Alive (h_Alive.lt.le (ntr (ntr e23.next e29.next) e35.next)))), (i146.dj (Dj.symm (i60.dj dj_fp_o__fp_Arcs (h_Arcs.lt.le (ntr (ntr e23.next e29.next) e35.next)))) (m57.lt.le (ntr (ntr (ntr e72.next e75.next) e81.next) e89.next)))⟩
  have r180 := ite_f h164 r140
  refine m_' (.bool false) (aBin Tryz.prog .eql 29 (.tmp 70) (.const .nilIface) (.iface t165 x166) .nilIface) (aBin_nil (by kernel_rfl)) ?_
  refine e_' (.bool false) ?_
  refine j_' ?_
  refine j_' ?_
  refine j_' ?_
  refine e_' (.bool false) ?_
  have u185 := ((((((((r37.frS e55 (Dj.app (Dj.symm (hb36.djn (h_o.ltF.le (ntr e23.next e29.next)))) (Dj.symm (hb36.djn (h_o_.lt.le (ntr e23.next e29.next)))))).frS e72 Dj.nil_l).ext e75).frS e81 (hb76.djn (r37.ltF.le (ntr e55.next e72.next)))).frS e89 Dj.nil_l).frS e144 Dj.nil_l).ext e153).frS e159 (hb154.djn (r37.ltF.le (ntr (ntr (ntr (ntr (ntr e55.next e72.next) e75.next) e81.next) e89.next) e144.next))))
  have u186 := (u161.fr e159 (hb154.djn m145.lt))
  have u187 := (u162.fr e159 (hb154.djn (h_Alive.lt.le (ntr (ntr (ntr (ntr (ntr (ntr (ntr (ntr e23.next e29.next) e35.next) e55.next) e72.next) e75.next) e81.next) e89.next) e144.next))))
  obtain ⟨H181, q182, e183, r184⟩ := Row.store (P := Tryz.prog) (t := 40) (p := 0) e159.wf u185 (.agg #[hd_Alive, .slice a148 n149 c150]) [hd_Alive, .slice a148 n149 c150] (by kernel_rfl) (by kernel_rfl) (one_cons (u187.one1) (one_cons (u186.one1) (one_nil))) (Nat.le_of_ble_eq_true (by kernel_rfl)) [hd_Alive, .slice a148 n149 c150] (by kernel_rfl)
  refine d_ek (undef) (by kernel_rfl) (map_ok q182) (st_nil) ?_
  refine e_' (.bool false) ?_
  refine d_nil ?_
  refine k163 _ _ ?_
  refine w_ret (bl_ret (th_ret ?_))
  refine b_ret (fn := Tryz.f10) (vs := [.agg #[hd_Alive, .slice a148 n149 c150], .bool false]) (aRes_cell (Eq.trans (b := aLoad Tryz.prog 40 (pt_ b33 0) H181) (by kernel_rfl) (r184.ld (by kernel_rfl))) (aRes_tmp (by kernel_rfl) (rfl))) ?_
  have u188 := (u187.fr e183 (hb36.djn (h_Alive.lt.le (ntr e23.next e29.next))))
  have u189 := (u186.fr e183 (Dj.symm (i146.dj (Dj.symm (hb36.djn (h_Arcs.lt.le (ntr e23.next e29.next)))) (r37.ltF.le (ntr (ntr (ntr (ntr e55.next e72.next) e75.next) e81.next) e89.next)))))
  have u190 := ((((((((m57.fr e72 Dj.nil_l).ext e75).fr e81 (hb76.djn (m57.lt.le e72.next))).fr e89 Dj.nil_l).fr e144 Dj.nil_l).ext e153).fr e159 (hb154.djn (m57.lt.le (ntr (ntr (ntr (ntr e72.next e75.next) e81.next) e89.next) e144.next)))).fr e183 (Dj.symm (i60.dj (Dj.symm (hb36.djn (h_o_.lt.le (ntr e23.next e29.next)))) r37.ltF)))
  have u191 := ((((((((m58.frS e72 Dj.nil_l).ext e75).frS e81 (hb76.djn (h_o.ltF.le (ntr (ntr (ntr (ntr e23.next e29.next) e35.next) e55.next) e72.next)))).frS e89 Dj.nil_l).frS e144 Dj.nil_l).ext e153).frS e159 (hb154.djn (h_o.ltF.le (ntr (ntr (ntr (ntr (ntr (ntr (ntr (ntr e23.next e29.next) e35.next) e55.next) e72.next) e75.next) e81.next) e89.next) e144.next)))).frS e183 (hb36.djn (h_o.ltF.le (ntr e23.next e29.next))))
  obtain rfl := Option.some.inj r180
  exact ⟨(hd_Alive), fp_Alive, (.slice a148 n149 c150), f142, f53, rfl, (FrS.step wf (FrS.step wf ((FrS.step wf (FrS.step wf (FrS.step wf ((FrS.step wf (FrS.step wf ((((FrS.refl (W := ([b_o] ++ fp_o_)) wf).extR e23).extR e29).extR e35) e55 (Inn.app Inn.left (Inn.right Inn.refl'))) e72 Inn.nil).extR e75) e81 (hb76.fresh (ntr (ntr (ntr (ntr e23.next e29.next) e35.next) e55.next) e72.next))) e89 Inn.nil) e144 Inn.nil).extR e153) e159 (hb154.fresh (ntr (ntr (ntr (ntr (ntr (ntr (ntr (ntr e23.next e29.next) e35.next) e55.next) e72.next) e75.next) e81.next) e89.next) e144.next))) e183 (hb36.fresh (ntr e23.next e29.next))), u188, u189, u190, u191, Inn.refl', (Inn.trans Inn.refl' (ntr (ntr (ntr (ntr (ntr (ntr (ntr e23.next e29.next) e35.next) e55.next) e72.next) e75.next) e81.next) e89.next) i146), (Inn.trans Inn.refl' (ntr (ntr e23.next e29.next) e35.next) i60), (Dj.symm (i146.dj dj_fp_Arcs_fp_Alive (h_Alive.lt.le (ntr (ntr (ntr (ntr (ntr (ntr (ntr e23.next e29.next) e35.next) e55.next) e72.next) e75.next) e81.next) e89.next)))), (Dj.symm (i60.dj dj_fp_o__fp_Alive (h_Alive.lt.le (ntr (ntr e23.next e29.next) e35.next)))), (i146.dj (Dj.symm (i60.dj dj_fp_o__fp_Arcs (h_Arcs.lt.le (ntr (ntr e23.next e29.next) e35.next)))) (m57.lt.le (ntr (ntr (ntr e72.next e75.next) e81.next) e89.next)))⟩
 have r192 := ite_f h43 hr
 refine w_seqk fun _ k193 => ?_
 refine g_' ?_
 refine q_ (.bool (decide (Kind = 2))) ?_
 refine q_ (.bool (decide (Kind = 2))) ?_
 refine s_nil (k193 _ _ ?_)
 refine w_condp (Kind = 2) (by kernel_rfl) rfl (fun h194 => ?_) (fun h194 => ?_)
 ·have r195 := ite_t h194 r192
  refine w_seqk fun _ k196 => ?_
  refine g_' ?_
  refine q_ (pt_ b_o 0) ?_
  refine q_ (pt_ b27 1) ?_
  refine l_' (i_ U) (aLoad Tryz.prog 3 (pt_ b27 1) H34) (u41.ld (by kernel_rfl)) ?_
  have u197 := (((h_o_.ext e23).ext e29).ext e35)
  have u198 := (((h_o.ext e23).ext e29).ext e35)
  obtain ⟨y199, hy200, r201⟩ := bind_some r195
  refine s_ck 18 #[pt_ b_o 0, i_ U] (by kernel_rfl) (c_overlay_Overlay_Remove e35.wf u197 u198 dj_fp_o__b_o hy200) ?_
  rintro v202 H205 ⟨_, f203, f204, rfl, e206, m207, m208, m209, i210, i211, d212⟩
  refine q_ (v202) ?_
  refine s_nil (k196 _ _ ?_)
  refine w_seqk fun _ k214 => ?_
  refine w_seqk fun _ k215 => ?_
  refine g_' ?_
  have u216 := (((r25.ext e29).ext e35).frS e206 (Dj.app (Dj.symm (hb24.djn h_o.ltF)) (Dj.symm (hb24.djn h_o_.lt))))
  refine l_' (.agg #[hd_Alive, hd_Arcs]) (aLoad Tryz.prog 40 (pt_ b21 0) H205) (u216.ld (by kernel_rfl)) ?_
  refine q_ (pt_ b27 1) ?_
  have u217 := (u41.frS e206 (Dj.app (Dj.symm (hb30.djn (h_o.ltF.le e23.next))) (Dj.symm (hb30.djn (h_o_.lt.le e23.next)))))
  refine l_' (i_ U) (aLoad Tryz.prog 3 (pt_ b27 1) H205) (u217.ld (by kernel_rfl)) ?_
  have u218 := ((((h_Alive.ext e23).ext e29).ext e35).fr e206 (Dj.app dj_b_o_fp_Alive dj_fp_o__fp_Alive))
  have u219 := ((((h_Arcs.ext e23).ext e29).ext e35).fr e206 (Dj.app dj_b_o_fp_Arcs dj_fp_o__fp_Arcs))
  obtain ⟨y220, hy221, r222⟩ := bind_some r201
  refine s_ck 30 #[.agg #[hd_Alive, hd_Arcs], i_ U] (by kernel_rfl) (c_viaductref11_Lives e206.wf u218 u219 hy221) ?_
  rintro _ H223 ⟨rfl, e224⟩
  refine q_ (.bool (!y220)) ?_
  refine s_nil (k215 _ _ ?_)
  refine w_cond ((!y220)) (by kernel_rfl) rfl (fun h225 => ?_) (fun h225 => ?_)
  ·have r226 := ite_t h225 r222
   refine w_seqk fun _ k227 => ?_
   refine w_draw [0, 1, 2, 3, 4, 5] (by kernel_rfl) ?_
   have u228 := (u216.frS e224 Dj.nil_l)
   refine d_fl (.agg #[hd_Alive, hd_Arcs]) (x := aLoad Tryz.prog 40 (pt_ b21 0) H223) (by kernel_rfl) (u228.ld (by kernel_rfl)) ?_
   refine e_' (v202) ?_
   obtain ⟨y229, hy230, r231⟩ := bind_some r226
   refine d_ck 22 #[i_ 7] (by kernel_rfl) (c_viaductref01_E e224.wf hy230) ?_
   rintro _ H232 ⟨rfl, e233⟩
   have u234 := (u228.frS e233 Dj.nil_l)
   refine ⟨st_ql (y := aLoad Tryz.prog 40 (pt_ b21 0) H232) (by kernel_rfl) (u234.ld (by kernel_rfl)) (st_nil), ?_⟩
   have u235 := ((m207.fr e224 Dj.nil_l).fr e233 Dj.nil_l)
   obtain ⟨y236, hy237, r238⟩ := bind_some r231
   refine d_ck 8 #[v202, .agg #[i_ y229, .slice none 0 0]] (by kernel_rfl) (c_viaductseen_Same e233.wf u235 (Sq.nil (enc := enc_i64_i64) (sz := 2) (by decide)) hy237) ?_
   rintro _ H239 ⟨rfl, e240⟩
   have u241 := (u234.frS e240 Dj.nil_l)
   refine ⟨st_ql (y := aLoad Tryz.prog 40 (pt_ b21 0) H239) (by kernel_rfl) (u241.ld (by kernel_rfl)) (st_nil), ?_⟩
   have u246 := ((((r37.frS e206 (Dj.app (Dj.symm (hb36.djn (h_o.ltF.le (ntr e23.next e29.next)))) (Dj.symm (hb36.djn (h_o_.lt.le (ntr e23.next e29.next)))))).frS e224 Dj.nil_l).frS e233 Dj.nil_l).frS e240 Dj.nil_l)
   have u247 := (((u219.fr e224 Dj.nil_l).fr e233 Dj.nil_l).fr e240 Dj.nil_l)
   have u248 := (((u218.fr e224 Dj.nil_l).fr e233 Dj.nil_l).fr e240 Dj.nil_l)
   obtain ⟨H242, q243, e244, r245⟩ := Row.store (P := Tryz.prog) (t := 40) (p := 0) e240.wf u246 (.agg #[hd_Alive, hd_Arcs]) [hd_Alive, hd_Arcs] (by kernel_rfl) (by kernel_rfl) (one_cons (u248.one1) (one_cons (u247.one1) (one_nil))) (Nat.le_of_ble_eq_true (by kernel_rfl)) [hd_Alive, hd_Arcs] (by kernel_rfl)
   refine d_ek (undef) (by kernel_rfl) (map_ok q243) (st_anc (by kernel_rfl) (st_nil)) ?_
   refine e_' (.bool y236) ?_
   refine d_nil ?_
   refine k227 _ _ ?_
   refine w_ret (th_ret (bl_ret (th_ret ?_)))
   refine b_ret (fn := Tryz.f10) (vs := [.agg #[hd_Alive, hd_Arcs], .bool y236]) (aRes_cell (Eq.trans (b := aLoad Tryz.prog 40 (pt_ b33 0) H242) (by kernel_rfl) (r245.ld (by kernel_rfl))) (aRes_tmp (by kernel_rfl) (rfl))) ?_
   have u249 := (u248.fr e244 (hb36.djn (h_Alive.lt.le (ntr e23.next e29.next))))
   have u250 := (u247.fr e244 (hb36.djn (h_Arcs.lt.le (ntr e23.next e29.next))))
   have u251 := ((((m208.fr e224 Dj.nil_l).fr e233 Dj.nil_l).fr e240 Dj.nil_l).fr e244 (Dj.symm (i211.dj (Dj.symm (hb36.djn (h_o_.lt.le (ntr e23.next e29.next)))) r37.ltF)))
   have u252 := ((((m209.frS e224 Dj.nil_l).frS e233 Dj.nil_l).frS e240 Dj.nil_l).frS e244 (hb36.djn (h_o.ltF.le (ntr e23.next e29.next))))
   obtain rfl := Option.some.inj r238
   exact ⟨(hd_Alive), fp_Alive, (hd_Arcs), fp_Arcs, f204, rfl, (FrS.step wf (FrS.step wf (FrS.step wf (FrS.step wf (FrS.step wf ((((FrS.refl (W := ([b_o] ++ fp_o_)) wf).extR e23).extR e29).extR e35) e206 (Inn.app Inn.left (Inn.right Inn.refl'))) e224 Inn.nil) e233 Inn.nil) e240 Inn.nil) e244 (hb36.fresh (ntr e23.next e29.next))), u249, u250, u251, u252, Inn.refl', Inn.refl', (Inn.trans Inn.refl' (ntr (ntr e23.next e29.next) e35.next) i211), dj_fp_Alive_fp_Arcs, (Dj.symm (i211.dj dj_fp_o__fp_Alive (h_Alive.lt.le (ntr (ntr e23.next e29.next) e35.next)))), (Dj.symm (i211.dj dj_fp_o__fp_Arcs (h_Arcs.lt.le (ntr (ntr e23.next e29.next) e35.next))))⟩
  have r253 := ite_bf h225 r222
  refine w_skip ?_
  refine k214 _ _ ?_
  refine w_seqk fun _ k254 => ?_
  refine w_draw [0, 1, 2, 4, 5, 3, 6, 7] (by kernel_rfl) ?_
  have u255 := (u216.frS e224 Dj.nil_l)
  refine m_' (.agg #[hd_Alive, hd_Arcs]) (aLoad Tryz.prog 40 (pt_ b21 0) H223) (u255.ld (by kernel_rfl)) ?_
  refine e_' (pt_ b27 1) ?_
  have u256 := (u217.frS e224 Dj.nil_l)
  refine m_' (i_ U) (aLoad Tryz.prog 3 (pt_ b27 1) H223) (u256.ld (by kernel_rfl)) ?_
  refine e_' (v202) ?_
  have u260 := (m207.fr e224 Dj.nil_l)
  rcases (u260).cases with ⟨h257, rfl⟩ | ⟨h257, t258, x259, rfl⟩
  ·have r261 := ite_t h257 r253
   refine e_' (.bool true) ?_
   have u262 := (u218.fr e224 Dj.nil_l)
   have u263 := (u219.fr e224 Dj.nil_l)
   obtain ⟨y264, hy265, r266⟩ := bind_some r261
   refine d_ck 31 #[.agg #[hd_Alive, hd_Arcs], i_ U] (by kernel_rfl) (c_viaductref11_Remove e224.wf u262 u263 hy265) ?_
   rintro _ H271 ⟨s267, f268, s269, f270, rfl, e272, m273, m274, i275, i276, d277⟩
   obtain ⟨a280, n281, c282, rfl⟩ := m273.form
   obtain ⟨a283, n284, c285, rfl⟩ := m274.form
   refine ⟨st_nil, ?_⟩
   have u290 := (((r37.frS e206 (Dj.app (Dj.symm (hb36.djn (h_o.ltF.le (ntr e23.next e29.next)))) (Dj.symm (hb36.djn (h_o_.lt.le (ntr e23.next e29.next)))))).frS e224 Dj.nil_l).frS e272 Dj.nil_l)
   obtain ⟨H286, q287, e288, r289⟩ := Row.store (P := Tryz.prog) (t := 40) (p := 0) e272.wf u290 (.agg #[.slice a280 n281 c282, .slice a283 n284 c285]) [.slice a280 n281 c282, .slice a283 n284 c285] (by kernel_rfl) (by kernel_rfl) (one_cons (m273.one1) (one_cons (m274.one1) (one_nil))) (Nat.le_of_ble_eq_true (by kernel_rfl)) [.slice a280 n281 c282, .slice a283 n284 c285] (by kernel_rfl)
   refine d_ek (undef) (by kernel_rfl) (map_ok q287) (st_nil) ?_
   refine e_' (.bool true) ?_
   refine d_nil ?_
   refine k254 _ _ ?_
   refine w_ret (bl_ret (th_ret ?_))
   refine b_ret (fn := Tryz.f10) (vs := [.agg #[.slice a280 n281 c282, .slice a283 n284 c285], .bool true]) (aRes_cell (Eq.trans (b := aLoad Tryz.prog 40 (pt_ b33 0) H286) (by kernel_rfl) (r289.ld (by kernel_rfl))) (aRes_tmp (by kernel_rfl) (rfl))) ?_
   have u291 := (m273.fr e288 (Dj.symm (i275.djn (r37.ltF.le (ntr e206.next e224.next)))))
   have u292 := (m274.fr e288 (Dj.symm (i276.djn (r37.ltF.le (ntr e206.next e224.next)))))
   have u293 := (((m208.fr e224 Dj.nil_l).fr e272 Dj.nil_l).fr e288 (Dj.symm (i211.dj (Dj.symm (hb36.djn (h_o_.lt.le (ntr e23.next e29.next)))) r37.ltF)))
   have u294 := (((m209.frS e224 Dj.nil_l).frS e272 Dj.nil_l).frS e288 (hb36.djn (h_o.ltF.le (ntr e23.next e29.next))))
   obtain rfl := Option.some.inj r266
   exact ⟨(.slice a280 n281 c282), f268, (.slice a283 n284 c285), f270, f204, rfl, (FrS.step wf (FrS.step wf (FrS.step wf (FrS.step wf ((((FrS.refl (W := ([b_o] ++ fp_o_)) wf).extR e23).extR e29).extR e35) e206 (Inn.app Inn.left (Inn.right Inn.refl'))) e224 Inn.nil) e272 Inn.nil) e288 (hb36.fresh (ntr e23.next e29.next))), u291.sq, u292.sq, u293, u294, (i275.fresh (ntr (ntr (ntr (ntr e23.next e29.next) e35.next) e206.next) e224.next)), (i276.fresh (ntr (ntr (ntr (ntr e23.next e29.next) e35.next) e206.next) e224.next)), (Inn.trans Inn.refl' (ntr (ntr e23.next e29.next) e35.next) i211), d277, (i275.djn (m208.lt.le e224.next)), (i276.djn (m208.lt.le e224.next))⟩
  have r295 := ite_f h257 r253
  refine m_' (.bool false) (aBin Tryz.prog .eql 29 (.tmp 96) (.const .nilIface) (.iface t258 x259) .nilIface) (aBin_nil (by kernel_rfl)) ?_
  have u296 := (u218.fr e224 Dj.nil_l)
  have u297 := (u219.fr e224 Dj.nil_l)
  obtain ⟨y298, hy299, r300⟩ := bind_some r295
  refine d_ck 31 #[.agg #[hd_Alive, hd_Arcs], i_ U] (by kernel_rfl) (c_viaductref11_Remove e224.wf u296 u297 hy299) ?_
  rintro _ H305 ⟨s301, f302, s303, f304, rfl, e306, m307, m308, i309, i310, d311⟩
  obtain ⟨a314, n315, c316, rfl⟩ := m307.form
  obtain ⟨a317, n318, c319, rfl⟩ := m308.form
  refine ⟨st_nil, ?_⟩
  have u324 := (((r37.frS e206 (Dj.app (Dj.symm (hb36.djn (h_o.ltF.le (ntr e23.next e29.next)))) (Dj.symm (hb36.djn (h_o_.lt.le (ntr e23.next e29.next)))))).frS e224 Dj.nil_l).frS e306 Dj.nil_l)
  obtain ⟨H320, q321, e322, r323⟩ := Row.store (P := Tryz.prog) (t := 40) (p := 0) e306.wf u324 (.agg #[.slice a314 n315 c316, .slice a317 n318 c319]) [.slice a314 n315 c316, .slice a317 n318 c319] (by kernel_rfl) (by kernel_rfl) (one_cons (m307.one1) (one_cons (m308.one1) (one_nil))) (Nat.le_of_ble_eq_true (by kernel_rfl)) [.slice a314 n315 c316, .slice a317 n318 c319] (by kernel_rfl)
  refine d_ek (undef) (by kernel_rfl) (map_ok q321) (st_nil) ?_
  refine e_' (.bool false) ?_
  refine d_nil ?_
  refine k254 _ _ ?_
  refine w_ret (bl_ret (th_ret ?_))
  refine b_ret (fn := Tryz.f10) (vs := [.agg #[.slice a314 n315 c316, .slice a317 n318 c319], .bool false]) (aRes_cell (Eq.trans (b := aLoad Tryz.prog 40 (pt_ b33 0) H320) (by kernel_rfl) (r323.ld (by kernel_rfl))) (aRes_tmp (by kernel_rfl) (rfl))) ?_
  have u325 := (m307.fr e322 (Dj.symm (i309.djn (r37.ltF.le (ntr e206.next e224.next)))))
  have u326 := (m308.fr e322 (Dj.symm (i310.djn (r37.ltF.le (ntr e206.next e224.next)))))
  have u327 := (((m208.fr e224 Dj.nil_l).fr e306 Dj.nil_l).fr e322 (Dj.symm (i211.dj (Dj.symm (hb36.djn (h_o_.lt.le (ntr e23.next e29.next)))) r37.ltF)))
  have u328 := (((m209.frS e224 Dj.nil_l).frS e306 Dj.nil_l).frS e322 (hb36.djn (h_o.ltF.le (ntr e23.next e29.next))))
  obtain rfl := Option.some.inj r300
  exact ⟨(.slice a314 n315 c316), f302, (.slice a317 n318 c319), f304, f204, rfl, (FrS.step wf (FrS.step wf (FrS.step wf (FrS.step wf ((((FrS.refl (W := ([b_o] ++ fp_o_)) wf).extR e23).extR e29).extR e35) e206 (Inn.app Inn.left (Inn.right Inn.refl'))) e224 Inn.nil) e306 Inn.nil) e322 (hb36.fresh (ntr e23.next e29.next))), u325.sq, u326.sq, u327, u328, (i309.fresh (ntr (ntr (ntr (ntr e23.next e29.next) e35.next) e206.next) e224.next)), (i310.fresh (ntr (ntr (ntr (ntr e23.next e29.next) e35.next) e206.next) e224.next)), (Inn.trans Inn.refl' (ntr (ntr e23.next e29.next) e35.next) i211), d311, (i309.djn (m208.lt.le e224.next)), (i310.djn (m208.lt.le e224.next))⟩
 have r329 := ite_f h194 r192
 refine w_seqk fun _ k330 => ?_
 refine g_' ?_
 refine q_ (.bool (decide (Kind = 3))) ?_
 refine q_ (.bool (decide (Kind = 3))) ?_
 refine s_nil (k330 _ _ ?_)
 refine w_condp (Kind = 3) (by kernel_rfl) rfl (fun h331 => ?_) (fun h331 => ?_)
 ·have r332 := ite_t h331 r329
  refine w_seqk fun _ k333 => ?_
  refine w_draw [0, 1, 2, 3, 5, 6, 7, 4, 8, 9, 10, 11] (by kernel_rfl) ?_
  have u334 := ((r25.ext e29).ext e35)
  refine d_fl (.agg #[hd_Alive, hd_Arcs]) (x := aLoad Tryz.prog 40 (pt_ b21 0) H34) (by kernel_rfl) (u334.ld (by kernel_rfl)) ?_
  refine e_' (pt_ b_o 0) ?_
  refine e_' (pt_ b27 1) ?_
  refine m_' (i_ U) (aLoad Tryz.prog 3 (pt_ b27 1) H34) (u41.ld (by kernel_rfl)) ?_
  refine d_fl (.agg #[hd_Alive, hd_Arcs]) (x := aLoad Tryz.prog 40 (pt_ b21 0) H34) (by kernel_rfl) (u334.ld (by kernel_rfl)) ?_
  refine e_' (pt_ b27 1) ?_
  refine d_fl (i_ U) (x := aLoad Tryz.prog 3 (pt_ b27 1) H34) (by kernel_rfl) (u41.ld (by kernel_rfl)) ?_
  have u335 := (((h_o_.ext e23).ext e29).ext e35)
  have u336 := (((h_o.ext e23).ext e29).ext e35)
  obtain ⟨y337, hy338, r339⟩ := bind_some r332
  refine d_ck 12 #[pt_ b_o 0, i_ U] (by kernel_rfl) (c_overlay_Overlay_Out e35.wf u335 u336 hy338) ?_
  rintro s340 H342 ⟨_, f341, rfl, e343, m344, i345⟩
  obtain ⟨a347, n348, c349, rfl⟩ := m344.form
  have u350 := (u334.frS e343 Dj.nil_l)
  have u351 := (u41.frS e343 Dj.nil_l)
  refine ⟨st_ql (y := aLoad Tryz.prog 3 (pt_ b27 1) H342) (by kernel_rfl) (u351.ld (by kernel_rfl)) (st_ql (y := aLoad Tryz.prog 40 (pt_ b21 0) H342) (by kernel_rfl) (u350.ld (by kernel_rfl)) (st_ql (y := aLoad Tryz.prog 40 (pt_ b21 0) H342) (by kernel_rfl) (u350.ld (by kernel_rfl)) (st_nil))), ?_⟩
  have u352 := ((((h_Alive.ext e23).ext e29).ext e35).fr e343 Dj.nil_l)
  have u353 := ((((h_Arcs.ext e23).ext e29).ext e35).fr e343 Dj.nil_l)
  obtain ⟨y354, hy355, r356⟩ := bind_some r339
  refine d_ck 13 #[.agg #[hd_Alive, hd_Arcs], i_ U] (by kernel_rfl) (c_viaductref11_Out e343.wf u352 u353 hy355) ?_
  rintro s357 H359 ⟨_, f358, rfl, e360, m361, i362⟩
  obtain ⟨a364, n365, c366, rfl⟩ := m361.form
  have u367 := (u350.frS e360 Dj.nil_l)
  refine ⟨st_anc (by kernel_rfl) (st_anc (by kernel_rfl) (st_ql (y := aLoad Tryz.prog 40 (pt_ b21 0) H359) (by kernel_rfl) (u367.ld (by kernel_rfl)) (st_nil))), ?_⟩
  have u368 := (m344.fr e360 Dj.nil_l)
  obtain ⟨y369, hy370, r371⟩ := bind_some r356
  refine d_ck 11 #[.slice a347 n348 c349, .slice a364 n365 c366] (by kernel_rfl) (c_viaductlaw11_same e360.wf u368.sq m361.sq hy370) ?_
  rintro _ _ ⟨rfl, rfl⟩
  refine ⟨st_anc (by kernel_rfl) (st_anc (by kernel_rfl) (st_ql (y := aLoad Tryz.prog 40 (pt_ b21 0) H359) (by kernel_rfl) (u367.ld (by kernel_rfl)) (st_nil))), ?_⟩
  have u378 := ((r37.frS e343 Dj.nil_l).frS e360 Dj.nil_l)
  have u379 := (u353.fr e360 Dj.nil_l)
  have u380 := (u352.fr e360 Dj.nil_l)
  obtain ⟨H374, q375, e376, r377⟩ := Row.store (P := Tryz.prog) (t := 40) (p := 0) e360.wf u378 (.agg #[hd_Alive, hd_Arcs]) [hd_Alive, hd_Arcs] (by kernel_rfl) (by kernel_rfl) (one_cons (u380.one1) (one_cons (u379.one1) (one_nil))) (Nat.le_of_ble_eq_true (by kernel_rfl)) [hd_Alive, hd_Arcs] (by kernel_rfl)
  refine d_ek (undef) (by kernel_rfl) (map_ok q375) (st_anc (by kernel_rfl) (st_anc (by kernel_rfl) (st_anc (by kernel_rfl) (st_nil)))) ?_
  refine e_' (.bool y369) ?_
  refine d_nil ?_
  refine k333 _ _ ?_
  refine w_ret (bl_ret (th_ret ?_))
  refine b_ret (fn := Tryz.f10) (vs := [.agg #[hd_Alive, hd_Arcs], .bool y369]) (aRes_cell (Eq.trans (b := aLoad Tryz.prog 40 (pt_ b33 0) H374) (by kernel_rfl) (r377.ld (by kernel_rfl))) (aRes_tmp (by kernel_rfl) (rfl))) ?_
  have u381 := (u380.fr e376 (hb36.djn (h_Alive.lt.le (ntr e23.next e29.next))))
  have u382 := (u379.fr e376 (hb36.djn (h_Arcs.lt.le (ntr e23.next e29.next))))
  have u383 := (((u335.fr e343 Dj.nil_l).fr e360 Dj.nil_l).fr e376 (hb36.djn (h_o_.lt.le (ntr e23.next e29.next))))
  have u384 := (((u336.frS e343 Dj.nil_l).frS e360 Dj.nil_l).frS e376 (hb36.djn (h_o.ltF.le (ntr e23.next e29.next))))
  obtain rfl := Option.some.inj r371
  exact ⟨(hd_Alive), fp_Alive, (hd_Arcs), fp_Arcs, fp_o_, rfl, (FrS.step wf (FrS.step wf (FrS.step wf ((((FrS.refl (W := ([b_o] ++ fp_o_)) wf).extR e23).extR e29).extR e35) e343 Inn.nil) e360 Inn.nil) e376 (hb36.fresh (ntr e23.next e29.next))), u381, u382, u383, u384, Inn.refl', Inn.refl', Inn.refl', dj_fp_Alive_fp_Arcs, dj_fp_Alive_fp_o_, dj_fp_Arcs_fp_o_⟩
 have r385 := ite_f h331 r329
 refine w_seqk fun _ k386 => ?_
 refine g_' ?_
 refine q_ (.bool (decide (Kind = 4))) ?_
 refine q_ (.bool (decide (Kind = 4))) ?_
 refine s_nil (k386 _ _ ?_)
 refine w_condp (Kind = 4) (by kernel_rfl) rfl (fun h387 => ?_) (fun h387 => ?_)
 ·have r388 := ite_t h387 r385
  refine w_seqk fun _ k389 => ?_
  refine w_draw [0, 1, 2, 3, 5, 6, 7, 4, 8, 9, 10, 11] (by kernel_rfl) ?_
  have u390 := ((r25.ext e29).ext e35)
  refine d_fl (.agg #[hd_Alive, hd_Arcs]) (x := aLoad Tryz.prog 40 (pt_ b21 0) H34) (by kernel_rfl) (u390.ld (by kernel_rfl)) ?_
  refine e_' (pt_ b_o 0) ?_
  refine e_' (pt_ b27 1) ?_
  refine m_' (i_ U) (aLoad Tryz.prog 3 (pt_ b27 1) H34) (u41.ld (by kernel_rfl)) ?_
  refine d_fl (.agg #[hd_Alive, hd_Arcs]) (x := aLoad Tryz.prog 40 (pt_ b21 0) H34) (by kernel_rfl) (u390.ld (by kernel_rfl)) ?_
  refine e_' (pt_ b27 1) ?_
  refine d_fl (i_ U) (x := aLoad Tryz.prog 3 (pt_ b27 1) H34) (by kernel_rfl) (u41.ld (by kernel_rfl)) ?_
  have u391 := (((h_o_.ext e23).ext e29).ext e35)
  have u392 := (((h_o.ext e23).ext e29).ext e35)
  obtain ⟨y393, hy394, r395⟩ := bind_some r388
  refine d_ck 14 #[pt_ b_o 0, i_ U] (by kernel_rfl) (c_overlay_Overlay_In e35.wf u391 u392 hy394) ?_
  rintro s396 H398 ⟨_, f397, rfl, e399, m400, i401⟩
  obtain ⟨a403, n404, c405, rfl⟩ := m400.form
  have u406 := (u390.frS e399 Dj.nil_l)
  have u407 := (u41.frS e399 Dj.nil_l)
  refine ⟨st_ql (y := aLoad Tryz.prog 3 (pt_ b27 1) H398) (by kernel_rfl) (u407.ld (by kernel_rfl)) (st_ql (y := aLoad Tryz.prog 40 (pt_ b21 0) H398) (by kernel_rfl) (u406.ld (by kernel_rfl)) (st_ql (y := aLoad Tryz.prog 40 (pt_ b21 0) H398) (by kernel_rfl) (u406.ld (by kernel_rfl)) (st_nil))), ?_⟩
  have u408 := ((((h_Alive.ext e23).ext e29).ext e35).fr e399 Dj.nil_l)
  have u409 := ((((h_Arcs.ext e23).ext e29).ext e35).fr e399 Dj.nil_l)
  obtain ⟨y410, hy411, r412⟩ := bind_some r395
  refine d_ck 15 #[.agg #[hd_Alive, hd_Arcs], i_ U] (by kernel_rfl) (c_viaductref11_In e399.wf u408 u409 hy411) ?_
  rintro s413 H415 ⟨_, f414, rfl, e416, m417, i418⟩
  obtain ⟨a420, n421, c422, rfl⟩ := m417.form
  have u423 := (u406.frS e416 Dj.nil_l)
  refine ⟨st_anc (by kernel_rfl) (st_anc (by kernel_rfl) (st_ql (y := aLoad Tryz.prog 40 (pt_ b21 0) H415) (by kernel_rfl) (u423.ld (by kernel_rfl)) (st_nil))), ?_⟩
  have u424 := (m400.fr e416 Dj.nil_l)
  obtain ⟨y425, hy426, r427⟩ := bind_some r412
  refine d_ck 11 #[.slice a403 n404 c405, .slice a420 n421 c422] (by kernel_rfl) (c_viaductlaw11_same e416.wf u424.sq m417.sq hy426) ?_
  rintro _ _ ⟨rfl, rfl⟩
  refine ⟨st_anc (by kernel_rfl) (st_anc (by kernel_rfl) (st_ql (y := aLoad Tryz.prog 40 (pt_ b21 0) H415) (by kernel_rfl) (u423.ld (by kernel_rfl)) (st_nil))), ?_⟩
  have u434 := ((r37.frS e399 Dj.nil_l).frS e416 Dj.nil_l)
  have u435 := (u409.fr e416 Dj.nil_l)
  have u436 := (u408.fr e416 Dj.nil_l)
  obtain ⟨H430, q431, e432, r433⟩ := Row.store (P := Tryz.prog) (t := 40) (p := 0) e416.wf u434 (.agg #[hd_Alive, hd_Arcs]) [hd_Alive, hd_Arcs] (by kernel_rfl) (by kernel_rfl) (one_cons (u436.one1) (one_cons (u435.one1) (one_nil))) (Nat.le_of_ble_eq_true (by kernel_rfl)) [hd_Alive, hd_Arcs] (by kernel_rfl)
  refine d_ek (undef) (by kernel_rfl) (map_ok q431) (st_anc (by kernel_rfl) (st_anc (by kernel_rfl) (st_anc (by kernel_rfl) (st_nil)))) ?_
  refine e_' (.bool y425) ?_
  refine d_nil ?_
  refine k389 _ _ ?_
  refine w_ret (bl_ret (th_ret ?_))
  refine b_ret (fn := Tryz.f10) (vs := [.agg #[hd_Alive, hd_Arcs], .bool y425]) (aRes_cell (Eq.trans (b := aLoad Tryz.prog 40 (pt_ b33 0) H430) (by kernel_rfl) (r433.ld (by kernel_rfl))) (aRes_tmp (by kernel_rfl) (rfl))) ?_
  have u437 := (u436.fr e432 (hb36.djn (h_Alive.lt.le (ntr e23.next e29.next))))
  have u438 := (u435.fr e432 (hb36.djn (h_Arcs.lt.le (ntr e23.next e29.next))))
  have u439 := (((u391.fr e399 Dj.nil_l).fr e416 Dj.nil_l).fr e432 (hb36.djn (h_o_.lt.le (ntr e23.next e29.next))))
  have u440 := (((u392.frS e399 Dj.nil_l).frS e416 Dj.nil_l).frS e432 (hb36.djn (h_o.ltF.le (ntr e23.next e29.next))))
  obtain rfl := Option.some.inj r427
  exact ⟨(hd_Alive), fp_Alive, (hd_Arcs), fp_Arcs, fp_o_, rfl, (FrS.step wf (FrS.step wf (FrS.step wf ((((FrS.refl (W := ([b_o] ++ fp_o_)) wf).extR e23).extR e29).extR e35) e399 Inn.nil) e416 Inn.nil) e432 (hb36.fresh (ntr e23.next e29.next))), u437, u438, u439, u440, Inn.refl', Inn.refl', Inn.refl', dj_fp_Alive_fp_Arcs, dj_fp_Alive_fp_o_, dj_fp_Arcs_fp_o_⟩
 have r441 := ite_f h387 r385
 refine w_seqk fun _ k442 => ?_
 refine g_' ?_
 refine q_ (.bool (decide (Kind = 5))) ?_
 refine q_ (.bool (decide (Kind = 5))) ?_
 refine s_nil (k442 _ _ ?_)
 refine w_condp (Kind = 5) (by kernel_rfl) rfl (fun h443 => ?_) (fun h443 => ?_)
 ·have r444 := ite_t h443 r441
  refine w_seqk fun _ k445 => ?_
  refine g_' ?_
  refine q_ (pt_ b_o 0) ?_
  refine q_ (pt_ b27 1) ?_
  refine l_' (i_ U) (aLoad Tryz.prog 3 (pt_ b27 1) H34) (u41.ld (by kernel_rfl)) ?_
  refine q_ (pt_ b27 2) ?_
  refine l_' (i_ W) (aLoad Tryz.prog 3 (pt_ b27 2) H34) (u41.ld (by kernel_rfl)) ?_
  have u446 := (((h_o_.ext e23).ext e29).ext e35)
  have u447 := (((h_o.ext e23).ext e29).ext e35)
  obtain ⟨y448, hy449, r450⟩ := bind_some r444
  refine s_ck 32 #[pt_ b_o 0, i_ U, i_ W] (by kernel_rfl) (c_overlay_Overlay_Weight e35.wf u446 u447 hy449) ?_
  rintro _ H451 ⟨rfl, e452⟩
  refine q_ (.tuple #[.int .u64 y448.1, .bool y448.2]) ?_
  refine q_ (.int .u64 y448.1) ?_
  refine q_ (.bool y448.2) ?_
  refine q_ (.int .u64 y448.1) ?_
  refine q_ (.bool y448.2) ?_
  refine s_nil (k445 _ _ ?_)
  refine w_seqk fun _ k453 => ?_
  refine g_' ?_
  have u454 := (((r25.ext e29).ext e35).frS e452 Dj.nil_l)
  refine l_' (.agg #[hd_Alive, hd_Arcs]) (aLoad Tryz.prog 40 (pt_ b21 0) H451) (u454.ld (by kernel_rfl)) ?_
  refine q_ (pt_ b27 1) ?_
  have u455 := (u41.frS e452 Dj.nil_l)
  refine l_' (i_ U) (aLoad Tryz.prog 3 (pt_ b27 1) H451) (u455.ld (by kernel_rfl)) ?_
  refine q_ (pt_ b27 2) ?_
  refine l_' (i_ W) (aLoad Tryz.prog 3 (pt_ b27 2) H451) (u455.ld (by kernel_rfl)) ?_
  have u456 := ((((h_Alive.ext e23).ext e29).ext e35).fr e452 Dj.nil_l)
  have u457 := ((((h_Arcs.ext e23).ext e29).ext e35).fr e452 Dj.nil_l)
  obtain ⟨y458, hy459, r460⟩ := bind_some r450
  refine s_ck 33 #[.agg #[hd_Alive, hd_Arcs], i_ U, i_ W] (by kernel_rfl) (c_viaductref11_Weight e452.wf u456 u457 hy459) ?_
  rintro _ H461 ⟨rfl, e462⟩
  refine q_ (.tuple #[.int .u64 y458.1, .bool y458.2]) ?_
  refine q_ (.int .u64 y458.1) ?_
  refine q_ (.bool y458.2) ?_
  refine q_ (.int .u64 y458.1) ?_
  refine q_ (.bool y458.2) ?_
  refine s_nil (k453 _ _ ?_)
  refine w_seqk fun _ k463 => ?_
  refine g_' ?_
  have u464 := (u454.frS e462 Dj.nil_l)
  refine l_' (.agg #[hd_Alive, hd_Arcs]) (aLoad Tryz.prog 40 (pt_ b21 0) H461) (u464.ld (by kernel_rfl)) ?_
  refine q_ (.int .u64 y448.1) ?_
  refine q_ (.int .u64 y458.1) ?_
  refine s_b (y448.1 = y458.1) (by kernel_rfl) (fun h465 => ?_) (fun h465 => ?_)
  ·have r466 := ite_t h465 r460
   refine q_ (.bool true) ?_
   refine q_ (.bool y448.2) ?_
   refine q_ (.bool y458.2) ?_
   refine q_ (.bool (decide (y448.2 = y458.2))) ?_
   refine q_ (.bool (decide (y448.2 = y458.2))) ?_
   have u471 := ((r37.frS e452 Dj.nil_l).frS e462 Dj.nil_l)
   have u472 := (u457.fr e462 Dj.nil_l)
   have u473 := (u456.fr e462 Dj.nil_l)
   obtain ⟨H467, q468, e469, r470⟩ := Row.store (P := Tryz.prog) (t := 40) (p := 0) e462.wf u471 (.agg #[hd_Alive, hd_Arcs]) [hd_Alive, hd_Arcs] (by kernel_rfl) (by kernel_rfl) (one_cons (u473.one1) (one_cons (u472.one1) (one_nil))) (Nat.le_of_ble_eq_true (by kernel_rfl)) [hd_Alive, hd_Arcs] (by kernel_rfl)
   refine s_ek (undef) (by kernel_rfl) (map_ok q468) ?_
   refine q_ (.bool (decide (y448.2 = y458.2))) ?_
   refine s_nil (k463 _ _ ?_)
   refine w_ret (bl_ret (th_ret ?_))
   refine b_ret (fn := Tryz.f10) (vs := [.agg #[hd_Alive, hd_Arcs], .bool (decide (y448.2 = y458.2))]) (aRes_cell (Eq.trans (b := aLoad Tryz.prog 40 (pt_ b33 0) H467) (by kernel_rfl) (r470.ld (by kernel_rfl))) (aRes_tmp (by kernel_rfl) (rfl))) ?_
   have u474 := (u473.fr e469 (hb36.djn (h_Alive.lt.le (ntr e23.next e29.next))))
   have u475 := (u472.fr e469 (hb36.djn (h_Arcs.lt.le (ntr e23.next e29.next))))
   have u476 := (((u446.fr e452 Dj.nil_l).fr e462 Dj.nil_l).fr e469 (hb36.djn (h_o_.lt.le (ntr e23.next e29.next))))
   have u477 := (((u447.frS e452 Dj.nil_l).frS e462 Dj.nil_l).frS e469 (hb36.djn (h_o.ltF.le (ntr e23.next e29.next))))
   obtain rfl := Option.some.inj r466
   exact ⟨(hd_Alive), fp_Alive, (hd_Arcs), fp_Arcs, fp_o_, rfl, (FrS.step wf (FrS.step wf (FrS.step wf ((((FrS.refl (W := ([b_o] ++ fp_o_)) wf).extR e23).extR e29).extR e35) e452 Inn.nil) e462 Inn.nil) e469 (hb36.fresh (ntr e23.next e29.next))), u474, u475, u476, u477, Inn.refl', Inn.refl', Inn.refl', dj_fp_Alive_fp_Arcs, dj_fp_Alive_fp_o_, dj_fp_Arcs_fp_o_⟩
  have r478 := ite_f h465 r460
  refine q_ (.bool false) ?_
  refine n_' ?_
  refine n_' ?_
  refine n_' ?_
  refine q_ (.bool false) ?_
  have u483 := ((r37.frS e452 Dj.nil_l).frS e462 Dj.nil_l)
  have u484 := (u457.fr e462 Dj.nil_l)
  have u485 := (u456.fr e462 Dj.nil_l)
  obtain ⟨H479, q480, e481, r482⟩ := Row.store (P := Tryz.prog) (t := 40) (p := 0) e462.wf u483 (.agg #[hd_Alive, hd_Arcs]) [hd_Alive, hd_Arcs] (by kernel_rfl) (by kernel_rfl) (one_cons (u485.one1) (one_cons (u484.one1) (one_nil))) (Nat.le_of_ble_eq_true (by kernel_rfl)) [hd_Alive, hd_Arcs] (by kernel_rfl)
  refine s_ek (undef) (by kernel_rfl) (map_ok q480) ?_
  refine q_ (.bool false) ?_
  refine s_nil (k463 _ _ ?_)
  refine w_ret (bl_ret (th_ret ?_))
  refine b_ret (fn := Tryz.f10) (vs := [.agg #[hd_Alive, hd_Arcs], .bool false]) (aRes_cell (Eq.trans (b := aLoad Tryz.prog 40 (pt_ b33 0) H479) (by kernel_rfl) (r482.ld (by kernel_rfl))) (aRes_tmp (by kernel_rfl) (rfl))) ?_
  have u486 := (u485.fr e481 (hb36.djn (h_Alive.lt.le (ntr e23.next e29.next))))
  have u487 := (u484.fr e481 (hb36.djn (h_Arcs.lt.le (ntr e23.next e29.next))))
  have u488 := (((u446.fr e452 Dj.nil_l).fr e462 Dj.nil_l).fr e481 (hb36.djn (h_o_.lt.le (ntr e23.next e29.next))))
  have u489 := (((u447.frS e452 Dj.nil_l).frS e462 Dj.nil_l).frS e481 (hb36.djn (h_o.ltF.le (ntr e23.next e29.next))))
  obtain rfl := Option.some.inj r478
  exact ⟨(hd_Alive), fp_Alive, (hd_Arcs), fp_Arcs, fp_o_, rfl, (FrS.step wf (FrS.step wf (FrS.step wf ((((FrS.refl (W := ([b_o] ++ fp_o_)) wf).extR e23).extR e29).extR e35) e452 Inn.nil) e462 Inn.nil) e481 (hb36.fresh (ntr e23.next e29.next))), u486, u487, u488, u489, Inn.refl', Inn.refl', Inn.refl', dj_fp_Alive_fp_Arcs, dj_fp_Alive_fp_o_, dj_fp_Arcs_fp_o_⟩
 have r490 := ite_f h443 r441
 refine w_seqk fun _ k491 => ?_
 refine g_' ?_
 refine q_ (.bool (decide (Kind = 6))) ?_
 refine q_ (.bool (decide (Kind = 6))) ?_
 refine s_nil (k491 _ _ ?_)
 refine w_condp (Kind = 6) (by kernel_rfl) rfl (fun h492 => ?_) (fun h492 => ?_)
 ·have r493 := ite_t h492 r490
  refine w_seqk fun _ k494 => ?_
  refine w_draw [0, 1, 2, 3, 5, 6, 7, 4, 8, 9, 10, 11] (by kernel_rfl) ?_
  have u495 := ((r25.ext e29).ext e35)
  refine d_fl (.agg #[hd_Alive, hd_Arcs]) (x := aLoad Tryz.prog 40 (pt_ b21 0) H34) (by kernel_rfl) (u495.ld (by kernel_rfl)) ?_
  refine e_' (pt_ b_o 0) ?_
  refine e_' (pt_ b27 1) ?_
  refine m_' (i_ U) (aLoad Tryz.prog 3 (pt_ b27 1) H34) (u41.ld (by kernel_rfl)) ?_
  refine d_fl (.agg #[hd_Alive, hd_Arcs]) (x := aLoad Tryz.prog 40 (pt_ b21 0) H34) (by kernel_rfl) (u495.ld (by kernel_rfl)) ?_
  refine e_' (pt_ b27 1) ?_
  refine d_fl (i_ U) (x := aLoad Tryz.prog 3 (pt_ b27 1) H34) (by kernel_rfl) (u41.ld (by kernel_rfl)) ?_
  have u496 := (((h_o_.ext e23).ext e29).ext e35)
  have u497 := (((h_o.ext e23).ext e29).ext e35)
  obtain ⟨y498, hy499, r500⟩ := bind_some r493
  refine d_ck 20 #[pt_ b_o 0, i_ U] (by kernel_rfl) (c_overlay_Overlay_Alive e35.wf u496 u497 hy499) ?_
  rintro _ _ ⟨rfl, rfl⟩
  refine ⟨st_ql (y := aLoad Tryz.prog 3 (pt_ b27 1) H34) (by kernel_rfl) (u41.ld (by kernel_rfl)) (st_ql (y := aLoad Tryz.prog 40 (pt_ b21 0) H34) (by kernel_rfl) (u495.ld (by kernel_rfl)) (st_ql (y := aLoad Tryz.prog 40 (pt_ b21 0) H34) (by kernel_rfl) (u495.ld (by kernel_rfl)) (st_nil))), ?_⟩
  have u503 := (((h_Alive.ext e23).ext e29).ext e35)
  have u504 := (((h_Arcs.ext e23).ext e29).ext e35)
  obtain ⟨y505, hy506, r507⟩ := bind_some r500
  refine d_ck 30 #[.agg #[hd_Alive, hd_Arcs], i_ U] (by kernel_rfl) (c_viaductref11_Lives e35.wf u503 u504 hy506) ?_
  rintro _ H508 ⟨rfl, e509⟩
  have u510 := (u495.frS e509 Dj.nil_l)
  refine ⟨st_anc (by kernel_rfl) (st_anc (by kernel_rfl) (st_ql (y := aLoad Tryz.prog 40 (pt_ b21 0) H508) (by kernel_rfl) (u510.ld (by kernel_rfl)) (st_nil))), ?_⟩
  refine e_' (.bool (decide (y498 = y505))) ?_
  have u515 := (r37.frS e509 Dj.nil_l)
  have u516 := (u504.fr e509 Dj.nil_l)
  have u517 := (u503.fr e509 Dj.nil_l)
  obtain ⟨H511, q512, e513, r514⟩ := Row.store (P := Tryz.prog) (t := 40) (p := 0) e509.wf u515 (.agg #[hd_Alive, hd_Arcs]) [hd_Alive, hd_Arcs] (by kernel_rfl) (by kernel_rfl) (one_cons (u517.one1) (one_cons (u516.one1) (one_nil))) (Nat.le_of_ble_eq_true (by kernel_rfl)) [hd_Alive, hd_Arcs] (by kernel_rfl)
  refine d_ek (undef) (by kernel_rfl) (map_ok q512) (st_anc (by kernel_rfl) (st_anc (by kernel_rfl) (st_anc (by kernel_rfl) (st_nil)))) ?_
  refine e_' (.bool (decide (y498 = y505))) ?_
  refine d_nil ?_
  refine k494 _ _ ?_
  refine w_ret (bl_ret (th_ret ?_))
  refine b_ret (fn := Tryz.f10) (vs := [.agg #[hd_Alive, hd_Arcs], .bool (decide (y498 = y505))]) (aRes_cell (Eq.trans (b := aLoad Tryz.prog 40 (pt_ b33 0) H511) (by kernel_rfl) (r514.ld (by kernel_rfl))) (aRes_tmp (by kernel_rfl) (rfl))) ?_
  have u518 := (u517.fr e513 (hb36.djn (h_Alive.lt.le (ntr e23.next e29.next))))
  have u519 := (u516.fr e513 (hb36.djn (h_Arcs.lt.le (ntr e23.next e29.next))))
  have u520 := ((u496.fr e509 Dj.nil_l).fr e513 (hb36.djn (h_o_.lt.le (ntr e23.next e29.next))))
  have u521 := ((u497.frS e509 Dj.nil_l).frS e513 (hb36.djn (h_o.ltF.le (ntr e23.next e29.next))))
  obtain rfl := Option.some.inj r507
  exact ⟨(hd_Alive), fp_Alive, (hd_Arcs), fp_Arcs, fp_o_, rfl, (FrS.step wf (FrS.step wf ((((FrS.refl (W := ([b_o] ++ fp_o_)) wf).extR e23).extR e29).extR e35) e509 Inn.nil) e513 (hb36.fresh (ntr e23.next e29.next))), u518, u519, u520, u521, Inn.refl', Inn.refl', Inn.refl', dj_fp_Alive_fp_Arcs, dj_fp_Alive_fp_o_, dj_fp_Arcs_fp_o_⟩
 have r522 := ite_f h492 r490
 refine w_seqk fun _ k523 => ?_
 refine g_' ?_
 refine q_ (.bool (decide (Kind = 7))) ?_
 refine q_ (.bool (decide (Kind = 7))) ?_
 refine s_nil (k523 _ _ ?_)
 refine w_condp (Kind = 7) (by kernel_rfl) rfl (fun h524 => ?_) (fun h524 => ?_)
 ·have r525 := ite_t h524 r522
  refine w_seqk fun _ k526 => ?_
  refine w_draw [0, 1, 3, 2, 4, 5, 6, 7, 9, 10, 11, 8, 12, 13, 14, 15] (by kernel_rfl) ?_
  have u527 := ((r25.ext e29).ext e35)
  refine d_fl (.agg #[hd_Alive, hd_Arcs]) (x := aLoad Tryz.prog 40 (pt_ b21 0) H34) (by kernel_rfl) (u527.ld (by kernel_rfl)) ?_
  refine e_' (pt_ b_o 0) ?_
  refine d_fl (.agg #[hd_Alive, hd_Arcs]) (x := aLoad Tryz.prog 40 (pt_ b21 0) H34) (by kernel_rfl) (u527.ld (by kernel_rfl)) ?_
  have u528 := (((h_o_.ext e23).ext e29).ext e35)
  have u529 := (((h_o.ext e23).ext e29).ext e35)
  obtain ⟨y530, hy531, r532⟩ := bind_some r525
  refine d_ck 16 #[pt_ b_o 0] (by kernel_rfl) (c_overlay_Overlay_Len e35.wf u528 u529 hy531) ?_
  rintro _ _ ⟨rfl, rfl⟩
  refine ⟨st_ql (y := aLoad Tryz.prog 40 (pt_ b21 0) H34) (by kernel_rfl) (u527.ld (by kernel_rfl)) (st_ql (y := aLoad Tryz.prog 40 (pt_ b21 0) H34) (by kernel_rfl) (u527.ld (by kernel_rfl)) (st_nil)), ?_⟩
  have u535 := (((h_Alive.ext e23).ext e29).ext e35)
  have u536 := (((h_Arcs.ext e23).ext e29).ext e35)
  obtain ⟨y537, hy538, r539⟩ := bind_some r532
  refine d_ck 34 #[.agg #[hd_Alive, hd_Arcs]] (by kernel_rfl) (c_viaductref11_Len e35.wf u535 u536 hy538) ?_
  rintro _ H540 ⟨rfl, e541⟩
  have u542 := (u527.frS e541 Dj.nil_l)
  refine ⟨st_anc (by kernel_rfl) (st_ql (y := aLoad Tryz.prog 40 (pt_ b21 0) H540) (by kernel_rfl) (u542.ld (by kernel_rfl)) (st_nil)), ?_⟩
  refine d_b (y530 = y537) (by kernel_rfl) (fun h543 => ?_) (fun h543 => ?_)
  ·have r544 := ite_t h543 r539
   refine e_' (.bool true) ?_
   refine e_' (pt_ b_o 0) ?_
   refine e_' (pt_ b21 1) ?_
   refine d_fl (hd_Arcs) (x := aLoad Tryz.prog 38 (pt_ b21 1) H540) (by kernel_rfl) (u542.ld (by kernel_rfl)) ?_
   have u545 := (u536.fr e541 Dj.nil_l)
   refine m_' (i_ (Arcs.length : Int)) (aLen Tryz.prog 38 hd_Arcs H540) (u545.lenb (by kernel_rfl)) ?_
   have u546 := (u528.fr e541 Dj.nil_l)
   have u547 := (u529.frS e541 Dj.nil_l)
   obtain ⟨y548, hy549, r550⟩ := bind_some r544
   refine d_ck 17 #[pt_ b_o 0] (by kernel_rfl) (c_overlay_Overlay_Arcs e541.wf u546 u547 hy549) ?_
   rintro _ _ ⟨rfl, rfl⟩
   refine ⟨st_ql (y := aLoad Tryz.prog 38 (pt_ b21 1) H540) (by kernel_rfl) (u542.ld (by kernel_rfl)) (st_anc (by kernel_rfl) (st_ql (y := aLoad Tryz.prog 40 (pt_ b21 0) H540) (by kernel_rfl) (u542.ld (by kernel_rfl)) (st_nil))), ?_⟩
   refine e_' (.bool (decide (y548 = (Arcs.length : Int)))) ?_
   refine e_' (.bool (decide (y548 = (Arcs.length : Int)))) ?_
   have u557 := (r37.frS e541 Dj.nil_l)
   have u558 := (u535.fr e541 Dj.nil_l)
   obtain ⟨H553, q554, e555, r556⟩ := Row.store (P := Tryz.prog) (t := 40) (p := 0) e541.wf u557 (.agg #[hd_Alive, hd_Arcs]) [hd_Alive, hd_Arcs] (by kernel_rfl) (by kernel_rfl) (one_cons (u558.one1) (one_cons (u545.one1) (one_nil))) (Nat.le_of_ble_eq_true (by kernel_rfl)) [hd_Alive, hd_Arcs] (by kernel_rfl)
   have u559 := (u542.frS e555 (hb36.djn (r25.ltF.le e29.next)))
   refine d_ek (undef) (by kernel_rfl) (map_ok q554) (st_ql (y := aLoad Tryz.prog 38 (pt_ b21 1) H553) (by kernel_rfl) (u559.ld (by kernel_rfl)) (st_anc (by kernel_rfl) (st_anc (by kernel_rfl) (st_nil)))) ?_
   refine e_' (.bool (decide (y548 = (Arcs.length : Int)))) ?_
   refine d_nil ?_
   refine k526 _ _ ?_
   refine w_ret (bl_ret (th_ret ?_))
   refine b_ret (fn := Tryz.f10) (vs := [.agg #[hd_Alive, hd_Arcs], .bool (decide (y548 = (Arcs.length : Int)))]) (aRes_cell (Eq.trans (b := aLoad Tryz.prog 40 (pt_ b33 0) H553) (by kernel_rfl) (r556.ld (by kernel_rfl))) (aRes_tmp (by kernel_rfl) (rfl))) ?_
   have u560 := (u558.fr e555 (hb36.djn (h_Alive.lt.le (ntr e23.next e29.next))))
   have u561 := (u545.fr e555 (hb36.djn (h_Arcs.lt.le (ntr e23.next e29.next))))
   have u562 := (u546.fr e555 (hb36.djn (h_o_.lt.le (ntr e23.next e29.next))))
   have u563 := (u547.frS e555 (hb36.djn (h_o.ltF.le (ntr e23.next e29.next))))
   obtain rfl := Option.some.inj r550
   exact ⟨(hd_Alive), fp_Alive, (hd_Arcs), fp_Arcs, fp_o_, rfl, (FrS.step wf (FrS.step wf ((((FrS.refl (W := ([b_o] ++ fp_o_)) wf).extR e23).extR e29).extR e35) e541 Inn.nil) e555 (hb36.fresh (ntr e23.next e29.next))), u560, u561, u562, u563, Inn.refl', Inn.refl', Inn.refl', dj_fp_Alive_fp_Arcs, dj_fp_Alive_fp_o_, dj_fp_Arcs_fp_o_⟩
  have r564 := ite_f h543 r539
  refine e_' (.bool false) ?_
  refine j_' ?_
  refine j_' ?_
  refine j_' ?_
  refine j_' ?_
  refine j_' ?_
  refine j_' ?_
  refine e_' (.bool false) ?_
  have u569 := (r37.frS e541 Dj.nil_l)
  have u570 := (u536.fr e541 Dj.nil_l)
  have u571 := (u535.fr e541 Dj.nil_l)
  obtain ⟨H565, q566, e567, r568⟩ := Row.store (P := Tryz.prog) (t := 40) (p := 0) e541.wf u569 (.agg #[hd_Alive, hd_Arcs]) [hd_Alive, hd_Arcs] (by kernel_rfl) (by kernel_rfl) (one_cons (u571.one1) (one_cons (u570.one1) (one_nil))) (Nat.le_of_ble_eq_true (by kernel_rfl)) [hd_Alive, hd_Arcs] (by kernel_rfl)
  refine d_ek (undef) (by kernel_rfl) (map_ok q566) (st_anc (by kernel_rfl) (st_anc (by kernel_rfl) (st_nil))) ?_
  refine e_' (.bool false) ?_
  refine d_nil ?_
  refine k526 _ _ ?_
  refine w_ret (bl_ret (th_ret ?_))
  refine b_ret (fn := Tryz.f10) (vs := [.agg #[hd_Alive, hd_Arcs], .bool false]) (aRes_cell (Eq.trans (b := aLoad Tryz.prog 40 (pt_ b33 0) H565) (by kernel_rfl) (r568.ld (by kernel_rfl))) (aRes_tmp (by kernel_rfl) (rfl))) ?_
  have u572 := (u571.fr e567 (hb36.djn (h_Alive.lt.le (ntr e23.next e29.next))))
  have u573 := (u570.fr e567 (hb36.djn (h_Arcs.lt.le (ntr e23.next e29.next))))
  have u574 := ((u528.fr e541 Dj.nil_l).fr e567 (hb36.djn (h_o_.lt.le (ntr e23.next e29.next))))
  have u575 := ((u529.frS e541 Dj.nil_l).frS e567 (hb36.djn (h_o.ltF.le (ntr e23.next e29.next))))
  obtain rfl := Option.some.inj r564
  exact ⟨(hd_Alive), fp_Alive, (hd_Arcs), fp_Arcs, fp_o_, rfl, (FrS.step wf (FrS.step wf ((((FrS.refl (W := ([b_o] ++ fp_o_)) wf).extR e23).extR e29).extR e35) e541 Inn.nil) e567 (hb36.fresh (ntr e23.next e29.next))), u572, u573, u574, u575, Inn.refl', Inn.refl', Inn.refl', dj_fp_Alive_fp_Arcs, dj_fp_Alive_fp_o_, dj_fp_Arcs_fp_o_⟩
 have r576 := ite_f h524 r522
 refine w_skip ?_
 refine k39 _ _ ?_
 refine w_seqk fun _ k577 => ?_
 refine g_' ?_
 have u578 := ((r25.ext e29).ext e35)
 refine l_' (.agg #[hd_Alive, hd_Arcs]) (aLoad Tryz.prog 40 (pt_ b21 0) H34) (u578.ld (by kernel_rfl)) ?_
 have u583 := (((h_Arcs.ext e23).ext e29).ext e35)
 have u584 := (((h_Alive.ext e23).ext e29).ext e35)
 obtain ⟨H579, q580, e581, r582⟩ := Row.store (P := Tryz.prog) (t := 40) (p := 0) e35.wf r37 (.agg #[hd_Alive, hd_Arcs]) [hd_Alive, hd_Arcs] (by kernel_rfl) (by kernel_rfl) (one_cons (u584.one1) (one_cons (u583.one1) (one_nil))) (Nat.le_of_ble_eq_true (by kernel_rfl)) [hd_Alive, hd_Arcs] (by kernel_rfl)
 refine s_ek (undef) (by kernel_rfl) (map_ok q580) ?_
 refine q_ (.bool true) ?_
 refine s_nil (k577 _ _ ?_)
 refine w_ret ?_
 refine b_ret (fn := Tryz.f10) (vs := [.agg #[hd_Alive, hd_Arcs], .bool true]) (aRes_cell (Eq.trans (b := aLoad Tryz.prog 40 (pt_ b33 0) H579) (by kernel_rfl) (r582.ld (by kernel_rfl))) (aRes_tmp (by kernel_rfl) (rfl))) ?_
 have u585 := (u584.fr e581 (hb36.djn (h_Alive.lt.le (ntr e23.next e29.next))))
 have u586 := (u583.fr e581 (hb36.djn (h_Arcs.lt.le (ntr e23.next e29.next))))
 have u587 := ((((h_o_.ext e23).ext e29).ext e35).fr e581 (hb36.djn (h_o_.lt.le (ntr e23.next e29.next))))
 have u588 := ((((h_o.ext e23).ext e29).ext e35).frS e581 (hb36.djn (h_o.ltF.le (ntr e23.next e29.next))))
 obtain rfl := Option.some.inj r576
 exact ⟨(hd_Alive), fp_Alive, (hd_Arcs), fp_Arcs, fp_o_, rfl, (FrS.step wf ((((FrS.refl (W := ([b_o] ++ fp_o_)) wf).extR e23).extR e29).extR e35) e581 (hb36.fresh (ntr e23.next e29.next))), u585, u586, u587, u588, Inn.refl', Inn.refl', Inn.refl', dj_fp_Alive_fp_Arcs, dj_fp_Alive_fp_o_, dj_fp_Arcs_fp_o_⟩


end Go.Vd

/-! (KOp7) -/

set_option maxRecDepth 100000
set_option maxHeartbeats 4000000
set_option linter.unusedVariables false
namespace Go.Vd
open Go.Proofs
attribute [local irreducible] wpSeq wpOrd aWp
theorem c_viaductlaw11_OverlayPlays {H : AH} {hd_Arcs : Value} {fp_Arcs : Fp} {hd_script : Value} {fp_script : Fp} {N_ : Int} {Arcs : List (Int × Int × Int)} {script : List (Int × Int × Int × Int × Int)} {r : Bool}
    (wf : WF H) (h_Arcs : Sq enc_i64_i64_i64 3 H hd_Arcs Arcs fp_Arcs) (h_script : Sq enc_u8_i64_i64_u64_i64 5 H hd_script script fp_script) (hr : z_viaductlaw11_OverlayPlays N_ Arcs script = some r) :
    ACalls Tryz.prog 3 #[.agg #[i_ N_, hd_Arcs], hd_script] H fun v H' => v = .bool r ∧ FrS [] H H' := by
 refine acalls_of_body mixed Tryz.func3 rfl (Nat.le_of_ble_eq_true rfl) ?_
 unfold z_viaductlaw11_OverlayPlays at hr
 refine w_seqk fun _ k1 => ?_
 refine g_' ?_
 refine s_rwl wf [i_ N_, hd_Arcs] (one_cons (rfl) (one_cons (h_Arcs.one1) (one_nil))) (by kernel_rfl) fun b2 H3 e4 hb5 r6 => ?_
 refine q_ (.bool false) ?_
 refine s_nil (k1 _ _ ?_)
 refine w_seqk fun _ k8 => ?_
 refine w_seqk fun _ k9 => ?_
 refine g_' ?_
 obtain ⟨y10, hy11, r12⟩ := bind_some hr
 refine s_ck 4 #[] (by kernel_rfl) (c_viaductlaw11_awake e4.wf hy11) ?_
 rintro _ H13 ⟨rfl, e14⟩
 refine q_ (.bool (!y10)) ?_
 refine s_nil (k9 _ _ ?_)
 refine w_cond ((!y10)) (by kernel_rfl) rfl (fun h15 => ?_) (fun h15 => ?_)
 ·have r16 := ite_t h15 r12
  refine w_seqk fun _ k17 => ?_
  refine g_' ?_
  refine q_ (.bool false) ?_
  refine s_nil (k17 _ _ ?_)
  refine w_ret (th_ret ?_)
  refine b_ret (fn := Tryz.f3) (vs := [.bool false]) (aRes_tmp (by kernel_rfl) (rfl)) ?_
  obtain rfl := Option.some.inj r16
  exact ⟨rfl, (FrS.step wf ((FrS.refl (W := []) wf).extR e4) e14 Inn.nil)⟩
 have r18 := ite_bf h15 r12
 refine w_skip ?_
 refine k8 _ _ ?_
 refine w_seqk fun _ k19 => ?_
 refine g_' ?_
 have u20 := (r6.frS e14 Dj.nil_l)
 refine l_' (.agg #[i_ N_, hd_Arcs]) (aLoad Tryz.prog 24 (pt_ b2 0) H13) (u20.ld (by kernel_rfl)) ?_
 have u21 := ((h_Arcs.ext e4).fr e14 Dj.nil_l)
 obtain ⟨y22, hy23, r24⟩ := bind_some r18
 rcases y22 with y25 | y26
 ·have r27 := elim_l r24
  refine s_ck 5 #[.agg #[i_ N_, hd_Arcs]] (by kernel_rfl) (c_overlay_New e14.wf u21 hy23) ?_
  rintro _ H30 ⟨v28, f29, rfl, e31, m32, i33⟩
  refine q_ (.tuple #[.pointer none, v28]) ?_
  refine q_ (.pointer none) ?_
  refine q_ (v28) ?_
  refine q_ (.pointer none) ?_
  refine q_ (v28) ?_
  refine s_nil (k19 _ _ ?_)
  refine w_seqk fun _ k35 => ?_
  refine w_seqk fun _ k36 => ?_
  refine g_' ?_
  have u37 := (u20.frS e31 Dj.nil_l)
  refine l_' (.agg #[i_ N_, hd_Arcs]) (aLoad Tryz.prog 24 (pt_ b2 0) H30) (u37.ld (by kernel_rfl)) ?_
  have u38 := (u21.fr e31 Dj.nil_l)
  obtain ⟨y39, hy40, r41⟩ := bind_some r27
  refine s_ck 6 #[.agg #[i_ N_, hd_Arcs]] (by kernel_rfl) (c_viaductref03_DocCheck e31.wf u38 hy40) ?_
  rintro _ H44 ⟨s42, f43, rfl, e45, m46, i47⟩
  obtain ⟨a49, n50, c51, rfl⟩ := m46.form
  refine s_rwk e45.wf [i_ 0, .slice none 0 0] (by kernel_rfl) fun b52 H53 e54 hb55 r56 => ?_
  have u62 := (m46.ext e54)
  obtain ⟨H58, q59, e60, r61⟩ := Row.store (P := Tryz.prog) (t := 34) (p := 0) e54.wf r56 (.agg #[i_ y39.1, .slice a49 n50 c51]) [i_ y39.1, .slice a49 n50 c51] (by kernel_rfl) (by kernel_rfl) (one_cons (rfl) (one_cons (u62.one1) (one_nil))) (Nat.le_of_ble_eq_true (by kernel_rfl)) [i_ y39.1, .slice a49 n50 c51] (by kernel_rfl)
  refine s_ek (undef) (by kernel_rfl) (map_ok q59) ?_
  refine s_nil (k36 _ _ ?_)
  refine w_seqk fun _ k63 => ?_
  refine g_' ?_
  refine l_' (.agg #[i_ y39.1, .slice a49 n50 c51]) (aLoad Tryz.prog 34 (pt_ b52 0) H58) (r61.ld (by kernel_rfl)) ?_
  have u64 := (u62.fr e60 (hb55.djn m46.lt))
  obtain ⟨y65, hy66, r67⟩ := bind_some r41
  refine s_ck 7 #[.agg #[i_ y39.1, .slice a49 n50 c51]] (by kernel_rfl) (c_viaductref01_Err_Bad e60.wf u64.sq hy66) ?_
  rintro _ H68 ⟨rfl, e69⟩
  refine s_nil (k63 _ _ ?_)
  refine w_cond (y65) (by kernel_rfl) rfl (fun h70 => ?_) (fun h70 => ?_)
  ·have r71 := ite_t h70 r67
   refine w_seqk fun _ k72 => ?_
   refine g_' ?_
   refine q_ (.pointer none) ?_
   refine q_ (.bool true) ?_
   refine q_ (.bool true) ?_
   refine q_ (v28) ?_
   have u73 := (r61.frS e69 Dj.nil_l)
   refine l_' (.agg #[i_ y39.1, .slice a49 n50 c51]) (aLoad Tryz.prog 34 (pt_ b52 0) H68) (u73.ld (by kernel_rfl)) ?_
   have u74 := ((((m32.fr e45 Dj.nil_l).ext e54).fr e60 (hb55.djn (m32.lt.le e45.next))).fr e69 Dj.nil_l)
   have u75 := (u64.fr e69 Dj.nil_l)
   obtain ⟨y76, hy77, r78⟩ := bind_some r71
   refine s_ck 8 #[v28, .agg #[i_ y39.1, .slice a49 n50 c51]] (by kernel_rfl) (c_viaductseen_Same e69.wf u74 u75.sq hy77) ?_
   rintro _ H79 ⟨rfl, e80⟩
   refine q_ (.bool y76) ?_
   refine q_ (.bool y76) ?_
   refine s_nil (k72 _ _ ?_)
   refine w_ret (th_ret ?_)
   refine b_ret (fn := Tryz.f3) (vs := [.bool y76]) (aRes_tmp (by kernel_rfl) (rfl)) ?_
   obtain rfl := Option.some.inj r78
   exact ⟨rfl, (FrS.step wf (FrS.step wf (FrS.step wf ((FrS.step wf (FrS.step wf (FrS.step wf ((FrS.refl (W := []) wf).extR e4) e14 Inn.nil) e31 Inn.nil) e45 Inn.nil).extR e54) e60 (hb55.fresh (ntr (ntr (ntr e4.next e14.next) e31.next) e45.next))) e69 Inn.nil) e80 Inn.nil)⟩
  have r81 := ite_bf h70 r67
  refine w_skip ?_
  refine k35 _ _ ?_
  refine w_seqk fun _ k82 => ?_
  refine w_seqk fun _ k83 => ?_
  obtain ⟨o84, hx85, r86⟩ := bind_some r81
  refine w_mid (fun α H87 => Has α [(1, hd_script), (2, pt_ b2 0), (5, .pointer none), (6, v28), (40, .bool o84)] ∧ H68 = H87) (fun _ k89 => ?_) (fun α H87 hM => ?_)
  ·refine g_' ?_
   refine q_ (pt_ b2 1) ?_
   have u91 := ((((u37.frS e45 Dj.nil_l).ext e54).frS e60 (hb55.djn (r6.ltF.le (ntr (ntr e14.next e31.next) e45.next)))).frS e69 Dj.nil_l)
   refine l_' (hd_Arcs) (aLoad Tryz.prog 22 (pt_ b2 1) H68) (u91.ld (by kernel_rfl)) ?_
   have u92 := ((((u38.fr e45 Dj.nil_l).ext e54).fr e60 (hb55.djn (h_Arcs.lt.le (ntr (ntr (ntr e4.next e14.next) e31.next) e45.next)))).fr e69 Dj.nil_l)
   refine l_' (i_ (Arcs.length : Int)) (aLen Tryz.prog 22 hd_Arcs H68) (u92.lenb (by kernel_rfl)) ?_
   refine s_b ((Arcs.length : Int) > 2000) (by kernel_rfl) (fun h93 => ?_) (fun h93 => ?_)
   ·have r94 := ite_t h93 hx85
    refine q_ (.bool true) ?_
    refine n_' ?_
    refine n_' ?_
    refine n_' ?_
    refine q_ (.bool true) ?_
    refine s_nil ?_
    obtain rfl := Option.some.inj r94
    exact k89 _ _ ⟨ha_, rfl⟩
   have r95 := ite_f h93 hx85
   refine q_ (.bool false) ?_
   refine q_ (hd_script) ?_
   have u96 := (((((((h_script.ext e4).fr e14 Dj.nil_l).fr e31 Dj.nil_l).fr e45 Dj.nil_l).ext e54).fr e60 (hb55.djn (h_script.lt.le (ntr (ntr (ntr e4.next e14.next) e31.next) e45.next)))).fr e69 Dj.nil_l)
   refine l_' (i_ (script.length : Int)) (aLen Tryz.prog 25 hd_script H68) (u96.lenb (by kernel_rfl)) ?_
   refine q_ (.bool (decide ((script.length : Int) > 500))) ?_
   refine q_ (.bool (decide ((script.length : Int) > 500))) ?_
   refine s_nil ?_
   obtain rfl := Option.some.inj r95
   exact k89 _ _ ⟨ha_, rfl⟩
  obtain ⟨hh90, rfl⟩ := hM
  obtain ⟨β, rfl⟩ := has_ex hh90
  clear hh90
  refine k83 _ _ ?_
  refine w_cond (o84) (by kernel_rfl) rfl (fun h97 => ?_) (fun h97 => ?_)
  ·have r98 := ite_t h97 r86
   refine w_seqk fun _ k99 => ?_
   refine g_' ?_
   refine q_ (.bool true) ?_
   refine s_nil (k99 _ _ ?_)
   refine w_ret (th_ret ?_)
   refine b_ret (fn := Tryz.f3) (vs := [.bool true]) (aRes_tmp (by kernel_rfl) (rfl)) ?_
   obtain rfl := Option.some.inj r98
   exact ⟨rfl, (FrS.step wf (FrS.step wf ((FrS.step wf (FrS.step wf (FrS.step wf ((FrS.refl (W := []) wf).extR e4) e14 Inn.nil) e31 Inn.nil) e45 Inn.nil).extR e54) e60 (hb55.fresh (ntr (ntr (ntr e4.next e14.next) e31.next) e45.next))) e69 Inn.nil)⟩
  have r100 := ite_bf h97 r86
  refine w_skip ?_
  refine k82 _ _ ?_
  refine w_seqk fun _ k101 => ?_
  refine g_' ?_
  have u102 := ((((u37.frS e45 Dj.nil_l).ext e54).frS e60 (hb55.djn (r6.ltF.le (ntr (ntr e14.next e31.next) e45.next)))).frS e69 Dj.nil_l)
  refine l_' (.agg #[i_ N_, hd_Arcs]) (aLoad Tryz.prog 24 (pt_ b2 0) H68) (u102.ld (by kernel_rfl)) ?_
  have u103 := ((((u38.fr e45 Dj.nil_l).ext e54).fr e60 (hb55.djn (h_Arcs.lt.le (ntr (ntr (ntr e4.next e14.next) e31.next) e45.next)))).fr e69 Dj.nil_l)
  obtain ⟨y104, hy105, r106⟩ := bind_some r100
  refine s_ck 9 #[.agg #[i_ N_, hd_Arcs]] (by kernel_rfl) (c_viaductref11_DocNew e69.wf u103 hy105) ?_
  rintro _ H113 ⟨s107, f108, s109, f110, s111, f112, rfl, e114, m115, m116, m117, i118, i119, i120, d121, d122, d123⟩
  obtain ⟨a127, n128, c129, rfl⟩ := m115.form
  obtain ⟨a130, n131, c132, rfl⟩ := m116.form
  obtain ⟨a133, n134, c135, rfl⟩ := m117.form
  refine q_ (.tuple #[.agg #[.slice a127 n128 c129, .slice a130 n131 c132], .agg #[i_ y104.2.2.1, .slice a133 n134 c135]]) ?_
  refine q_ (.agg #[.slice a127 n128 c129, .slice a130 n131 c132]) ?_
  refine q_ (.agg #[i_ y104.2.2.1, .slice a133 n134 c135]) ?_
  refine s_rwk e114.wf [.slice none 0 0, .slice none 0 0] (by kernel_rfl) fun b136 H137 e138 hb139 r140 => ?_
  refine s_rwk e138.wf [i_ 0, .slice none 0 0] (by kernel_rfl) fun b142 H143 e144 hb145 r146 => ?_
  have u152 := (r140.ext e144)
  have u153 := ((m116.ext e138).ext e144)
  have u154 := ((m115.ext e138).ext e144)
  obtain ⟨H148, q149, e150, r151⟩ := Row.store (P := Tryz.prog) (t := 40) (p := 0) e144.wf u152 (.agg #[.slice a127 n128 c129, .slice a130 n131 c132]) [.slice a127 n128 c129, .slice a130 n131 c132] (by kernel_rfl) (by kernel_rfl) (one_cons (u154.one1) (one_cons (u153.one1) (one_nil))) (Nat.le_of_ble_eq_true (by kernel_rfl)) [.slice a127 n128 c129, .slice a130 n131 c132] (by kernel_rfl)
  refine s_ek (undef) (by kernel_rfl) (map_ok q149) ?_
  have u159 := (r146.frS e150 (Dj.symm (hb145.djn r140.ltF)))
  have u160 := (((m117.ext e138).ext e144).fr e150 (hb139.djn m117.lt))
  obtain ⟨H155, q156, e157, r158⟩ := Row.store (P := Tryz.prog) (t := 34) (p := 0) e150.wf u159 (.agg #[i_ y104.2.2.1, .slice a133 n134 c135]) [i_ y104.2.2.1, .slice a133 n134 c135] (by kernel_rfl) (by kernel_rfl) (one_cons (rfl) (one_cons (u160.one1) (one_nil))) (Nat.le_of_ble_eq_true (by kernel_rfl)) [i_ y104.2.2.1, .slice a133 n134 c135] (by kernel_rfl)
  refine s_ek (undef) (by kernel_rfl) (map_ok q156) ?_
  refine s_nil (k101 _ _ ?_)
  refine w_seqk fun _ k161 => ?_
  refine w_seqk fun _ k162 => ?_
  obtain ⟨o163, hx164, r165⟩ := bind_some r106
  refine w_mid (fun α H166 => Has α [(1, hd_script), (2, pt_ b2 0), (5, .pointer none), (8, pt_ b136 0), (51, .bool true)] ∧ H155 = H166) (fun _ k168 => ?_) (fun α H166 hM => ?_)
  ·refine g_' ?_
   refine q_ (v28) ?_
   have u173 := (((((((((m32.fr e45 Dj.nil_l).ext e54).fr e60 (hb55.djn (m32.lt.le e45.next))).fr e69 Dj.nil_l).fr e114 Dj.nil_l).ext e138).ext e144).fr e150 (hb139.djn (m32.lt.le (ntr (ntr (ntr (ntr e45.next e54.next) e60.next) e69.next) e114.next)))).fr e157 (hb145.djn (m32.lt.le (ntr (ntr (ntr (ntr (ntr e45.next e54.next) e60.next) e69.next) e114.next) e138.next))))
   rcases (u173).cases with ⟨h170, rfl⟩ | ⟨h170, t171, x172, rfl⟩
   ·have r174 := ite_t h170 hx164
    refine q_ (.bool false) ?_
    refine q_ (.bool false) ?_
    refine q_ (.pointer none) ?_
    refine q_ (.bool true) ?_
    refine q_ (.bool true) ?_
    refine s_nil ?_
    obtain rfl := Option.some.inj r174
    exact k168 _ _ ⟨ha_, rfl⟩
   have r175 := ite_f h170 hx164
   refine l_' (.bool true) (aBin Tryz.prog .neq 29 (.tmp 46) (.const .nilIface) (.iface t171 x172) .nilIface) (aBin_nnil (by kernel_rfl)) ?_
   refine q_ (.bool true) ?_
   refine n_' ?_
   refine n_' ?_
   refine q_ (.bool true) ?_
   refine s_nil ?_
   obtain rfl := Option.some.inj r175
   exact k168 _ _ ⟨ha_, rfl⟩
  obtain ⟨hh169, rfl⟩ := hM
  obtain ⟨β, rfl⟩ := has_ex hh169
  clear hh169
  refine k162 _ _ ?_
  refine w_cond true (by kernel_rfl) rfl (fun _ => ?_) (fun h => by cases h)
  refine w_seqk fun _ k176 => ?_
  refine g_' ?_
  refine q_ (.bool false) ?_
  refine s_nil (k176 _ _ ?_)
  refine w_ret (th_ret ?_)
  refine b_ret (fn := Tryz.f3) (vs := [.bool false]) (aRes_tmp (by kernel_rfl) (rfl)) ?_
  obtain rfl := Option.some.inj r165
  exact ⟨rfl, (FrS.step wf (FrS.step wf (((FrS.step wf (FrS.step wf (FrS.step wf ((FrS.step wf (FrS.step wf (FrS.step wf ((FrS.refl (W := []) wf).extR e4) e14 Inn.nil) e31 Inn.nil) e45 Inn.nil).extR e54) e60 (hb55.fresh (ntr (ntr (ntr e4.next e14.next) e31.next) e45.next))) e69 Inn.nil) e114 Inn.nil).extR e138).extR e144) e150 (hb139.fresh (ntr (ntr (ntr (ntr (ntr (ntr (ntr e4.next e14.next) e31.next) e45.next) e54.next) e60.next) e69.next) e114.next))) e157 (hb145.fresh (ntr (ntr (ntr (ntr (ntr (ntr (ntr (ntr e4.next e14.next) e31.next) e45.next) e54.next) e60.next) e69.next) e114.next) e138.next)))⟩
 have r177 := elim_r r24
 refine s_ck 5 #[.agg #[i_ N_, hd_Arcs]] (by kernel_rfl) (c_overlay_New e14.wf u21 hy23) ?_
 rintro _ H181 ⟨s178, f179, b180, rfl, e182, m183, m184, i185, i186, d187⟩
 obtain ⟨a190, n191, c192, rfl⟩ := m183.form
 refine q_ (.tuple #[pt_ b180 0, .nilIface]) ?_
 refine q_ (pt_ b180 0) ?_
 refine q_ (.nilIface) ?_
 refine q_ (pt_ b180 0) ?_
 refine q_ (.nilIface) ?_
 refine s_nil (k19 _ _ ?_)
 refine w_seqk fun _ k193 => ?_
 refine w_seqk fun _ k194 => ?_
 refine g_' ?_
 have u195 := (u20.frS e182 Dj.nil_l)
 refine l_' (.agg #[i_ N_, hd_Arcs]) (aLoad Tryz.prog 24 (pt_ b2 0) H181) (u195.ld (by kernel_rfl)) ?_
 have u196 := (u21.fr e182 Dj.nil_l)
 obtain ⟨y197, hy198, r199⟩ := bind_some r177
 refine s_ck 6 #[.agg #[i_ N_, hd_Arcs]] (by kernel_rfl) (c_viaductref03_DocCheck e182.wf u196 hy198) ?_
 rintro _ H202 ⟨s200, f201, rfl, e203, m204, i205⟩
 obtain ⟨a207, n208, c209, rfl⟩ := m204.form
 refine s_rwk e203.wf [i_ 0, .slice none 0 0] (by kernel_rfl) fun b210 H211 e212 hb213 r214 => ?_
 have u220 := (m204.ext e212)
 obtain ⟨H216, q217, e218, r219⟩ := Row.store (P := Tryz.prog) (t := 34) (p := 0) e212.wf r214 (.agg #[i_ y197.1, .slice a207 n208 c209]) [i_ y197.1, .slice a207 n208 c209] (by kernel_rfl) (by kernel_rfl) (one_cons (rfl) (one_cons (u220.one1) (one_nil))) (Nat.le_of_ble_eq_true (by kernel_rfl)) [i_ y197.1, .slice a207 n208 c209] (by kernel_rfl)
 refine s_ek (undef) (by kernel_rfl) (map_ok q217) ?_
 refine s_nil (k194 _ _ ?_)
 refine w_seqk fun _ k221 => ?_
 refine g_' ?_
 refine l_' (.agg #[i_ y197.1, .slice a207 n208 c209]) (aLoad Tryz.prog 34 (pt_ b210 0) H216) (r219.ld (by kernel_rfl)) ?_
 have u222 := (u220.fr e218 (hb213.djn m204.lt))
 obtain ⟨y223, hy224, r225⟩ := bind_some r199
 refine s_ck 7 #[.agg #[i_ y197.1, .slice a207 n208 c209]] (by kernel_rfl) (c_viaductref01_Err_Bad e218.wf u222.sq hy224) ?_
 rintro _ H226 ⟨rfl, e227⟩
 refine s_nil (k221 _ _ ?_)
 refine w_cond (y223) (by kernel_rfl) rfl (fun h228 => ?_) (fun h228 => ?_)
 ·have r229 := ite_t h228 r225
  refine w_seqk fun _ k230 => ?_
  refine g_' ?_
  refine q_ (pt_ b180 0) ?_
  refine q_ (.bool false) ?_
  refine q_ (.bool false) ?_
  refine n_' ?_
  refine n_' ?_
  refine n_' ?_
  refine q_ (.bool false) ?_
  refine q_ (.bool false) ?_
  refine s_nil (k230 _ _ ?_)
  refine w_ret (th_ret ?_)
  refine b_ret (fn := Tryz.f3) (vs := [.bool false]) (aRes_tmp (by kernel_rfl) (rfl)) ?_
  obtain rfl := Option.some.inj r229
  exact ⟨rfl, (FrS.step wf (FrS.step wf ((FrS.step wf (FrS.step wf (FrS.step wf ((FrS.refl (W := []) wf).extR e4) e14 Inn.nil) e182 Inn.nil) e203 Inn.nil).extR e212) e218 (hb213.fresh (ntr (ntr (ntr e4.next e14.next) e182.next) e203.next))) e227 Inn.nil)⟩
 have r231 := ite_bf h228 r225
 refine w_skip ?_
 refine k193 _ _ ?_
 refine w_seqk fun _ k232 => ?_
 refine w_seqk fun _ k233 => ?_
 obtain ⟨o234, hx235, r236⟩ := bind_some r231
 refine w_mid (fun α H237 => Has α [(1, hd_script), (2, pt_ b2 0), (5, pt_ b180 0), (6, .nilIface), (40, .bool o234)] ∧ H226 = H237) (fun _ k239 => ?_) (fun α H237 hM => ?_)
 ·refine g_' ?_
  refine q_ (pt_ b2 1) ?_
  have u241 := ((((u195.frS e203 Dj.nil_l).ext e212).frS e218 (hb213.djn (r6.ltF.le (ntr (ntr e14.next e182.next) e203.next)))).frS e227 Dj.nil_l)
  refine l_' (hd_Arcs) (aLoad Tryz.prog 22 (pt_ b2 1) H226) (u241.ld (by kernel_rfl)) ?_
  have u242 := ((((u196.fr e203 Dj.nil_l).ext e212).fr e218 (hb213.djn (h_Arcs.lt.le (ntr (ntr (ntr e4.next e14.next) e182.next) e203.next)))).fr e227 Dj.nil_l)
  refine l_' (i_ (Arcs.length : Int)) (aLen Tryz.prog 22 hd_Arcs H226) (u242.lenb (by kernel_rfl)) ?_
  refine s_b ((Arcs.length : Int) > 2000) (by kernel_rfl) (fun h243 => ?_) (fun h243 => ?_)
  ·have r244 := ite_t h243 hx235
   refine q_ (.bool true) ?_
   refine n_' ?_
   refine n_' ?_
   refine n_' ?_
   refine q_ (.bool true) ?_
   refine s_nil ?_
   obtain rfl := Option.some.inj r244
   exact k239 _ _ ⟨ha_, rfl⟩
  have r245 := ite_f h243 hx235
  refine q_ (.bool false) ?_
  refine q_ (hd_script) ?_
  have u246 := (((((((h_script.ext e4).fr e14 Dj.nil_l).fr e182 Dj.nil_l).fr e203 Dj.nil_l).ext e212).fr e218 (hb213.djn (h_script.lt.le (ntr (ntr (ntr e4.next e14.next) e182.next) e203.next)))).fr e227 Dj.nil_l)
  refine l_' (i_ (script.length : Int)) (aLen Tryz.prog 25 hd_script H226) (u246.lenb (by kernel_rfl)) ?_
  refine q_ (.bool (decide ((script.length : Int) > 500))) ?_
  refine q_ (.bool (decide ((script.length : Int) > 500))) ?_
  refine s_nil ?_
  obtain rfl := Option.some.inj r245
  exact k239 _ _ ⟨ha_, rfl⟩
 obtain ⟨hh240, rfl⟩ := hM
 obtain ⟨β, rfl⟩ := has_ex hh240
 clear hh240
 refine k233 _ _ ?_
 refine w_cond (o234) (by kernel_rfl) rfl (fun h247 => ?_) (fun h247 => ?_)
 ·have r248 := ite_t h247 r236
  refine w_seqk fun _ k249 => ?_
  refine g_' ?_
  refine q_ (.bool true) ?_
  refine s_nil (k249 _ _ ?_)
  refine w_ret (th_ret ?_)
  refine b_ret (fn := Tryz.f3) (vs := [.bool true]) (aRes_tmp (by kernel_rfl) (rfl)) ?_
  obtain rfl := Option.some.inj r248
  exact ⟨rfl, (FrS.step wf (FrS.step wf ((FrS.step wf (FrS.step wf (FrS.step wf ((FrS.refl (W := []) wf).extR e4) e14 Inn.nil) e182 Inn.nil) e203 Inn.nil).extR e212) e218 (hb213.fresh (ntr (ntr (ntr e4.next e14.next) e182.next) e203.next))) e227 Inn.nil)⟩
 have r250 := ite_bf h247 r236
 refine w_skip ?_
 refine k232 _ _ ?_
 refine w_seqk fun _ k251 => ?_
 refine g_' ?_
 have u252 := ((((u195.frS e203 Dj.nil_l).ext e212).frS e218 (hb213.djn (r6.ltF.le (ntr (ntr e14.next e182.next) e203.next)))).frS e227 Dj.nil_l)
 refine l_' (.agg #[i_ N_, hd_Arcs]) (aLoad Tryz.prog 24 (pt_ b2 0) H226) (u252.ld (by kernel_rfl)) ?_
 have u253 := ((((u196.fr e203 Dj.nil_l).ext e212).fr e218 (hb213.djn (h_Arcs.lt.le (ntr (ntr (ntr e4.next e14.next) e182.next) e203.next)))).fr e227 Dj.nil_l)
 obtain ⟨y254, hy255, r256⟩ := bind_some r250
 refine s_ck 9 #[.agg #[i_ N_, hd_Arcs]] (by kernel_rfl) (c_viaductref11_DocNew e227.wf u253 hy255) ?_
 rintro _ H263 ⟨s257, f258, s259, f260, s261, f262, rfl, e264, m265, m266, m267, i268, i269, i270, d271, d272, d273⟩
 obtain ⟨a277, n278, c279, rfl⟩ := m265.form
 obtain ⟨a280, n281, c282, rfl⟩ := m266.form
 obtain ⟨a283, n284, c285, rfl⟩ := m267.form
 refine q_ (.tuple #[.agg #[.slice a277 n278 c279, .slice a280 n281 c282], .agg #[i_ y254.2.2.1, .slice a283 n284 c285]]) ?_
 refine q_ (.agg #[.slice a277 n278 c279, .slice a280 n281 c282]) ?_
 refine q_ (.agg #[i_ y254.2.2.1, .slice a283 n284 c285]) ?_
 refine s_rwk e264.wf [.slice none 0 0, .slice none 0 0] (by kernel_rfl) fun b286 H287 e288 hb289 r290 => ?_
 refine s_rwk e288.wf [i_ 0, .slice none 0 0] (by kernel_rfl) fun b292 H293 e294 hb295 r296 => ?_
 have u302 := (r290.ext e294)
 have u303 := ((m266.ext e288).ext e294)
 have u304 := ((m265.ext e288).ext e294)
 obtain ⟨H298, q299, e300, r301⟩ := Row.store (P := Tryz.prog) (t := 40) (p := 0) e294.wf u302 (.agg #[.slice a277 n278 c279, .slice a280 n281 c282]) [.slice a277 n278 c279, .slice a280 n281 c282] (by kernel_rfl) (by kernel_rfl) (one_cons (u304.one1) (one_cons (u303.one1) (one_nil))) (Nat.le_of_ble_eq_true (by kernel_rfl)) [.slice a277 n278 c279, .slice a280 n281 c282] (by kernel_rfl)
 refine s_ek (undef) (by kernel_rfl) (map_ok q299) ?_
 have u309 := (r296.frS e300 (Dj.symm (hb295.djn r290.ltF)))
 have u310 := (((m267.ext e288).ext e294).fr e300 (hb289.djn m267.lt))
 obtain ⟨H305, q306, e307, r308⟩ := Row.store (P := Tryz.prog) (t := 34) (p := 0) e300.wf u309 (.agg #[i_ y254.2.2.1, .slice a283 n284 c285]) [i_ y254.2.2.1, .slice a283 n284 c285] (by kernel_rfl) (by kernel_rfl) (one_cons (rfl) (one_cons (u310.one1) (one_nil))) (Nat.le_of_ble_eq_true (by kernel_rfl)) [i_ y254.2.2.1, .slice a283 n284 c285] (by kernel_rfl)
 refine s_ek (undef) (by kernel_rfl) (map_ok q306) ?_
 refine s_nil (k251 _ _ ?_)
 refine w_seqk fun _ k311 => ?_
 refine w_seqk fun _ k312 => ?_
 refine g_' ?_
 refine q_ (.nilIface) ?_
 refine q_ (.bool false) ?_
 refine q_ (.bool false) ?_
 refine q_ (pt_ b180 0) ?_
 refine q_ (.bool false) ?_
 refine q_ (.bool false) ?_
 refine s_nil (k312 _ _ ?_)
 refine w_cond false (by kernel_rfl) rfl (fun h => by cases h) (fun _ => ?_)
 refine w_skip ?_
 refine k311 _ _ ?_
 refine w_seqk fun _ k313 => ?_
 refine w_seqk fun _ k314 => ?_
 refine g_' ?_
 refine q_ (hd_script) ?_
 have u315 := ((((((((((((h_script.ext e4).fr e14 Dj.nil_l).fr e182 Dj.nil_l).fr e203 Dj.nil_l).ext e212).fr e218 (hb213.djn (h_script.lt.le (ntr (ntr (ntr e4.next e14.next) e182.next) e203.next)))).fr e227 Dj.nil_l).fr e264 Dj.nil_l).ext e288).ext e294).fr e300 (hb289.djn (h_script.lt.le (ntr (ntr (ntr (ntr (ntr (ntr (ntr e4.next e14.next) e182.next) e203.next) e212.next) e218.next) e227.next) e264.next)))).fr e307 (hb295.djn (h_script.lt.le (ntr (ntr (ntr (ntr (ntr (ntr (ntr (ntr e4.next e14.next) e182.next) e203.next) e212.next) e218.next) e227.next) e264.next) e288.next))))
 refine l_' (i_ (script.length : Int)) (aLen Tryz.prog 25 hd_script H305) (u315.lenb (by kernel_rfl)) ?_
 refine q_ (i_ 0) ?_
 refine s_nil (k314 _ _ ?_)
 obtain ⟨z319, hx317, r318⟩ := bind_some r256
 refine w_mid (fun α H320 => ∃ o316, z319 = Sum.inr o316 ∧ ∃ (f324 : Fp) (s329 : Value) (f330 : Fp) (s333 : Value) (f334 : Fp), Has α [(2, pt_ b2 0), (5, pt_ b180 0), (8, pt_ b286 0)] ∧ FrS ([b180] ++ ([b286] ++ f179)) H305 H320 ∧ Nd enc_i64_u64_i64 3 H320 (.slice a190 n191 c192) o316.1 f324 [] ∧ Row H320 b180 [.slice a190 n191 c192, i_ o316.2.1, i_ o316.2.2.1] ∧ Sq encB 1 H320 s329 o316.2.2.2.1 f330 ∧ Sq enc_i64_i64_u64_i64 4 H320 s333 o316.2.2.2.2 f334 ∧ Row H320 b286 [s329, s333] ∧ Inn f179 H305 f324 ∧ Inn f258 H305 f330 ∧ Inn f260 H305 f334 ∧ Dj f324 f330 ∧ Dj f324 f334 ∧ Dj f330 f334) (fun _ k343 => ?_) (fun α H320 hM => ?_)
 ·refine w_block ?_
  obtain ⟨n345, hn346⟩ := loopO_iff.1 hx317
  have u376 := (((((((((m183.fr e203 Dj.nil_l).ext e212).fr e218 (hb213.djn (m183.lt.le e203.next))).fr e227 Dj.nil_l).fr e264 Dj.nil_l).ext e288).ext e294).fr e300 (hb289.djn (m183.lt.le (ntr (ntr (ntr (ntr e203.next e212.next) e218.next) e227.next) e264.next)))).fr e307 (hb295.djn (m183.lt.le (ntr (ntr (ntr (ntr (ntr e203.next e212.next) e218.next) e227.next) e264.next) e288.next))))
  have u377 := (((((((((m184.frS e203 Dj.nil_l).ext e212).frS e218 (hb213.djn (m184.ltF.le e203.next))).frS e227 Dj.nil_l).frS e264 Dj.nil_l).ext e288).ext e294).frS e300 (hb289.djn (m184.ltF.le (ntr (ntr (ntr (ntr e203.next e212.next) e218.next) e227.next) e264.next)))).frS e307 (hb295.djn (m184.ltF.le (ntr (ntr (ntr (ntr (ntr e203.next e212.next) e218.next) e227.next) e264.next) e288.next))))
  have u378 := ((u304.fr e300 (hb289.djn m265.lt)).fr e307 (hb295.djn (m265.lt.le e288.next)))
  have u379 := ((u303.fr e300 (hb289.djn m266.lt)).fr e307 (hb295.djn (m266.lt.le e288.next)))
  have u380 := (r301.frS e307 (hb295.djn r290.ltF))
  refine w_loopn (fun n α H347 => ∃ (o0 : List (Bool × List (Int × Int × Int) × List (Int × Int × Int))), ∃ (o1 : Int), ∃ (o2 : Int), ∃ (i3 : Int), ∃ (m4 : List (Bool)), ∃ (m5 : List (Int × Int × Int × Int)), ∃ (f351 : Fp), ∃ (s356 : Value), ∃ (f357 : Fp), ∃ (s360 : Value), ∃ (f361 : Fp), iterO (fun zz_ => z_viaductlaw11_OverlayPlays_l0 script zz_.1 zz_.2.1 zz_.2.2.1 zz_.2.2.2.1 zz_.2.2.2.2.1 zz_.2.2.2.2.2) n (o0, o1, o2, i3, m4, m5) = some z319 ∧ Has α [(2, pt_ b2 0), (5, pt_ b180 0), (8, pt_ b286 0), (52, hd_script), (53, i_ (script.length : Int)), (54, i_ i3)] ∧ FrS ([b180] ++ ([b286] ++ f179)) H305 H347 ∧ Nd enc_i64_u64_i64 3 H347 (.slice a190 n191 c192) o0 f351 [] ∧ Row H347 b180 [.slice a190 n191 c192, i_ o1, i_ o2] ∧ Sq encB 1 H347 s356 m4 f357 ∧ Sq enc_i64_i64_u64_i64 4 H347 s360 m5 f361 ∧ Row H347 b286 [s356, s360] ∧ Inn f179 H305 f351 ∧ Inn f258 H305 f357 ∧ Inn f260 H305 f361 ∧ Dj f351 f357 ∧ Dj f351 f361 ∧ Dj f357 f361) n345 ⟨y26.1, y26.2.1, y26.2.2, 0, y254.1, y254.2.1, f179, (.slice a277 n278 c279), f258, (.slice a280 n281 c282), f260, hn346, ha_, (FrS.refl (W := ([b180] ++ ([b286] ++ f179))) e307.wf), u376, u377, u378.sq, u379.sq, u380, Inn.refl', Inn.refl', Inn.refl', (Dj.symm (i268.djn (m183.lt.le (ntr (ntr (ntr e203.next e212.next) e218.next) e227.next)))), (Dj.symm (i269.djn (m183.lt.le (ntr (ntr (ntr e203.next e212.next) e218.next) e227.next)))), d271⟩ ?_
  rintro n345 α H347 ⟨o0, o1, o2, i3, m4, m5, f351, s356, f357, s360, f361, hi371, hh370, e348, m350, m353, m355, m359, m363, i364, i365, i366, d367, d368, d369⟩ K381 k381
  obtain ⟨n372, z373, rfl, hz374, hn375⟩ := iter_succ hi371
  obtain ⟨β, rfl⟩ := has_ex hh370
  clear hh370
  replace hz374 : z_viaductlaw11_OverlayPlays_l0 script o0 o1 o2 i3 m4 m5 = some z373 := hz374
  unfold z_viaductlaw11_OverlayPlays_l0 at hz374
  obtain ⟨a382, n383, c384, rfl⟩ := m355.form
  obtain ⟨a385, n386, c387, rfl⟩ := m359.form
  refine w_seqk fun _ k388 => ?_
  refine g_' ?_
  refine q_ (.bool (decide (i3 < (script.length : Int)))) ?_
  refine s_nil (k388 _ _ ?_)
  refine w_seqk fun _ k389 => ?_
  refine w_condp (i3 < (script.length : Int)) (by kernel_rfl) rfl (fun h390 => ?_) (fun h390 => ?_)
  ·have r391 := ite_t h390 hz374
   refine w_skip ?_
   refine k389 _ _ ?_
   refine w_seqk fun _ k392 => ?_
   refine w_block ?_
   refine w_seqk fun _ k393 => ?_
   refine g_' ?_
   obtain ⟨g394, r395⟩ := G_some r391
   have u396 := (u315.fr e348 (Dj.app (i186.djn (h_script.lt.le (ntr e4.next e14.next))) (Dj.app (hb289.djn (h_script.lt.le (ntr (ntr (ntr (ntr (ntr (ntr (ntr e4.next e14.next) e182.next) e203.next) e212.next) e218.next) e227.next) e264.next))) (i185.djn (h_script.lt.le (ntr e4.next e14.next))))))
   refine l_' (elp hd_script 5 i3.toNat 0) (aIndexAddr Tryz.prog 25 hd_script (i_ i3)) (u396.idxb (by kernel_rfl) g394 h390) ?_
   refine l_' (.agg #[.int .u8 ((gt script i3).1), i_ ((gt script i3).2.1), i_ ((gt script i3).2.2.1), .int .u64 ((gt script i3).2.2.2.1), i_ ((gt script i3).2.2.2.2)]) (aLoad Tryz.prog 45 (elp hd_script 5 i3.toNat 0) H347) (u396.ld g394 h390 (by kernel_rfl)) ?_
   refine s_rwk e348.wf [.int .u8 0, i_ 0, i_ 0, .int .u64 0, i_ 0] (by kernel_rfl) fun b397 H398 e399 hb400 r401 => ?_
   obtain ⟨H403, q404, e405, r406⟩ := Row.store (P := Tryz.prog) (t := 45) (p := 0) e399.wf r401 (.agg #[.int .u8 ((gt script i3).1), i_ ((gt script i3).2.1), i_ ((gt script i3).2.2.1), .int .u64 ((gt script i3).2.2.2.1), i_ ((gt script i3).2.2.2.2)]) [.int .u8 ((gt script i3).1), i_ ((gt script i3).2.1), i_ ((gt script i3).2.2.1), .int .u64 ((gt script i3).2.2.2.1), i_ ((gt script i3).2.2.2.2)] (by kernel_rfl) (by kernel_rfl) (one_cons (rfl) (one_cons (rfl) (one_cons (rfl) (one_cons (rfl) (one_cons (rfl) (one_nil)))))) (Nat.le_of_ble_eq_true (by kernel_rfl)) [.int .u8 ((gt script i3).1), i_ ((gt script i3).2.1), i_ ((gt script i3).2.2.1), .int .u64 ((gt script i3).2.2.2.1), i_ ((gt script i3).2.2.2.2)] (by kernel_rfl)
   refine s_ek (undef) (by kernel_rfl) (map_ok q404) ?_
   refine s_nil (k393 _ _ ?_)
   refine w_seqk fun _ k407 => ?_
   refine g_' ?_
   refine q_ (.bool false) ?_
   refine s_nil (k407 _ _ ?_)
   refine w_seqk fun _ k408 => ?_
   refine g_' ?_
   refine q_ (pt_ b180 0) ?_
   have u409 := ((m363.ext e399).frS e405 (hb400.djn (r290.ltF.le (ntr (ntr (ntr e294.next e300.next) e307.next) e348.next))))
   refine l_' (.agg #[.slice a382 n383 c384, .slice a385 n386 c387]) (aLoad Tryz.prog 40 (pt_ b286 0) H403) (u409.ld (by kernel_rfl)) ?_
   refine l_' (.agg #[.int .u8 ((gt script i3).1), i_ ((gt script i3).2.1), i_ ((gt script i3).2.2.1), .int .u64 ((gt script i3).2.2.2.1), i_ ((gt script i3).2.2.2.2)]) (aLoad Tryz.prog 45 (pt_ b397 0) H403) (r406.ld (by kernel_rfl)) ?_
   have u410 := ((m350.ext e399).fr e405 (hb400.djn m350.lt))
   have u411 := ((m353.ext e399).frS e405 (hb400.djn (m184.ltF.le (ntr (ntr (ntr (ntr (ntr (ntr (ntr (ntr (ntr e203.next e212.next) e218.next) e227.next) e264.next) e288.next) e294.next) e300.next) e307.next) e348.next))))
   have u412 := ((m355.ext e399).fr e405 (hb400.djn m355.lt))
   have u413 := ((m359.ext e399).fr e405 (hb400.djn m359.lt))
   obtain ⟨y414, hy415, r416⟩ := bind_some r395
   refine s_ck 10 #[pt_ b180 0, .agg #[.slice a382 n383 c384, .slice a385 n386 c387], .agg #[.int .u8 ((gt script i3).1), i_ ((gt script i3).2.1), i_ ((gt script i3).2.2.1), .int .u64 ((gt script i3).2.2.2.1), i_ ((gt script i3).2.2.2.2)]] (by kernel_rfl) (c_viaductlaw11_step e405.wf u410 u411 u412 u413 (Dj.symm (i364.dj d187 (m184.ltF.le (ntr (ntr (ntr (ntr (ntr (ntr (ntr (ntr e203.next e212.next) e218.next) e227.next) e264.next) e288.next) e294.next) e300.next) e307.next)))) d367 (Dj.symm (i365.dj (i268.djn (m184.ltF.le (ntr (ntr (ntr e203.next e212.next) e218.next) e227.next))) (m184.ltF.le (ntr (ntr (ntr (ntr (ntr (ntr (ntr (ntr e203.next e212.next) e218.next) e227.next) e264.next) e288.next) e294.next) e300.next) e307.next)))) d368 (Dj.symm (i366.dj (i269.djn (m184.ltF.le (ntr (ntr (ntr e203.next e212.next) e218.next) e227.next))) (m184.ltF.le (ntr (ntr (ntr (ntr (ntr (ntr (ntr (ntr e203.next e212.next) e218.next) e227.next) e264.next) e288.next) e294.next) e300.next) e307.next)))) d369 (Dj.symm d369) (i364.dj d187 (m184.ltF.le (ntr (ntr (ntr (ntr (ntr (ntr (ntr (ntr e203.next e212.next) e218.next) e227.next) e264.next) e288.next) e294.next) e300.next) e307.next))) (Dj.symm d367) (Dj.symm d368) hy415) ?_
   rintro _ H422 ⟨s417, f418, s419, f420, f421, rfl, e423, m424, m425, m426, m427, i428, i429, i430, d431, d432, d433⟩
   obtain ⟨a436, n437, c438, rfl⟩ := m424.form
   obtain ⟨a439, n440, c441, rfl⟩ := m425.form
   refine q_ (.tuple #[.agg #[.slice a436 n437 c438, .slice a439 n440 c441], .bool y414.2.2.1]) ?_
   refine q_ (.agg #[.slice a436 n437 c438, .slice a439 n440 c441]) ?_
   refine q_ (.bool y414.2.2.1) ?_
   have u446 := (u409.frS e423 (Dj.app (Dj.symm (hb289.djn (m184.ltF.le (ntr (ntr (ntr (ntr e203.next e212.next) e218.next) e227.next) e264.next)))) (i364.dj (Dj.symm (hb289.djn (m183.lt.le (ntr (ntr (ntr (ntr e203.next e212.next) e218.next) e227.next) e264.next)))) (r290.ltF.le (ntr (ntr e294.next e300.next) e307.next)))))
   obtain ⟨H442, q443, e444, r445⟩ := Row.store (P := Tryz.prog) (t := 40) (p := 0) e423.wf u446 (.agg #[.slice a436 n437 c438, .slice a439 n440 c441]) [.slice a436 n437 c438, .slice a439 n440 c441] (by kernel_rfl) (by kernel_rfl) (one_cons (m424.one1) (one_cons (m425.one1) (one_nil))) (Nat.le_of_ble_eq_true (by kernel_rfl)) [.slice a436 n437 c438, .slice a439 n440 c441] (by kernel_rfl)
   refine s_ek (undef) (by kernel_rfl) (map_ok q443) ?_
   refine q_ (.bool y414.2.2.1) ?_
   refine s_nil (k408 _ _ ?_)
   refine w_seqk fun _ k447 => ?_
   refine g_' ?_
   refine q_ (.bool y414.2.2.1) ?_
   refine q_ (.bool (!y414.2.2.1)) ?_
   refine s_nil (k447 _ _ ?_)
   refine w_cond ((!y414.2.2.1)) (by kernel_rfl) rfl (fun h448 => ?_) (fun h448 => ?_)
   ·have r449 := ite_t h448 r416
    refine w_seqk fun _ k450 => ?_
    refine g_' ?_
    refine q_ (.bool false) ?_
    refine s_nil (k450 _ _ ?_)
    refine w_ret (bl_ret (th_ret (th_ret (bl_ret (th_ret (th_ret ?_))))))
    obtain ⟨v451, hv452, hz453⟩ := map_some r449
    subst hz453
    obtain rfl := it_inr hn375
    have hq454 := elim_inl r318
    rw [hq454] at hv452
    refine b_ret (fn := Tryz.f3) (vs := [.bool false]) (aRes_tmp (by kernel_rfl) (rfl)) ?_
    obtain rfl := Option.some.inj hv452
    exact ⟨rfl, (FrS.step wf (FrS.step wf (FrS.step wf ((FrS.step wf (FrS.step wf (FrS.step wf (((FrS.step wf (FrS.step wf (FrS.step wf ((FrS.step wf (FrS.step wf (FrS.step wf ((FrS.refl (W := []) wf).extR e4) e14 Inn.nil) e182 Inn.nil) e203 Inn.nil).extR e212) e218 (hb213.fresh (ntr (ntr (ntr e4.next e14.next) e182.next) e203.next))) e227 Inn.nil) e264 Inn.nil).extR e288).extR e294) e300 (hb289.fresh (ntr (ntr (ntr (ntr (ntr (ntr (ntr e4.next e14.next) e182.next) e203.next) e212.next) e218.next) e227.next) e264.next))) e307 (hb295.fresh (ntr (ntr (ntr (ntr (ntr (ntr (ntr (ntr e4.next e14.next) e182.next) e203.next) e212.next) e218.next) e227.next) e264.next) e288.next))) e348 (Inn.app (i186.fresh (ntr e4.next e14.next)) (Inn.app (hb289.fresh (ntr (ntr (ntr (ntr (ntr (ntr (ntr e4.next e14.next) e182.next) e203.next) e212.next) e218.next) e227.next) e264.next)) (i185.fresh (ntr e4.next e14.next))))).extR e399) e405 (hb400.fresh (ntr (ntr (ntr (ntr (ntr (ntr (ntr (ntr (ntr (ntr (ntr (ntr e4.next e14.next) e182.next) e203.next) e212.next) e218.next) e227.next) e264.next) e288.next) e294.next) e300.next) e307.next) e348.next))) e423 (Inn.app (i186.fresh (ntr e4.next e14.next)) (Inn.trans (i185.fresh (ntr e4.next e14.next)) (ntr (ntr (ntr (ntr (ntr (ntr (ntr (ntr (ntr (ntr (ntr e4.next e14.next) e182.next) e203.next) e212.next) e218.next) e227.next) e264.next) e288.next) e294.next) e300.next) e307.next) i364))) e444 (hb289.fresh (ntr (ntr (ntr (ntr (ntr (ntr (ntr e4.next e14.next) e182.next) e203.next) e212.next) e218.next) e227.next) e264.next)))⟩
   have r455 := ite_bf h448 r416
   refine w_skip ?_
   refine k392 _ _ ?_
   refine g_' ?_
   obtain ⟨g456, r457⟩ := G_some r455
   refine s_w ((i3 + 1)) (k := .i64) (x := (i3 + 1)) (by kernel_rfl) (wrap64 (by have := g456; omega)) ?_
   refine q_ (i_ (i3 + 1)) ?_
   refine s_nil ?_
   have u458 := (m426.fr e444 (Dj.symm (i430.dj (i364.dj (Dj.symm (hb289.djn (m183.lt.le (ntr (ntr (ntr (ntr e203.next e212.next) e218.next) e227.next) e264.next)))) (r290.ltF.le (ntr (ntr e294.next e300.next) e307.next))) (r290.ltF.le (ntr (ntr (ntr (ntr (ntr e294.next e300.next) e307.next) e348.next) e399.next) e405.next)))))
   have u459 := (m427.frS e444 (hb289.djn (m184.ltF.le (ntr (ntr (ntr (ntr e203.next e212.next) e218.next) e227.next) e264.next))))
   have u460 := (m424.fr e444 (Dj.symm (i428.dj (i365.dj (Dj.symm (hb289.djn m265.lt)) (r290.ltF.le (ntr (ntr e294.next e300.next) e307.next))) (r290.ltF.le (ntr (ntr (ntr (ntr (ntr e294.next e300.next) e307.next) e348.next) e399.next) e405.next)))))
   have u461 := (m425.fr e444 (Dj.symm (i429.dj (i366.dj (Dj.symm (hb289.djn m266.lt)) (r290.ltF.le (ntr (ntr e294.next e300.next) e307.next))) (r290.ltF.le (ntr (ntr (ntr (ntr (ntr e294.next e300.next) e307.next) e348.next) e399.next) e405.next)))))
   obtain rfl := Option.some.inj r457
   exact k381 n372 _ _ (Nat.lt_succ_self _) ⟨y414.2.2.2.1, y414.2.2.2.2.1, y414.2.2.2.2.2, (i3 + 1), y414.1, y414.2.1, f421, (.slice a436 n437 c438), f418, (.slice a439 n440 c441), f420, hn375, ha_, (FrS.step e307.wf (FrS.step e307.wf (FrS.step e307.wf ((FrS.step e307.wf (FrS.refl (W := ([b180] ++ ([b286] ++ f179))) e307.wf) e348 (Inn.app Inn.left (Inn.app (Inn.right Inn.left) (Inn.right (Inn.right Inn.refl'))))).extR e399) e405 (hb400.fresh e348.next)) e423 (Inn.app Inn.left (Inn.trans (Inn.right (Inn.right Inn.refl')) (Nat.le_refl _) i364))) e444 (Inn.right Inn.left)), u458, u459, u460, u461, r445, (Inn.trans (Inn.trans Inn.refl' (Nat.le_refl _) i364) (ntr (ntr e348.next e399.next) e405.next) i430), (Inn.trans (Inn.trans Inn.refl' (Nat.le_refl _) i365) (ntr (ntr e348.next e399.next) e405.next) i428), (Inn.trans (Inn.trans Inn.refl' (Nat.le_refl _) i366) (ntr (ntr e348.next e399.next) e405.next) i429), (Dj.symm d432), (Dj.symm d433), d431⟩
  have r462 := ite_f h390 hz374
  refine w_exit (th_exit (th_exit (bl_eq ?_)))
  obtain rfl := Option.some.inj r462
  obtain rfl := it_inr hn375
  exact k343 _ _ ⟨_, rfl, f351, (.slice a382 n383 c384), f357, (.slice a385 n386 c387), f361, ha_, (FrS.step e307.wf (FrS.refl (W := ([b180] ++ ([b286] ++ f179))) e307.wf) e348 (Inn.app Inn.left (Inn.app (Inn.right Inn.left) (Inn.right (Inn.right Inn.refl'))))), m350, m353, m355, m359, m363, (Inn.trans Inn.refl' (Nat.le_refl _) i364), (Inn.trans Inn.refl' (Nat.le_refl _) i365), (Inn.trans Inn.refl' (Nat.le_refl _) i366), d367, d368, d369⟩
 obtain ⟨o316, rfl, f324, s329, f330, s333, f334, hh344, e321, m323, m326, m328, m332, m336, i337, i338, i339, d340, d341, d342⟩ := hM
 have r463 := elim_inr r318
 obtain ⟨β, rfl⟩ := has_ex hh344
 clear hh344
 obtain ⟨a464, n465, c466, rfl⟩ := m328.form
 obtain ⟨a467, n468, c469, rfl⟩ := m332.form
 refine k313 _ _ ?_
 refine w_seqk fun _ k470 => ?_
 refine w_seqk fun _ k471 => ?_
 refine g_' ?_
 refine q_ (pt_ b2 0) ?_
 have u472 := ((((((u252.frS e264 Dj.nil_l).ext e288).ext e294).frS e300 (hb289.djn (r6.ltF.le (ntr (ntr (ntr (ntr (ntr (ntr e14.next e182.next) e203.next) e212.next) e218.next) e227.next) e264.next)))).frS e307 (hb295.djn (r6.ltF.le (ntr (ntr (ntr (ntr (ntr (ntr (ntr e14.next e182.next) e203.next) e212.next) e218.next) e227.next) e264.next) e288.next)))).frS e321 (Dj.app (i186.djn (r6.ltF.le e14.next)) (Dj.app (hb289.djn (r6.ltF.le (ntr (ntr (ntr (ntr (ntr (ntr e14.next e182.next) e203.next) e212.next) e218.next) e227.next) e264.next))) (i185.djn (r6.ltF.le e14.next)))))
 refine l_' (i_ N_) (aLoad Tryz.prog 3 (pt_ b2 0) H320) (u472.ld (by kernel_rfl)) ?_
 refine l_' (i_ (min N_ 50)) (aMin Tryz.prog [i_ N_, i_ 50]) (aMin_two _ _) ?_
 refine q_ (i_ 0) ?_
 refine s_nil (k471 _ _ ?_)
 obtain ⟨z476, hx474, r475⟩ := bind_some r463
 refine w_mid (fun α H477 => ∃ o473, z476 = Sum.inr o473 ∧ Has α [] ∧ FrS [] H320 H477) (fun _ k479 => ?_) (fun α H477 hM => ?_)
 ·refine w_block ?_
  obtain ⟨n481, hn482⟩ := loopO_iff.1 hx474
  refine w_loopn (fun n α H483 => ∃ (i6 : Int), iterO (fun zz_ => z_viaductlaw11_OverlayPlays_l1 N_ o316 zz_) n i6 = some z476 ∧ Has α [(5, pt_ b180 0), (8, pt_ b286 0), (70, i_ (min N_ 50)), (71, i_ i6)] ∧ FrS [] H320 H483) n481 ⟨0, hn482, ha_, (FrS.refl (W := []) e321.wf)⟩ ?_
  rintro n481 α H483 ⟨i6, hi486, hh485, e484⟩ K491 k491
  obtain ⟨n487, z488, rfl, hz489, hn490⟩ := iter_succ hi486
  obtain ⟨β, rfl⟩ := has_ex hh485
  clear hh485
  replace hz489 : z_viaductlaw11_OverlayPlays_l1 N_ o316 i6 = some z488 := hz489
  unfold z_viaductlaw11_OverlayPlays_l1 at hz489
  refine w_seqk fun _ k492 => ?_
  refine g_' ?_
  refine q_ (.bool (decide (i6 < (min N_ 50)))) ?_
  refine s_nil (k492 _ _ ?_)
  refine w_seqk fun _ k493 => ?_
  refine w_condp (i6 < (min N_ 50)) (by kernel_rfl) rfl (fun h494 => ?_) (fun h494 => ?_)
  ·have r495 := ite_t h494 hz489
   refine w_skip ?_
   refine k493 _ _ ?_
   refine w_seqk fun _ k496 => ?_
   refine w_block ?_
   refine w_seqk fun _ k497 => ?_
   refine g_' ?_
   refine q_ (i_ i6) ?_
   refine q_ (i_ i6) ?_
   refine s_nil (k497 _ _ ?_)
   refine w_seqk fun _ k498 => ?_
   refine w_draw [0, 1, 3, 4, 2, 5, 6, 7, 8, 9, 10, 12, 13, 11, 14, 15, 16, 17] (by kernel_rfl) ?_
   refine e_' (pt_ b180 0) ?_
   refine e_' (i_ i6) ?_
   have u499 := (m336.frS e484 Dj.nil_l)
   refine d_fl (.agg #[.slice a464 n465 c466, .slice a467 n468 c469]) (x := aLoad Tryz.prog 40 (pt_ b286 0) H483) (by kernel_rfl) (u499.ld (by kernel_rfl)) ?_
   refine e_' (i_ i6) ?_
   have u500 := (m323.fr e484 Dj.nil_l)
   have u501 := (m326.frS e484 Dj.nil_l)
   obtain ⟨y502, hy503, r504⟩ := bind_some r495
   refine d_ck 12 #[pt_ b180 0, i_ i6] (by kernel_rfl) (c_overlay_Overlay_Out e484.wf u500 u501 hy503) ?_
   rintro s505 H507 ⟨_, f506, rfl, e508, m509, i510⟩
   obtain ⟨a512, n513, c514, rfl⟩ := m509.form
   have u515 := (u499.frS e508 Dj.nil_l)
   refine ⟨st_ql (y := aLoad Tryz.prog 40 (pt_ b286 0) H507) (by kernel_rfl) (u515.ld (by kernel_rfl)) (st_nil), ?_⟩
   have u516 := ((m328.fr e484 Dj.nil_l).fr e508 Dj.nil_l)
   have u517 := ((m332.fr e484 Dj.nil_l).fr e508 Dj.nil_l)
   obtain ⟨y518, hy519, r520⟩ := bind_some r504
   refine d_ck 13 #[.agg #[.slice a464 n465 c466, .slice a467 n468 c469], i_ i6] (by kernel_rfl) (c_viaductref11_Out e508.wf u516 u517 hy519) ?_
   rintro s521 H523 ⟨_, f522, rfl, e524, m525, i526⟩
   obtain ⟨a528, n529, c530, rfl⟩ := m525.form
   refine ⟨st_anc (by kernel_rfl) (st_nil), ?_⟩
   have u531 := (m509.fr e524 Dj.nil_l)
   obtain ⟨y532, hy533, r534⟩ := bind_some r520
   refine d_ck 11 #[.slice a512 n513 c514, .slice a528 n529 c530] (by kernel_rfl) (c_viaductlaw11_same e524.wf u531.sq m525.sq hy533) ?_
   rintro _ _ ⟨rfl, rfl⟩
   refine ⟨st_anc (by kernel_rfl) (st_nil), ?_⟩
   by_cases h537 : y532 = true
   ·have r538 := ite_t h537 r534
    rw [h537]
    refine e_' (.bool false) ?_
    refine e_' (.bool false) ?_
    refine e_' (pt_ b180 0) ?_
    refine e_' (i_ i6) ?_
    have u540 := (u515.frS e524 Dj.nil_l)
    refine d_fl (.agg #[.slice a464 n465 c466, .slice a467 n468 c469]) (x := aLoad Tryz.prog 40 (pt_ b286 0) H523) (by kernel_rfl) (u540.ld (by kernel_rfl)) ?_
    refine e_' (i_ i6) ?_
    have u541 := ((u500.fr e508 Dj.nil_l).fr e524 Dj.nil_l)
    have u542 := ((u501.frS e508 Dj.nil_l).frS e524 Dj.nil_l)
    obtain ⟨y543, hy544, r545⟩ := bind_some r538
    refine d_ck 14 #[pt_ b180 0, i_ i6] (by kernel_rfl) (c_overlay_Overlay_In e524.wf u541 u542 hy544) ?_
    rintro s546 H548 ⟨_, f547, rfl, e549, m550, i551⟩
    obtain ⟨a553, n554, c555, rfl⟩ := m550.form
    have u556 := (u540.frS e549 Dj.nil_l)
    refine ⟨st_ql (y := aLoad Tryz.prog 40 (pt_ b286 0) H548) (by kernel_rfl) (u556.ld (by kernel_rfl)) (st_anc (by kernel_rfl) (st_nil)), ?_⟩
    have u557 := ((u516.fr e524 Dj.nil_l).fr e549 Dj.nil_l)
    have u558 := ((u517.fr e524 Dj.nil_l).fr e549 Dj.nil_l)
    obtain ⟨y559, hy560, r561⟩ := bind_some r545
    refine d_ck 15 #[.agg #[.slice a464 n465 c466, .slice a467 n468 c469], i_ i6] (by kernel_rfl) (c_viaductref11_In e549.wf u557 u558 hy560) ?_
    rintro s562 H564 ⟨_, f563, rfl, e565, m566, i567⟩
    obtain ⟨a569, n570, c571, rfl⟩ := m566.form
    refine ⟨st_anc (by kernel_rfl) (st_anc (by kernel_rfl) (st_nil)), ?_⟩
    have u572 := (m550.fr e565 Dj.nil_l)
    obtain ⟨y573, hy574, r575⟩ := bind_some r561
    refine d_ck 11 #[.slice a553 n554 c555, .slice a569 n570 c571] (by kernel_rfl) (c_viaductlaw11_same e565.wf u572.sq m566.sq hy574) ?_
    rintro _ _ ⟨rfl, rfl⟩
    refine ⟨st_anc (by kernel_rfl) (st_anc (by kernel_rfl) (st_nil)), ?_⟩
    refine e_' (.bool (!y573)) ?_
    refine e_' (.bool (!y573)) ?_
    refine d_nil ?_
    refine k498 _ _ ?_
    refine w_cond ((!y573)) (by kernel_rfl) rfl (fun h578 => ?_) (fun h578 => ?_)
    ·have r579 := ite_t h578 r575
     refine w_seqk fun _ k580 => ?_
     refine g_' ?_
     refine q_ (.bool false) ?_
     refine s_nil (k580 _ _ ?_)
     refine w_ret (bl_ret (th_ret (th_ret (bl_ret (th_ret (th_ret ?_))))))
     obtain ⟨v581, hv582, hz583⟩ := map_some r579
     subst hz583
     obtain rfl := it_inr hn490
     have hq584 := elim_inl r475
     rw [hq584] at hv582
     refine b_ret (fn := Tryz.f3) (vs := [.bool false]) (aRes_tmp (by kernel_rfl) (rfl)) ?_
     obtain rfl := Option.some.inj hv582
     exact ⟨rfl, (FrS.step wf (FrS.step wf (FrS.step wf (FrS.step wf (FrS.step wf (FrS.step wf (FrS.step wf (FrS.step wf (((FrS.step wf (FrS.step wf (FrS.step wf ((FrS.step wf (FrS.step wf (FrS.step wf ((FrS.refl (W := []) wf).extR e4) e14 Inn.nil) e182 Inn.nil) e203 Inn.nil).extR e212) e218 (hb213.fresh (ntr (ntr (ntr e4.next e14.next) e182.next) e203.next))) e227 Inn.nil) e264 Inn.nil).extR e288).extR e294) e300 (hb289.fresh (ntr (ntr (ntr (ntr (ntr (ntr (ntr e4.next e14.next) e182.next) e203.next) e212.next) e218.next) e227.next) e264.next))) e307 (hb295.fresh (ntr (ntr (ntr (ntr (ntr (ntr (ntr (ntr e4.next e14.next) e182.next) e203.next) e212.next) e218.next) e227.next) e264.next) e288.next))) e321 (Inn.app (i186.fresh (ntr e4.next e14.next)) (Inn.app (hb289.fresh (ntr (ntr (ntr (ntr (ntr (ntr (ntr e4.next e14.next) e182.next) e203.next) e212.next) e218.next) e227.next) e264.next)) (i185.fresh (ntr e4.next e14.next))))) e484 Inn.nil) e508 Inn.nil) e524 Inn.nil) e549 Inn.nil) e565 Inn.nil)⟩
    have r585 := ite_bf h578 r575
    refine w_skip ?_
    refine k496 _ _ ?_
    refine g_' ?_
    obtain ⟨g586, r587⟩ := G_some r585
    refine s_w ((i6 + 1)) (k := .i64) (x := (i6 + 1)) (by kernel_rfl) (wrap64 g586) ?_
    refine q_ (i_ (i6 + 1)) ?_
    refine s_nil ?_
    obtain rfl := Option.some.inj r587
    exact k491 n487 _ _ (Nat.lt_succ_self _) ⟨(i6 + 1), hn490, ha_, (FrS.step e321.wf (FrS.step e321.wf (FrS.step e321.wf (FrS.step e321.wf (FrS.step e321.wf (FrS.refl (W := []) e321.wf) e484 Inn.nil) e508 Inn.nil) e524 Inn.nil) e549 Inn.nil) e565 Inn.nil)⟩
   have r588 := ite_f h537 r534
   rw [nb h537]
   refine e_' (.bool true) ?_
   refine e_' (.bool true) ?_
   refine j_' ?_
   refine j_' ?_
   refine j_' ?_
   refine j_' ?_
   refine j_' ?_
   refine j_' ?_
   refine j_' ?_
   refine j_' ?_
   refine e_' (.bool true) ?_
   refine d_nil ?_
   refine k498 _ _ ?_
   refine w_cond true (by kernel_rfl) rfl (fun _ => ?_) (fun h => by cases h)
   refine w_seqk fun _ k590 => ?_
   refine g_' ?_
   refine q_ (.bool false) ?_
   refine s_nil (k590 _ _ ?_)
   refine w_ret (bl_ret (th_ret (th_ret (bl_ret (th_ret (th_ret ?_))))))
   obtain ⟨v591, hv592, hz593⟩ := map_some r588
   subst hz593
   obtain rfl := it_inr hn490
   have hq594 := elim_inl r475
   rw [hq594] at hv592
   refine b_ret (fn := Tryz.f3) (vs := [.bool false]) (aRes_tmp (by kernel_rfl) (rfl)) ?_
   obtain rfl := Option.some.inj hv592
   exact ⟨rfl, (FrS.step wf (FrS.step wf (FrS.step wf (FrS.step wf (FrS.step wf (FrS.step wf (((FrS.step wf (FrS.step wf (FrS.step wf ((FrS.step wf (FrS.step wf (FrS.step wf ((FrS.refl (W := []) wf).extR e4) e14 Inn.nil) e182 Inn.nil) e203 Inn.nil).extR e212) e218 (hb213.fresh (ntr (ntr (ntr e4.next e14.next) e182.next) e203.next))) e227 Inn.nil) e264 Inn.nil).extR e288).extR e294) e300 (hb289.fresh (ntr (ntr (ntr (ntr (ntr (ntr (ntr e4.next e14.next) e182.next) e203.next) e212.next) e218.next) e227.next) e264.next))) e307 (hb295.fresh (ntr (ntr (ntr (ntr (ntr (ntr (ntr (ntr e4.next e14.next) e182.next) e203.next) e212.next) e218.next) e227.next) e264.next) e288.next))) e321 (Inn.app (i186.fresh (ntr e4.next e14.next)) (Inn.app (hb289.fresh (ntr (ntr (ntr (ntr (ntr (ntr (ntr e4.next e14.next) e182.next) e203.next) e212.next) e218.next) e227.next) e264.next)) (i185.fresh (ntr e4.next e14.next))))) e484 Inn.nil) e508 Inn.nil) e524 Inn.nil)⟩
  have r595 := ite_f h494 hz489
  refine w_exit (th_exit (th_exit (bl_eq ?_)))
  obtain rfl := Option.some.inj r595
  obtain rfl := it_inr hn490
  exact k479 _ _ ⟨_, rfl, trivial, (FrS.step e321.wf (FrS.refl (W := []) e321.wf) e484 Inn.nil)⟩
 obtain ⟨o473, rfl, hh480, e478⟩ := hM
 have r596 := elim_inr r475
 obtain ⟨β, rfl⟩ := has_ex hh480
 clear hh480
 refine k470 _ _ ?_
 refine w_seqk fun _ k597 => ?_
 refine g_' ?_
 refine q_ (.bool true) ?_
 refine s_nil (k597 _ _ ?_)
 refine w_ret ?_
 refine b_ret (fn := Tryz.f3) (vs := [.bool true]) (aRes_tmp (by kernel_rfl) (rfl)) ?_
 obtain rfl := Option.some.inj r596
 exact ⟨rfl, (FrS.step wf (FrS.step wf (FrS.step wf (FrS.step wf (((FrS.step wf (FrS.step wf (FrS.step wf ((FrS.step wf (FrS.step wf (FrS.step wf ((FrS.refl (W := []) wf).extR e4) e14 Inn.nil) e182 Inn.nil) e203 Inn.nil).extR e212) e218 (hb213.fresh (ntr (ntr (ntr e4.next e14.next) e182.next) e203.next))) e227 Inn.nil) e264 Inn.nil).extR e288).extR e294) e300 (hb289.fresh (ntr (ntr (ntr (ntr (ntr (ntr (ntr e4.next e14.next) e182.next) e203.next) e212.next) e218.next) e227.next) e264.next))) e307 (hb295.fresh (ntr (ntr (ntr (ntr (ntr (ntr (ntr (ntr e4.next e14.next) e182.next) e203.next) e212.next) e218.next) e227.next) e264.next) e288.next))) e321 (Inn.app (i186.fresh (ntr e4.next e14.next)) (Inn.app (hb289.fresh (ntr (ntr (ntr (ntr (ntr (ntr (ntr e4.next e14.next) e182.next) e203.next) e212.next) e218.next) e227.next) e264.next)) (i185.fresh (ntr e4.next e14.next))))) e478 Inn.nil)⟩


end Go.Vd
