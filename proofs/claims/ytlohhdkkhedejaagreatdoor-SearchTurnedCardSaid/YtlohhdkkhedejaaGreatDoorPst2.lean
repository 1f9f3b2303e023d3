/- The walks of the functions (printed by a program of ours). -/
import Derived.Test.YtlohhdkkhedejaaGreatDoorPst1
import Derived.Test.YtlohhdkkhedejaaGreatDoorPstDrG
import Derived.Test.YtlohhdkkhedejaaGreatDoorPstISt
import Derived.Test.YtlohhdkkhedejaaGreatDoorPstVeN
import Derived.Test.YtlohhdkkhedejaaGreatDoorPstSoA
import Derived.Test.YtlohhdkkhedejaaGreatDoorPstVeV
set_option linter.unusedVariables false
set_option linter.unusedSimpArgs false
set_option linter.unusedSectionVars false
/-! (KSt3) -/

set_option maxRecDepth 100000
set_option maxHeartbeats 4000000
set_option linter.unusedVariables false
namespace Go.Vd
open Go.Proofs
attribute [local irreducible] wpSeq wpOrd aWp
theorem c_heap_Heap_up {H : AH} {b_h : Nat} {hd_h_ : Value} {fp_h_ : Fp} {hd_h_2 : Value} {fp_h_2 : Fp} {h_ : List (Int × Int)} {h_2 : List (Int)} {i : Int} {r : List (Int × Int) × List (Int)}
    (wf : WF H) (h_h_ : Ow enc_u64_u32 2 H hd_h_ h_ fp_h_) (h_h_2 : Ow (encI .i64) 1 H hd_h_2 h_2 fp_h_2) (h_h : Row H b_h [hd_h_, hd_h_2]) (dj_fp_h__b_h : Dj fp_h_ [b_h]) (dj_fp_h__fp_h_2 : Dj fp_h_ fp_h_2) (dj_fp_h_2_b_h : Dj fp_h_2 [b_h]) (hr : z_heap_Heap_up h_ h_2 i = some r) :
    ACalls Tryz.prog 77 #[pt_ b_h 0, i_ i] H fun v H' => v = .tuple #[] ∧ FrS (fp_h_ ++ fp_h_2) H H' ∧ Ow enc_u64_u32 2 H' hd_h_ r.1 fp_h_ ∧ Ow (encI .i64) 1 H' hd_h_2 r.2 fp_h_2 := by
 refine acalls_of_body mixed Tryz.func77 rfl (Nat.le_of_ble_eq_true rfl) ?_
 unfold z_heap_Heap_up at hr
 refine w_seqk fun _ k5 => g_' (q_ (pt_ b_h 0) (q_ (pt_ b_h 0) (q_ (pt_ b_h 0) ?_)))
 refine l_' (hd_h_) (aLoad Tryz.prog 139 (pt_ b_h 0) H) (h_h.ld (by kernel_rfl)) ?_
 refine q_ (i_ i) ?_
 obtain ⟨g6, r7⟩ := G_some hr
 refine l_' (elp hd_h_ 2 i.toNat 0) (aIndexAddr Tryz.prog 139 hd_h_ (i_ i)) (h_h_.sq.idxb (by kernel_rfl) g6.1 g6.2) ?_
 refine l_' (.agg #[.int .u64 ((gt h_ i).1), .int .u32 ((gt h_ i).2)]) (aLoad Tryz.prog 145 (elp hd_h_ 2 i.toNat 0) H) (h_h_.sq.ld g6.1 g6.2 (by kernel_rfl)) ?_
 refine s_rwk wf [.int .u64 0, .int .u32 0] (by kernel_rfl) fun b8 H9 e10 hb11 r12 => ?_
 obtain ⟨H14, q15, e16, r17⟩ := Row.store (P := Tryz.prog) (t := 145) (p := 0) e10.wf r12 (.agg #[.int .u64 ((gt h_ i).1), .int .u32 ((gt h_ i).2)]) [.int .u64 ((gt h_ i).1), .int .u32 ((gt h_ i).2)] (by kernel_rfl) (by kernel_rfl) (one_cons (rfl) (one_cons (rfl) (one_nil))) (Nat.le_of_ble_eq_true (by kernel_rfl)) [.int .u64 ((gt h_ i).1), .int .u32 ((gt h_ i).2)] (by kernel_rfl)
 refine s_ek (undef) (by kernel_rfl) (map_ok q15) ?_
 refine s_nil (k5 _ _ (w_seqk fun _ k18 => ?_))
 obtain ⟨o19, hx20, r21⟩ := bind_some r7
 refine w_mid (fun α H22 => Has α [(0, pt_ b_h 0), (1, i_ o19.2.2), (4, pt_ b8 0)] ∧ FrS (fp_h_ ++ fp_h_2) H14 H22 ∧ Ow enc_u64_u32 2 H22 hd_h_ o19.1 fp_h_ ∧ Ow (encI .i64) 1 H22 hd_h_2 o19.2.1 fp_h_2) (fun _ k28 => ?_) (fun α H22 hM => ?_)
 ·refine w_block ?_
  obtain ⟨n30, hn31⟩ := loopO_iff.1 hx20
  have u44 := ((h_h_.ext e10).fr e16 (hb11.djn h_h_.lt))
  have u45 := ((h_h_2.ext e10).fr e16 (hb11.djn h_h_2.lt))
  refine w_loopn (fun n α H32 => ∃ (h0 : List (Int × Int)), ∃ (h1 : List (Int)), ∃ (i2 : Int), iterO (fun zz_ => z_heap_Heap_up_l0 h_ i zz_.1 zz_.2.1 zz_.2.2) n (h0, h1, i2) = some o19 ∧ Has α [(0, pt_ b_h 0), (1, i_ i2), (4, pt_ b8 0)] ∧ FrS (fp_h_ ++ fp_h_2) H14 H32 ∧ Ow enc_u64_u32 2 H32 hd_h_ h0 fp_h_ ∧ Ow (encI .i64) 1 H32 hd_h_2 h1 fp_h_2) n30 ⟨h_, h_2, i, hn31, ha_, (FrS.refl (W := (fp_h_ ++ fp_h_2)) e16.wf), u44, u45⟩ ?_
  rintro n30 α H32 ⟨h0, h1, i2, hi39, hh38, e33, m35, m37⟩ K46 k46
  obtain ⟨n40, z41, rfl, hz42, hn43⟩ := iter_succ hi39
  obtain ⟨β, rfl⟩ := has_ex hh38
  clear hh38
  replace hz42 : z_heap_Heap_up_l0 h_ i h0 h1 i2 = some z41 := hz42
  unfold z_heap_Heap_up_l0 at hz42
  refine w_seqk fun _ k47 => w_seqk fun _ k48 => g_' (q_ (i_ i2) (q_ (.bool (decide (i2 > 0))) (s_nil (k48 _ _ ?_))))
  refine w_condp (i2 > 0) (by kernel_rfl) rfl (fun h49 => ?_) (fun h49 => ?_)
  ·have r50 := ite_t h49 hz42
   refine w_skip (k47 _ _ (w_block (w_seqk fun _ k51 => g_' (q_ (i_ i2) ?_))))
   obtain ⟨g52, r53⟩ := G_some r50
   refine w_' (i2 - 1) (wrap64 g52) ?_
   obtain ⟨g54, r55⟩ := G_some r53
   refine w_' (Int.tdiv (i2 - 1) 4) (wrap64 g54) ?_
   refine q_ (i_ (Int.tdiv (i2 - 1) 4)) (s_nil (k51 _ _ (w_seqk fun _ k56 => w_seqk fun _ k57 => ?_)))
   refine w_draw [0, 1, 2, 3, 4, 5, 6, 7, 8, 9] (by kernel_rfl) ?_
   have u58 := (r17.frS e33 (Dj.app (Dj.symm (hb11.djn h_h_.lt)) (Dj.symm (hb11.djn h_h_2.lt))))
   refine m_' (.agg #[.int .u64 ((gt h_ i).1), .int .u32 ((gt h_ i).2)]) (aLoad Tryz.prog 145 (pt_ b8 0) H32) (u58.ld (by kernel_rfl)) ?_
   refine e_' (pt_ b_h 0) (e_' (pt_ b_h 0) (e_' (pt_ b_h 0) ?_))
   have u59 := (((h_h.ext e10).frS e16 (hb11.djn h_h.ltF)).frS e33 (Dj.app dj_fp_h__b_h dj_fp_h_2_b_h))
   refine m_' (hd_h_) (aLoad Tryz.prog 139 (pt_ b_h 0) H32) (u59.ld (by kernel_rfl)) ?_
   refine e_' (i_ (Int.tdiv (i2 - 1) 4)) ?_
   obtain ⟨g60, r61⟩ := G_some r55
   refine m_' (elp hd_h_ 2 (Int.tdiv (i2 - 1) 4).toNat 0) (aIndexAddr Tryz.prog 139 hd_h_ (i_ (Int.tdiv (i2 - 1) 4))) (m35.sq.idxb (by kernel_rfl) g60.1 g60.2) ?_
   refine m_' (.agg #[.int .u64 ((gt h0 (Int.tdiv (i2 - 1) 4)).1), .int .u32 ((gt h0 (Int.tdiv (i2 - 1) 4)).2)]) (aLoad Tryz.prog 145 (elp hd_h_ 2 (Int.tdiv (i2 - 1) 4).toNat 0) H32) (m35.sq.ld g60.1 g60.2 (by kernel_rfl)) ?_
   obtain ⟨y62, hy63, r64⟩ := bind_some r61
   refine d_ck 92 #[.agg #[.int .u64 ((gt h_ i).1), .int .u32 ((gt h_ i).2)], .agg #[.int .u64 ((gt h0 (Int.tdiv (i2 - 1) 4)).1), .int .u32 ((gt h0 (Int.tdiv (i2 - 1) 4)).2)]] (by kernel_rfl) (c_heap_item_less e33.wf hy63) ?_
   rintro _ H65 ⟨rfl, e66⟩
   refine ⟨st_nil, ?_⟩
   refine e_' (.bool (!y62)) ?_
   refine d_nil ?_
   refine k57 _ _ ?_
   refine w_cond ((!y62)) (by kernel_rfl) rfl (fun h67 => ?_) (fun h67 => ?_)
   ·have r68 := ite_t h67 r64
    refine w_exit (th_exit (bl_ne (by decide) (th_exit (bl_eq ?_))))
    have u69 := (m35.fr e66 Dj.nil_l)
    have u70 := (m37.fr e66 Dj.nil_l)
    obtain rfl := Option.some.inj r68
    obtain rfl := it_inr hn43
    exact k28 _ _ ⟨ha_, (FrS.step e16.wf (FrS.step e16.wf (FrS.refl (W := (fp_h_ ++ fp_h_2)) e16.wf) e33 (Inn.app Inn.left (Inn.right Inn.refl'))) e66 Inn.nil), u69, u70⟩
   have r71 := ite_bf h67 r64
   refine w_skip (k56 _ _ (w_seqk fun _ k72 => g_' (q_ (pt_ b_h 0) (q_ (i_ i2) (q_ (pt_ b_h 0) (q_ (pt_ b_h 0) (q_ (pt_ b_h 0) ?_)))))))
   have u73 := (u59.frS e66 Dj.nil_l)
   refine l_' (hd_h_) (aLoad Tryz.prog 139 (pt_ b_h 0) H65) (u73.ld (by kernel_rfl)) ?_
   refine q_ (i_ (Int.tdiv (i2 - 1) 4)) ?_
   have u74 := (m35.fr e66 Dj.nil_l)
   refine l_' (elp hd_h_ 2 (Int.tdiv (i2 - 1) 4).toNat 0) (aIndexAddr Tryz.prog 139 hd_h_ (i_ (Int.tdiv (i2 - 1) 4))) (u74.sq.idxb (by kernel_rfl) g60.1 g60.2) ?_
   refine l_' (.agg #[.int .u64 ((gt h0 (Int.tdiv (i2 - 1) 4)).1), .int .u32 ((gt h0 (Int.tdiv (i2 - 1) 4)).2)]) (aLoad Tryz.prog 145 (elp hd_h_ 2 (Int.tdiv (i2 - 1) 4).toNat 0) H65) (u74.sq.ld g60.1 g60.2 (by kernel_rfl)) ?_
   have u75 := (m37.fr e66 Dj.nil_l)
   obtain ⟨y76, hy77, r78⟩ := bind_some r71
   refine s_ck 76 #[pt_ b_h 0, i_ i2, .agg #[.int .u64 ((gt h0 (Int.tdiv (i2 - 1) 4)).1), .int .u32 ((gt h0 (Int.tdiv (i2 - 1) 4)).2)]] (by kernel_rfl) (c_heap_Heap_put e66.wf u74 u75 u73 dj_fp_h__b_h dj_fp_h__fp_h_2 hy77) ?_
   rintro _ H79 ⟨rfl, e80, m81, m82⟩
   refine s_nil (k72 _ _ (g_' (q_ (i_ (Int.tdiv (i2 - 1) 4)) (q_ (i_ (Int.tdiv (i2 - 1) 4)) (s_nil ?_)))))
   obtain rfl := Option.some.inj r78
   exact k46 n40 _ _ (Nat.lt_succ_self _) ⟨y76.1, y76.2, (Int.tdiv (i2 - 1) 4), hn43, ha_, (FrS.step e16.wf (FrS.step e16.wf (FrS.step e16.wf (FrS.refl (W := (fp_h_ ++ fp_h_2)) e16.wf) e33 (Inn.app Inn.left (Inn.right Inn.refl'))) e66 Inn.nil) e80 (Inn.app Inn.left (Inn.right Inn.refl'))), m81, m82⟩
  have r83 := ite_f h49 hz42
  refine w_exit (th_exit (th_exit (bl_eq ?_)))
  obtain rfl := Option.some.inj r83
  obtain rfl := it_inr hn43
  exact k28 _ _ ⟨ha_, (FrS.step e16.wf (FrS.refl (W := (fp_h_ ++ fp_h_2)) e16.wf) e33 (Inn.app Inn.left (Inn.right Inn.refl'))), m35, m37⟩
 obtain ⟨hh29, e23, m25, m27⟩ := hM
 obtain ⟨β, rfl⟩ := has_ex hh29
 clear hh29
 refine k18 _ _ (g_' (q_ (pt_ b_h 0) (q_ (i_ o19.2.2) ?_)))
 have u84 := (r17.frS e23 (Dj.app (Dj.symm (hb11.djn h_h_.lt)) (Dj.symm (hb11.djn h_h_2.lt))))
 refine l_' (.agg #[.int .u64 ((gt h_ i).1), .int .u32 ((gt h_ i).2)]) (aLoad Tryz.prog 145 (pt_ b8 0) H22) (u84.ld (by kernel_rfl)) ?_
 have u85 := (((h_h.ext e10).frS e16 (hb11.djn h_h.ltF)).frS e23 (Dj.app dj_fp_h__b_h dj_fp_h_2_b_h))
 obtain ⟨y86, hy87, r88⟩ := bind_some r21
 refine s_ck 76 #[pt_ b_h 0, i_ o19.2.2, .agg #[.int .u64 ((gt h_ i).1), .int .u32 ((gt h_ i).2)]] (by kernel_rfl) (c_heap_Heap_put e23.wf m25 m27 u85 dj_fp_h__b_h dj_fp_h__fp_h_2 hy87) ?_
 rintro _ H89 ⟨rfl, e90, m91, m92⟩
 refine s_nil ?_
 refine b_nrm (fn := Tryz.f77) (vs := []) (rfl) ?_
 obtain rfl := Option.some.inj r88
 exact ⟨rfl, (FrS.step wf (FrS.step wf (FrS.step wf ((FrS.refl (W := (fp_h_ ++ fp_h_2)) wf).extR e10) e16 (hb11.fresh (Nat.le_refl _))) e23 (Inn.app Inn.left (Inn.right Inn.refl'))) e90 (Inn.app Inn.left (Inn.right Inn.refl'))), m91, m92⟩
theorem c_heap_Heap_down {H : AH} {b_h : Nat} {hd_h_ : Value} {fp_h_ : Fp} {hd_h_2 : Value} {fp_h_2 : Fp} {h_ : List (Int × Int)} {h_2 : List (Int)} {i : Int} {r : List (Int × Int) × List (Int)}
    (wf : WF H) (h_h_ : Ow enc_u64_u32 2 H hd_h_ h_ fp_h_) (h_h_2 : Ow (encI .i64) 1 H hd_h_2 h_2 fp_h_2) (h_h : Row H b_h [hd_h_, hd_h_2]) (dj_fp_h__b_h : Dj fp_h_ [b_h]) (dj_fp_h__fp_h_2 : Dj fp_h_ fp_h_2) (dj_fp_h_2_b_h : Dj fp_h_2 [b_h]) (hr : z_heap_Heap_down h_ h_2 i = some r) :
    ACalls Tryz.prog 78 #[pt_ b_h 0, i_ i] H fun v H' => v = .tuple #[] ∧ FrS (fp_h_ ++ fp_h_2) H H' ∧ Ow enc_u64_u32 2 H' hd_h_ r.1 fp_h_ ∧ Ow (encI .i64) 1 H' hd_h_2 r.2 fp_h_2 := by
 refine acalls_of_body mixed Tryz.func78 rfl (Nat.le_of_ble_eq_true rfl) ?_
 unfold z_heap_Heap_down at hr
 refine w_seqk fun _ k5 => g_' (q_ (pt_ b_h 0) (q_ (pt_ b_h 0) (q_ (pt_ b_h 0) ?_)))
 refine l_' (hd_h_) (aLoad Tryz.prog 139 (pt_ b_h 0) H) (h_h.ld (by kernel_rfl)) ?_
 refine q_ (i_ i) ?_
 obtain ⟨g6, r7⟩ := G_some hr
 refine l_' (elp hd_h_ 2 i.toNat 0) (aIndexAddr Tryz.prog 139 hd_h_ (i_ i)) (h_h_.sq.idxb (by kernel_rfl) g6.1 g6.2) ?_
 refine l_' (.agg #[.int .u64 ((gt h_ i).1), .int .u32 ((gt h_ i).2)]) (aLoad Tryz.prog 145 (elp hd_h_ 2 i.toNat 0) H) (h_h_.sq.ld g6.1 g6.2 (by kernel_rfl)) ?_
 refine s_rwk wf [.int .u64 0, .int .u32 0] (by kernel_rfl) fun b8 H9 e10 hb11 r12 => ?_
 obtain ⟨H14, q15, e16, r17⟩ := Row.store (P := Tryz.prog) (t := 145) (p := 0) e10.wf r12 (.agg #[.int .u64 ((gt h_ i).1), .int .u32 ((gt h_ i).2)]) [.int .u64 ((gt h_ i).1), .int .u32 ((gt h_ i).2)] (by kernel_rfl) (by kernel_rfl) (one_cons (rfl) (one_cons (rfl) (one_nil))) (Nat.le_of_ble_eq_true (by kernel_rfl)) [.int .u64 ((gt h_ i).1), .int .u32 ((gt h_ i).2)] (by kernel_rfl)
 refine s_ek (undef) (by kernel_rfl) (map_ok q15) ?_
 refine s_nil (k5 _ _ (w_seqk fun _ k18 => ?_))
 obtain ⟨o19, hx20, r21⟩ := bind_some r7
 refine w_mid (fun α H22 => Has α [(0, pt_ b_h 0), (1, i_ o19.2.2), (4, pt_ b8 0)] ∧ FrS (fp_h_ ++ fp_h_2) H14 H22 ∧ Ow enc_u64_u32 2 H22 hd_h_ o19.1 fp_h_ ∧ Ow (encI .i64) 1 H22 hd_h_2 o19.2.1 fp_h_2) (fun _ k28 => ?_) (fun α H22 hM => ?_)
 ·refine w_block ?_
  obtain ⟨n30, hn31⟩ := loopO_iff.1 hx20
  have u44 := ((h_h_.ext e10).fr e16 (hb11.djn h_h_.lt))
  have u45 := ((h_h_2.ext e10).fr e16 (hb11.djn h_h_2.lt))
  refine w_loopn (fun n α H32 => ∃ (h2 : List (Int × Int)), ∃ (h3 : List (Int)), ∃ (i4 : Int), iterO (fun zz_ => z_heap_Heap_down_l1 h_ i zz_.1 zz_.2.1 zz_.2.2) n (h2, h3, i4) = some o19 ∧ Has α [(0, pt_ b_h 0), (1, i_ i4), (4, pt_ b8 0)] ∧ FrS (fp_h_ ++ fp_h_2) H14 H32 ∧ Ow enc_u64_u32 2 H32 hd_h_ h2 fp_h_ ∧ Ow (encI .i64) 1 H32 hd_h_2 h3 fp_h_2) n30 ⟨h_, h_2, i, hn31, ha_, (FrS.refl (W := (fp_h_ ++ fp_h_2)) e16.wf), u44, u45⟩ ?_
  rintro n30 α H32 ⟨h2, h3, i4, hi39, hh38, e33, m35, m37⟩ K46 k46
  obtain ⟨n40, z41, rfl, hz42, hn43⟩ := iter_succ hi39
  obtain ⟨β, rfl⟩ := has_ex hh38
  clear hh38
  replace hz42 : z_heap_Heap_down_l1 h_ i h2 h3 i4 = some z41 := hz42
  unfold z_heap_Heap_down_l1 at hz42
  refine w_block (w_seqk fun _ k47 => g_' (q_ (i_ (-1)) (s_nil (k47 _ _ (w_seqk fun _ k48 => w_seqk fun _ k49 => g_' (q_ (i_ 0) (s_nil (k49 _ _ ?_))))))))
  obtain ⟨o50, hx51, r52⟩ := bind_some hz42
  refine w_mid (fun α H53 => Has α [(0, pt_ b_h 0), (1, i_ i4), (4, pt_ b8 0), (5, i_ o50)] ∧ FrS [] H32 H53) (fun _ k55 => ?_) (fun α H53 hM => ?_)
  ·refine w_block ?_
   obtain ⟨n57, hn58⟩ := loopO_iff.1 hx51
   refine w_loopn (fun n α H59 => ∃ (i0 : Int), ∃ (best1 : Int), iterO (fun zz_ => z_heap_Heap_down_l0 h2 i4 zz_.1 zz_.2) n (i0, best1) = some o50 ∧ Has α [(0, pt_ b_h 0), (1, i_ i4), (4, pt_ b8 0), (5, i_ best1), (15, i_ i0)] ∧ FrS [] H32 H59) n57 ⟨0, (-1), hn58, ha_, (FrS.refl (W := []) e33.wf)⟩ ?_
   rintro n57 α H59 ⟨i0, best1, hi62, hh61, e60⟩ K67 k67
   obtain ⟨n63, z64, rfl, hz65, hn66⟩ := iter_succ hi62
   obtain ⟨β, rfl⟩ := has_ex hh61
   clear hh61
   replace hz65 : z_heap_Heap_down_l0 h2 i4 i0 best1 = some z64 := hz65
   unfold z_heap_Heap_down_l0 at hz65
   refine w_seqk fun _ k68 => g_' (q_ (.bool (decide (i0 < 4))) (s_nil (k68 _ _ (w_seqk fun _ k69 => ?_))))
   refine w_condp (i0 < 4) (by kernel_rfl) rfl (fun h70 => ?_) (fun h70 => ?_)
   ·have r71 := ite_t h70 hz65
    refine w_skip (k69 _ _ (w_seqk fun _ k72 => w_block (w_seqk fun _ k73 => g_' (q_ (i_ i0) (q_ (i_ i0) (s_nil (k73 _ _ (w_seqk fun _ k74 => g_' (q_ (i_ i4) ?_)))))))))
    obtain ⟨g75, r76⟩ := G_some r71
    refine w_' (i4 * 4) (wrap64 g75) ?_
    obtain ⟨g77, r78⟩ := G_some r76
    refine w_' ((i4 * 4) + 1) (wrap64 g77) ?_
    refine q_ (i_ i0) ?_
    obtain ⟨g79, r80⟩ := G_some r78
    refine w_' (((i4 * 4) + 1) + i0) (wrap64 g79) ?_
    refine q_ (i_ (((i4 * 4) + 1) + i0)) (s_nil (k74 _ _ (w_seqk fun _ k81 => ?_)))
    refine w_draw [0, 1, 2, 3, 4, 5, 6, 7, 8, 9, 10, 11, 12, 13, 14, 15, 16, 17, 18, 19, 20, 21, 22, 23, 24, 25, 26, 27] (by kernel_rfl) ?_
    refine e_' (i_ (((i4 * 4) + 1) + i0)) (e_' (pt_ b_h 0) (e_' (pt_ b_h 0) (e_' (pt_ b_h 0) ?_)))
    have u82 := ((((h_h.ext e10).frS e16 (hb11.djn h_h.ltF)).frS e33 (Dj.app dj_fp_h__b_h dj_fp_h_2_b_h)).frS e60 Dj.nil_l)
    refine m_' (hd_h_) (aLoad Tryz.prog 139 (pt_ b_h 0) H59) (u82.ld (by kernel_rfl)) ?_
    have u83 := (m35.fr e60 Dj.nil_l)
    refine m_' (i_ (h2.length : Int)) (aLen Tryz.prog 139 hd_h_ H59) (u83.sq.lenb (by kernel_rfl)) ?_
    refine d_b ((((i4 * 4) + 1) + i0) < (h2.length : Int)) (by kernel_rfl) (fun h84 => ?_) (fun h84 => ?_)
    ·have r85 := ite_t h84 r80
     refine e_' (.bool true) (e_' (i_ best1) ?_)
     refine d_b (best1 < 0) (by kernel_rfl) (fun h86 => ?_) (fun h86 => ?_)
     ·have r87 := ite_t h86 r85
      refine e_' (.bool true) (j_' (j_' (j_' (j_' (j_' (j_' (j_' (j_' (j_' (j_' (j_' (j_' (j_' (j_' (j_' (e_' (.bool true) (e_' (.bool true) ?_)))))))))))))))))
      refine d_nil ?_
      refine k81 _ _ ?_
      refine w_cond true (by kernel_rfl) rfl (fun _ => ?_) (fun h => by cases h)
      refine g_' (q_ (i_ (((i4 * 4) + 1) + i0)) (q_ (i_ (((i4 * 4) + 1) + i0)) (s_nil (k72 _ _ (g_' ?_)))))
      obtain ⟨g88, r89⟩ := G_some r87
      refine w_' (i0 + 1) (wrap64 g88) ?_
      refine q_ (i_ (i0 + 1)) (s_nil ?_)
      obtain rfl := Option.some.inj r89
      exact k67 n63 _ _ (Nat.lt_succ_self _) ⟨(i0 + 1), (((i4 * 4) + 1) + i0), hn66, ha_, (FrS.step e33.wf (FrS.refl (W := []) e33.wf) e60 Inn.nil)⟩
     have r90 := ite_f h86 r85
     refine e_' (.bool false) (e_' (pt_ b_h 0) (e_' (pt_ b_h 0) (e_' (pt_ b_h 0) ?_)))
     refine m_' (hd_h_) (aLoad Tryz.prog 139 (pt_ b_h 0) H59) (u82.ld (by kernel_rfl)) ?_
     refine e_' (i_ (((i4 * 4) + 1) + i0)) ?_
     obtain ⟨g91, r92⟩ := G_some r90
     refine m_' (elp hd_h_ 2 (((i4 * 4) + 1) + i0).toNat 0) (aIndexAddr Tryz.prog 139 hd_h_ (i_ (((i4 * 4) + 1) + i0))) (u83.sq.idxb (by kernel_rfl) g91 h84) ?_
     refine m_' (.agg #[.int .u64 ((gt h2 (((i4 * 4) + 1) + i0)).1), .int .u32 ((gt h2 (((i4 * 4) + 1) + i0)).2)]) (aLoad Tryz.prog 145 (elp hd_h_ 2 (((i4 * 4) + 1) + i0).toNat 0) H59) (u83.sq.ld g91 h84 (by kernel_rfl)) ?_
     refine e_' (pt_ b_h 0) (e_' (pt_ b_h 0) (e_' (pt_ b_h 0) ?_))
     refine m_' (hd_h_) (aLoad Tryz.prog 139 (pt_ b_h 0) H59) (u82.ld (by kernel_rfl)) ?_
     refine e_' (i_ best1) ?_
     obtain ⟨g93, r94⟩ := G_some r92
     refine m_' (elp hd_h_ 2 best1.toNat 0) (aIndexAddr Tryz.prog 139 hd_h_ (i_ best1)) (u83.sq.idxb (by kernel_rfl) g93.1 g93.2) ?_
     refine m_' (.agg #[.int .u64 ((gt h2 best1).1), .int .u32 ((gt h2 best1).2)]) (aLoad Tryz.prog 145 (elp hd_h_ 2 best1.toNat 0) H59) (u83.sq.ld g93.1 g93.2 (by kernel_rfl)) ?_
     obtain ⟨y95, hy96, r97⟩ := bind_some r94
     refine d_ck 92 #[.agg #[.int .u64 ((gt h2 (((i4 * 4) + 1) + i0)).1), .int .u32 ((gt h2 (((i4 * 4) + 1) + i0)).2)], .agg #[.int .u64 ((gt h2 best1).1), .int .u32 ((gt h2 best1).2)]] (by kernel_rfl) (c_heap_item_less e60.wf hy96) ?_
     rintro _ H98 ⟨rfl, e99⟩
     refine ⟨st_nil, ?_⟩
     refine e_' (.bool y95) (e_' (.bool y95) ?_)
     refine d_nil ?_
     refine k81 _ _ ?_
     refine w_cond (y95) (by kernel_rfl) rfl (fun h100 => ?_) (fun h100 => ?_)
     ·have r101 := ite_t h100 r97
      refine g_' (q_ (i_ (((i4 * 4) + 1) + i0)) (q_ (i_ (((i4 * 4) + 1) + i0)) (s_nil (k72 _ _ (g_' ?_)))))
      obtain ⟨g102, r103⟩ := G_some r101
      refine w_' (i0 + 1) (wrap64 g102) ?_
      refine q_ (i_ (i0 + 1)) (s_nil ?_)
      obtain rfl := Option.some.inj r103
      exact k67 n63 _ _ (Nat.lt_succ_self _) ⟨(i0 + 1), (((i4 * 4) + 1) + i0), hn66, ha_, (FrS.step e33.wf (FrS.step e33.wf (FrS.refl (W := []) e33.wf) e60 Inn.nil) e99 Inn.nil)⟩
     have r104 := ite_bf h100 r97
     refine w_skip (k72 _ _ (g_' ?_))
     obtain ⟨g105, r106⟩ := G_some r104
     refine w_' (i0 + 1) (wrap64 g105) ?_
     refine q_ (i_ (i0 + 1)) (s_nil ?_)
     obtain rfl := Option.some.inj r106
     exact k67 n63 _ _ (Nat.lt_succ_self _) ⟨(i0 + 1), best1, hn66, ha_, (FrS.step e33.wf (FrS.step e33.wf (FrS.refl (W := []) e33.wf) e60 Inn.nil) e99 Inn.nil)⟩
    have r107 := ite_f h84 r80
    refine e_' (.bool false) (j_' (j_' (j_' (j_' (j_' (j_' (j_' (j_' (j_' (j_' (j_' (j_' (j_' (j_' (j_' (j_' (j_' (j_' (j_' (e_' (.bool false) ?_))))))))))))))))))))
    refine d_nil ?_
    refine k81 _ _ ?_
    refine w_cond false (by kernel_rfl) rfl (fun h => by cases h) (fun _ => ?_)
    refine w_skip (k72 _ _ (g_' ?_))
    obtain ⟨g108, r109⟩ := G_some r107
    refine w_' (i0 + 1) (wrap64 g108) ?_
    refine q_ (i_ (i0 + 1)) (s_nil ?_)
    obtain rfl := Option.some.inj r109
    exact k67 n63 _ _ (Nat.lt_succ_self _) ⟨(i0 + 1), best1, hn66, ha_, (FrS.step e33.wf (FrS.refl (W := []) e33.wf) e60 Inn.nil)⟩
   have r110 := ite_f h70 hz65
   refine w_exit (th_exit (th_exit (bl_eq ?_)))
   obtain rfl := Option.some.inj r110
   obtain rfl := it_inr hn66
   exact k55 _ _ ⟨ha_, (FrS.step e33.wf (FrS.refl (W := []) e33.wf) e60 Inn.nil)⟩
  obtain ⟨hh56, e54⟩ := hM
  obtain ⟨β, rfl⟩ := has_ex hh56
  clear hh56
  refine k48 _ _ (w_seqk fun _ k111 => w_seqk fun _ k112 => ?_)
  obtain ⟨o113, hx114, r115⟩ := bind_some r52
  refine w_mid (fun α H116 => Has α [(0, pt_ b_h 0), (1, i_ i4), (4, pt_ b8 0), (5, i_ o50), (66, .bool o113)] ∧ FrS [] H53 H116) (fun _ k118 => ?_) (fun α H116 hM => ?_)
  ·refine w_draw [0, 1, 2, 3, 4, 5, 6, 7, 8, 9, 10, 11, 12, 13] (by kernel_rfl) ?_
   refine e_' (i_ o50) ?_
   refine d_b (o50 < 0) (by kernel_rfl) (fun h120 => ?_) (fun h120 => ?_)
   ·have r121 := ite_t h120 hx114
    refine e_' (.bool true) (j_' (j_' (j_' (j_' (j_' (j_' (j_' (j_' (j_' (j_' (e_' (.bool true) ?_)))))))))))
    refine d_nil ?_
    obtain rfl := Option.some.inj r121
    exact k118 _ _ ⟨ha_, (FrS.refl (W := []) e54.wf)⟩
   have r122 := ite_f h120 hx114
   refine e_' (.bool false) (e_' (pt_ b_h 0) (e_' (pt_ b_h 0) (e_' (pt_ b_h 0) ?_)))
   have u123 := ((((h_h.ext e10).frS e16 (hb11.djn h_h.ltF)).frS e33 (Dj.app dj_fp_h__b_h dj_fp_h_2_b_h)).frS e54 Dj.nil_l)
   refine m_' (hd_h_) (aLoad Tryz.prog 139 (pt_ b_h 0) H53) (u123.ld (by kernel_rfl)) ?_
   refine e_' (i_ o50) ?_
   obtain ⟨g124, r125⟩ := G_some r122
   have u126 := (m35.fr e54 Dj.nil_l)
   refine m_' (elp hd_h_ 2 o50.toNat 0) (aIndexAddr Tryz.prog 139 hd_h_ (i_ o50)) (u126.sq.idxb (by kernel_rfl) g124.1 g124.2) ?_
   refine m_' (.agg #[.int .u64 ((gt h2 o50).1), .int .u32 ((gt h2 o50).2)]) (aLoad Tryz.prog 145 (elp hd_h_ 2 o50.toNat 0) H53) (u126.sq.ld g124.1 g124.2 (by kernel_rfl)) ?_
   have u127 := ((r17.frS e33 (Dj.app (Dj.symm (hb11.djn h_h_.lt)) (Dj.symm (hb11.djn h_h_2.lt)))).frS e54 Dj.nil_l)
   refine m_' (.agg #[.int .u64 ((gt h_ i).1), .int .u32 ((gt h_ i).2)]) (aLoad Tryz.prog 145 (pt_ b8 0) H53) (u127.ld (by kernel_rfl)) ?_
   obtain ⟨y128, hy129, r130⟩ := bind_some r125
   refine d_ck 92 #[.agg #[.int .u64 ((gt h2 o50).1), .int .u32 ((gt h2 o50).2)], .agg #[.int .u64 ((gt h_ i).1), .int .u32 ((gt h_ i).2)]] (by kernel_rfl) (c_heap_item_less e54.wf hy129) ?_
   rintro _ H131 ⟨rfl, e132⟩
   refine ⟨st_nil, ?_⟩
   refine e_' (.bool (!y128)) (e_' (.bool (!y128)) ?_)
   refine d_nil ?_
   obtain rfl := Option.some.inj r130
   exact k118 _ _ ⟨ha_, (FrS.step e54.wf (FrS.refl (W := []) e54.wf) e132 Inn.nil)⟩
  obtain ⟨hh119, e117⟩ := hM
  obtain ⟨β, rfl⟩ := has_ex hh119
  clear hh119
  refine k112 _ _ ?_
  refine w_cond (o113) (by kernel_rfl) rfl (fun h133 => ?_) (fun h133 => ?_)
  ·have r134 := ite_t h133 r115
   refine w_exit (th_exit (bl_ne (by decide) (th_exit (bl_eq ?_))))
   have u135 := ((m35.fr e54 Dj.nil_l).fr e117 Dj.nil_l)
   have u136 := ((m37.fr e54 Dj.nil_l).fr e117 Dj.nil_l)
   obtain rfl := Option.some.inj r134
   obtain rfl := it_inr hn43
   exact k28 _ _ ⟨ha_, (FrS.step e16.wf (FrS.step e16.wf (FrS.step e16.wf (FrS.refl (W := (fp_h_ ++ fp_h_2)) e16.wf) e33 (Inn.app Inn.left (Inn.right Inn.refl'))) e54 Inn.nil) e117 Inn.nil), u135, u136⟩
  have r137 := ite_bf h133 r115
  refine w_skip (k111 _ _ (w_seqk fun _ k138 => g_' (q_ (pt_ b_h 0) (q_ (i_ i4) (q_ (pt_ b_h 0) (q_ (pt_ b_h 0) (q_ (pt_ b_h 0) ?_)))))))
  have u139 := (((((h_h.ext e10).frS e16 (hb11.djn h_h.ltF)).frS e33 (Dj.app dj_fp_h__b_h dj_fp_h_2_b_h)).frS e54 Dj.nil_l).frS e117 Dj.nil_l)
  refine l_' (hd_h_) (aLoad Tryz.prog 139 (pt_ b_h 0) H116) (u139.ld (by kernel_rfl)) ?_
  refine q_ (i_ o50) ?_
  obtain ⟨g140, r141⟩ := G_some r137
  have u142 := ((m35.fr e54 Dj.nil_l).fr e117 Dj.nil_l)
  refine l_' (elp hd_h_ 2 o50.toNat 0) (aIndexAddr Tryz.prog 139 hd_h_ (i_ o50)) (u142.sq.idxb (by kernel_rfl) g140.1 g140.2) ?_
  refine l_' (.agg #[.int .u64 ((gt h2 o50).1), .int .u32 ((gt h2 o50).2)]) (aLoad Tryz.prog 145 (elp hd_h_ 2 o50.toNat 0) H116) (u142.sq.ld g140.1 g140.2 (by kernel_rfl)) ?_
  have u143 := ((m37.fr e54 Dj.nil_l).fr e117 Dj.nil_l)
  obtain ⟨y144, hy145, r146⟩ := bind_some r141
  refine s_ck 76 #[pt_ b_h 0, i_ i4, .agg #[.int .u64 ((gt h2 o50).1), .int .u32 ((gt h2 o50).2)]] (by kernel_rfl) (c_heap_Heap_put e117.wf u142 u143 u139 dj_fp_h__b_h dj_fp_h__fp_h_2 hy145) ?_
  rintro _ H147 ⟨rfl, e148, m149, m150⟩
  refine s_nil (k138 _ _ (g_' (q_ (i_ o50) (q_ (i_ o50) (s_nil ?_)))))
  obtain rfl := Option.some.inj r146
  exact k46 n40 _ _ (Nat.lt_succ_self _) ⟨y144.1, y144.2, o50, hn43, ha_, (FrS.step e16.wf (FrS.step e16.wf (FrS.step e16.wf (FrS.step e16.wf (FrS.refl (W := (fp_h_ ++ fp_h_2)) e16.wf) e33 (Inn.app Inn.left (Inn.right Inn.refl'))) e54 Inn.nil) e117 Inn.nil) e148 (Inn.app Inn.left (Inn.right Inn.refl'))), m149, m150⟩
 obtain ⟨hh29, e23, m25, m27⟩ := hM
 obtain ⟨β, rfl⟩ := has_ex hh29
 clear hh29
 refine k18 _ _ (g_' (q_ (pt_ b_h 0) (q_ (i_ o19.2.2) ?_)))
 have u151 := (r17.frS e23 (Dj.app (Dj.symm (hb11.djn h_h_.lt)) (Dj.symm (hb11.djn h_h_2.lt))))
 refine l_' (.agg #[.int .u64 ((gt h_ i).1), .int .u32 ((gt h_ i).2)]) (aLoad Tryz.prog 145 (pt_ b8 0) H22) (u151.ld (by kernel_rfl)) ?_
 have u152 := (((h_h.ext e10).frS e16 (hb11.djn h_h.ltF)).frS e23 (Dj.app dj_fp_h__b_h dj_fp_h_2_b_h))
 obtain ⟨y153, hy154, r155⟩ := bind_some r21
 refine s_ck 76 #[pt_ b_h 0, i_ o19.2.2, .agg #[.int .u64 ((gt h_ i).1), .int .u32 ((gt h_ i).2)]] (by kernel_rfl) (c_heap_Heap_put e23.wf m25 m27 u152 dj_fp_h__b_h dj_fp_h__fp_h_2 hy154) ?_
 rintro _ H156 ⟨rfl, e157, m158, m159⟩
 refine s_nil ?_
 refine b_nrm (fn := Tryz.f78) (vs := []) (rfl) ?_
 obtain rfl := Option.some.inj r155
 exact ⟨rfl, (FrS.step wf (FrS.step wf (FrS.step wf ((FrS.refl (W := (fp_h_ ++ fp_h_2)) wf).extR e10) e16 (hb11.fresh (Nat.le_refl _))) e23 (Inn.app Inn.left (Inn.right Inn.refl'))) e157 (Inn.app Inn.left (Inn.right Inn.refl'))), m158, m159⟩
theorem c_heap_Heap_Set {H : AH} {b_h : Nat} {hd_h_ : Value} {fp_h_ : Fp} {hd_h_2 : Value} {fp_h_2 : Fp} {h_ : List (Int × Int)} {h_2 : List (Int)} {id_ : Int} {key : Int} {r : Er × List (Int) × List (Int × Int)}
    (wf : WF H) (h_h_ : Ow enc_u64_u32 2 H hd_h_ h_ fp_h_) (h_h_2 : Ow (encI .i64) 1 H hd_h_2 h_2 fp_h_2) (h_h : Row H b_h [hd_h_, hd_h_2]) (dj_fp_h__b_h : Dj fp_h_ [b_h]) (dj_fp_h__fp_h_2 : Dj fp_h_ fp_h_2) (dj_b_h_fp_h_2 : Dj [b_h] fp_h_2) (hr : z_heap_Heap_Set h_ h_2 id_ key = some r) :
    ACalls Tryz.prog 64 #[pt_ b_h 0, .int .u32 id_, .int .u64 key] H fun v H' => ∃ (v3 : Value) (f4 : Fp) (s9 : Value) (f10 : Fp), v = v3 ∧ FrS ([b_h] ++ (fp_h_ ++ fp_h_2)) H H' ∧ Ev 43 81 H' v3 r.1 f4 ∧ Ow (encI .i64) 1 H' hd_h_2 r.2.1 fp_h_2 ∧ Ow enc_u64_u32 2 H' s9 r.2.2 f10 ∧ Row H' b_h [s9, hd_h_2] ∧ Inn [] H f4 ∧ Inn fp_h_ H f10 ∧ Dj f4 f10 := by
 refine acalls_of_body mixed Tryz.func64 rfl (Nat.le_of_ble_eq_true rfl) ?_
 unfold z_heap_Heap_Set at hr
 refine w_seqk fun _ k16 => g_' (q_ (.nilIface) (s_nil (k16 _ _ (w_seqk fun _ k17 => w_seqk fun _ k18 => g_' (q_ (pt_ b_h 0) (q_ (.int .u32 id_) ?_))))))
 obtain ⟨y19, hy20, r21⟩ := bind_some hr
 refine s_ck 75 #[pt_ b_h 0, .int .u32 id_] (by kernel_rfl) (c_heap_Heap_check wf h_h_.sq h_h_2.sq h_h hy20) ?_
 rintro v22 _ ⟨_, f23, rfl, rfl, m26, i27⟩
 refine q_ (v22) (s_nil (k18 _ _ (w_seqk fun _ k29 => g_' (q_ (v22) ?_))))
 rcases (m26).cases with ⟨h30, rfl⟩ | ⟨h30, t31, x32, rfl⟩
 ·have r33 := ite_t h30 r21
  refine q_ (.bool false) (s_nil (k29 _ _ ?_))
  refine w_cond false (by kernel_rfl) rfl (fun h => by cases h) (fun _ => ?_)
  refine w_skip (k17 _ _ (w_seqk fun _ k34 => g_' (q_ (pt_ b_h 0) (q_ (pt_ b_h 0) (q_ (pt_ b_h 1) ?_)))))
  refine l_' (hd_h_2) (aLoad Tryz.prog 23 (pt_ b_h 1) H) (h_h.ld (by kernel_rfl)) ?_
  refine q_ (.int .u32 id_) ?_
  obtain ⟨g35, r36⟩ := G_some r33
  refine l_' (elp hd_h_2 1 id_.toNat 0) (aIndexAddr Tryz.prog 23 hd_h_2 (.int .u32 id_)) (h_h_2.sq.idxb (by kernel_rfl) g35.1 g35.2) ?_
  refine l_' (i_ (gt h_2 id_)) (aLoad Tryz.prog 3 (elp hd_h_2 1 id_.toNat 0) H) (h_h_2.sq.ld g35.1 g35.2 (by kernel_rfl)) ?_
  obtain ⟨g37, r38⟩ := G_some r36
  refine w_' ((gt h_2 id_) - 1) (wrap64 g37) ?_
  refine q_ (i_ ((gt h_2 id_) - 1)) (s_nil (k34 _ _ (w_seqk fun _ k39 => w_seqk fun _ k40 => g_' (q_ (i_ ((gt h_2 id_) - 1)) (q_ (.bool (decide (((gt h_2 id_) - 1) < 0))) (s_nil (k40 _ _ ?_)))))))
  obtain ⟨o41, hx42, r43⟩ := bind_some r38
  refine w_mid (fun α H44 => ∃ (s48 : Value) (f49 : Fp), Has α [(0, pt_ b_h 0), (1, .int .u32 id_), (2, .int .u64 key), (8, i_ o41.2)] ∧ FrS ([b_h] ++ fp_h_) H H44 ∧ Ow enc_u64_u32 2 H44 s48 o41.1 f49 ∧ Row H44 b_h [s48, hd_h_2] ∧ Inn fp_h_ H f49) (fun _ k53 => ?_) (fun α H44 hM => ?_)
  ·refine w_condp (((gt h_2 id_) - 1) < 0) (by kernel_rfl) rfl (fun h55 => ?_) (fun h55 => ?_)
   ·have r56 := ite_t h55 hx42
    refine w_seqk fun _ k57 => g_' (q_ (pt_ b_h 0) (q_ (pt_ b_h 0) (q_ (pt_ b_h 0) ?_)))
    refine l_' (hd_h_) (aLoad Tryz.prog 139 (pt_ b_h 0) H) (h_h.ld (by kernel_rfl)) ?_
    refine l_' (i_ (h_.length : Int)) (aLen Tryz.prog 139 hd_h_ H) (h_h_.sq.lenb (by kernel_rfl)) ?_
    refine q_ (i_ (h_.length : Int)) (s_nil (k57 _ _ (g_' (q_ (pt_ b_h 0) (q_ (pt_ b_h 0) (q_ (pt_ b_h 0) (q_ (pt_ b_h 0) ?_)))))))
    refine l_' (hd_h_) (aLoad Tryz.prog 139 (pt_ b_h 0) H) (h_h.ld (by kernel_rfl)) ?_
    refine q_ (.agg #[.int .u64 0, .int .u32 0]) ?_
    refine s_owk (enc := enc_u64_u32) (sz := 2) wf [(0, 0)] 1 (by decide) (fun _ _ => rfl) (fun _ _ => rfl) rfl (by kernel_rfl) fun s58 f59 H60 e61 hf62 hm63 => ?_
    obtain ⟨a64, n65, c66, rfl⟩ := hm63.form
    have u68 := (h_h_.ext e61)
    obtain ⟨g69, r70⟩ := G_some r56
    obtain ⟨s71, H72, f73, q77, e74, hm75, hf76⟩ := Ow.append (P := Tryz.prog) 16 e61.wf u68 hm63.sq (fun _ _ => rfl) (at_ := #[139, 139]) rfl rfl (by kernel_rfl) (by kernel_rfl) (by decide) (by have := g69; first | omega | (simp only [List.length_cons, List.length_nil] at this ⊢; omega) | (simp at this ⊢; omega))
    obtain ⟨a78, n79, c80, rfl⟩ := hm75.form
    refine s_ek (.slice a78 n79 c80) (by kernel_rfl) (q77) ?_
    refine q_ (pt_ b_h 0) (q_ (pt_ b_h 0) ?_)
    have u86 := ((h_h.ext e61).frS e74 dj_fp_h__b_h)
    obtain ⟨H82, q83, e84, r85⟩ := Row.store (P := Tryz.prog) (t := 139) (p := 0) e74.wf u86 (.slice a78 n79 c80) [.slice a78 n79 c80] (by kernel_rfl) (by kernel_rfl) (one_cons (hm75.one1) (one_nil)) (Nat.le_of_ble_eq_true (by kernel_rfl)) [.slice a78 n79 c80, hd_h_2] (by kernel_rfl)
    refine s_ek (undef) (by kernel_rfl) (map_ok q83) ?_
    refine s_nil ?_
    have u87 := (hm75.fr e84 (Dj.symm (hf76.dj dj_fp_h__b_h (h_h.ltF.le e61.next))))
    obtain rfl := Option.some.inj r70
    exact k53 _ _ ⟨(.slice a78 n79 c80), f73, ha_, (FrS.step wf (FrS.step wf ((FrS.refl (W := ([b_h] ++ fp_h_)) wf).extR e61) e74 (Inn.right Inn.refl')) e84 Inn.left), u87, r85, (Inn.trans Inn.refl' e61.next hf76)⟩
   have r88 := ite_f h55 hx42
   refine w_skip ?_
   obtain rfl := Option.some.inj r88
   exact k53 _ _ ⟨(hd_h_), fp_h_, ha_, (FrS.refl (W := ([b_h] ++ fp_h_)) wf), h_h_, h_h, Inn.refl'⟩
  obtain ⟨s48, f49, hh54, e45, m47, m51, i52⟩ := hM
  obtain ⟨β, rfl⟩ := has_ex hh54
  clear hh54
  obtain ⟨a89, n90, c91, rfl⟩ := m47.form
  refine k39 _ _ (w_seqk fun _ k92 => g_' (q_ (pt_ b_h 0) (q_ (i_ o41.2) (q_ (.int .u64 key) (q_ (.int .u32 id_) (q_ (.agg #[.int .u64 key, .int .u32 id_]) ?_))))))
  have u93 := (h_h_2.fr e45 (Dj.app dj_b_h_fp_h_2 dj_fp_h__fp_h_2))
  obtain ⟨y94, hy95, r96⟩ := bind_some r43
  refine s_ck 76 #[pt_ b_h 0, i_ o41.2, .agg #[.int .u64 key, .int .u32 id_]] (by kernel_rfl) (c_heap_Heap_put e45.wf m47 u93 m51 (i52.dj dj_fp_h__b_h h_h.ltF) (i52.dj dj_fp_h__fp_h_2 h_h_2.lt) hy95) ?_
  rintro _ H97 ⟨rfl, e98, m99, m100⟩
  refine s_nil (k92 _ _ (w_seqk fun _ k101 => g_' (q_ (pt_ b_h 0) (q_ (i_ o41.2) ?_))))
  have u102 := (m51.frS e98 (Dj.app (i52.dj dj_fp_h__b_h h_h.ltF) (Dj.symm dj_b_h_fp_h_2)))
  obtain ⟨y103, hy104, r105⟩ := bind_some r96
  refine s_ck 77 #[pt_ b_h 0, i_ o41.2] (by kernel_rfl) (c_heap_Heap_up e98.wf m99 m100 u102 (i52.dj dj_fp_h__b_h h_h.ltF) (i52.dj dj_fp_h__fp_h_2 h_h_2.lt) (Dj.symm dj_b_h_fp_h_2) hy104) ?_
  rintro _ H106 ⟨rfl, e107, m108, m109⟩
  refine s_nil (k101 _ _ (w_seqk fun _ k110 => g_' (q_ (pt_ b_h 0) (q_ (pt_ b_h 0) (q_ (pt_ b_h 0) (q_ (pt_ b_h 1) ?_))))))
  have u111 := (u102.frS e107 (Dj.app (i52.dj dj_fp_h__b_h h_h.ltF) (Dj.symm dj_b_h_fp_h_2)))
  refine l_' (hd_h_2) (aLoad Tryz.prog 23 (pt_ b_h 1) H106) (u111.ld (by kernel_rfl)) ?_
  refine q_ (.int .u32 id_) ?_
  obtain ⟨g112, r113⟩ := G_some r105
  refine l_' (elp hd_h_2 1 id_.toNat 0) (aIndexAddr Tryz.prog 23 hd_h_2 (.int .u32 id_)) (m109.sq.idxb (by kernel_rfl) g35.1 g112) ?_
  refine l_' (i_ (gt y103.2 id_)) (aLoad Tryz.prog 3 (elp hd_h_2 1 id_.toNat 0) H106) (m109.sq.ld g35.1 g112 (by kernel_rfl)) ?_
  obtain ⟨g114, r115⟩ := G_some r113
  refine w_' ((gt y103.2 id_) - 1) (wrap64 g114) ?_
  obtain ⟨y116, hy117, r118⟩ := bind_some r115
  refine s_ck 78 #[pt_ b_h 0, i_ ((gt y103.2 id_) - 1)] (by kernel_rfl) (c_heap_Heap_down e107.wf m108 m109 u111 (i52.dj dj_fp_h__b_h h_h.ltF) (i52.dj dj_fp_h__fp_h_2 h_h_2.lt) (Dj.symm dj_b_h_fp_h_2) hy117) ?_
  rintro _ H119 ⟨rfl, e120, m121, m122⟩
  refine s_nil (k110 _ _ (w_seqk fun _ k123 => g_' (q_ (.nilIface) (s_nil (k123 _ _ ?_)))))
  refine w_ret ?_
  refine b_ret (fn := Tryz.f64) (vs := [.nilIface]) (aRes_tmp (by kernel_rfl) (rfl)) ?_
  have u124 := (u111.frS e120 (Dj.app (i52.dj dj_fp_h__b_h h_h.ltF) (Dj.symm dj_b_h_fp_h_2)))
  obtain rfl := Option.some.inj r118
  exact ⟨(.nilIface), [], (.slice a89 n90 c91), f49, rfl, (FrS.step wf (FrS.step wf (FrS.step wf (FrS.step wf (FrS.refl (W := ([b_h] ++ (fp_h_ ++ fp_h_2))) wf) e45 (Inn.app Inn.left (Inn.right Inn.left))) e98 (Inn.app (Inn.trans (Inn.right Inn.left) (Nat.le_refl _) i52) (Inn.right (Inn.right Inn.refl')))) e107 (Inn.app (Inn.trans (Inn.right Inn.left) (Nat.le_refl _) i52) (Inn.right (Inn.right Inn.refl')))) e120 (Inn.app (Inn.trans (Inn.right Inn.left) (Nat.le_refl _) i52) (Inn.right (Inn.right Inn.refl')))), Ev.nil, m122, m121, u124, Inn.nil, (Inn.trans Inn.refl' (Nat.le_refl _) i52), Dj.nil_l⟩
 have r125 := ite_f h30 r21
 refine l_' (.bool true) (aBin Tryz.prog .neq 31 (.tmp 12) (.const .nilIface) (.iface t31 x32) .nilIface) (aBin_nnil (by kernel_rfl)) ?_
 refine s_nil (k29 _ _ ?_)
 refine w_cond true (by kernel_rfl) rfl (fun _ => ?_) (fun h => by cases h)
 refine w_seqk fun _ k126 => g_' (q_ (.iface t31 x32) (q_ (.iface t31 x32) (s_nil (k126 _ _ ?_))))
 refine w_ret (th_ret ?_)
 refine b_ret (fn := Tryz.f64) (vs := [.iface t31 x32]) (aRes_tmp (by kernel_rfl) (rfl)) ?_
 obtain rfl := Option.some.inj r125
 exact ⟨(.iface t31 x32), f23, (hd_h_), fp_h_, rfl, (FrS.refl (W := ([b_h] ++ (fp_h_ ++ fp_h_2))) wf), m26, h_h_2, h_h_, h_h, (i27.fresh (Nat.le_refl _)), Inn.refl', (i27.djn h_h_.lt)⟩
theorem c_search_state_label {H : AH} {b_st : Nat} {hd_st_ : Value} {fp_st_ : Fp} {hd_st_2 : Value} {fp_st_2 : Fp} {hd_st_3 : Value} {fp_st_3 : Fp} {b_st_4 : Nat} {hd_st_5 : Value} {fp_st_5 : Fp} {hd_st_6 : Value} {fp_st_6 : Fp} {b_st_7 : Nat} {hd_st_8 : Value} {fp_st_8 : Fp} {hd_st_11 : Value} {fp_st_11 : Fp} {hd_st_12 : Value} {fp_st_12 : Fp} {st_ : List (Int)} {st_2 : List (Int)} {st_3 : List (Int)} {st_5 : List (Int × Int)} {st_6 : List (Int)} {st_8 : List (Int × Int)} {st_9 : Int} {st_10 : Int} {st_11 : List (Int)} {st_12 : List (Bool)} {v_ : Int} {d : Int} {hops : Int} {r : List (Int) × List (Int × Int) × List (Int × Int) × Int × List (Int)}
    (wf : WF H) (h_st_ : Sq (encI .i64) 1 H hd_st_ st_ fp_st_) (h_st_2 : Sq (encI .i64) 1 H hd_st_2 st_2 fp_st_2) (h_st_3 : Sq (encI .i64) 1 H hd_st_3 st_3 fp_st_3) (h_st_5 : Ow enc_u64_u32 2 H hd_st_5 st_5 fp_st_5) (h_st_6 : Ow (encI .i64) 1 H hd_st_6 st_6 fp_st_6) (h_st_4 : Row H b_st_4 [hd_st_5, hd_st_6]) (h_st_8 : Ow enc_u64_u32 2 H hd_st_8 st_8 fp_st_8) (h_st_7 : Row H b_st_7 [hd_st_8, .int .u32 st_9, i_ st_10]) (h_st_11 : Ow (encI .i64) 1 H hd_st_11 st_11 fp_st_11) (h_st_12 : Sq encB 1 H hd_st_12 st_12 fp_st_12) (h_st : Row H b_st [hd_st_, hd_st_2, hd_st_3, pt_ b_st_4 0, pt_ b_st_7 0, hd_st_11, hd_st_12]) (dj_b_st_7_fp_st_8 : Dj [b_st_7] fp_st_8) (dj_fp_st_8_b_st : Dj fp_st_8 [b_st]) (dj_b_st_7_b_st : Dj [b_st_7] [b_st]) (dj_fp_st_8_fp_st_11 : Dj fp_st_8 fp_st_11) (dj_b_st_7_fp_st_11 : Dj [b_st_7] fp_st_11) (dj_fp_st_11_b_st : Dj fp_st_11 [b_st]) (dj_fp_st_8_fp_st_5 : Dj fp_st_8 fp_st_5) (dj_b_st_7_fp_st_5 : Dj [b_st_7] fp_st_5) (dj_fp_st_11_fp_st_5 : Dj fp_st_11 fp_st_5) (dj_fp_st_8_fp_st_6 : Dj fp_st_8 fp_st_6) (dj_b_st_7_fp_st_6 : Dj [b_st_7] fp_st_6) (dj_fp_st_11_fp_st_6 : Dj fp_st_11 fp_st_6) (dj_fp_st_8_b_st_4 : Dj fp_st_8 [b_st_4]) (dj_b_st_7_b_st_4 : Dj [b_st_7] [b_st_4]) (dj_fp_st_11_b_st_4 : Dj fp_st_11 [b_st_4]) (dj_fp_st_5_b_st_4 : Dj fp_st_5 [b_st_4]) (dj_fp_st_5_fp_st_6 : Dj fp_st_5 fp_st_6) (dj_b_st_4_fp_st_6 : Dj [b_st_4] fp_st_6) (hr : z_search_state_label st_ st_2 st_3 st_5 st_6 st_8 st_9 st_10 st_11 st_12 v_ d hops = some r) :
    ACalls Tryz.prog 43 #[pt_ b_st 0, i_ v_, .int .u64 d, i_ hops] H fun v H' => ∃ (s5 : Value) (f6 : Fp), v = .tuple #[] ∧ FrS ([b_st_4] ++ ([b_st_7] ++ (fp_st_11 ++ (fp_st_5 ++ (fp_st_6 ++ fp_st_8))))) H H' ∧ Ow (encI .i64) 1 H' hd_st_6 r.1 fp_st_6 ∧ Ow enc_u64_u32 2 H' s5 r.2.1 f6 ∧ Row H' b_st_4 [s5, hd_st_6] ∧ Ow enc_u64_u32 2 H' hd_st_8 r.2.2.1 fp_st_8 ∧ Row H' b_st_7 [hd_st_8, .int .u32 st_9, i_ r.2.2.2.1] ∧ Ow (encI .i64) 1 H' hd_st_11 r.2.2.2.2 fp_st_11 ∧ Inn fp_st_5 H f6 := by
 refine acalls_of_body mixed Tryz.func43 rfl (Nat.le_of_ble_eq_true rfl) ?_
 unfold z_search_state_label at hr
 refine w_seqk fun _ k16 => g_' (q_ (pt_ b_st 0) (q_ (pt_ b_st 0) (q_ (pt_ b_st 4) ?_)))
 refine l_' (pt_ b_st_7 0) (aLoad Tryz.prog 72 (pt_ b_st 4) H) (h_st.ld (by kernel_rfl)) ?_
 refine q_ (i_ v_) (q_ (.int .u64 d) ?_)
 obtain ⟨y17, hy18, r19⟩ := bind_some hr
 refine s_ck 63 #[pt_ b_st_7 0, i_ v_, .int .u64 d] (by kernel_rfl) (c_stamp_Stamp_Set wf h_st_8 h_st_7 dj_b_st_7_fp_st_8 hy18) ?_
 rintro v20 H22 ⟨_, f21, rfl, e23, m24, m25, m26, i27⟩
 refine s_nil (k16 _ _ (w_seqk fun _ k29 => g_' (q_ (pt_ b_st 0) (q_ (pt_ b_st 0) (q_ (pt_ b_st 5) ?_)))))
 have u30 := (h_st.frS e23 (Dj.app dj_b_st_7_b_st dj_fp_st_8_b_st))
 refine l_' (hd_st_11) (aLoad Tryz.prog 23 (pt_ b_st 5) H22) (u30.ld (by kernel_rfl)) ?_
 refine q_ (i_ v_) (q_ (i_ hops) ?_)
 obtain ⟨g31, r32⟩ := G_some r19
 have u33 := (h_st_11.fr e23 (Dj.app dj_b_st_7_fp_st_11 dj_fp_st_8_fp_st_11))
 refine l_' (elp hd_st_11 1 v_.toNat 0) (aIndexAddr Tryz.prog 23 hd_st_11 (i_ v_)) (u33.sq.idxb (by kernel_rfl) g31.1 g31.2) ?_
 obtain ⟨H34, q35, e36, hm37⟩ := Ow.store (P := Tryz.prog) (t := 3) (off := 0) e23.wf u33 g31.1 g31.2 (i_ hops) [i_ hops] (by kernel_rfl) (by kernel_rfl) rfl hops (Nat.le_of_ble_eq_true rfl) (by kernel_rfl)
 refine s_ek (undef) (by kernel_rfl) (map_ok q35) ?_
 refine s_nil (k29 _ _ (g_' (q_ (pt_ b_st 0) (q_ (pt_ b_st 0) (q_ (pt_ b_st 3) ?_)))))
 have u38 := (u30.frS e36 dj_fp_st_11_b_st)
 refine l_' (pt_ b_st_4 0) (aLoad Tryz.prog 71 (pt_ b_st 3) H34) (u38.ld (by kernel_rfl)) ?_
 refine q_ (i_ v_) ?_
 obtain ⟨g39, r40⟩ := G_some r32
 refine s_w (v_) (k := .u32) (x := v_) (by kernel_rfl) (wrapu32 (by have := g39; omega)) ?_
 refine q_ (.int .u64 d) ?_
 have u41 := ((h_st_5.fr e23 (Dj.app dj_b_st_7_fp_st_5 dj_fp_st_8_fp_st_5)).fr e36 dj_fp_st_11_fp_st_5)
 have u42 := ((h_st_6.fr e23 (Dj.app dj_b_st_7_fp_st_6 dj_fp_st_8_fp_st_6)).fr e36 dj_fp_st_11_fp_st_6)
 have u43 := ((h_st_4.frS e23 (Dj.app dj_b_st_7_b_st_4 dj_fp_st_8_b_st_4)).frS e36 dj_fp_st_11_b_st_4)
 obtain ⟨y44, hy45, r46⟩ := bind_some r40
 refine s_ck 64 #[pt_ b_st_4 0, .int .u32 v_, .int .u64 d] (by kernel_rfl) (c_heap_Heap_Set e36.wf u41 u42 u43 dj_fp_st_5_b_st_4 dj_fp_st_5_fp_st_6 dj_b_st_4_fp_st_6 hy45) ?_
 rintro v47 H51 ⟨_, f48, s49, f50, rfl, e52, m53, m54, m55, m56, i57, i58, d59⟩
 obtain ⟨a62, n63, c64, rfl⟩ := m55.form
 refine s_nil ?_
 refine b_nrm (fn := Tryz.f43) (vs := []) (rfl) ?_
 have u65 := ((m25.fr e36 (Dj.symm dj_fp_st_8_fp_st_11)).fr e52 (Dj.app (Dj.symm dj_fp_st_8_b_st_4) (Dj.app (Dj.symm dj_fp_st_8_fp_st_5) (Dj.symm dj_fp_st_8_fp_st_6))))
 have u66 := ((m26.frS e36 (Dj.symm dj_b_st_7_fp_st_11)).frS e52 (Dj.app (Dj.symm dj_b_st_7_b_st_4) (Dj.app (Dj.symm dj_b_st_7_fp_st_5) (Dj.symm dj_b_st_7_fp_st_6))))
 have u67 := (hm37.fr e52 (Dj.app (Dj.symm dj_fp_st_11_b_st_4) (Dj.app (Dj.symm dj_fp_st_11_fp_st_5) (Dj.symm dj_fp_st_11_fp_st_6))))
 obtain rfl := Option.some.inj r46
 exact ⟨(.slice a62 n63 c64), f50, rfl, (FrS.step wf (FrS.step wf (FrS.step wf (FrS.refl (W := ([b_st_4] ++ ([b_st_7] ++ (fp_st_11 ++ (fp_st_5 ++ (fp_st_6 ++ fp_st_8)))))) wf) e23 (Inn.app (Inn.right Inn.left) (Inn.right (Inn.right (Inn.right (Inn.right (Inn.right Inn.refl'))))))) e36 (Inn.right (Inn.right Inn.left))) e52 (Inn.app Inn.left (Inn.app (Inn.right (Inn.right (Inn.right Inn.left))) (Inn.right (Inn.right (Inn.right (Inn.right Inn.left))))))), m54, m55, m56, u65, u66, u67, (Inn.trans Inn.refl' (ntr e23.next e36.next) i58)⟩
theorem c_heap_Heap_Top {H : AH} {b_h : Nat} {hd_h_ : Value} {fp_h_ : Fp} {hd_h_2 : Value} {fp_h_2 : Fp} {h_ : List (Int × Int)} {h_2 : List (Int)} {r : Int × Int × Bool}
    (wf : WF H) (h_h_ : Sq enc_u64_u32 2 H hd_h_ h_ fp_h_) (h_h_2 : Sq (encI .i64) 1 H hd_h_2 h_2 fp_h_2) (h_h : Row H b_h [hd_h_, hd_h_2]) (hr : z_heap_Heap_Top h_ h_2 = some r) :
    ACalls Tryz.prog 44 #[pt_ b_h 0] H fun v H' => v = .tuple #[.int .u32 r.1, .int .u64 r.2.1, .bool r.2.2] ∧ H = H' := by
 refine acalls_of_body mixed Tryz.func44 rfl (Nat.le_of_ble_eq_true rfl) ?_
 unfold z_heap_Heap_Top at hr
 refine w_seqk fun _ k1 => g_' (q_ (.int .u32 0) (q_ (.int .u64 0) (q_ (.bool false) (s_nil (k1 _ _ (w_seqk fun _ k2 => w_seqk fun _ k3 => g_' (q_ (pt_ b_h 0) (q_ (.bool false) (q_ (.bool false) (q_ (pt_ b_h 0) (q_ (pt_ b_h 0) (q_ (pt_ b_h 0) ?_))))))))))))
 refine l_' (hd_h_) (aLoad Tryz.prog 139 (pt_ b_h 0) H) (h_h.ld (by kernel_rfl)) ?_
 refine l_' (i_ (h_.length : Int)) (aLen Tryz.prog 139 hd_h_ H) (h_h_.lenb (by kernel_rfl)) ?_
 refine q_ (.bool (decide ((h_.length : Int) = 0))) (q_ (.bool (decide ((h_.length : Int) = 0))) (s_nil (k3 _ _ ?_)))
 refine w_condp ((h_.length : Int) = 0) (by kernel_rfl) rfl (fun h4 => ?_) (fun h4 => ?_)
 ·have r5 := ite_t h4 hr
  refine w_seqk fun _ k6 => g_' (q_ (.int .u32 0) (q_ (.int .u64 0) (q_ (.bool false) (s_nil (k6 _ _ ?_)))))
  refine w_ret (th_ret ?_)
  refine b_ret (fn := Tryz.f44) (vs := [.int .u32 0, .int .u64 0, .bool false]) (aRes_tmp (by kernel_rfl) (aRes_tmp (by kernel_rfl) (aRes_tmp (by kernel_rfl) (rfl)))) ?_
  obtain rfl := Option.some.inj r5
  exact ⟨rfl, rfl⟩
 have r7 := ite_f h4 hr
 refine w_skip (k2 _ _ (w_seqk fun _ k8 => ?_))
 refine w_draw [0, 1, 2, 3, 4, 5, 6, 7, 8, 9, 10, 11, 12, 13, 14, 15, 16] (by kernel_rfl) ?_
 refine e_' (pt_ b_h 0) (e_' (pt_ b_h 0) (e_' (pt_ b_h 0) ?_))
 refine m_' (hd_h_) (aLoad Tryz.prog 139 (pt_ b_h 0) H) (h_h.ld (by kernel_rfl)) ?_
 obtain ⟨g9, r10⟩ := G_some r7
 refine m_' (elp hd_h_ 2 (0 : Int).toNat 0) (aIndexAddr Tryz.prog 139 hd_h_ (i_ 0)) (h_h_.idxb (by kernel_rfl) (by decide) g9) ?_
 refine m_' (elp hd_h_ 2 (0 : Int).toNat 1) (aFieldAddr Tryz.prog 145 (elp hd_h_ 2 (0 : Int).toNat 0) 1) (Sq.fldq (d := 1) h_h_ (by decide) g9 (by kernel_rfl)) ?_
 refine m_' (.int .u32 ((gt h_ 0).2)) (aLoad Tryz.prog 105 (elp hd_h_ 2 (0 : Int).toNat 1) H) (h_h_.ld (by decide) g9 (by kernel_rfl)) ?_
 refine e_' (pt_ b_h 0) (e_' (pt_ b_h 0) (e_' (pt_ b_h 0) ?_))
 refine m_' (hd_h_) (aLoad Tryz.prog 139 (pt_ b_h 0) H) (h_h.ld (by kernel_rfl)) ?_
 refine m_' (elp hd_h_ 2 (0 : Int).toNat 0) (aIndexAddr Tryz.prog 139 hd_h_ (i_ 0)) (h_h_.idxb (by kernel_rfl) (by decide) g9) ?_
 refine m_' (elp hd_h_ 2 (0 : Int).toNat 0) (aFieldAddr Tryz.prog 145 (elp hd_h_ 2 (0 : Int).toNat 0) 0) (Sq.fldq (d := 0) h_h_ (by decide) g9 (by kernel_rfl)) ?_
 refine m_' (.int .u64 ((gt h_ 0).1)) (aLoad Tryz.prog 37 (elp hd_h_ 2 (0 : Int).toNat 0) H) (h_h_.ld (by decide) g9 (by kernel_rfl)) ?_
 refine e_' (.int .u32 ((gt h_ 0).2)) (e_' (.int .u64 ((gt h_ 0).1)) (e_' (.bool true) ?_))
 refine d_nil ?_
 refine k8 _ _ ?_
 refine w_ret ?_
 refine b_ret (fn := Tryz.f44) (vs := [.int .u32 ((gt h_ 0).2), .int .u64 ((gt h_ 0).1), .bool true]) (aRes_tmp (by kernel_rfl) (aRes_tmp (by kernel_rfl) (aRes_tmp (by kernel_rfl) (rfl)))) ?_
 obtain rfl := Option.some.inj r10
 exact ⟨rfl, rfl⟩
theorem c_heap_Heap_Key {H : AH} {b_h : Nat} {hd_h_ : Value} {fp_h_ : Fp} {hd_h_2 : Value} {fp_h_2 : Fp} {h_ : List (Int × Int)} {h_2 : List (Int)} {id_ : Int} {r : Int × Bool}
    (wf : WF H) (h_h_ : Sq enc_u64_u32 2 H hd_h_ h_ fp_h_) (h_h_2 : Sq (encI .i64) 1 H hd_h_2 h_2 fp_h_2) (h_h : Row H b_h [hd_h_, hd_h_2]) (hr : z_heap_Heap_Key h_ h_2 id_ = some r) :
    ACalls Tryz.prog 79 #[pt_ b_h 0, .int .u32 id_] H fun v H' => v = .tuple #[.int .u64 r.1, .bool r.2] ∧ H = H' := by
 refine acalls_of_body mixed Tryz.func79 rfl (Nat.le_of_ble_eq_true rfl) ?_
 unfold z_heap_Heap_Key at hr
 refine w_seqk fun _ k1 => g_' (q_ (.int .u64 0) (q_ (.bool false) (s_nil (k1 _ _ (w_seqk fun _ k2 => w_seqk fun _ k3 => ?_)))))
 obtain ⟨o4, hx5, r6⟩ := bind_some hr
 refine w_mid (fun α H7 => Has α [(0, pt_ b_h 0), (1, .int .u32 id_), (19, .bool o4)] ∧ H = H7) (fun _ k9 => ?_) (fun α H7 hM => ?_)
 ·refine g_' (q_ (pt_ b_h 0) (q_ (.int .u32 id_) ?_))
  obtain ⟨y11, hy12, r13⟩ := bind_some hx5
  refine s_ck 75 #[pt_ b_h 0, .int .u32 id_] (by kernel_rfl) (c_heap_Heap_check wf h_h_ h_h_2 h_h hy12) ?_
  rintro v14 _ ⟨_, f15, rfl, rfl, m18, i19⟩
  rcases (m18).cases with ⟨h21, rfl⟩ | ⟨h21, t22, x23, rfl⟩
  ·have r24 := ite_t h21 r13
   refine q_ (.bool false) (q_ (.bool false) (q_ (pt_ b_h 0) (q_ (pt_ b_h 0) (q_ (pt_ b_h 1) ?_))))
   refine l_' (hd_h_2) (aLoad Tryz.prog 23 (pt_ b_h 1) H) (h_h.ld (by kernel_rfl)) ?_
   refine q_ (.int .u32 id_) ?_
   obtain ⟨g25, r26⟩ := G_some r24
   refine l_' (elp hd_h_2 1 id_.toNat 0) (aIndexAddr Tryz.prog 23 hd_h_2 (.int .u32 id_)) (h_h_2.idxb (by kernel_rfl) g25.1 g25.2) ?_
   refine l_' (i_ (gt h_2 id_)) (aLoad Tryz.prog 3 (elp hd_h_2 1 id_.toNat 0) H) (h_h_2.ld g25.1 g25.2 (by kernel_rfl)) ?_
   refine q_ (.bool (decide ((gt h_2 id_) = 0))) (q_ (.bool (decide ((gt h_2 id_) = 0))) (s_nil ?_))
   obtain rfl := Option.some.inj r26
   exact k9 _ _ ⟨ha_, rfl⟩
  have r27 := ite_f h21 r13
  refine l_' (.bool true) (aBin Tryz.prog .neq 31 (.tmp 8) (.const .nilIface) (.iface t22 x23) .nilIface) (aBin_nnil (by kernel_rfl)) ?_
  refine q_ (.bool true) (n_' (n_' (n_' (n_' (n_' (n_' (n_' (n_' (q_ (.bool true) (s_nil ?_))))))))))
  obtain rfl := Option.some.inj r27
  exact k9 _ _ ⟨ha_, rfl⟩
 obtain ⟨hh10, rfl⟩ := hM
 obtain ⟨β, rfl⟩ := has_ex hh10
 clear hh10
 refine k3 _ _ ?_
 refine w_cond (o4) (by kernel_rfl) rfl (fun h28 => ?_) (fun h28 => ?_)
 ·have r29 := ite_t h28 r6
  refine w_seqk fun _ k30 => g_' (q_ (.int .u64 0) (q_ (.bool false) (s_nil (k30 _ _ ?_))))
  refine w_ret (th_ret ?_)
  refine b_ret (fn := Tryz.f79) (vs := [.int .u64 0, .bool false]) (aRes_tmp (by kernel_rfl) (aRes_tmp (by kernel_rfl) (rfl))) ?_
  obtain rfl := Option.some.inj r29
  exact ⟨rfl, rfl⟩
 have r31 := ite_bf h28 r6
 refine w_skip (k2 _ _ (w_seqk fun _ k32 => ?_))
 refine w_draw [0, 1, 2, 3, 4, 5, 6, 7, 8, 9, 10, 11, 12, 13, 14, 15, 16] (by kernel_rfl) ?_
 refine e_' (pt_ b_h 0) (e_' (pt_ b_h 0) (e_' (pt_ b_h 0) ?_))
 refine m_' (hd_h_) (aLoad Tryz.prog 139 (pt_ b_h 0) H) (h_h.ld (by kernel_rfl)) ?_
 refine e_' (pt_ b_h 0) (e_' (pt_ b_h 0) (e_' (pt_ b_h 1) ?_))
 refine m_' (hd_h_2) (aLoad Tryz.prog 23 (pt_ b_h 1) H) (h_h.ld (by kernel_rfl)) ?_
 refine e_' (.int .u32 id_) ?_
 obtain ⟨g33, r34⟩ := G_some r31
 refine m_' (elp hd_h_2 1 id_.toNat 0) (aIndexAddr Tryz.prog 23 hd_h_2 (.int .u32 id_)) (h_h_2.idxb (by kernel_rfl) g33.1 g33.2) ?_
 refine m_' (i_ (gt h_2 id_)) (aLoad Tryz.prog 3 (elp hd_h_2 1 id_.toNat 0) H) (h_h_2.ld g33.1 g33.2 (by kernel_rfl)) ?_
 obtain ⟨g35, r36⟩ := G_some r34
 refine d_w (((gt h_2 id_) - 1)) (k := .i64) (x := ((gt h_2 id_) - 1)) (by kernel_rfl) (wrap64 g35) ?_
 obtain ⟨g37, r38⟩ := G_some r36
 refine m_' (elp hd_h_ 2 ((gt h_2 id_) - 1).toNat 0) (aIndexAddr Tryz.prog 139 hd_h_ (i_ ((gt h_2 id_) - 1))) (h_h_.idxb (by kernel_rfl) g37.1 g37.2) ?_
 refine m_' (elp hd_h_ 2 ((gt h_2 id_) - 1).toNat 0) (aFieldAddr Tryz.prog 145 (elp hd_h_ 2 ((gt h_2 id_) - 1).toNat 0) 0) (Sq.fldq (d := 0) h_h_ g37.1 g37.2 (by kernel_rfl)) ?_
 refine m_' (.int .u64 ((gt h_ ((gt h_2 id_) - 1)).1)) (aLoad Tryz.prog 37 (elp hd_h_ 2 ((gt h_2 id_) - 1).toNat 0) H) (h_h_.ld g37.1 g37.2 (by kernel_rfl)) ?_
 refine e_' (.int .u64 ((gt h_ ((gt h_2 id_) - 1)).1)) (e_' (.bool true) ?_)
 refine d_nil ?_
 refine k32 _ _ ?_
 refine w_ret ?_
 refine b_ret (fn := Tryz.f79) (vs := [.int .u64 ((gt h_ ((gt h_2 id_) - 1)).1), .bool true]) (aRes_tmp (by kernel_rfl) (aRes_tmp (by kernel_rfl) (rfl))) ?_
 obtain rfl := Option.some.inj r38
 exact ⟨rfl, rfl⟩
theorem c_heap_Heap_Remove {H : AH} {b_h : Nat} {hd_h_ : Value} {fp_h_ : Fp} {hd_h_2 : Value} {fp_h_2 : Fp} {h_ : List (Int × Int)} {h_2 : List (Int)} {id_ : Int} {r : Bool × List (Int) × List (Int × Int)}
    (wf : WF H) (h_h_ : Ow enc_u64_u32 2 H hd_h_ h_ fp_h_) (h_h_2 : Ow (encI .i64) 1 H hd_h_2 h_2 fp_h_2) (h_h : Row H b_h [hd_h_, hd_h_2]) (dj_b_h_fp_h_2 : Dj [b_h] fp_h_2) (dj_b_h_fp_h_ : Dj [b_h] fp_h_) (dj_fp_h_2_fp_h_ : Dj fp_h_2 fp_h_) (hr : z_heap_Heap_Remove h_ h_2 id_ = some r) :
    ACalls Tryz.prog 65 #[pt_ b_h 0, .int .u32 id_] H fun v H' => ∃ (s5 : Value), v = .bool r.1 ∧ FrS ([b_h] ++ (fp_h_ ++ fp_h_2)) H H' ∧ Ow (encI .i64) 1 H' hd_h_2 r.2.1 fp_h_2 ∧ Ow enc_u64_u32 2 H' s5 r.2.2 fp_h_ ∧ Row H' b_h [s5, hd_h_2] := by
 refine acalls_of_body mixed Tryz.func65 rfl (Nat.le_of_ble_eq_true rfl) ?_
 unfold z_heap_Heap_Remove at hr
 refine w_seqk fun _ k8 => g_' (q_ (.bool false) (s_nil (k8 _ _ (w_seqk fun _ k9 => w_seqk fun _ k10 => g_' (q_ (pt_ b_h 0) (q_ (.int .u32 id_) ?_))))))
 obtain ⟨y11, hy12, r13⟩ := bind_some hr
 refine s_ck 79 #[pt_ b_h 0, .int .u32 id_] (by kernel_rfl) (c_heap_Heap_Key wf h_h_.sq h_h_2.sq h_h hy12) ?_
 rintro _ _ ⟨rfl, rfl⟩
 refine q_ (.tuple #[.int .u64 y11.1, .bool y11.2]) (q_ (.int .u64 y11.1) (q_ (.bool y11.2) (q_ (.int .u64 y11.1) (q_ (.bool y11.2) (s_nil (k10 _ _ (w_seqk fun _ k16 => g_' (q_ (.bool y11.2) (q_ (.bool (!y11.2)) (s_nil (k16 _ _ ?_)))))))))))
 refine w_cond ((!y11.2)) (by kernel_rfl) rfl (fun h17 => ?_) (fun h17 => ?_)
 ·have r18 := ite_t h17 r13
  refine w_seqk fun _ k19 => g_' (q_ (.bool false) (s_nil (k19 _ _ ?_)))
  refine w_ret (th_ret ?_)
  refine b_ret (fn := Tryz.f65) (vs := [.bool false]) (aRes_tmp (by kernel_rfl) (rfl)) ?_
  obtain rfl := Option.some.inj r18
  exact ⟨(hd_h_), rfl, (FrS.refl (W := ([b_h] ++ (fp_h_ ++ fp_h_2))) wf), h_h_2, h_h_, h_h⟩
 have r20 := ite_bf h17 r13
 refine w_skip (k9 _ _ (w_seqk fun _ k21 => ?_))
 refine w_draw [0, 1, 2, 3, 4, 5, 6, 7, 8, 9, 10, 11, 12, 13, 14, 15] (by kernel_rfl) ?_
 refine e_' (pt_ b_h 0) (e_' (pt_ b_h 0) (e_' (pt_ b_h 1) ?_))
 refine m_' (hd_h_2) (aLoad Tryz.prog 23 (pt_ b_h 1) H) (h_h.ld (by kernel_rfl)) ?_
 refine e_' (.int .u32 id_) ?_
 obtain ⟨g22, r23⟩ := G_some r20
 refine m_' (elp hd_h_2 1 id_.toNat 0) (aIndexAddr Tryz.prog 23 hd_h_2 (.int .u32 id_)) (h_h_2.sq.idxb (by kernel_rfl) g22.1 g22.2) ?_
 refine m_' (i_ (gt h_2 id_)) (aLoad Tryz.prog 3 (elp hd_h_2 1 id_.toNat 0) H) (h_h_2.sq.ld g22.1 g22.2 (by kernel_rfl)) ?_
 obtain ⟨g24, r25⟩ := G_some r23
 refine d_w (((gt h_2 id_) - 1)) (k := .i64) (x := ((gt h_2 id_) - 1)) (by kernel_rfl) (wrap64 g24) ?_
 refine e_' (pt_ b_h 0) (e_' (pt_ b_h 0) (e_' (pt_ b_h 0) ?_))
 refine m_' (hd_h_) (aLoad Tryz.prog 139 (pt_ b_h 0) H) (h_h.ld (by kernel_rfl)) ?_
 refine m_' (i_ (h_.length : Int)) (aLen Tryz.prog 139 hd_h_ H) (h_h_.sq.lenb (by kernel_rfl)) ?_
 obtain ⟨g26, r27⟩ := G_some r25
 refine d_w (((h_.length : Int) - 1)) (k := .i64) (x := ((h_.length : Int) - 1)) (by kernel_rfl) (wrap64 g26) ?_
 refine e_' (i_ ((gt h_2 id_) - 1)) (e_' (i_ ((h_.length : Int) - 1)) ?_)
 refine d_nil ?_
 refine k21 _ _ (w_seqk fun _ k28 => g_' (q_ (pt_ b_h 0) (q_ (pt_ b_h 0) (q_ (pt_ b_h 0) ?_))))
 refine l_' (hd_h_) (aLoad Tryz.prog 139 (pt_ b_h 0) H) (h_h.ld (by kernel_rfl)) ?_
 refine q_ (i_ ((h_.length : Int) - 1)) ?_
 obtain ⟨g29, r30⟩ := G_some r27
 refine l_' (elp hd_h_ 2 ((h_.length : Int) - 1).toNat 0) (aIndexAddr Tryz.prog 139 hd_h_ (i_ ((h_.length : Int) - 1))) (h_h_.sq.idxb (by kernel_rfl) g29.1 g29.2) ?_
 refine l_' (.agg #[.int .u64 ((gt h_ ((h_.length : Int) - 1)).1), .int .u32 ((gt h_ ((h_.length : Int) - 1)).2)]) (aLoad Tryz.prog 145 (elp hd_h_ 2 ((h_.length : Int) - 1).toNat 0) H) (h_h_.sq.ld g29.1 g29.2 (by kernel_rfl)) ?_
 refine s_rwk wf [.int .u64 0, .int .u32 0] (by kernel_rfl) fun b31 H32 e33 hb34 r35 => ?_
 obtain ⟨H37, q38, e39, r40⟩ := Row.store (P := Tryz.prog) (t := 145) (p := 0) e33.wf r35 (.agg #[.int .u64 ((gt h_ ((h_.length : Int) - 1)).1), .int .u32 ((gt h_ ((h_.length : Int) - 1)).2)]) [.int .u64 ((gt h_ ((h_.length : Int) - 1)).1), .int .u32 ((gt h_ ((h_.length : Int) - 1)).2)] (by kernel_rfl) (by kernel_rfl) (one_cons (rfl) (one_cons (rfl) (one_nil))) (Nat.le_of_ble_eq_true (by kernel_rfl)) [.int .u64 ((gt h_ ((h_.length : Int) - 1)).1), .int .u32 ((gt h_ ((h_.length : Int) - 1)).2)] (by kernel_rfl)
 refine s_ek (undef) (by kernel_rfl) (map_ok q38) ?_
 refine s_nil (k28 _ _ (w_seqk fun _ k41 => g_' (q_ (pt_ b_h 0) (q_ (pt_ b_h 0) (q_ (pt_ b_h 0) (q_ (pt_ b_h 0) ?_))))))
 have u42 := ((h_h.ext e33).frS e39 (hb34.djn h_h.ltF))
 refine l_' (hd_h_) (aLoad Tryz.prog 139 (pt_ b_h 0) H37) (u42.ld (by kernel_rfl)) ?_
 refine q_ (i_ ((h_.length : Int) - 1)) ?_
 obtain ⟨g43, r44⟩ := G_some r30
 have u48 := ((h_h_.ext e33).fr e39 (hb34.djn h_h_.lt))
 obtain ⟨s45, q46, hs47⟩ := Ow.head (P := Tryz.prog) u48 (t := 139) (by kernel_rfl) (hi := (some (i_ ((h_.length : Int) - 1)))) (r := ((h_.length : Int) - 1).toNat) (aBound_int _ (by have := g43; omega)) (by have := g43; omega)
 obtain ⟨a49, n50, c51, rfl⟩ := hs47.form
 refine s_ql (.slice a49 n50 c51) (by kernel_rfl) q46 ?_
 refine q_ (pt_ b_h 0) (q_ (pt_ b_h 0) ?_)
 obtain ⟨H53, q54, e55, r56⟩ := Row.store (P := Tryz.prog) (t := 139) (p := 0) e39.wf u42 (.slice a49 n50 c51) [.slice a49 n50 c51] (by kernel_rfl) (by kernel_rfl) (one_cons (hs47.one1) (one_nil)) (Nat.le_of_ble_eq_true (by kernel_rfl)) [.slice a49 n50 c51, hd_h_2] (by kernel_rfl)
 refine s_ek (undef) (by kernel_rfl) (map_ok q54) ?_
 refine s_nil (k41 _ _ (w_seqk fun _ k57 => g_' (q_ (pt_ b_h 0) (q_ (pt_ b_h 0) (q_ (pt_ b_h 1) ?_)))))
 refine l_' (hd_h_2) (aLoad Tryz.prog 23 (pt_ b_h 1) H53) (r56.ld (by kernel_rfl)) ?_
 refine q_ (.int .u32 id_) ?_
 have u58 := (((h_h_2.ext e33).fr e39 (hb34.djn h_h_2.lt)).fr e55 dj_b_h_fp_h_2)
 refine l_' (elp hd_h_2 1 id_.toNat 0) (aIndexAddr Tryz.prog 23 hd_h_2 (.int .u32 id_)) (u58.sq.idxb (by kernel_rfl) g22.1 g22.2) ?_
 obtain ⟨H59, q60, e61, hm62⟩ := Ow.store (P := Tryz.prog) (t := 3) (off := 0) e55.wf u58 g22.1 g22.2 (i_ 0) [i_ 0] (by kernel_rfl) (by kernel_rfl) rfl 0 (Nat.le_of_ble_eq_true rfl) (by kernel_rfl)
 refine s_ek (undef) (by kernel_rfl) (map_ok q60) ?_
 refine s_nil (k57 _ _ (w_seqk fun _ k63 => w_seqk fun _ k64 => g_' (q_ (i_ ((gt h_2 id_) - 1)) (q_ (i_ ((h_.length : Int) - 1)) (q_ (.bool (decide (((gt h_2 id_) - 1) < ((h_.length : Int) - 1)))) (s_nil (k64 _ _ ?_)))))))
 refine w_condp (((gt h_2 id_) - 1) < ((h_.length : Int) - 1)) (by kernel_rfl) rfl (fun h65 => ?_) (fun h65 => ?_)
 ·have r66 := ite_t h65 r44
  refine w_seqk fun _ k67 => g_' (q_ (pt_ b_h 0) (q_ (i_ ((gt h_2 id_) - 1)) ?_))
  have u68 := ((r40.frS e55 (Dj.symm (hb34.djn h_h.ltF))).frS e61 (Dj.symm (hb34.djn h_h_2.lt)))
  refine l_' (.agg #[.int .u64 ((gt h_ ((h_.length : Int) - 1)).1), .int .u32 ((gt h_ ((h_.length : Int) - 1)).2)]) (aLoad Tryz.prog 145 (pt_ b31 0) H59) (u68.ld (by kernel_rfl)) ?_
  have u69 := ((hs47.fr e55 dj_b_h_fp_h_).fr e61 dj_fp_h_2_fp_h_)
  have u70 := (r56.frS e61 (Dj.symm dj_b_h_fp_h_2))
  obtain ⟨y71, hy72, r73⟩ := bind_some r66
  refine s_ck 76 #[pt_ b_h 0, i_ ((gt h_2 id_) - 1), .agg #[.int .u64 ((gt h_ ((h_.length : Int) - 1)).1), .int .u32 ((gt h_ ((h_.length : Int) - 1)).2)]] (by kernel_rfl) (c_heap_Heap_put e61.wf u69 hm62 u70 (Dj.symm dj_b_h_fp_h_) (Dj.symm dj_fp_h_2_fp_h_) hy72) ?_
  rintro _ H74 ⟨rfl, e75, m76, m77⟩
  refine s_nil (k67 _ _ (w_seqk fun _ k78 => g_' (q_ (pt_ b_h 0) (q_ (i_ ((gt h_2 id_) - 1)) ?_))))
  have u79 := (u70.frS e75 (Dj.app (Dj.symm dj_b_h_fp_h_) (Dj.symm dj_b_h_fp_h_2)))
  obtain ⟨y80, hy81, r82⟩ := bind_some r73
  refine s_ck 77 #[pt_ b_h 0, i_ ((gt h_2 id_) - 1)] (by kernel_rfl) (c_heap_Heap_up e75.wf m76 m77 u79 (Dj.symm dj_b_h_fp_h_) (Dj.symm dj_fp_h_2_fp_h_) (Dj.symm dj_b_h_fp_h_2) hy81) ?_
  rintro _ H83 ⟨rfl, e84, m85, m86⟩
  refine s_nil (k78 _ _ ?_)
  refine w_draw [0, 1, 2, 3, 4, 5, 6, 7, 8, 9, 10] (by kernel_rfl) ?_
  refine e_' (pt_ b_h 0) (e_' (pt_ b_h 0) (e_' (pt_ b_h 0) (e_' (pt_ b_h 1) ?_)))
  have u87 := (u79.frS e84 (Dj.app (Dj.symm dj_b_h_fp_h_) (Dj.symm dj_b_h_fp_h_2)))
  refine m_' (hd_h_2) (aLoad Tryz.prog 23 (pt_ b_h 1) H83) (u87.ld (by kernel_rfl)) ?_
  refine e_' (pt_ b31 1) ?_
  have u88 := ((u68.frS e75 (Dj.app (Dj.symm (hb34.djn h_h_.lt)) (Dj.symm (hb34.djn h_h_2.lt)))).frS e84 (Dj.app (Dj.symm (hb34.djn h_h_.lt)) (Dj.symm (hb34.djn h_h_2.lt))))
  refine m_' (.int .u32 ((gt h_ ((h_.length : Int) - 1)).2)) (aLoad Tryz.prog 105 (pt_ b31 1) H83) (u88.ld (by kernel_rfl)) ?_
  obtain ⟨g89, r90⟩ := G_some r82
  refine m_' (elp hd_h_2 1 ((gt h_ ((h_.length : Int) - 1)).2).toNat 0) (aIndexAddr Tryz.prog 23 hd_h_2 (.int .u32 ((gt h_ ((h_.length : Int) - 1)).2))) (m86.sq.idxb (by kernel_rfl) g89.1 g89.2) ?_
  refine m_' (i_ (gt y80.2 ((gt h_ ((h_.length : Int) - 1)).2))) (aLoad Tryz.prog 3 (elp hd_h_2 1 ((gt h_ ((h_.length : Int) - 1)).2).toNat 0) H83) (m86.sq.ld g89.1 g89.2 (by kernel_rfl)) ?_
  obtain ⟨g91, r92⟩ := G_some r90
  refine d_w (((gt y80.2 ((gt h_ ((h_.length : Int) - 1)).2)) - 1)) (k := .i64) (x := ((gt y80.2 ((gt h_ ((h_.length : Int) - 1)).2)) - 1)) (by kernel_rfl) (wrap64 g91) ?_
  obtain ⟨y93, hy94, r95⟩ := bind_some r92
  refine d_ck 78 #[pt_ b_h 0, i_ ((gt y80.2 ((gt h_ ((h_.length : Int) - 1)).2)) - 1)] (by kernel_rfl) (c_heap_Heap_down e84.wf m85 m86 u87 (Dj.symm dj_b_h_fp_h_) (Dj.symm dj_fp_h_2_fp_h_) (Dj.symm dj_b_h_fp_h_2) hy94) ?_
  rintro _ H96 ⟨rfl, e97, m98, m99⟩
  refine ⟨st_nil, ?_⟩
  refine d_nil ?_
  refine k63 _ _ (w_seqk fun _ k100 => g_' (q_ (.bool true) (s_nil (k100 _ _ ?_))))
  refine w_ret ?_
  refine b_ret (fn := Tryz.f65) (vs := [.bool true]) (aRes_tmp (by kernel_rfl) (rfl)) ?_
  have u101 := (u87.frS e97 (Dj.app (Dj.symm dj_b_h_fp_h_) (Dj.symm dj_b_h_fp_h_2)))
  obtain rfl := Option.some.inj r95
  exact ⟨(.slice a49 n50 c51), rfl, (FrS.step wf (FrS.step wf (FrS.step wf (FrS.step wf (FrS.step wf (FrS.step wf ((FrS.refl (W := ([b_h] ++ (fp_h_ ++ fp_h_2))) wf).extR e33) e39 (hb34.fresh (Nat.le_refl _))) e55 Inn.left) e61 (Inn.right (Inn.right Inn.refl'))) e75 (Inn.app (Inn.right Inn.left) (Inn.right (Inn.right Inn.refl')))) e84 (Inn.app (Inn.right Inn.left) (Inn.right (Inn.right Inn.refl')))) e97 (Inn.app (Inn.right Inn.left) (Inn.right (Inn.right Inn.refl')))), m99, m98, u101⟩
 have r102 := ite_f h65 r44
 refine w_skip (k63 _ _ (w_seqk fun _ k103 => g_' (q_ (.bool true) (s_nil (k103 _ _ ?_)))))
 refine w_ret ?_
 refine b_ret (fn := Tryz.f65) (vs := [.bool true]) (aRes_tmp (by kernel_rfl) (rfl)) ?_
 have u104 := ((hs47.fr e55 dj_b_h_fp_h_).fr e61 dj_fp_h_2_fp_h_)
 have u105 := (r56.frS e61 (Dj.symm dj_b_h_fp_h_2))
 obtain rfl := Option.some.inj r102
 exact ⟨(.slice a49 n50 c51), rfl, (FrS.step wf (FrS.step wf (FrS.step wf ((FrS.refl (W := ([b_h] ++ (fp_h_ ++ fp_h_2))) wf).extR e33) e39 (hb34.fresh (Nat.le_refl _))) e55 Inn.left) e61 (Inn.right (Inn.right Inn.refl'))), hm62, u104, u105⟩
theorem c_heap_Heap_Pop {H : AH} {b_h : Nat} {hd_h_ : Value} {fp_h_ : Fp} {hd_h_2 : Value} {fp_h_2 : Fp} {h_ : List (Int × Int)} {h_2 : List (Int)} {r : Int × Int × Bool × List (Int) × List (Int × Int)}
    (wf : WF H) (h_h_ : Ow enc_u64_u32 2 H hd_h_ h_ fp_h_) (h_h_2 : Ow (encI .i64) 1 H hd_h_2 h_2 fp_h_2) (h_h : Row H b_h [hd_h_, hd_h_2]) (dj_b_h_fp_h_2 : Dj [b_h] fp_h_2) (dj_b_h_fp_h_ : Dj [b_h] fp_h_) (dj_fp_h_2_fp_h_ : Dj fp_h_2 fp_h_) (hr : z_heap_Heap_Pop h_ h_2 = some r) :
    ACalls Tryz.prog 45 #[pt_ b_h 0] H fun v H' => ∃ (s5 : Value), v = .tuple #[.int .u32 r.1, .int .u64 r.2.1, .bool r.2.2.1] ∧ FrS ([b_h] ++ (fp_h_ ++ fp_h_2)) H H' ∧ Ow (encI .i64) 1 H' hd_h_2 r.2.2.2.1 fp_h_2 ∧ Ow enc_u64_u32 2 H' s5 r.2.2.2.2 fp_h_ ∧ Row H' b_h [s5, hd_h_2] := by
 refine acalls_of_body mixed Tryz.func45 rfl (Nat.le_of_ble_eq_true rfl) ?_
 unfold z_heap_Heap_Pop at hr
 refine w_seqk fun _ k8 => g_' (q_ (.int .u32 0) (q_ (.int .u64 0) (q_ (.bool false) (s_nil (k8 _ _ (w_seqk fun _ k9 => g_' (q_ (pt_ b_h 0) ?_)))))))
 obtain ⟨y10, hy11, r12⟩ := bind_some hr
 refine s_ck 44 #[pt_ b_h 0] (by kernel_rfl) (c_heap_Heap_Top wf h_h_.sq h_h_2.sq h_h hy11) ?_
 rintro _ _ ⟨rfl, rfl⟩
 refine q_ (.tuple #[.int .u32 y10.1, .int .u64 y10.2.1, .bool y10.2.2]) (q_ (.int .u32 y10.1) (q_ (.int .u64 y10.2.1) (q_ (.bool y10.2.2) (q_ (.int .u32 y10.1) (q_ (.int .u64 y10.2.1) (q_ (.bool y10.2.2) (s_nil (k9 _ _ (w_seqk fun _ k15 => w_seqk fun _ k16 => g_' (q_ (.bool y10.2.2) (s_nil (k16 _ _ ?_))))))))))))
 refine w_cond (y10.2.2) (by kernel_rfl) rfl (fun h17 => ?_) (fun h17 => ?_)
 ·have r18 := ite_t h17 r12
  refine g_' (q_ (pt_ b_h 0) (q_ (.int .u32 y10.1) ?_))
  obtain ⟨y19, hy20, r21⟩ := bind_some r18
  refine s_ck 65 #[pt_ b_h 0, .int .u32 y10.1] (by kernel_rfl) (c_heap_Heap_Remove wf h_h_ h_h_2 h_h dj_b_h_fp_h_2 dj_b_h_fp_h_ dj_fp_h_2_fp_h_ hy20) ?_
  rintro _ H23 ⟨s22, rfl, e24, m25, m26, m27⟩
  obtain ⟨a29, n30, c31, rfl⟩ := m26.form
  refine s_nil (k15 _ _ (w_seqk fun _ k32 => g_' (q_ (.int .u32 y10.1) (q_ (.int .u64 y10.2.1) (q_ (.bool y10.2.2) (q_ (.int .u32 y10.1) (q_ (.int .u64 y10.2.1) (q_ (.bool y10.2.2) (s_nil (k32 _ _ ?_))))))))))
  refine w_ret ?_
  refine b_ret (fn := Tryz.f45) (vs := [.int .u32 y10.1, .int .u64 y10.2.1, .bool y10.2.2]) (aRes_tmp (by kernel_rfl) (aRes_tmp (by kernel_rfl) (aRes_tmp (by kernel_rfl) (rfl)))) ?_
  obtain rfl := Option.some.inj r21
  exact ⟨(.slice a29 n30 c31), rfl, (FrS.step wf (FrS.refl (W := ([b_h] ++ (fp_h_ ++ fp_h_2))) wf) e24 (Inn.app Inn.left (Inn.app (Inn.right Inn.left) (Inn.right (Inn.right Inn.refl'))))), m25, m26, m27⟩
 have r33 := ite_bf h17 r12
 refine w_skip (k15 _ _ (w_seqk fun _ k34 => g_' (q_ (.int .u32 y10.1) (q_ (.int .u64 y10.2.1) (q_ (.bool y10.2.2) (q_ (.int .u32 y10.1) (q_ (.int .u64 y10.2.1) (q_ (.bool y10.2.2) (s_nil (k34 _ _ ?_))))))))))
 refine w_ret ?_
 refine b_ret (fn := Tryz.f45) (vs := [.int .u32 y10.1, .int .u64 y10.2.1, .bool y10.2.2]) (aRes_tmp (by kernel_rfl) (aRes_tmp (by kernel_rfl) (aRes_tmp (by kernel_rfl) (rfl)))) ?_
 obtain rfl := Option.some.inj r33
 exact ⟨(hd_h_), rfl, (FrS.refl (W := ([b_h] ++ (fp_h_ ++ fp_h_2))) wf), h_h_2, h_h_, h_h⟩
theorem c_stamp_Stamp_Get {H : AH} {b_s : Nat} {hd_s_ : Value} {fp_s_ : Fp} {s_ : List (Int × Int)} {s_2 : Int} {s_3 : Int} {i : Int} {r : Int × Bool}
    (wf : WF H) (h_s_ : Sq enc_u64_u32 2 H hd_s_ s_ fp_s_) (h_s : Row H b_s [hd_s_, .int .u32 s_2, i_ s_3]) (hr : z_stamp_Stamp_Get s_ s_2 s_3 i = some r) :
    ACalls Tryz.prog 31 #[pt_ b_s 0, i_ i] H fun v H' => v = .tuple #[.int .u64 r.1, .bool r.2] ∧ H = H' := by
 refine acalls_of_body mixed Tryz.func31 rfl (Nat.le_of_ble_eq_true rfl) ?_
 unfold z_stamp_Stamp_Get at hr
 refine w_seqk fun _ k1 => g_' (q_ (.int .u64 0) (q_ (.bool false) (s_nil (k1 _ _ (w_seqk fun _ k2 => w_seqk fun _ k3 => ?_)))))
 obtain ⟨o4, hx5, r6⟩ := bind_some hr
 refine w_mid (fun α H7 => Has α [(0, pt_ b_s 0), (1, i_ i), (35, .bool o4)] ∧ H = H7) (fun _ k9 => ?_) (fun α H7 hM => ?_)
 ·refine w_draw [0, 1, 2, 3, 4, 5, 6, 7, 8, 9, 10, 11, 12, 13, 14, 15, 16, 17, 18, 19, 20, 21, 22, 23, 24, 25, 26, 27, 28, 29] (by kernel_rfl) ?_
  refine e_' (pt_ b_s 0) (e_' (.bool false) (e_' (.bool false) (e_' (i_ i) ?_)))
  refine d_b (i < 0) (by kernel_rfl) (fun h11 => ?_) (fun h11 => ?_)
  ·have r12 := ite_t h11 hx5
   refine e_' (.bool true) (e_' (.bool true) (j_' (j_' (j_' (j_' (j_' (j_' (j_' (e_' (.bool true) (e_' (.bool true) (j_' (j_' (j_' (j_' (j_' (j_' (j_' (j_' (j_' (j_' (j_' (j_' (j_' (e_' (.bool true) ?_))))))))))))))))))))))))
   refine d_nil ?_
   obtain rfl := Option.some.inj r12
   exact k9 _ _ ⟨ha_, rfl⟩
  have r13 := ite_f h11 hx5
  refine e_' (.bool false) (e_' (.bool false) (e_' (i_ i) (e_' (pt_ b_s 0) (e_' (pt_ b_s 0) (e_' (pt_ b_s 0) ?_)))))
  refine m_' (hd_s_) (aLoad Tryz.prog 123 (pt_ b_s 0) H) (h_s.ld (by kernel_rfl)) ?_
  refine m_' (i_ (s_.length : Int)) (aLen Tryz.prog 123 hd_s_ H) (h_s_.lenb (by kernel_rfl)) ?_
  refine d_b (i ≥ (s_.length : Int)) (by kernel_rfl) (fun h14 => ?_) (fun h14 => ?_)
  ·have r15 := ite_t h14 r13
   refine e_' (.bool true) (e_' (.bool true) (j_' (j_' (j_' (j_' (j_' (j_' (j_' (j_' (j_' (j_' (j_' (j_' (j_' (e_' (.bool true) ?_)))))))))))))))
   refine d_nil ?_
   obtain rfl := Option.some.inj r15
   exact k9 _ _ ⟨ha_, rfl⟩
  have r16 := ite_f h14 r13
  refine e_' (.bool false) (e_' (.bool false) (e_' (pt_ b_s 0) (e_' (pt_ b_s 0) (e_' (pt_ b_s 0) ?_))))
  refine m_' (hd_s_) (aLoad Tryz.prog 123 (pt_ b_s 0) H) (h_s.ld (by kernel_rfl)) ?_
  refine e_' (i_ i) ?_
  obtain ⟨g17, r18⟩ := G_some r16
  refine m_' (elp hd_s_ 2 i.toNat 0) (aIndexAddr Tryz.prog 123 hd_s_ (i_ i)) (h_s_.idxb (by kernel_rfl) g17.1 g17.2) ?_
  refine m_' (elp hd_s_ 2 i.toNat 1) (aFieldAddr Tryz.prog 127 (elp hd_s_ 2 i.toNat 0) 1) (Sq.fldq (d := 1) h_s_ g17.1 g17.2 (by kernel_rfl)) ?_
  refine m_' (.int .u32 ((gt s_ i).2)) (aLoad Tryz.prog 105 (elp hd_s_ 2 i.toNat 1) H) (h_s_.ld g17.1 g17.2 (by kernel_rfl)) ?_
  refine e_' (pt_ b_s 0) (e_' (pt_ b_s 0) (e_' (pt_ b_s 1) ?_))
  refine m_' (.int .u32 s_2) (aLoad Tryz.prog 105 (pt_ b_s 1) H) (h_s.ld (by kernel_rfl)) ?_
  refine e_' (.bool (!decide (((gt s_ i).2) = s_2))) (e_' (.bool (!decide (((gt s_ i).2) = s_2))) ?_)
  refine d_nil ?_
  obtain rfl := Option.some.inj r18
  exact k9 _ _ ⟨ha_, rfl⟩
 obtain ⟨hh10, rfl⟩ := hM
 obtain ⟨β, rfl⟩ := has_ex hh10
 clear hh10
 refine k3 _ _ ?_
 refine w_cond (o4) (by kernel_rfl) rfl (fun h19 => ?_) (fun h19 => ?_)
 ·have r20 := ite_t h19 r6
  refine w_seqk fun _ k21 => g_' (q_ (.int .u64 0) (q_ (.bool false) (s_nil (k21 _ _ ?_))))
  refine w_ret (th_ret ?_)
  refine b_ret (fn := Tryz.f31) (vs := [.int .u64 0, .bool false]) (aRes_tmp (by kernel_rfl) (aRes_tmp (by kernel_rfl) (rfl))) ?_
  obtain rfl := Option.some.inj r20
  exact ⟨rfl, rfl⟩
 have r22 := ite_bf h19 r6
 refine w_skip (k2 _ _ (w_seqk fun _ k23 => g_' (q_ (pt_ b_s 0) (q_ (pt_ b_s 0) (q_ (pt_ b_s 0) ?_)))))
 refine l_' (hd_s_) (aLoad Tryz.prog 123 (pt_ b_s 0) H) (h_s.ld (by kernel_rfl)) ?_
 refine q_ (i_ i) ?_
 obtain ⟨g24, r25⟩ := G_some r22
 refine l_' (elp hd_s_ 2 i.toNat 0) (aIndexAddr Tryz.prog 123 hd_s_ (i_ i)) (h_s_.idxb (by kernel_rfl) g24.1 g24.2) ?_
 refine l_' (elp hd_s_ 2 i.toNat 0) (aFieldAddr Tryz.prog 127 (elp hd_s_ 2 i.toNat 0) 0) (Sq.fldq (d := 0) h_s_ g24.1 g24.2 (by kernel_rfl)) ?_
 refine l_' (.int .u64 ((gt s_ i).1)) (aLoad Tryz.prog 37 (elp hd_s_ 2 i.toNat 0) H) (h_s_.ld g24.1 g24.2 (by kernel_rfl)) ?_
 refine q_ (.int .u64 ((gt s_ i).1)) (q_ (.bool true) (s_nil (k23 _ _ ?_)))
 refine w_ret ?_
 refine b_ret (fn := Tryz.f31) (vs := [.int .u64 ((gt s_ i).1), .bool true]) (aRes_tmp (by kernel_rfl) (aRes_tmp (by kernel_rfl) (rfl))) ?_
 obtain rfl := Option.some.inj r25
 exact ⟨rfl, rfl⟩
end Go.Vd

/-! (KSt4) -/

set_option maxRecDepth 100000
set_option maxHeartbeats 4000000
set_option linter.unusedVariables false
namespace Go.Vd
open Go.Proofs
attribute [local irreducible] wpSeq wpOrd aWp
theorem c_search_state_settle {H : AH} {b_st : Nat} {hd_st_ : Value} {fp_st_ : Fp} {hd_st_2 : Value} {fp_st_2 : Fp} {hd_st_3 : Value} {fp_st_3 : Fp} {b_st_4 : Nat} {hd_st_5 : Value} {fp_st_5 : Fp} {hd_st_6 : Value} {fp_st_6 : Fp} {b_st_7 : Nat} {hd_st_8 : Value} {fp_st_8 : Fp} {hd_st_11 : Value} {fp_st_11 : Fp} {hd_st_12 : Value} {fp_st_12 : Fp} {st_ : List (Int)} {st_2 : List (Int)} {st_3 : List (Int)} {st_5 : List (Int × Int)} {st_6 : List (Int)} {st_8 : List (Int × Int)} {st_9 : Int} {st_10 : Int} {st_11 : List (Int)} {st_12 : List (Bool)} {v_ : Int} {d : Int} {hops : Int} {r : List (Int) × List (Int × Int) × List (Int × Int) × Int × List (Int) × List (Bool)}
    (wf : WF H) (h_st_ : Sq (encI .i64) 1 H hd_st_ st_ fp_st_) (h_st_2 : Sq (encI .i64) 1 H hd_st_2 st_2 fp_st_2) (h_st_3 : Sq (encI .i64) 1 H hd_st_3 st_3 fp_st_3) (h_st_5 : Ow enc_u64_u32 2 H hd_st_5 st_5 fp_st_5) (h_st_6 : Ow (encI .i64) 1 H hd_st_6 st_6 fp_st_6) (h_st_4 : Row H b_st_4 [hd_st_5, hd_st_6]) (h_st_8 : Ow enc_u64_u32 2 H hd_st_8 st_8 fp_st_8) (h_st_7 : Row H b_st_7 [hd_st_8, .int .u32 st_9, i_ st_10]) (h_st_11 : Ow (encI .i64) 1 H hd_st_11 st_11 fp_st_11) (h_st_12 : Ow encB 1 H hd_st_12 st_12 fp_st_12) (h_st : Row H b_st [hd_st_, hd_st_2, hd_st_3, pt_ b_st_4 0, pt_ b_st_7 0, hd_st_11, hd_st_12]) (dj_fp_st_12_b_st : Dj fp_st_12 [b_st]) (dj_fp_st_12_fp_st_11 : Dj fp_st_12 fp_st_11) (dj_fp_st_12_fp_st_6 : Dj fp_st_12 fp_st_6) (dj_fp_st_12_fp_st_5 : Dj fp_st_12 fp_st_5) (dj_fp_st_12_b_st_4 : Dj fp_st_12 [b_st_4]) (dj_fp_st_12_fp_st_8 : Dj fp_st_12 fp_st_8) (dj_fp_st_12_b_st_7 : Dj fp_st_12 [b_st_7]) (dj_fp_st_12_fp_st_ : Dj fp_st_12 fp_st_) (dj_fp_st_12_fp_st_2 : Dj fp_st_12 fp_st_2) (dj_fp_st_12_fp_st_3 : Dj fp_st_12 fp_st_3) (dj_b_st_7_fp_st_8 : Dj [b_st_7] fp_st_8) (dj_fp_st_8_b_st : Dj fp_st_8 [b_st]) (dj_b_st_7_b_st : Dj [b_st_7] [b_st]) (dj_fp_st_8_fp_st_11 : Dj fp_st_8 fp_st_11) (dj_b_st_7_fp_st_11 : Dj [b_st_7] fp_st_11) (dj_fp_st_11_b_st : Dj fp_st_11 [b_st]) (dj_fp_st_8_fp_st_5 : Dj fp_st_8 fp_st_5) (dj_b_st_7_fp_st_5 : Dj [b_st_7] fp_st_5) (dj_fp_st_11_fp_st_5 : Dj fp_st_11 fp_st_5) (dj_fp_st_8_fp_st_6 : Dj fp_st_8 fp_st_6) (dj_b_st_7_fp_st_6 : Dj [b_st_7] fp_st_6) (dj_fp_st_11_fp_st_6 : Dj fp_st_11 fp_st_6) (dj_fp_st_8_b_st_4 : Dj fp_st_8 [b_st_4]) (dj_b_st_7_b_st_4 : Dj [b_st_7] [b_st_4]) (dj_fp_st_11_b_st_4 : Dj fp_st_11 [b_st_4]) (dj_fp_st_5_b_st_4 : Dj fp_st_5 [b_st_4]) (dj_fp_st_5_fp_st_6 : Dj fp_st_5 fp_st_6) (dj_b_st_4_fp_st_6 : Dj [b_st_4] fp_st_6) (dj_fp_st_6_b_st : Dj fp_st_6 [b_st]) (dj_fp_st_5_b_st : Dj fp_st_5 [b_st]) (dj_b_st_4_b_st : Dj [b_st_4] [b_st]) (dj_fp_st_8_fp_st_ : Dj fp_st_8 fp_st_) (dj_fp_st_6_fp_st_ : Dj fp_st_6 fp_st_) (dj_fp_st_5_fp_st_ : Dj fp_st_5 fp_st_) (dj_fp_st_11_fp_st_ : Dj fp_st_11 fp_st_) (dj_b_st_7_fp_st_ : Dj [b_st_7] fp_st_) (dj_b_st_4_fp_st_ : Dj [b_st_4] fp_st_) (dj_fp_st_8_fp_st_2 : Dj fp_st_8 fp_st_2) (dj_fp_st_6_fp_st_2 : Dj fp_st_6 fp_st_2) (dj_fp_st_5_fp_st_2 : Dj fp_st_5 fp_st_2) (dj_fp_st_11_fp_st_2 : Dj fp_st_11 fp_st_2) (dj_b_st_7_fp_st_2 : Dj [b_st_7] fp_st_2) (dj_b_st_4_fp_st_2 : Dj [b_st_4] fp_st_2) (dj_fp_st_8_fp_st_3 : Dj fp_st_8 fp_st_3) (dj_fp_st_6_fp_st_3 : Dj fp_st_6 fp_st_3) (dj_fp_st_5_fp_st_3 : Dj fp_st_5 fp_st_3) (dj_fp_st_11_fp_st_3 : Dj fp_st_11 fp_st_3) (dj_b_st_7_fp_st_3 : Dj [b_st_7] fp_st_3) (dj_b_st_4_fp_st_3 : Dj [b_st_4] fp_st_3) (dj_fp_st_8_fp_st_12 : Dj fp_st_8 fp_st_12) (dj_fp_st_6_fp_st_12 : Dj fp_st_6 fp_st_12) (dj_fp_st_5_fp_st_12 : Dj fp_st_5 fp_st_12) (dj_b_st_7_fp_st_12 : Dj [b_st_7] fp_st_12) (dj_b_st_4_fp_st_12 : Dj [b_st_4] fp_st_12) (dj_fp_st_5_fp_st_8 : Dj fp_st_5 fp_st_8) (dj_fp_st_5_b_st_7 : Dj fp_st_5 [b_st_7]) (dj_fp_st_5_fp_st_11 : Dj fp_st_5 fp_st_11) (hr : z_search_state_settle st_ st_2 st_3 st_5 st_6 st_8 st_9 st_10 st_11 st_12 v_ d hops = some r) :
    ACalls Tryz.prog 46 #[pt_ b_st 0, i_ v_, .int .u64 d, i_ hops] H fun v H' => ∃ (s5 : Value) (f6 : Fp), v = .tuple #[] ∧ FrS ([b_st_4] ++ ([b_st_7] ++ (fp_st_11 ++ (fp_st_12 ++ (fp_st_5 ++ (fp_st_6 ++ fp_st_8)))))) H H' ∧ Ow (encI .i64) 1 H' hd_st_6 r.1 fp_st_6 ∧ Ow enc_u64_u32 2 H' s5 r.2.1 f6 ∧ Row H' b_st_4 [s5, hd_st_6] ∧ Ow enc_u64_u32 2 H' hd_st_8 r.2.2.1 fp_st_8 ∧ Row H' b_st_7 [hd_st_8, .int .u32 st_9, i_ r.2.2.2.1] ∧ Ow (encI .i64) 1 H' hd_st_11 r.2.2.2.2.1 fp_st_11 ∧ Ow encB 1 H' hd_st_12 r.2.2.2.2.2 fp_st_12 ∧ Inn fp_st_5 H f6 := by
 refine acalls_of_body mixed Tryz.func46 rfl (Nat.le_of_ble_eq_true rfl) ?_
 unfold z_search_state_settle at hr
 refine w_seqk fun _ k18 => g_' (q_ (pt_ b_st 0) (q_ (pt_ b_st 0) (q_ (pt_ b_st 6) ?_)))
 refine l_' (hd_st_12) (aLoad Tryz.prog 73 (pt_ b_st 6) H) (h_st.ld (by kernel_rfl)) ?_
 refine q_ (i_ v_) ?_
 obtain ⟨g19, r20⟩ := G_some hr
 refine l_' (elp hd_st_12 1 v_.toNat 0) (aIndexAddr Tryz.prog 73 hd_st_12 (i_ v_)) (h_st_12.sq.idxb (by kernel_rfl) g19.1 g19.2) ?_
 obtain ⟨H21, q22, e23, hm24⟩ := Ow.store (P := Tryz.prog) (t := 4) (off := 0) wf h_st_12 g19.1 g19.2 (.bool true) [.bool true] (by kernel_rfl) (by kernel_rfl) rfl true (Nat.le_of_ble_eq_true rfl) (by kernel_rfl)
 refine s_ek (undef) (by kernel_rfl) (map_ok q22) ?_
 refine s_nil (k18 _ _ (w_seqk fun _ k25 => w_seqk fun _ k26 => g_' (q_ (pt_ b_st 0) (q_ (pt_ b_st 0) (q_ (pt_ b_st 5) ?_)))))
 have u27 := (h_st.frS e23 dj_fp_st_12_b_st)
 refine l_' (hd_st_11) (aLoad Tryz.prog 23 (pt_ b_st 5) H21) (u27.ld (by kernel_rfl)) ?_
 refine q_ (i_ v_) ?_
 obtain ⟨g28, r29⟩ := G_some r20
 have u30 := (h_st_11.fr e23 dj_fp_st_12_fp_st_11)
 refine l_' (elp hd_st_11 1 v_.toNat 0) (aIndexAddr Tryz.prog 23 hd_st_11 (i_ v_)) (u30.sq.idxb (by kernel_rfl) g19.1 g28) ?_
 refine l_' (i_ (gt st_11 v_)) (aLoad Tryz.prog 3 (elp hd_st_11 1 v_.toNat 0) H21) (u30.sq.ld g19.1 g28 (by kernel_rfl)) ?_
 refine q_ (i_ hops) (q_ (.bool (decide ((gt st_11 v_) ≥ hops))) (s_nil (k26 _ _ ?_)))
 refine w_condp ((gt st_11 v_) ≥ hops) (by kernel_rfl) rfl (fun h31 => ?_) (fun h31 => ?_)
 ·have r32 := ite_t h31 r29
  refine w_ret (th_ret ?_)
  refine b_ret (fn := Tryz.f46) (vs := []) (rfl) ?_
  have u33 := (h_st_6.fr e23 dj_fp_st_12_fp_st_6)
  have u34 := (h_st_5.fr e23 dj_fp_st_12_fp_st_5)
  have u35 := (h_st_4.frS e23 dj_fp_st_12_b_st_4)
  have u36 := (h_st_8.fr e23 dj_fp_st_12_fp_st_8)
  have u37 := (h_st_7.frS e23 dj_fp_st_12_b_st_7)
  obtain rfl := Option.some.inj r32
  exact ⟨(hd_st_5), fp_st_5, rfl, (FrS.step wf (FrS.refl (W := ([b_st_4] ++ ([b_st_7] ++ (fp_st_11 ++ (fp_st_12 ++ (fp_st_5 ++ (fp_st_6 ++ fp_st_8))))))) wf) e23 (Inn.right (Inn.right (Inn.right Inn.left)))), u33, u34, u35, u36, u37, u30, hm24, Inn.refl'⟩
 have r38 := ite_f h31 r29
 refine w_skip (k25 _ _ (w_seqk fun _ k39 => g_' (q_ (pt_ b_st 0) (q_ (pt_ b_st 0) (q_ (pt_ b_st 0) (q_ (pt_ b_st 0) ?_))))))
 refine l_' (hd_st_) (aLoad Tryz.prog 23 (pt_ b_st 0) H21) (u27.ld (by kernel_rfl)) ?_
 refine q_ (i_ v_) ?_
 obtain ⟨g40, r41⟩ := G_some r38
 have u42 := (h_st_.fr e23 dj_fp_st_12_fp_st_)
 refine l_' (elp hd_st_ 1 v_.toNat 0) (aIndexAddr Tryz.prog 23 hd_st_ (i_ v_)) (u42.idxb (by kernel_rfl) g19.1 g40) ?_
 refine l_' (i_ (gt st_ v_)) (aLoad Tryz.prog 3 (elp hd_st_ 1 v_.toNat 0) H21) (u42.ld g19.1 g40 (by kernel_rfl)) ?_
 refine q_ (i_ (gt st_ v_)) (s_nil (k39 _ _ ?_))
 obtain ⟨o43, hx44, r45⟩ := bind_some r41
 refine w_mid (fun α H46 => ∃ (s52 : Value) (f53 : Fp), Has α [] ∧ FrS ([b_st_4] ++ ([b_st_7] ++ (fp_st_11 ++ (fp_st_5 ++ (fp_st_6 ++ fp_st_8))))) H21 H46 ∧ Ow (encI .i64) 1 H46 hd_st_6 o43.1 fp_st_6 ∧ Ow enc_u64_u32 2 H46 s52 o43.2.1 f53 ∧ Row H46 b_st_4 [s52, hd_st_6] ∧ Ow enc_u64_u32 2 H46 hd_st_8 o43.2.2.1 fp_st_8 ∧ Row H46 b_st_7 [hd_st_8, .int .u32 st_9, i_ o43.2.2.2.1] ∧ Ow (encI .i64) 1 H46 hd_st_11 o43.2.2.2.2 fp_st_11 ∧ Inn fp_st_5 H21 f53) (fun _ k63 => ?_) (fun α H46 hM => ?_)
 ·refine w_block ?_
  obtain ⟨n65, hn66⟩ := loopO_iff.1 hx44
  have u90 := (h_st_5.fr e23 dj_fp_st_12_fp_st_5)
  have u91 := (h_st_6.fr e23 dj_fp_st_12_fp_st_6)
  have u92 := (h_st_4.frS e23 dj_fp_st_12_b_st_4)
  have u93 := (h_st_8.fr e23 dj_fp_st_12_fp_st_8)
  have u94 := (h_st_7.frS e23 dj_fp_st_12_b_st_7)
  refine w_loopn (fun n α H67 => ∃ (st0 : List (Int × Int)), ∃ (st1 : List (Int)), ∃ (st2 : List (Int × Int)), ∃ (st3 : Int), ∃ (st4 : List (Int)), ∃ (i5 : Int), ∃ (s71 : Value), ∃ (f72 : Fp), iterO (fun zz_ => z_search_state_settle_l0 st_ st_2 st_3 st_9 st_12 v_ d zz_.1 zz_.2.1 zz_.2.2.1 zz_.2.2.2.1 zz_.2.2.2.2.1 zz_.2.2.2.2.2) n (st0, st1, st2, st3, st4, i5) = some o43 ∧ Has α [(0, pt_ b_st 0), (1, i_ v_), (2, .int .u64 d), (8, i_ i5)] ∧ FrS ([b_st_4] ++ ([b_st_7] ++ (fp_st_11 ++ (fp_st_5 ++ (fp_st_6 ++ fp_st_8))))) H21 H67 ∧ Ow enc_u64_u32 2 H67 s71 st0 f72 ∧ Ow (encI .i64) 1 H67 hd_st_6 st1 fp_st_6 ∧ Row H67 b_st_4 [s71, hd_st_6] ∧ Ow enc_u64_u32 2 H67 hd_st_8 st2 fp_st_8 ∧ Row H67 b_st_7 [hd_st_8, .int .u32 st_9, i_ st3] ∧ Ow (encI .i64) 1 H67 hd_st_11 st4 fp_st_11 ∧ Inn fp_st_5 H21 f72) n65 ⟨st_5, st_6, st_8, st_10, st_11, (gt st_ v_), (hd_st_5), fp_st_5, hn66, ha_, (FrS.refl (W := ([b_st_4] ++ ([b_st_7] ++ (fp_st_11 ++ (fp_st_5 ++ (fp_st_6 ++ fp_st_8)))))) e23.wf), u90, u91, u92, u93, u94, u30, Inn.refl'⟩ ?_
  rintro n65 α H67 ⟨st0, st1, st2, st3, st4, i5, s71, f72, hi85, hh84, e68, m70, m74, m76, m78, m80, m82, i83⟩ K95 k95
  obtain ⟨n86, z87, rfl, hz88, hn89⟩ := iter_succ hi85
  obtain ⟨β, rfl⟩ := has_ex hh84
  clear hh84
  replace hz88 : z_search_state_settle_l0 st_ st_2 st_3 st_9 st_12 v_ d st0 st1 st2 st3 st4 i5 = some z87 := hz88
  unfold z_search_state_settle_l0 at hz88
  obtain ⟨a96, n97, c98, rfl⟩ := m70.form
  refine w_seqk fun _ k99 => w_seqk fun _ k100 => g_' (q_ (i_ i5) (q_ (pt_ b_st 0) (q_ (pt_ b_st 0) (q_ (pt_ b_st 0) (q_ (pt_ b_st 0) ?_)))))
  have u101 := (u27.frS e68 (Dj.app dj_b_st_4_b_st (Dj.app dj_b_st_7_b_st (Dj.app dj_fp_st_11_b_st (Dj.app dj_fp_st_5_b_st (Dj.app dj_fp_st_6_b_st dj_fp_st_8_b_st))))))
  refine l_' (hd_st_) (aLoad Tryz.prog 23 (pt_ b_st 0) H67) (u101.ld (by kernel_rfl)) ?_
  refine q_ (i_ v_) ?_
  obtain ⟨g102, r103⟩ := G_some hz88
  refine w_' (v_ + 1) (wrap64 (by have := g102; omega)) ?_
  obtain ⟨g104, r105⟩ := G_some r103
  have u106 := (u42.fr e68 (Dj.app dj_b_st_4_fp_st_ (Dj.app dj_b_st_7_fp_st_ (Dj.app dj_fp_st_11_fp_st_ (Dj.app dj_fp_st_5_fp_st_ (Dj.app dj_fp_st_6_fp_st_ dj_fp_st_8_fp_st_))))))
  refine l_' (elp hd_st_ 1 (v_ + 1).toNat 0) (aIndexAddr Tryz.prog 23 hd_st_ (i_ (v_ + 1))) (u106.idxb (by kernel_rfl) g104.1 g104.2) ?_
  refine l_' (i_ (gt st_ (v_ + 1))) (aLoad Tryz.prog 3 (elp hd_st_ 1 (v_ + 1).toNat 0) H67) (u106.ld g104.1 g104.2 (by kernel_rfl)) ?_
  refine q_ (.bool (decide (i5 < (gt st_ (v_ + 1))))) (s_nil (k100 _ _ ?_))
  refine w_condp (i5 < (gt st_ (v_ + 1))) (by kernel_rfl) rfl (fun h107 => ?_) (fun h107 => ?_)
  ·have r108 := ite_t h107 r105
   refine w_skip (k99 _ _ (w_seqk fun _ k109 => w_block (w_seqk fun _ k110 => ?_)))
   refine w_draw [0, 1, 2, 3, 4, 5, 6, 7, 8, 9, 10, 11, 12, 13, 14, 15, 16, 17, 18, 19, 20] (by kernel_rfl) ?_
   refine e_' (pt_ b_st 0) (e_' (pt_ b_st 0) (e_' (pt_ b_st 0) (e_' (pt_ b_st 1) ?_)))
   refine m_' (hd_st_2) (aLoad Tryz.prog 23 (pt_ b_st 1) H67) (u101.ld (by kernel_rfl)) ?_
   refine e_' (i_ i5) ?_
   obtain ⟨g111, r112⟩ := G_some r108
   have u113 := ((h_st_2.fr e23 dj_fp_st_12_fp_st_2).fr e68 (Dj.app dj_b_st_4_fp_st_2 (Dj.app dj_b_st_7_fp_st_2 (Dj.app dj_fp_st_11_fp_st_2 (Dj.app dj_fp_st_5_fp_st_2 (Dj.app dj_fp_st_6_fp_st_2 dj_fp_st_8_fp_st_2))))))
   refine m_' (elp hd_st_2 1 i5.toNat 0) (aIndexAddr Tryz.prog 23 hd_st_2 (i_ i5)) (u113.idxb (by kernel_rfl) g111.1 g111.2) ?_
   refine m_' (i_ (gt st_2 i5)) (aLoad Tryz.prog 3 (elp hd_st_2 1 i5.toNat 0) H67) (u113.ld g111.1 g111.2 (by kernel_rfl)) ?_
   refine e_' (.int .u64 d) (e_' (pt_ b_st 0) (e_' (pt_ b_st 0) (e_' (pt_ b_st 0) (e_' (pt_ b_st 2) ?_))))
   refine m_' (hd_st_3) (aLoad Tryz.prog 23 (pt_ b_st 2) H67) (u101.ld (by kernel_rfl)) ?_
   refine e_' (i_ i5) ?_
   obtain ⟨g114, r115⟩ := G_some r112
   have u116 := ((h_st_3.fr e23 dj_fp_st_12_fp_st_3).fr e68 (Dj.app dj_b_st_4_fp_st_3 (Dj.app dj_b_st_7_fp_st_3 (Dj.app dj_fp_st_11_fp_st_3 (Dj.app dj_fp_st_5_fp_st_3 (Dj.app dj_fp_st_6_fp_st_3 dj_fp_st_8_fp_st_3))))))
   refine m_' (elp hd_st_3 1 i5.toNat 0) (aIndexAddr Tryz.prog 23 hd_st_3 (i_ i5)) (u116.idxb (by kernel_rfl) g111.1 g114) ?_
   refine m_' (i_ (gt st_3 i5)) (aLoad Tryz.prog 3 (elp hd_st_3 1 i5.toNat 0) H67) (u116.ld g111.1 g114 (by kernel_rfl)) ?_
   obtain ⟨g117, r118⟩ := G_some r115
   refine d_w ((gt st_3 i5)) (k := .u64) (x := (gt st_3 i5)) (by kernel_rfl) (wrapu64 g117) ?_
   obtain ⟨g119, r120⟩ := G_some r118
   refine d_w ((d + (gt st_3 i5))) (k := .u64) (x := (d + (gt st_3 i5))) (by kernel_rfl) (wrapu64 g119) ?_
   refine e_' (i_ (gt st_2 i5)) (e_' (.int .u64 (d + (gt st_3 i5))) ?_)
   refine d_nil ?_
   refine k110 _ _ (w_seqk fun _ k121 => g_' (q_ (pt_ b_st 0) (q_ (pt_ b_st 0) (q_ (pt_ b_st 4) ?_))))
   refine l_' (pt_ b_st_7 0) (aLoad Tryz.prog 72 (pt_ b_st 4) H67) (u101.ld (by kernel_rfl)) ?_
   refine q_ (i_ (gt st_2 i5)) ?_
   obtain ⟨y122, hy123, r124⟩ := bind_some r120
   refine s_ck 31 #[pt_ b_st_7 0, i_ (gt st_2 i5)] (by kernel_rfl) (c_stamp_Stamp_Get e68.wf m78.sq m80 hy123) ?_
   rintro _ _ ⟨rfl, rfl⟩
   refine q_ (.tuple #[.int .u64 y122.1, .bool y122.2]) (q_ (.int .u64 y122.1) (q_ (.bool y122.2) (q_ (.int .u64 y122.1) (q_ (.bool y122.2) (s_nil (k121 _ _ (w_seqk fun _ k127 => ?_)))))))
   obtain ⟨o128, hx129, r130⟩ := bind_some r124
   refine w_mid (fun α H131 => Has α [(0, pt_ b_st 0), (1, i_ v_), (2, .int .u64 d), (8, i_ i5), (9, i_ (gt st_2 i5)), (10, .int .u64 (d + (gt st_3 i5))), (93, .bool o128)] ∧ H67 = H131) (fun _ k133 => ?_) (fun α H131 hM => ?_)
   ·refine g_' (q_ (pt_ b_st 0) (q_ (pt_ b_st 0) (q_ (pt_ b_st 6) ?_)))
    refine l_' (hd_st_12) (aLoad Tryz.prog 73 (pt_ b_st 6) H67) (u101.ld (by kernel_rfl)) ?_
    refine q_ (i_ (gt st_2 i5)) ?_
    obtain ⟨g135, r136⟩ := G_some hx129
    have u137 := (hm24.fr e68 (Dj.app dj_b_st_4_fp_st_12 (Dj.app dj_b_st_7_fp_st_12 (Dj.app (Dj.symm dj_fp_st_12_fp_st_11) (Dj.app dj_fp_st_5_fp_st_12 (Dj.app dj_fp_st_6_fp_st_12 dj_fp_st_8_fp_st_12))))))
    refine l_' (elp hd_st_12 1 (gt st_2 i5).toNat 0) (aIndexAddr Tryz.prog 73 hd_st_12 (i_ (gt st_2 i5))) (u137.sq.idxb (by kernel_rfl) g135.1 g135.2) ?_
    refine l_' (.bool (gt (st_12.set v_.toNat true) (gt st_2 i5))) (aLoad Tryz.prog 4 (elp hd_st_12 1 (gt st_2 i5).toNat 0) H67) (u137.sq.ld g135.1 g135.2 (by kernel_rfl)) ?_
    refine q_ (.bool (!(gt (st_12.set v_.toNat true) (gt st_2 i5)))) (q_ (.bool (!(gt (st_12.set v_.toNat true) (gt st_2 i5)))) ?_)
    by_cases h138 : (!(gt (st_12.set v_.toNat true) (gt st_2 i5))) = true
    ·have r139 := ite_t h138 r136
     rw [h138]
     refine q_ (.bool y122.2) (q_ (.bool (!y122.2)) (q_ (.bool (!y122.2)) ?_))
     by_cases h140 : (!y122.2) = true
     ·have r141 := ite_t h140 r139
      rw [h140]
      refine n_' (n_' (n_' (q_ (.bool true) (q_ (.bool true) (s_nil ?_)))))
      obtain rfl := Option.some.inj r141
      exact k133 _ _ ⟨ha_, rfl⟩
     have r142 := ite_f h140 r139
     rw [nb h140]
     refine q_ (.int .u64 (d + (gt st_3 i5))) (q_ (.int .u64 y122.1) (q_ (.bool (decide ((d + (gt st_3 i5)) < y122.1))) (q_ (.bool (decide ((d + (gt st_3 i5)) < y122.1))) (q_ (.bool (decide ((d + (gt st_3 i5)) < y122.1))) (s_nil ?_)))))
     obtain rfl := Option.some.inj r142
     exact k133 _ _ ⟨ha_, rfl⟩
    have r143 := ite_f h138 r136
    rw [nb h138]
    refine n_' (n_' (n_' (n_' (n_' (n_' (n_' (q_ (.bool false) (s_nil ?_))))))))
    obtain rfl := Option.some.inj r143
    exact k133 _ _ ⟨ha_, rfl⟩
   obtain ⟨hh134, rfl⟩ := hM
   obtain ⟨β, rfl⟩ := has_ex hh134
   clear hh134
   refine k127 _ _ ?_
   refine w_cond (o128) (by kernel_rfl) rfl (fun h144 => ?_) (fun h144 => ?_)
   ·have r145 := ite_t h144 r130
    refine g_' (q_ (pt_ b_st 0) (q_ (i_ (gt st_2 i5)) (q_ (.int .u64 (d + (gt st_3 i5))) (q_ (pt_ b_st 0) (q_ (pt_ b_st 0) (q_ (pt_ b_st 5) ?_))))))
    refine l_' (hd_st_11) (aLoad Tryz.prog 23 (pt_ b_st 5) H67) (u101.ld (by kernel_rfl)) ?_
    refine q_ (i_ v_) ?_
    obtain ⟨g146, r147⟩ := G_some r145
    refine l_' (elp hd_st_11 1 v_.toNat 0) (aIndexAddr Tryz.prog 23 hd_st_11 (i_ v_)) (m82.sq.idxb (by kernel_rfl) g19.1 g146) ?_
    refine l_' (i_ (gt st4 v_)) (aLoad Tryz.prog 3 (elp hd_st_11 1 v_.toNat 0) H67) (m82.sq.ld g19.1 g146 (by kernel_rfl)) ?_
    obtain ⟨g148, r149⟩ := G_some r147
    refine w_' ((gt st4 v_) + 1) (wrap64 g148) ?_
    have u150 := (hm24.fr e68 (Dj.app dj_b_st_4_fp_st_12 (Dj.app dj_b_st_7_fp_st_12 (Dj.app (Dj.symm dj_fp_st_12_fp_st_11) (Dj.app dj_fp_st_5_fp_st_12 (Dj.app dj_fp_st_6_fp_st_12 dj_fp_st_8_fp_st_12))))))
    obtain ⟨y151, hy152, r153⟩ := bind_some r149
    refine s_ck 43 #[pt_ b_st 0, i_ (gt st_2 i5), .int .u64 (d + (gt st_3 i5)), i_ ((gt st4 v_) + 1)] (by kernel_rfl) (c_search_state_label e68.wf u106 u113 u116 m70 m74 m76 m78 m80 m82 u150.sq u101 dj_b_st_7_fp_st_8 dj_fp_st_8_b_st dj_b_st_7_b_st dj_fp_st_8_fp_st_11 dj_b_st_7_fp_st_11 dj_fp_st_11_b_st (Dj.symm (i83.dj dj_fp_st_5_fp_st_8 (h_st_8.lt.le e23.next))) (Dj.symm (i83.dj dj_fp_st_5_b_st_7 (h_st_7.ltF.le e23.next))) (Dj.symm (i83.dj dj_fp_st_5_fp_st_11 (h_st_11.lt.le e23.next))) dj_fp_st_8_fp_st_6 dj_b_st_7_fp_st_6 dj_fp_st_11_fp_st_6 dj_fp_st_8_b_st_4 dj_b_st_7_b_st_4 dj_fp_st_11_b_st_4 (i83.dj dj_fp_st_5_b_st_4 (h_st_4.ltF.le e23.next)) (i83.dj dj_fp_st_5_fp_st_6 (h_st_6.lt.le e23.next)) dj_b_st_4_fp_st_6 hy152) ?_
    rintro _ H156 ⟨s154, f155, rfl, e157, m158, m159, m160, m161, m162, m163, i164⟩
    obtain ⟨a166, n167, c168, rfl⟩ := m159.form
    refine s_nil (k109 _ _ (g_' (q_ (i_ i5) ?_)))
    obtain ⟨g169, r170⟩ := G_some r153
    refine w_' (i5 + 1) (wrap64 (by have := g169; omega)) ?_
    refine q_ (i_ (i5 + 1)) (s_nil ?_)
    obtain rfl := Option.some.inj r170
    exact k95 n86 _ _ (Nat.lt_succ_self _) ⟨y151.2.1, y151.1, y151.2.2.1, y151.2.2.2.1, y151.2.2.2.2, (i5 + 1), (.slice a166 n167 c168), f155, hn89, ha_, (FrS.step e23.wf (FrS.step e23.wf (FrS.refl (W := ([b_st_4] ++ ([b_st_7] ++ (fp_st_11 ++ (fp_st_5 ++ (fp_st_6 ++ fp_st_8)))))) e23.wf) e68 (Inn.app Inn.left (Inn.app (Inn.right Inn.left) (Inn.app (Inn.right (Inn.right Inn.left)) (Inn.app (Inn.right (Inn.right (Inn.right Inn.left))) (Inn.app (Inn.right (Inn.right (Inn.right (Inn.right Inn.left)))) (Inn.right (Inn.right (Inn.right (Inn.right (Inn.right Inn.refl'))))))))))) e157 (Inn.app Inn.left (Inn.app (Inn.right Inn.left) (Inn.app (Inn.right (Inn.right Inn.left)) (Inn.app (Inn.trans (Inn.right (Inn.right (Inn.right Inn.left))) (Nat.le_refl _) i83) (Inn.app (Inn.right (Inn.right (Inn.right (Inn.right Inn.left)))) (Inn.right (Inn.right (Inn.right (Inn.right (Inn.right Inn.refl'))))))))))), m159, m158, m160, m161, m162, m163, (Inn.trans (Inn.trans Inn.refl' (Nat.le_refl _) i83) e68.next i164)⟩
   have r171 := ite_bf h144 r130
   refine w_skip (k109 _ _ (g_' (q_ (i_ i5) ?_)))
   obtain ⟨g172, r173⟩ := G_some r171
   refine w_' (i5 + 1) (wrap64 (by have := g172; omega)) ?_
   refine q_ (i_ (i5 + 1)) (s_nil ?_)
   obtain rfl := Option.some.inj r173
   exact k95 n86 _ _ (Nat.lt_succ_self _) ⟨st0, st1, st2, st3, st4, (i5 + 1), (.slice a96 n97 c98), f72, hn89, ha_, (FrS.step e23.wf (FrS.refl (W := ([b_st_4] ++ ([b_st_7] ++ (fp_st_11 ++ (fp_st_5 ++ (fp_st_6 ++ fp_st_8)))))) e23.wf) e68 (Inn.app Inn.left (Inn.app (Inn.right Inn.left) (Inn.app (Inn.right (Inn.right Inn.left)) (Inn.app (Inn.right (Inn.right (Inn.right Inn.left))) (Inn.app (Inn.right (Inn.right (Inn.right (Inn.right Inn.left)))) (Inn.right (Inn.right (Inn.right (Inn.right (Inn.right Inn.refl'))))))))))), m70, m74, m76, m78, m80, m82, (Inn.trans Inn.refl' (Nat.le_refl _) i83)⟩
  have r174 := ite_f h107 r105
  refine w_exit (th_exit (th_exit (bl_eq ?_)))
  obtain rfl := Option.some.inj r174
  obtain rfl := it_inr hn89
  exact k63 _ _ ⟨(.slice a96 n97 c98), f72, trivial, (FrS.step e23.wf (FrS.refl (W := ([b_st_4] ++ ([b_st_7] ++ (fp_st_11 ++ (fp_st_5 ++ (fp_st_6 ++ fp_st_8)))))) e23.wf) e68 (Inn.app Inn.left (Inn.app (Inn.right Inn.left) (Inn.app (Inn.right (Inn.right Inn.left)) (Inn.app (Inn.right (Inn.right (Inn.right Inn.left))) (Inn.app (Inn.right (Inn.right (Inn.right (Inn.right Inn.left)))) (Inn.right (Inn.right (Inn.right (Inn.right (Inn.right Inn.refl'))))))))))), m74, m70, m76, m78, m80, m82, (Inn.trans Inn.refl' (Nat.le_refl _) i83)⟩
 obtain ⟨s52, f53, hh64, e47, m49, m51, m55, m57, m59, m61, i62⟩ := hM
 obtain ⟨β, rfl⟩ := has_ex hh64
 clear hh64
 obtain ⟨a175, n176, c177, rfl⟩ := m51.form
 refine b_nrm (fn := Tryz.f46) (vs := []) (rfl) ?_
 have u178 := (hm24.fr e47 (Dj.app dj_b_st_4_fp_st_12 (Dj.app dj_b_st_7_fp_st_12 (Dj.app (Dj.symm dj_fp_st_12_fp_st_11) (Dj.app dj_fp_st_5_fp_st_12 (Dj.app dj_fp_st_6_fp_st_12 dj_fp_st_8_fp_st_12))))))
 obtain rfl := Option.some.inj r45
 exact ⟨(.slice a175 n176 c177), f53, rfl, (FrS.step wf (FrS.step wf (FrS.refl (W := ([b_st_4] ++ ([b_st_7] ++ (fp_st_11 ++ (fp_st_12 ++ (fp_st_5 ++ (fp_st_6 ++ fp_st_8))))))) wf) e23 (Inn.right (Inn.right (Inn.right Inn.left)))) e47 (Inn.app Inn.left (Inn.app (Inn.right Inn.left) (Inn.app (Inn.right (Inn.right Inn.left)) (Inn.app (Inn.right (Inn.right (Inn.right (Inn.right Inn.left)))) (Inn.app (Inn.right (Inn.right (Inn.right (Inn.right (Inn.right Inn.left))))) (Inn.right (Inn.right (Inn.right (Inn.right (Inn.right (Inn.right Inn.refl')))))))))))), m49, m51, m55, m57, m59, m61, u178, (Inn.trans Inn.refl' e23.next i62)⟩
theorem c_search_run {H : AH} {hd_First : Value} {fp_First : Fp} {hd_To : Value} {fp_To : Fp} {hd_Weight : Value} {fp_Weight : Fp} {First : List (Int)} {To : List (Int)} {Weight : List (Int)} {s : Int} {hops : Int} {settles : Int} {most : Int} {r : List (Int × Int) × List (Int) × List (Int × Int) × Int × Int × List (Int) × List (Bool)}
    (wf : WF H) (h_First : Sq (encI .i64) 1 H hd_First First fp_First) (h_To : Sq (encI .i64) 1 H hd_To To fp_To) (h_Weight : Sq (encI .i64) 1 H hd_Weight Weight fp_Weight) (hr : z_search_run First To Weight s hops settles most = some r) :
    ACalls Tryz.prog 22 #[.agg #[hd_First, hd_To, hd_Weight], i_ s, .agg #[i_ hops, i_ settles, .int .u64 most]] H fun v H' => ∃ (s3 : Value) (f4 : Fp) (s7 : Value) (f8 : Fp) (b11 : Nat) (s14 : Value) (f15 : Fp) (b18 : Nat) (s21 : Value) (f22 : Fp) (s25 : Value) (f26 : Fp) (b29 : Nat), v = pt_ b29 0 ∧ FrS [] H H' ∧ Ow enc_u64_u32 2 H' s3 r.1 f4 ∧ Ow (encI .i64) 1 H' s7 r.2.1 f8 ∧ Row H' b11 [s3, s7] ∧ Ow enc_u64_u32 2 H' s14 r.2.2.1 f15 ∧ Row H' b18 [s14, .int .u32 r.2.2.2.1, i_ r.2.2.2.2.1] ∧ Ow (encI .i64) 1 H' s21 r.2.2.2.2.2.1 f22 ∧ Ow encB 1 H' s25 r.2.2.2.2.2.2 f26 ∧ Row H' b29 [hd_First, hd_To, hd_Weight, pt_ b11 0, pt_ b18 0, s21, s25] ∧ Inn [] H f4 ∧ Inn [] H f8 ∧ Inn [] H [b11] ∧ Inn [] H f15 ∧ Inn [] H [b18] ∧ Inn [] H f22 ∧ Inn [] H f26 ∧ Inn [] H [b29] ∧ Dj f4 f8 ∧ Dj f4 [b11] ∧ Dj f8 [b11] ∧ Dj f4 f15 ∧ Dj f8 f15 ∧ Dj [b11] f15 ∧ Dj f4 [b18] ∧ Dj f8 [b18] ∧ Dj [b11] [b18] ∧ Dj f15 [b18] ∧ Dj f4 f22 ∧ Dj f8 f22 ∧ Dj [b11] f22 ∧ Dj f15 f22 ∧ Dj [b18] f22 ∧ Dj f4 f26 ∧ Dj f8 f26 ∧ Dj [b11] f26 ∧ Dj f15 f26 ∧ Dj [b18] f26 ∧ Dj f22 f26 ∧ Dj f4 [b29] ∧ Dj f8 [b29] ∧ Dj [b11] [b29] ∧ Dj f15 [b29] ∧ Dj [b18] [b29] ∧ Dj f22 [b29] ∧ Dj f26 [b29] := by
 refine acalls_of_body mixed Tryz.func22 rfl (Nat.le_of_ble_eq_true rfl) ?_
 unfold z_search_run at hr
 refine w_seqk fun _ k66 => g_' ?_
 refine s_rwl wf [hd_First, hd_To, hd_Weight] (one_cons (h_First.one1) (one_cons (h_To.one1) (one_cons (h_Weight.one1) (one_nil)))) (by kernel_rfl) fun b67 H68 e69 hb70 r71 => ?_
 refine s_rwl e69.wf [i_ hops, i_ settles, .int .u64 most] (one_cons (rfl) (one_cons (rfl) (one_cons (rfl) (one_nil)))) (by kernel_rfl) fun b73 H74 e75 hb76 r77 => ?_
 refine q_ (.pointer none) (s_nil (k66 _ _ (w_seqk fun _ k79 => g_' ?_)))
 have u80 := (r71.ext e75)
 refine l_' (.agg #[hd_First, hd_To, hd_Weight]) (aLoad Tryz.prog 25 (pt_ b67 0) H74) (u80.ld (by kernel_rfl)) ?_
 have u81 := ((h_First.ext e69).ext e75)
 have u82 := ((h_To.ext e69).ext e75)
 have u83 := ((h_Weight.ext e69).ext e75)
 obtain ⟨y84, hy85, r86⟩ := bind_some hr
 refine s_ck 35 #[.agg #[hd_First, hd_To, hd_Weight]] (by kernel_rfl) (c_search_nodes e75.wf u81 u82 u83 hy85) ?_
 rintro _ H87 ⟨rfl, e88⟩
 refine q_ (i_ y84) (s_nil (k79 _ _ (w_seqk fun _ k89 => ?_)))
 refine w_draw [0, 1, 2, 3, 4, 5, 6, 7] (by kernel_rfl) ?_
 have u90 := (u80.frS e88 Dj.nil_l)
 refine m_' (.agg #[hd_First, hd_To, hd_Weight]) (aLoad Tryz.prog 25 (pt_ b67 0) H87) (u90.ld (by kernel_rfl)) ?_
 refine e_' (i_ y84) ?_
 obtain ⟨g91, r92⟩ := G_some r86
 refine d_mks (t := 23) (m := 8) (l := y84) (c := y84) (enc := (encI .i64)) (sz := 1) e88.wf (0 : Int) (by kernel_rfl) (by decide) g91.1 (Int.le_refl _) (by omega) (by have := g91; omega) (by kernel_rfl) fun s93 f94 H95 e96 hf97 hm98 => ?_
 obtain ⟨a99, n100, c101, rfl⟩ := hm98.form
 have hm98 : Ow (encI .i64) 1 H95 (.slice a99 n100 c101) (List.replicate y84.toNat (0 : Int)) f94 := hm98
 refine e_' (i_ y84) ?_
 obtain ⟨g103, r104⟩ := G_some r92
 refine d_mks (t := 73) (m := 1) (l := y84) (c := y84) (enc := encB) (sz := 1) e96.wf (false : Bool) (by kernel_rfl) (by decide) g103.1 (Int.le_refl _) (by omega) (by have := g103; omega) (by kernel_rfl) fun s105 f106 H107 e108 hf109 hm110 => ?_
 obtain ⟨a111, n112, c113, rfl⟩ := hm110.form
 have hm110 : Ow encB 1 H107 (.slice a111 n112 c113) (List.replicate y84.toNat (false : Bool)) f106 := hm110
 have u115 := (((u81.fr e88 Dj.nil_l).ext e96).ext e108)
 obtain ⟨a116, n117, c118, rfl⟩ := u115.form
 have u119 := (((u82.fr e88 Dj.nil_l).ext e96).ext e108)
 obtain ⟨a120, n121, c122, rfl⟩ := u119.form
 have u123 := (((u83.fr e88 Dj.nil_l).ext e96).ext e108)
 obtain ⟨a124, n125, c126, rfl⟩ := u123.form
 refine e_' (.agg #[.slice a116 n117 c118, .slice a120 n121 c122, .slice a124 n125 c126, .pointer none, .pointer none, .slice a99 n100 c101, .slice a111 n112 c113]) ?_
 have u132 := (hm98.ext e108)
 refine d_rwl e108.wf [.slice a116 n117 c118, .slice a120 n121 c122, .slice a124 n125 c126, .pointer none, .pointer none, .slice a99 n100 c101, .slice a111 n112 c113] (one_cons (u115.one1) (one_cons (u119.one1) (one_cons (u123.one1) (one_cons (rfl) (one_cons (rfl) (one_cons (u132.one1) (one_cons (hm110.one1) (one_nil)))))))) (by kernel_rfl) fun b127 H128 e129 hb130 r131 => ?_
 refine e_' (pt_ b127 0) ?_
 refine d_nil ?_
 refine k89 _ _ (w_seqk fun _ k134 => g_' (q_ (pt_ b127 0) (q_ (i_ y84) ?_)))
 obtain ⟨y135, hy136, r137⟩ := bind_some r104
 rcases y135 with y138 | y139
 ·exact (no_none (elim_l r137)).elim
 have r140 := elim_r r137
 refine s_ck 41 #[i_ y84] (by kernel_rfl) (c_heap_New e129.wf hy136) ?_
 rintro _ H144 ⟨s141, f142, b143, rfl, e145, m146, m147, i148, i149, d150⟩
 obtain ⟨a153, n154, c155, rfl⟩ := m146.form
 refine q_ (.tuple #[pt_ b143 0, .nilIface]) (q_ (pt_ b143 0) (q_ (.nilIface) (q_ (pt_ b127 0) (q_ (pt_ b127 3) ?_))))
 have u160 := (r131.frS e145 Dj.nil_l)
 obtain ⟨H156, q157, e158, r159⟩ := Row.store (P := Tryz.prog) (t := 71) (p := 3) e145.wf u160 (pt_ b143 0) [pt_ b143 0] (by kernel_rfl) (by kernel_rfl) (one_cons (rfl) (one_nil)) (Nat.le_of_ble_eq_true (by kernel_rfl)) [.slice a116 n117 c118, .slice a120 n121 c122, .slice a124 n125 c126, pt_ b143 0, .pointer none, .slice a99 n100 c101, .slice a111 n112 c113] (by kernel_rfl)
 refine s_ek (undef) (by kernel_rfl) (map_ok q157) ?_
 refine s_nil (k134 _ _ (w_seqk fun _ k161 => g_' (q_ (pt_ b127 0) (q_ (i_ y84) ?_))))
 obtain ⟨y162, hy163, r164⟩ := bind_some r140
 rcases y162 with y165 | y166
 ·exact (no_none (elim_l r164)).elim
 have r167 := elim_r r164
 refine s_ck 42 #[i_ y84, .int .u32 1] (by kernel_rfl) (c_stamp_New e158.wf hy163) ?_
 rintro _ H171 ⟨s168, f169, b170, rfl, e172, m173, m174, i175, i176, d177⟩
 obtain ⟨a180, n181, c182, rfl⟩ := m173.form
 refine q_ (.tuple #[pt_ b170 0, .nilIface]) (q_ (pt_ b170 0) (q_ (.nilIface) (q_ (pt_ b127 0) (q_ (pt_ b127 4) ?_))))
 have u187 := (r159.frS e172 Dj.nil_l)
 obtain ⟨H183, q184, e185, r186⟩ := Row.store (P := Tryz.prog) (t := 72) (p := 4) e172.wf u187 (pt_ b170 0) [pt_ b170 0] (by kernel_rfl) (by kernel_rfl) (one_cons (rfl) (one_nil)) (Nat.le_of_ble_eq_true (by kernel_rfl)) [.slice a116 n117 c118, .slice a120 n121 c122, .slice a124 n125 c126, pt_ b143 0, pt_ b170 0, .slice a99 n100 c101, .slice a111 n112 c113] (by kernel_rfl)
 refine s_ek (undef) (by kernel_rfl) (map_ok q184) ?_
 refine s_nil (k161 _ _ (w_seqk fun _ k188 => g_' (q_ (pt_ b127 0) (q_ (i_ s) ?_))))
 have u189 := (((((u115.ext e129).fr e145 Dj.nil_l).fr e158 (hb130.djn (h_First.lt.le (ntr (ntr (ntr (ntr e69.next e75.next) e88.next) e96.next) e108.next)))).fr e172 Dj.nil_l).fr e185 (hb130.djn (h_First.lt.le (ntr (ntr (ntr (ntr e69.next e75.next) e88.next) e96.next) e108.next))))
 have u190 := (((((u119.ext e129).fr e145 Dj.nil_l).fr e158 (hb130.djn (h_To.lt.le (ntr (ntr (ntr (ntr e69.next e75.next) e88.next) e96.next) e108.next)))).fr e172 Dj.nil_l).fr e185 (hb130.djn (h_To.lt.le (ntr (ntr (ntr (ntr e69.next e75.next) e88.next) e96.next) e108.next))))
 have u191 := (((((u123.ext e129).fr e145 Dj.nil_l).fr e158 (hb130.djn (h_Weight.lt.le (ntr (ntr (ntr (ntr e69.next e75.next) e88.next) e96.next) e108.next)))).fr e172 Dj.nil_l).fr e185 (hb130.djn (h_Weight.lt.le (ntr (ntr (ntr (ntr e69.next e75.next) e88.next) e96.next) e108.next))))
 have u192 := (((m146.fr e158 (Dj.symm (i148.djn r131.ltF))).fr e172 Dj.nil_l).fr e185 (Dj.symm (i148.djn r131.ltF)))
 have u193 := (((m147.frS e158 (Dj.symm (i149.djn r131.ltF))).frS e172 Dj.nil_l).frS e185 (Dj.symm (i149.djn r131.ltF)))
 have u194 := (m173.fr e185 (Dj.symm (i175.djn (r131.ltF.le (ntr e145.next e158.next)))))
 have u195 := (m174.frS e185 (Dj.symm (i176.djn (r131.ltF.le (ntr e145.next e158.next)))))
 have u196 := (((((u132.ext e129).fr e145 Dj.nil_l).fr e158 (hb130.djn (hm98.lt.le e108.next))).fr e172 Dj.nil_l).fr e185 (hb130.djn (hm98.lt.le e108.next)))
 have u197 := (((((hm110.ext e129).fr e145 Dj.nil_l).fr e158 (hb130.djn hm110.lt)).fr e172 Dj.nil_l).fr e185 (hb130.djn hm110.lt))
 obtain ⟨y198, hy199, r200⟩ := bind_some r167
 refine s_ck 43 #[pt_ b127 0, i_ s, .int .u64 0, i_ 0] (by kernel_rfl) (c_search_state_label e185.wf u189 u190 u191 (Ow.nil (enc := enc_u64_u32) (sz := 2) (by decide)) u192 u193 u194 u195 u196 u197.sq r186 (Dj.symm d177) (i175.djn (r131.ltF.le (ntr e145.next e158.next))) (i176.djn (r131.ltF.le (ntr e145.next e158.next))) (i175.djn (hm98.lt.le (ntr (ntr (ntr e108.next e129.next) e145.next) e158.next))) (i176.djn (hm98.lt.le (ntr (ntr (ntr e108.next e129.next) e145.next) e158.next))) (Dj.symm (hb130.djn (hm98.lt.le e108.next))) Dj.nil_r Dj.nil_r Dj.nil_r (i175.djn (m146.lt.le e158.next)) (i176.djn (m146.lt.le e158.next)) (Dj.symm (i148.djn (hm98.lt.le (ntr e108.next e129.next)))) (i175.djn (m147.ltF.le e158.next)) (i176.djn (m147.ltF.le e158.next)) (Dj.symm (i149.djn (hm98.lt.le (ntr e108.next e129.next)))) Dj.nil_l Dj.nil_l (Dj.symm d150) hy199) ?_
 rintro _ H203 ⟨s201, f202, rfl, e204, m205, m206, m207, m208, m209, m210, i211⟩
 obtain ⟨a213, n214, c215, rfl⟩ := m206.form
 refine s_nil (k188 _ _ (w_seqk fun _ k216 => w_seqk fun _ k217 => g_' (q_ (i_ 0) (s_nil (k217 _ _ ?_)))))
 obtain ⟨o218, hx219, r220⟩ := bind_some r200
 refine w_mid (fun α H221 => ∃ (s225 : Value) (f226 : Fp), Has α [(8, pt_ b127 0)] ∧ FrS ([b143] ++ ([b170] ++ (f106 ++ (f142 ++ (f169 ++ (f202 ++ f94)))))) H203 H221 ∧ Ow enc_u64_u32 2 H221 s225 o218.1 f226 ∧ Ow (encI .i64) 1 H221 (.slice a153 n154 c155) o218.2.1 f142 ∧ Row H221 b143 [s225, .slice a153 n154 c155] ∧ Ow enc_u64_u32 2 H221 (.slice a180 n181 c182) o218.2.2.1 f169 ∧ Row H221 b170 [.slice a180 n181 c182, .int .u32 y166.2, i_ o218.2.2.2.1] ∧ Ow (encI .i64) 1 H221 (.slice a99 n100 c101) o218.2.2.2.2.1 f94 ∧ Ow encB 1 H221 (.slice a111 n112 c113) o218.2.2.2.2.2 f106 ∧ Inn f202 H203 f226) (fun _ k240 => ?_) (fun α H221 hM => ?_)
 ·refine w_block ?_
  obtain ⟨n242, hn243⟩ := loopO_iff.1 hx219
  have u269 := (u197.fr e204 (Dj.app (i149.djn (hm110.lt.le e129.next)) (Dj.app (i176.djn (hm110.lt.le (ntr (ntr e129.next e145.next) e158.next))) (Dj.app (Dj.symm (hf109.djn hm98.lt)) (Dj.app Dj.nil_l (Dj.app (i148.djn (hm110.lt.le e129.next)) (i175.djn (hm110.lt.le (ntr (ntr e129.next e145.next) e158.next)))))))))
  refine w_loopn (fun n α H244 => ∃ (st0 : List (Int × Int)), ∃ (st1 : List (Int)), ∃ (st2 : List (Int × Int)), ∃ (st3 : Int), ∃ (st4 : List (Int)), ∃ (st5 : List (Bool)), ∃ (count6 : Int), ∃ (s248 : Value), ∃ (f249 : Fp), iterO (fun zz_ => z_search_run_l0 First To Weight hops settles most y166 zz_.1 zz_.2.1 zz_.2.2.1 zz_.2.2.2.1 zz_.2.2.2.2.1 zz_.2.2.2.2.2.1 zz_.2.2.2.2.2.2) n (st0, st1, st2, st3, st4, st5, count6) = some o218 ∧ Has α [(5, pt_ b73 0), (8, pt_ b127 0), (9, i_ count6)] ∧ FrS ([b143] ++ ([b170] ++ (f106 ++ (f142 ++ (f169 ++ (f202 ++ f94)))))) H203 H244 ∧ Ow enc_u64_u32 2 H244 s248 st0 f249 ∧ Ow (encI .i64) 1 H244 (.slice a153 n154 c155) st1 f142 ∧ Row H244 b143 [s248, .slice a153 n154 c155] ∧ Ow enc_u64_u32 2 H244 (.slice a180 n181 c182) st2 f169 ∧ Row H244 b170 [.slice a180 n181 c182, .int .u32 y166.2, i_ st3] ∧ Ow (encI .i64) 1 H244 (.slice a99 n100 c101) st4 f94 ∧ Ow encB 1 H244 (.slice a111 n112 c113) st5 f106 ∧ Inn f202 H203 f249) n242 ⟨y198.2.1, y198.1, y198.2.2.1, y198.2.2.2.1, y198.2.2.2.2, (List.replicate y84.toNat (false : Bool)), 0, (.slice a213 n214 c215), f202, hn243, ha_, (FrS.refl (W := ([b143] ++ ([b170] ++ (f106 ++ (f142 ++ (f169 ++ (f202 ++ f94))))))) e204.wf), m206, m205, m207, m208, m209, m210, u269, Inn.refl'⟩ ?_
  rintro n242 α H244 ⟨st0, st1, st2, st3, st4, st5, count6, s248, f249, hi264, hh263, e245, m247, m251, m253, m255, m257, m259, m261, i262⟩ K270 k270
  obtain ⟨n265, z266, rfl, hz267, hn268⟩ := iter_succ hi264
  obtain ⟨β, rfl⟩ := has_ex hh263
  clear hh263
  replace hz267 : z_search_run_l0 First To Weight hops settles most y166 st0 st1 st2 st3 st4 st5 count6 = some z266 := hz267
  unfold z_search_run_l0 at hz267
  obtain ⟨a271, n272, c273, rfl⟩ := m247.form
  refine w_seqk fun _ k274 => w_seqk fun _ k275 => g_' (q_ (i_ count6) (q_ (pt_ b73 1) ?_))
  have u276 := ((((((((((r77.frS e88 Dj.nil_l).ext e96).ext e108).ext e129).frS e145 Dj.nil_l).frS e158 (hb130.djn (r77.ltF.le (ntr (ntr e88.next e96.next) e108.next)))).frS e172 Dj.nil_l).frS e185 (hb130.djn (r77.ltF.le (ntr (ntr e88.next e96.next) e108.next)))).frS e204 (Dj.app (i149.djn (r77.ltF.le (ntr (ntr (ntr e88.next e96.next) e108.next) e129.next))) (Dj.app (i176.djn (r77.ltF.le (ntr (ntr (ntr (ntr (ntr e88.next e96.next) e108.next) e129.next) e145.next) e158.next))) (Dj.app (hf97.djn (r77.ltF.le e88.next)) (Dj.app Dj.nil_l (Dj.app (i148.djn (r77.ltF.le (ntr (ntr (ntr e88.next e96.next) e108.next) e129.next))) (i175.djn (r77.ltF.le (ntr (ntr (ntr (ntr (ntr e88.next e96.next) e108.next) e129.next) e145.next) e158.next))))))))).frS e245 (Dj.app (i149.djn (r77.ltF.le (ntr (ntr (ntr e88.next e96.next) e108.next) e129.next))) (Dj.app (i176.djn (r77.ltF.le (ntr (ntr (ntr (ntr (ntr e88.next e96.next) e108.next) e129.next) e145.next) e158.next))) (Dj.app (hf109.djn (r77.ltF.le (ntr e88.next e96.next))) (Dj.app (i148.djn (r77.ltF.le (ntr (ntr (ntr e88.next e96.next) e108.next) e129.next))) (Dj.app (i175.djn (r77.ltF.le (ntr (ntr (ntr (ntr (ntr e88.next e96.next) e108.next) e129.next) e145.next) e158.next))) (Dj.app (i211.djn (r77.ltF.le (ntr (ntr (ntr (ntr (ntr (ntr (ntr e88.next e96.next) e108.next) e129.next) e145.next) e158.next) e172.next) e185.next))) (hf97.djn (r77.ltF.le e88.next)))))))))
  refine l_' (i_ settles) (aLoad Tryz.prog 3 (pt_ b73 1) H244) (u276.ld (by kernel_rfl)) ?_
  refine q_ (.bool (decide (count6 < settles))) (s_nil (k275 _ _ ?_))
  refine w_condp (count6 < settles) (by kernel_rfl) rfl (fun h277 => ?_) (fun h277 => ?_)
  ·have r278 := ite_t h277 hz267
   refine w_skip (k274 _ _ (w_seqk fun _ k279 => w_block (w_seqk fun _ k280 => g_' (q_ (pt_ b127 0) (q_ (pt_ b127 0) (q_ (pt_ b127 3) ?_))))))
   have u281 := ((r186.frS e204 (Dj.app (i149.djn r131.ltF) (Dj.app (i176.djn (r131.ltF.le (ntr e145.next e158.next))) (Dj.app (Dj.symm (hb130.djn (hm98.lt.le e108.next))) (Dj.app Dj.nil_l (Dj.app (i148.djn r131.ltF) (i175.djn (r131.ltF.le (ntr e145.next e158.next))))))))).frS e245 (Dj.app (i149.djn r131.ltF) (Dj.app (i176.djn (r131.ltF.le (ntr e145.next e158.next))) (Dj.app (Dj.symm (hb130.djn hm110.lt)) (Dj.app (i148.djn r131.ltF) (Dj.app (i175.djn (r131.ltF.le (ntr e145.next e158.next))) (Dj.app (i211.djn (r131.ltF.le (ntr (ntr (ntr e145.next e158.next) e172.next) e185.next))) (Dj.symm (hb130.djn (hm98.lt.le e108.next))))))))))
   refine l_' (pt_ b143 0) (aLoad Tryz.prog 71 (pt_ b127 3) H244) (u281.ld (by kernel_rfl)) ?_
   obtain ⟨y282, hy283, r284⟩ := bind_some r278
   refine s_ck 44 #[pt_ b143 0] (by kernel_rfl) (c_heap_Heap_Top e245.wf m247.sq m251.sq m253 hy283) ?_
   rintro _ _ ⟨rfl, rfl⟩
   refine q_ (.tuple #[.int .u32 y282.1, .int .u64 y282.2.1, .bool y282.2.2]) (q_ (.int .u32 y282.1) (q_ (.int .u64 y282.2.1) (q_ (.bool y282.2.2) (q_ (.int .u32 y282.1) (q_ (.int .u64 y282.2.1) (q_ (.bool y282.2.2) (s_nil (k280 _ _ (w_seqk fun _ k287 => w_seqk fun _ k288 => ?_)))))))))
   obtain ⟨o289, hx290, r291⟩ := bind_some r284
   refine w_mid (fun α H292 => Has α [(5, pt_ b73 0), (8, pt_ b127 0), (9, i_ count6), (10, .int .u32 y282.1), (11, .int .u64 y282.2.1), (63, .bool o289)] ∧ H244 = H292) (fun _ k294 => ?_) (fun α H292 hM => ?_)
   ·refine g_' (q_ (.bool y282.2.2) (q_ (.bool (!y282.2.2)) (q_ (.bool (!y282.2.2)) ?_)))
    by_cases h296 : (!y282.2.2) = true
    ·have r297 := ite_t h296 hx290
     rw [h296]
     refine n_' (n_' (n_' (n_' (q_ (.bool true) (s_nil ?_)))))
     obtain rfl := Option.some.inj r297
     exact k294 _ _ ⟨ha_, rfl⟩
    have r298 := ite_f h296 hx290
    rw [nb h296]
    refine q_ (.int .u64 y282.2.1) (q_ (pt_ b73 2) ?_)
    refine l_' (.int .u64 most) (aLoad Tryz.prog 37 (pt_ b73 2) H244) (u276.ld (by kernel_rfl)) ?_
    refine q_ (.bool (decide (y282.2.1 > most))) (q_ (.bool (decide (y282.2.1 > most))) (s_nil ?_))
    obtain rfl := Option.some.inj r298
    exact k294 _ _ ⟨ha_, rfl⟩
   obtain ⟨hh295, rfl⟩ := hM
   obtain ⟨β, rfl⟩ := has_ex hh295
   clear hh295
   refine k288 _ _ ?_
   refine w_cond (o289) (by kernel_rfl) rfl (fun h299 => ?_) (fun h299 => ?_)
   ·have r300 := ite_t h299 r291
    refine w_exit (th_exit (bl_ne (by decide) (th_exit (th_exit (bl_eq ?_)))))
    obtain rfl := Option.some.inj r300
    obtain rfl := it_inr hn268
    exact k240 _ _ ⟨(.slice a271 n272 c273), f249, ha_, (FrS.step e204.wf (FrS.refl (W := ([b143] ++ ([b170] ++ (f106 ++ (f142 ++ (f169 ++ (f202 ++ f94))))))) e204.wf) e245 (Inn.app Inn.left (Inn.app (Inn.right Inn.left) (Inn.app (Inn.right (Inn.right Inn.left)) (Inn.app (Inn.right (Inn.right (Inn.right Inn.left))) (Inn.app (Inn.right (Inn.right (Inn.right (Inn.right Inn.left)))) (Inn.app (Inn.right (Inn.right (Inn.right (Inn.right (Inn.right Inn.left))))) (Inn.right (Inn.right (Inn.right (Inn.right (Inn.right (Inn.right Inn.refl'))))))))))))), m247, m251, m253, m255, m257, m259, m261, (Inn.trans Inn.refl' (Nat.le_refl _) i262)⟩
   have r301 := ite_bf h299 r291
   refine w_skip (k287 _ _ (w_seqk fun _ k302 => g_' (q_ (pt_ b127 0) (q_ (pt_ b127 0) (q_ (pt_ b127 3) ?_)))))
   refine l_' (pt_ b143 0) (aLoad Tryz.prog 71 (pt_ b127 3) H244) (u281.ld (by kernel_rfl)) ?_
   obtain ⟨y303, hy304, r305⟩ := bind_some r301
   refine s_ck 45 #[pt_ b143 0] (by kernel_rfl) (c_heap_Heap_Pop e245.wf m247 m251 m253 (Dj.symm d150) (Dj.symm (i262.dj (i211.djn (m147.ltF.le (ntr (ntr e158.next e172.next) e185.next))) (m147.ltF.le (ntr (ntr (ntr e158.next e172.next) e185.next) e204.next)))) (Dj.symm (i262.dj (i211.djn (m146.lt.le (ntr (ntr e158.next e172.next) e185.next))) (m146.lt.le (ntr (ntr (ntr e158.next e172.next) e185.next) e204.next)))) hy304) ?_
   rintro _ H307 ⟨s306, rfl, e308, m309, m310, m311⟩
   obtain ⟨a313, n314, c315, rfl⟩ := m310.form
   refine s_nil (k302 _ _ (g_' (q_ (pt_ b127 0) (q_ (.int .u32 y282.1) ?_))))
   obtain ⟨g316, r317⟩ := G_some r305
   refine w_' y282.1 (wrap64 g316) ?_
   refine q_ (.int .u64 y282.2.1) (q_ (pt_ b73 0) ?_)
   have u318 := (u276.frS e308 (Dj.app (i149.djn (r77.ltF.le (ntr (ntr (ntr e88.next e96.next) e108.next) e129.next))) (Dj.app (i262.dj (i211.djn (r77.ltF.le (ntr (ntr (ntr (ntr (ntr (ntr (ntr e88.next e96.next) e108.next) e129.next) e145.next) e158.next) e172.next) e185.next))) (r77.ltF.le (ntr (ntr (ntr (ntr (ntr (ntr (ntr (ntr e88.next e96.next) e108.next) e129.next) e145.next) e158.next) e172.next) e185.next) e204.next))) (i148.djn (r77.ltF.le (ntr (ntr (ntr e88.next e96.next) e108.next) e129.next))))))
   refine l_' (i_ hops) (aLoad Tryz.prog 3 (pt_ b73 0) H307) (u318.ld (by kernel_rfl)) ?_
   have u319 := (((u189.fr e204 (Dj.app (i149.djn (h_First.lt.le (ntr (ntr (ntr (ntr (ntr e69.next e75.next) e88.next) e96.next) e108.next) e129.next))) (Dj.app (i176.djn (h_First.lt.le (ntr (ntr (ntr (ntr (ntr (ntr (ntr e69.next e75.next) e88.next) e96.next) e108.next) e129.next) e145.next) e158.next))) (Dj.app (hf97.djn (h_First.lt.le (ntr (ntr e69.next e75.next) e88.next))) (Dj.app Dj.nil_l (Dj.app (i148.djn (h_First.lt.le (ntr (ntr (ntr (ntr (ntr e69.next e75.next) e88.next) e96.next) e108.next) e129.next))) (i175.djn (h_First.lt.le (ntr (ntr (ntr (ntr (ntr (ntr (ntr e69.next e75.next) e88.next) e96.next) e108.next) e129.next) e145.next) e158.next))))))))).fr e245 (Dj.app (i149.djn (h_First.lt.le (ntr (ntr (ntr (ntr (ntr e69.next e75.next) e88.next) e96.next) e108.next) e129.next))) (Dj.app (i176.djn (h_First.lt.le (ntr (ntr (ntr (ntr (ntr (ntr (ntr e69.next e75.next) e88.next) e96.next) e108.next) e129.next) e145.next) e158.next))) (Dj.app (hf109.djn (h_First.lt.le (ntr (ntr (ntr e69.next e75.next) e88.next) e96.next))) (Dj.app (i148.djn (h_First.lt.le (ntr (ntr (ntr (ntr (ntr e69.next e75.next) e88.next) e96.next) e108.next) e129.next))) (Dj.app (i175.djn (h_First.lt.le (ntr (ntr (ntr (ntr (ntr (ntr (ntr e69.next e75.next) e88.next) e96.next) e108.next) e129.next) e145.next) e158.next))) (Dj.app (i211.djn (h_First.lt.le (ntr (ntr (ntr (ntr (ntr (ntr (ntr (ntr (ntr e69.next e75.next) e88.next) e96.next) e108.next) e129.next) e145.next) e158.next) e172.next) e185.next))) (hf97.djn (h_First.lt.le (ntr (ntr e69.next e75.next) e88.next)))))))))).fr e308 (Dj.app (i149.djn (h_First.lt.le (ntr (ntr (ntr (ntr (ntr e69.next e75.next) e88.next) e96.next) e108.next) e129.next))) (Dj.app (i262.dj (i211.djn (h_First.lt.le (ntr (ntr (ntr (ntr (ntr (ntr (ntr (ntr (ntr e69.next e75.next) e88.next) e96.next) e108.next) e129.next) e145.next) e158.next) e172.next) e185.next))) (h_First.lt.le (ntr (ntr (ntr (ntr (ntr (ntr (ntr (ntr (ntr (ntr e69.next e75.next) e88.next) e96.next) e108.next) e129.next) e145.next) e158.next) e172.next) e185.next) e204.next))) (i148.djn (h_First.lt.le (ntr (ntr (ntr (ntr (ntr e69.next e75.next) e88.next) e96.next) e108.next) e129.next))))))
   have u320 := (((u190.fr e204 (Dj.app (i149.djn (h_To.lt.le (ntr (ntr (ntr (ntr (ntr e69.next e75.next) e88.next) e96.next) e108.next) e129.next))) (Dj.app (i176.djn (h_To.lt.le (ntr (ntr (ntr (ntr (ntr (ntr (ntr e69.next e75.next) e88.next) e96.next) e108.next) e129.next) e145.next) e158.next))) (Dj.app (hf97.djn (h_To.lt.le (ntr (ntr e69.next e75.next) e88.next))) (Dj.app Dj.nil_l (Dj.app (i148.djn (h_To.lt.le (ntr (ntr (ntr (ntr (ntr e69.next e75.next) e88.next) e96.next) e108.next) e129.next))) (i175.djn (h_To.lt.le (ntr (ntr (ntr (ntr (ntr (ntr (ntr e69.next e75.next) e88.next) e96.next) e108.next) e129.next) e145.next) e158.next))))))))).fr e245 (Dj.app (i149.djn (h_To.lt.le (ntr (ntr (ntr (ntr (ntr e69.next e75.next) e88.next) e96.next) e108.next) e129.next))) (Dj.app (i176.djn (h_To.lt.le (ntr (ntr (ntr (ntr (ntr (ntr (ntr e69.next e75.next) e88.next) e96.next) e108.next) e129.next) e145.next) e158.next))) (Dj.app (hf109.djn (h_To.lt.le (ntr (ntr (ntr e69.next e75.next) e88.next) e96.next))) (Dj.app (i148.djn (h_To.lt.le (ntr (ntr (ntr (ntr (ntr e69.next e75.next) e88.next) e96.next) e108.next) e129.next))) (Dj.app (i175.djn (h_To.lt.le (ntr (ntr (ntr (ntr (ntr (ntr (ntr e69.next e75.next) e88.next) e96.next) e108.next) e129.next) e145.next) e158.next))) (Dj.app (i211.djn (h_To.lt.le (ntr (ntr (ntr (ntr (ntr (ntr (ntr (ntr (ntr e69.next e75.next) e88.next) e96.next) e108.next) e129.next) e145.next) e158.next) e172.next) e185.next))) (hf97.djn (h_To.lt.le (ntr (ntr e69.next e75.next) e88.next)))))))))).fr e308 (Dj.app (i149.djn (h_To.lt.le (ntr (ntr (ntr (ntr (ntr e69.next e75.next) e88.next) e96.next) e108.next) e129.next))) (Dj.app (i262.dj (i211.djn (h_To.lt.le (ntr (ntr (ntr (ntr (ntr (ntr (ntr (ntr (ntr e69.next e75.next) e88.next) e96.next) e108.next) e129.next) e145.next) e158.next) e172.next) e185.next))) (h_To.lt.le (ntr (ntr (ntr (ntr (ntr (ntr (ntr (ntr (ntr (ntr e69.next e75.next) e88.next) e96.next) e108.next) e129.next) e145.next) e158.next) e172.next) e185.next) e204.next))) (i148.djn (h_To.lt.le (ntr (ntr (ntr (ntr (ntr e69.next e75.next) e88.next) e96.next) e108.next) e129.next))))))
   have u321 := (((u191.fr e204 (Dj.app (i149.djn (h_Weight.lt.le (ntr (ntr (ntr (ntr (ntr e69.next e75.next) e88.next) e96.next) e108.next) e129.next))) (Dj.app (i176.djn (h_Weight.lt.le (ntr (ntr (ntr (ntr (ntr (ntr (ntr e69.next e75.next) e88.next) e96.next) e108.next) e129.next) e145.next) e158.next))) (Dj.app (hf97.djn (h_Weight.lt.le (ntr (ntr e69.next e75.next) e88.next))) (Dj.app Dj.nil_l (Dj.app (i148.djn (h_Weight.lt.le (ntr (ntr (ntr (ntr (ntr e69.next e75.next) e88.next) e96.next) e108.next) e129.next))) (i175.djn (h_Weight.lt.le (ntr (ntr (ntr (ntr (ntr (ntr (ntr e69.next e75.next) e88.next) e96.next) e108.next) e129.next) e145.next) e158.next))))))))).fr e245 (Dj.app (i149.djn (h_Weight.lt.le (ntr (ntr (ntr (ntr (ntr e69.next e75.next) e88.next) e96.next) e108.next) e129.next))) (Dj.app (i176.djn (h_Weight.lt.le (ntr (ntr (ntr (ntr (ntr (ntr (ntr e69.next e75.next) e88.next) e96.next) e108.next) e129.next) e145.next) e158.next))) (Dj.app (hf109.djn (h_Weight.lt.le (ntr (ntr (ntr e69.next e75.next) e88.next) e96.next))) (Dj.app (i148.djn (h_Weight.lt.le (ntr (ntr (ntr (ntr (ntr e69.next e75.next) e88.next) e96.next) e108.next) e129.next))) (Dj.app (i175.djn (h_Weight.lt.le (ntr (ntr (ntr (ntr (ntr (ntr (ntr e69.next e75.next) e88.next) e96.next) e108.next) e129.next) e145.next) e158.next))) (Dj.app (i211.djn (h_Weight.lt.le (ntr (ntr (ntr (ntr (ntr (ntr (ntr (ntr (ntr e69.next e75.next) e88.next) e96.next) e108.next) e129.next) e145.next) e158.next) e172.next) e185.next))) (hf97.djn (h_Weight.lt.le (ntr (ntr e69.next e75.next) e88.next)))))))))).fr e308 (Dj.app (i149.djn (h_Weight.lt.le (ntr (ntr (ntr (ntr (ntr e69.next e75.next) e88.next) e96.next) e108.next) e129.next))) (Dj.app (i262.dj (i211.djn (h_Weight.lt.le (ntr (ntr (ntr (ntr (ntr (ntr (ntr (ntr (ntr e69.next e75.next) e88.next) e96.next) e108.next) e129.next) e145.next) e158.next) e172.next) e185.next))) (h_Weight.lt.le (ntr (ntr (ntr (ntr (ntr (ntr (ntr (ntr (ntr (ntr e69.next e75.next) e88.next) e96.next) e108.next) e129.next) e145.next) e158.next) e172.next) e185.next) e204.next))) (i148.djn (h_Weight.lt.le (ntr (ntr (ntr (ntr (ntr e69.next e75.next) e88.next) e96.next) e108.next) e129.next))))))
   have u322 := (m255.fr e308 (Dj.app (Dj.symm (i175.djn (m147.ltF.le e158.next))) (Dj.app (i262.dj (i211.djn (m173.lt.le e185.next)) (m173.lt.le (ntr e185.next e204.next))) (Dj.symm (i175.djn (m146.lt.le e158.next))))))
   have u323 := (m257.frS e308 (Dj.app (Dj.symm (i176.djn (m147.ltF.le e158.next))) (Dj.app (i262.dj (i211.djn (m174.ltF.le e185.next)) (m174.ltF.le (ntr e185.next e204.next))) (Dj.symm (i176.djn (m146.lt.le e158.next))))))
   have u324 := (m259.fr e308 (Dj.app (i149.djn (hm98.lt.le (ntr e108.next e129.next))) (Dj.app (i262.dj (i211.djn (hm98.lt.le (ntr (ntr (ntr (ntr (ntr e108.next e129.next) e145.next) e158.next) e172.next) e185.next))) (hm98.lt.le (ntr (ntr (ntr (ntr (ntr (ntr e108.next e129.next) e145.next) e158.next) e172.next) e185.next) e204.next))) (i148.djn (hm98.lt.le (ntr e108.next e129.next))))))
   have u325 := (m261.fr e308 (Dj.app (i149.djn (hm110.lt.le e129.next)) (Dj.app (i262.dj (i211.djn (hm110.lt.le (ntr (ntr (ntr (ntr e129.next e145.next) e158.next) e172.next) e185.next))) (hm110.lt.le (ntr (ntr (ntr (ntr (ntr e129.next e145.next) e158.next) e172.next) e185.next) e204.next))) (i148.djn (hm110.lt.le e129.next)))))
   have u326 := (u281.frS e308 (Dj.app (i149.djn r131.ltF) (Dj.app (i262.dj (i211.djn (r131.ltF.le (ntr (ntr (ntr e145.next e158.next) e172.next) e185.next))) (r131.ltF.le (ntr (ntr (ntr (ntr e145.next e158.next) e172.next) e185.next) e204.next))) (i148.djn r131.ltF))))
   obtain ⟨y327, hy328, r329⟩ := bind_some r317
   refine s_ck 46 #[pt_ b127 0, i_ y282.1, .int .u64 y282.2.1, i_ hops] (by kernel_rfl) (c_search_state_settle e308.wf u319 u320 u321 m310 m309 m311 u322 u323 u324 u325 u326 (Dj.symm (hb130.djn hm110.lt)) (hf109.djn hm98.lt) (Dj.symm (i148.djn (hm110.lt.le e129.next))) (Dj.symm (i262.dj (i211.djn (hm110.lt.le (ntr (ntr (ntr (ntr e129.next e145.next) e158.next) e172.next) e185.next))) (hm110.lt.le (ntr (ntr (ntr (ntr (ntr e129.next e145.next) e158.next) e172.next) e185.next) e204.next)))) (Dj.symm (i149.djn (hm110.lt.le e129.next))) (Dj.symm (i175.djn (hm110.lt.le (ntr (ntr e129.next e145.next) e158.next)))) (Dj.symm (i176.djn (hm110.lt.le (ntr (ntr e129.next e145.next) e158.next)))) (hf109.djn (h_First.lt.le (ntr (ntr (ntr e69.next e75.next) e88.next) e96.next))) (hf109.djn (h_To.lt.le (ntr (ntr (ntr e69.next e75.next) e88.next) e96.next))) (hf109.djn (h_Weight.lt.le (ntr (ntr (ntr e69.next e75.next) e88.next) e96.next))) (Dj.symm d177) (i175.djn (r131.ltF.le (ntr e145.next e158.next))) (i176.djn (r131.ltF.le (ntr e145.next e158.next))) (i175.djn (hm98.lt.le (ntr (ntr (ntr e108.next e129.next) e145.next) e158.next))) (i176.djn (hm98.lt.le (ntr (ntr (ntr e108.next e129.next) e145.next) e158.next))) (Dj.symm (hb130.djn (hm98.lt.le e108.next))) (Dj.symm (i262.dj (i211.djn (m173.lt.le e185.next)) (m173.lt.le (ntr e185.next e204.next)))) (Dj.symm (i262.dj (i211.djn (m174.ltF.le e185.next)) (m174.ltF.le (ntr e185.next e204.next)))) (Dj.symm (i262.dj (i211.djn (hm98.lt.le (ntr (ntr (ntr (ntr (ntr e108.next e129.next) e145.next) e158.next) e172.next) e185.next))) (hm98.lt.le (ntr (ntr (ntr (ntr (ntr (ntr e108.next e129.next) e145.next) e158.next) e172.next) e185.next) e204.next)))) (i175.djn (m146.lt.le e158.next)) (i176.djn (m146.lt.le e158.next)) (Dj.symm (i148.djn (hm98.lt.le (ntr e108.next e129.next)))) (i175.djn (m147.ltF.le e158.next)) (i176.djn (m147.ltF.le e158.next)) (Dj.symm (i149.djn (hm98.lt.le (ntr e108.next e129.next)))) (i262.dj (i211.djn (m147.ltF.le (ntr (ntr e158.next e172.next) e185.next))) (m147.ltF.le (ntr (ntr (ntr e158.next e172.next) e185.next) e204.next))) (i262.dj (i211.djn (m146.lt.le (ntr (ntr e158.next e172.next) e185.next))) (m146.lt.le (ntr (ntr (ntr e158.next e172.next) e185.next) e204.next))) (Dj.symm d150) (i148.djn r131.ltF) (i262.dj (i211.djn (r131.ltF.le (ntr (ntr (ntr e145.next e158.next) e172.next) e185.next))) (r131.ltF.le (ntr (ntr (ntr (ntr e145.next e158.next) e172.next) e185.next) e204.next))) (i149.djn r131.ltF) (i175.djn (h_First.lt.le (ntr (ntr (ntr (ntr (ntr (ntr (ntr e69.next e75.next) e88.next) e96.next) e108.next) e129.next) e145.next) e158.next))) (i148.djn (h_First.lt.le (ntr (ntr (ntr (ntr (ntr e69.next e75.next) e88.next) e96.next) e108.next) e129.next))) (i262.dj (i211.djn (h_First.lt.le (ntr (ntr (ntr (ntr (ntr (ntr (ntr (ntr (ntr e69.next e75.next) e88.next) e96.next) e108.next) e129.next) e145.next) e158.next) e172.next) e185.next))) (h_First.lt.le (ntr (ntr (ntr (ntr (ntr (ntr (ntr (ntr (ntr (ntr e69.next e75.next) e88.next) e96.next) e108.next) e129.next) e145.next) e158.next) e172.next) e185.next) e204.next))) (hf97.djn (h_First.lt.le (ntr (ntr e69.next e75.next) e88.next))) (i176.djn (h_First.lt.le (ntr (ntr (ntr (ntr (ntr (ntr (ntr e69.next e75.next) e88.next) e96.next) e108.next) e129.next) e145.next) e158.next))) (i149.djn (h_First.lt.le (ntr (ntr (ntr (ntr (ntr e69.next e75.next) e88.next) e96.next) e108.next) e129.next))) (i175.djn (h_To.lt.le (ntr (ntr (ntr (ntr (ntr (ntr (ntr e69.next e75.next) e88.next) e96.next) e108.next) e129.next) e145.next) e158.next))) (i148.djn (h_To.lt.le (ntr (ntr (ntr (ntr (ntr e69.next e75.next) e88.next) e96.next) e108.next) e129.next))) (i262.dj (i211.djn (h_To.lt.le (ntr (ntr (ntr (ntr (ntr (ntr (ntr (ntr (ntr e69.next e75.next) e88.next) e96.next) e108.next) e129.next) e145.next) e158.next) e172.next) e185.next))) (h_To.lt.le (ntr (ntr (ntr (ntr (ntr (ntr (ntr (ntr (ntr (ntr e69.next e75.next) e88.next) e96.next) e108.next) e129.next) e145.next) e158.next) e172.next) e185.next) e204.next))) (hf97.djn (h_To.lt.le (ntr (ntr e69.next e75.next) e88.next))) (i176.djn (h_To.lt.le (ntr (ntr (ntr (ntr (ntr (ntr (ntr e69.next e75.next) e88.next) e96.next) e108.next) e129.next) e145.next) e158.next))) (i149.djn (h_To.lt.le (ntr (ntr (ntr (ntr (ntr e69.next e75.next) e88.next) e96.next) e108.next) e129.next))) (i175.djn (h_Weight.lt.le (ntr (ntr (ntr (ntr (ntr (ntr (ntr e69.next e75.next) e88.next) e96.next) e108.next) e129.next) e145.next) e158.next))) (i148.djn (h_Weight.lt.le (ntr (ntr (ntr (ntr (ntr e69.next e75.next) e88.next) e96.next) e108.next) e129.next))) (i262.dj (i211.djn (h_Weight.lt.le (ntr (ntr (ntr (ntr (ntr (ntr (ntr (ntr (ntr e69.next e75.next) e88.next) e96.next) e108.next) e129.next) e145.next) e158.next) e172.next) e185.next))) (h_Weight.lt.le (ntr (ntr (ntr (ntr (ntr (ntr (ntr (ntr (ntr (ntr e69.next e75.next) e88.next) e96.next) e108.next) e129.next) e145.next) e158.next) e172.next) e185.next) e204.next))) (hf97.djn (h_Weight.lt.le (ntr (ntr e69.next e75.next) e88.next))) (i176.djn (h_Weight.lt.le (ntr (ntr (ntr (ntr (ntr (ntr (ntr e69.next e75.next) e88.next) e96.next) e108.next) e129.next) e145.next) e158.next))) (i149.djn (h_Weight.lt.le (ntr (ntr (ntr (ntr (ntr e69.next e75.next) e88.next) e96.next) e108.next) e129.next))) (i175.djn (hm110.lt.le (ntr (ntr e129.next e145.next) e158.next))) (i148.djn (hm110.lt.le e129.next)) (i262.dj (i211.djn (hm110.lt.le (ntr (ntr (ntr (ntr e129.next e145.next) e158.next) e172.next) e185.next))) (hm110.lt.le (ntr (ntr (ntr (ntr (ntr e129.next e145.next) e158.next) e172.next) e185.next) e204.next))) (i176.djn (hm110.lt.le (ntr (ntr e129.next e145.next) e158.next))) (i149.djn (hm110.lt.le e129.next)) (i262.dj (i211.djn (m173.lt.le e185.next)) (m173.lt.le (ntr e185.next e204.next))) (i262.dj (i211.djn (m174.ltF.le e185.next)) (m174.ltF.le (ntr e185.next e204.next))) (i262.dj (i211.djn (hm98.lt.le (ntr (ntr (ntr (ntr (ntr e108.next e129.next) e145.next) e158.next) e172.next) e185.next))) (hm98.lt.le (ntr (ntr (ntr (ntr (ntr (ntr e108.next e129.next) e145.next) e158.next) e172.next) e185.next) e204.next))) hy328) ?_
   rintro _ H332 ⟨s330, f331, rfl, e333, m334, m335, m336, m337, m338, m339, m340, i341⟩
   obtain ⟨a343, n344, c345, rfl⟩ := m335.form
   refine s_nil (k279 _ _ (g_' (q_ (i_ count6) ?_)))
   obtain ⟨g346, r347⟩ := G_some r329
   refine w_' (count6 + 1) (wrap64 g346) ?_
   refine q_ (i_ (count6 + 1)) (s_nil ?_)
   obtain rfl := Option.some.inj r347
   exact k270 n265 _ _ (Nat.lt_succ_self _) ⟨y327.2.1, y327.1, y327.2.2.1, y327.2.2.2.1, y327.2.2.2.2.1, y327.2.2.2.2.2, (count6 + 1), (.slice a343 n344 c345), f331, hn268, ha_, (FrS.step e204.wf (FrS.step e204.wf (FrS.step e204.wf (FrS.refl (W := ([b143] ++ ([b170] ++ (f106 ++ (f142 ++ (f169 ++ (f202 ++ f94))))))) e204.wf) e245 (Inn.app Inn.left (Inn.app (Inn.right Inn.left) (Inn.app (Inn.right (Inn.right Inn.left)) (Inn.app (Inn.right (Inn.right (Inn.right Inn.left))) (Inn.app (Inn.right (Inn.right (Inn.right (Inn.right Inn.left)))) (Inn.app (Inn.right (Inn.right (Inn.right (Inn.right (Inn.right Inn.left))))) (Inn.right (Inn.right (Inn.right (Inn.right (Inn.right (Inn.right Inn.refl'))))))))))))) e308 (Inn.app Inn.left (Inn.app (Inn.trans (Inn.right (Inn.right (Inn.right (Inn.right (Inn.right Inn.left))))) (Nat.le_refl _) i262) (Inn.right (Inn.right (Inn.right Inn.left)))))) e333 (Inn.app Inn.left (Inn.app (Inn.right Inn.left) (Inn.app (Inn.right (Inn.right (Inn.right (Inn.right (Inn.right (Inn.right Inn.refl')))))) (Inn.app (Inn.right (Inn.right Inn.left)) (Inn.app (Inn.trans (Inn.right (Inn.right (Inn.right (Inn.right (Inn.right Inn.left))))) (Nat.le_refl _) i262) (Inn.app (Inn.right (Inn.right (Inn.right Inn.left))) (Inn.right (Inn.right (Inn.right (Inn.right Inn.left))))))))))), m335, m334, m336, m337, m338, m339, m340, (Inn.trans (Inn.trans Inn.refl' (Nat.le_refl _) i262) (ntr e245.next e308.next) i341)⟩
  have r348 := ite_f h277 hz267
  refine w_exit (th_exit (th_exit (bl_eq ?_)))
  obtain rfl := Option.some.inj r348
  obtain rfl := it_inr hn268
  exact k240 _ _ ⟨(.slice a271 n272 c273), f249, ha_, (FrS.step e204.wf (FrS.refl (W := ([b143] ++ ([b170] ++ (f106 ++ (f142 ++ (f169 ++ (f202 ++ f94))))))) e204.wf) e245 (Inn.app Inn.left (Inn.app (Inn.right Inn.left) (Inn.app (Inn.right (Inn.right Inn.left)) (Inn.app (Inn.right (Inn.right (Inn.right Inn.left))) (Inn.app (Inn.right (Inn.right (Inn.right (Inn.right Inn.left)))) (Inn.app (Inn.right (Inn.right (Inn.right (Inn.right (Inn.right Inn.left))))) (Inn.right (Inn.right (Inn.right (Inn.right (Inn.right (Inn.right Inn.refl'))))))))))))), m247, m251, m253, m255, m257, m259, m261, (Inn.trans Inn.refl' (Nat.le_refl _) i262)⟩
 obtain ⟨s225, f226, hh241, e222, m224, m228, m230, m232, m234, m236, m238, i239⟩ := hM
 obtain ⟨β, rfl⟩ := has_ex hh241
 clear hh241
 obtain ⟨a349, n350, c351, rfl⟩ := m224.form
 refine k216 _ _ (w_seqk fun _ k352 => g_' (q_ (pt_ b127 0) (q_ (pt_ b127 0) (s_nil (k352 _ _ ?_)))))
 refine w_ret ?_
 refine b_ret (fn := Tryz.f22) (vs := [pt_ b127 0]) (aRes_tmp (by kernel_rfl) (rfl)) ?_
 have u353 := ((r186.frS e204 (Dj.app (i149.djn r131.ltF) (Dj.app (i176.djn (r131.ltF.le (ntr e145.next e158.next))) (Dj.app (Dj.symm (hb130.djn (hm98.lt.le e108.next))) (Dj.app Dj.nil_l (Dj.app (i148.djn r131.ltF) (i175.djn (r131.ltF.le (ntr e145.next e158.next))))))))).frS e222 (Dj.app (i149.djn r131.ltF) (Dj.app (i176.djn (r131.ltF.le (ntr e145.next e158.next))) (Dj.app (Dj.symm (hb130.djn hm110.lt)) (Dj.app (i148.djn r131.ltF) (Dj.app (i175.djn (r131.ltF.le (ntr e145.next e158.next))) (Dj.app (i211.djn (r131.ltF.le (ntr (ntr (ntr e145.next e158.next) e172.next) e185.next))) (Dj.symm (hb130.djn (hm98.lt.le e108.next))))))))))
 obtain rfl := Option.some.inj r220
 exact ⟨(.slice a349 n350 c351), f226, (.slice a153 n154 c155), f142, b143, (.slice a180 n181 c182), f169, b170, (.slice a99 n100 c101), f94, (.slice a111 n112 c113), f106, b127, rfl, (FrS.step wf (FrS.step wf (FrS.step wf (FrS.step wf (FrS.step wf (FrS.step wf ((((FrS.step wf (((FrS.refl (W := []) wf).extR e69).extR e75) e88 Inn.nil).extR e96).extR e108).extR e129) e145 Inn.nil) e158 (hb130.fresh (ntr (ntr (ntr (ntr e69.next e75.next) e88.next) e96.next) e108.next))) e172 Inn.nil) e185 (hb130.fresh (ntr (ntr (ntr (ntr e69.next e75.next) e88.next) e96.next) e108.next))) e204 (Inn.app (i149.fresh (ntr (ntr (ntr (ntr (ntr e69.next e75.next) e88.next) e96.next) e108.next) e129.next)) (Inn.app (i176.fresh (ntr (ntr (ntr (ntr (ntr (ntr (ntr e69.next e75.next) e88.next) e96.next) e108.next) e129.next) e145.next) e158.next)) (Inn.app (hf97.fresh (ntr (ntr e69.next e75.next) e88.next)) (Inn.app Inn.nil (Inn.app (i148.fresh (ntr (ntr (ntr (ntr (ntr e69.next e75.next) e88.next) e96.next) e108.next) e129.next)) (i175.fresh (ntr (ntr (ntr (ntr (ntr (ntr (ntr e69.next e75.next) e88.next) e96.next) e108.next) e129.next) e145.next) e158.next)))))))) e222 (Inn.app (i149.fresh (ntr (ntr (ntr (ntr (ntr e69.next e75.next) e88.next) e96.next) e108.next) e129.next)) (Inn.app (i176.fresh (ntr (ntr (ntr (ntr (ntr (ntr (ntr e69.next e75.next) e88.next) e96.next) e108.next) e129.next) e145.next) e158.next)) (Inn.app (hf109.fresh (ntr (ntr (ntr e69.next e75.next) e88.next) e96.next)) (Inn.app (i148.fresh (ntr (ntr (ntr (ntr (ntr e69.next e75.next) e88.next) e96.next) e108.next) e129.next)) (Inn.app (i175.fresh (ntr (ntr (ntr (ntr (ntr (ntr (ntr e69.next e75.next) e88.next) e96.next) e108.next) e129.next) e145.next) e158.next)) (Inn.app (i211.fresh (ntr (ntr (ntr (ntr (ntr (ntr (ntr (ntr (ntr e69.next e75.next) e88.next) e96.next) e108.next) e129.next) e145.next) e158.next) e172.next) e185.next)) (hf97.fresh (ntr (ntr e69.next e75.next) e88.next))))))))), m224, m228, m230, m232, m234, m236, m238, u353, (Inn.trans (i211.fresh (ntr (ntr (ntr (ntr (ntr (ntr (ntr (ntr (ntr e69.next e75.next) e88.next) e96.next) e108.next) e129.next) e145.next) e158.next) e172.next) e185.next)) (ntr (ntr (ntr (ntr (ntr (ntr (ntr (ntr (ntr (ntr e69.next e75.next) e88.next) e96.next) e108.next) e129.next) e145.next) e158.next) e172.next) e185.next) e204.next) i239), (i148.fresh (ntr (ntr (ntr (ntr (ntr e69.next e75.next) e88.next) e96.next) e108.next) e129.next)), (i149.fresh (ntr (ntr (ntr (ntr (ntr e69.next e75.next) e88.next) e96.next) e108.next) e129.next)), (i175.fresh (ntr (ntr (ntr (ntr (ntr (ntr (ntr e69.next e75.next) e88.next) e96.next) e108.next) e129.next) e145.next) e158.next)), (i176.fresh (ntr (ntr (ntr (ntr (ntr (ntr (ntr e69.next e75.next) e88.next) e96.next) e108.next) e129.next) e145.next) e158.next)), (hf97.fresh (ntr (ntr e69.next e75.next) e88.next)), (hf109.fresh (ntr (ntr (ntr e69.next e75.next) e88.next) e96.next)), (hb130.fresh (ntr (ntr (ntr (ntr e69.next e75.next) e88.next) e96.next) e108.next)), (i239.dj (i211.djn (m146.lt.le (ntr (ntr e158.next e172.next) e185.next))) (m146.lt.le (ntr (ntr (ntr e158.next e172.next) e185.next) e204.next))), (i239.dj (i211.djn (m147.ltF.le (ntr (ntr e158.next e172.next) e185.next))) (m147.ltF.le (ntr (ntr (ntr e158.next e172.next) e185.next) e204.next))), d150, (i239.dj (i211.djn (m173.lt.le e185.next)) (m173.lt.le (ntr e185.next e204.next))), (Dj.symm (i175.djn (m146.lt.le e158.next))), (Dj.symm (i175.djn (m147.ltF.le e158.next))), (i239.dj (i211.djn (m174.ltF.le e185.next)) (m174.ltF.le (ntr e185.next e204.next))), (Dj.symm (i176.djn (m146.lt.le e158.next))), (Dj.symm (i176.djn (m147.ltF.le e158.next))), d177, (i239.dj (i211.djn (hm98.lt.le (ntr (ntr (ntr (ntr (ntr e108.next e129.next) e145.next) e158.next) e172.next) e185.next))) (hm98.lt.le (ntr (ntr (ntr (ntr (ntr (ntr e108.next e129.next) e145.next) e158.next) e172.next) e185.next) e204.next))), (i148.djn (hm98.lt.le (ntr e108.next e129.next))), (i149.djn (hm98.lt.le (ntr e108.next e129.next))), (i175.djn (hm98.lt.le (ntr (ntr (ntr e108.next e129.next) e145.next) e158.next))), (i176.djn (hm98.lt.le (ntr (ntr (ntr e108.next e129.next) e145.next) e158.next))), (i239.dj (i211.djn (hm110.lt.le (ntr (ntr (ntr (ntr e129.next e145.next) e158.next) e172.next) e185.next))) (hm110.lt.le (ntr (ntr (ntr (ntr (ntr e129.next e145.next) e158.next) e172.next) e185.next) e204.next))), (i148.djn (hm110.lt.le e129.next)), (i149.djn (hm110.lt.le e129.next)), (i175.djn (hm110.lt.le (ntr (ntr e129.next e145.next) e158.next))), (i176.djn (hm110.lt.le (ntr (ntr e129.next e145.next) e158.next))), (Dj.symm (hf109.djn hm98.lt)), (i239.dj (i211.djn (r131.ltF.le (ntr (ntr (ntr e145.next e158.next) e172.next) e185.next))) (r131.ltF.le (ntr (ntr (ntr (ntr e145.next e158.next) e172.next) e185.next) e204.next))), (i148.djn r131.ltF), (i149.djn r131.ltF), (i175.djn (r131.ltF.le (ntr e145.next e158.next))), (i176.djn (r131.ltF.le (ntr e145.next e158.next))), (Dj.symm (hb130.djn (hm98.lt.le e108.next))), (Dj.symm (hb130.djn hm110.lt))⟩
theorem c_search_state_all {H : AH} {b_st : Nat} {hd_st_ : Value} {fp_st_ : Fp} {hd_st_2 : Value} {fp_st_2 : Fp} {hd_st_3 : Value} {fp_st_3 : Fp} {b_st_4 : Nat} {hd_st_5 : Value} {fp_st_5 : Fp} {hd_st_6 : Value} {fp_st_6 : Fp} {b_st_7 : Nat} {hd_st_8 : Value} {fp_st_8 : Fp} {hd_st_11 : Value} {fp_st_11 : Fp} {hd_st_12 : Value} {fp_st_12 : Fp} {st_ : List (Int)} {st_2 : List (Int)} {st_3 : List (Int)} {st_5 : List (Int × Int)} {st_6 : List (Int)} {st_8 : List (Int × Int)} {st_9 : Int} {st_10 : Int} {st_11 : List (Int)} {st_12 : List (Bool)} {r : List (Int)}
    (wf : WF H) (h_st_ : Sq (encI .i64) 1 H hd_st_ st_ fp_st_) (h_st_2 : Sq (encI .i64) 1 H hd_st_2 st_2 fp_st_2) (h_st_3 : Sq (encI .i64) 1 H hd_st_3 st_3 fp_st_3) (h_st_5 : Sq enc_u64_u32 2 H hd_st_5 st_5 fp_st_5) (h_st_6 : Sq (encI .i64) 1 H hd_st_6 st_6 fp_st_6) (h_st_4 : Row H b_st_4 [hd_st_5, hd_st_6]) (h_st_8 : Sq enc_u64_u32 2 H hd_st_8 st_8 fp_st_8) (h_st_7 : Row H b_st_7 [hd_st_8, .int .u32 st_9, i_ st_10]) (h_st_11 : Sq (encI .i64) 1 H hd_st_11 st_11 fp_st_11) (h_st_12 : Sq encB 1 H hd_st_12 st_12 fp_st_12) (h_st : Row H b_st [hd_st_, hd_st_2, hd_st_3, pt_ b_st_4 0, pt_ b_st_7 0, hd_st_11, hd_st_12]) (hr : z_search_state_all st_ st_2 st_3 st_5 st_6 st_8 st_9 st_10 st_11 st_12 = some r) :
    ACalls Tryz.prog 24 #[pt_ b_st 0] H fun v H' => ∃ (s3 : Value) (f4 : Fp), v = s3 ∧ FrS [] H H' ∧ Ow (encI .u64) 1 H' s3 r f4 ∧ Inn [] H f4 := by
 refine acalls_of_body mixed Tryz.func24 rfl (Nat.le_of_ble_eq_true rfl) ?_
 unfold z_search_state_all at hr
 refine w_seqk fun _ k6 => g_' (q_ (.slice none 0 0) (s_nil (k6 _ _ (w_seqk fun _ k7 => g_' (q_ (pt_ b_st 0) (q_ (pt_ b_st 0) (q_ (pt_ b_st 0) ?_)))))))
 refine l_' (.agg #[hd_st_, hd_st_2, hd_st_3]) (aLoad Tryz.prog 25 (pt_ b_st 0) H) (h_st.ld (by kernel_rfl)) ?_
 obtain ⟨y8, hy9, r10⟩ := bind_some hr
 refine s_ck 35 #[.agg #[hd_st_, hd_st_2, hd_st_3]] (by kernel_rfl) (c_search_nodes wf h_st_ h_st_2 h_st_3 hy9) ?_
 rintro _ H11 ⟨rfl, e12⟩
 obtain ⟨g13, r14⟩ := G_some r10
 refine s_mks (t := 29) (m := 8) (l := y8) (c := y8) (enc := (encI .u64)) (sz := 1) e12.wf (0 : Int) (by kernel_rfl) (by decide) g13.1 (Int.le_refl _) (by omega) (by have := g13; omega) (by kernel_rfl) fun s15 f16 H17 e18 hf19 hm20 => ?_
 obtain ⟨a21, n22, c23, rfl⟩ := hm20.form
 have hm20 : Ow (encI .u64) 1 H17 (.slice a21 n22 c23) (List.replicate y8.toNat (0 : Int)) f16 := hm20
 refine q_ (.slice a21 n22 c23) (s_nil (k7 _ _ (w_seqk fun _ k25 => w_seqk fun _ k26 => g_' (q_ (.slice a21 n22 c23) ?_))))
 refine l_' (i_ ((List.replicate y8.toNat (0 : Int)).length : Int)) (aLen Tryz.prog 29 (.slice a21 n22 c23) H17) (hm20.sq.lenb (by kernel_rfl)) ?_
 refine q_ (i_ 0) (s_nil (k26 _ _ ?_))
 obtain ⟨o27, hx28, r29⟩ := bind_some r14
 refine w_mid (fun α H30 => Has α [(3, .slice a21 n22 c23)] ∧ FrS f16 H17 H30 ∧ Ow (encI .u64) 1 H30 (.slice a21 n22 c23) o27 f16) (fun _ k34 => ?_) (fun α H30 hM => ?_)
 ·refine w_block ?_
  obtain ⟨n36, hn37⟩ := loopO_iff.1 hx28
  refine w_loopn (fun n α H38 => ∃ (i0 : Int), ∃ (l1 : List (Int)), iterO (fun zz_ => z_search_state_all_l0 st_8 st_9 st_10 y8 zz_.1 zz_.2) n (i0, l1) = some o27 ∧ Has α [(0, pt_ b_st 0), (3, .slice a21 n22 c23), (14, i_ ((List.replicate y8.toNat (0 : Int)).length : Int)), (15, i_ i0)] ∧ FrS f16 H17 H38 ∧ Ow (encI .u64) 1 H38 (.slice a21 n22 c23) l1 f16) n36 ⟨0, (List.replicate y8.toNat (0 : Int)), hn37, ha_, (FrS.refl (W := f16) e18.wf), hm20⟩ ?_
  rintro n36 α H38 ⟨i0, l1, hi43, hh42, e39, m41⟩ K48 k48
  obtain ⟨n44, z45, rfl, hz46, hn47⟩ := iter_succ hi43
  obtain ⟨β, rfl⟩ := has_ex hh42
  clear hh42
  replace hz46 : z_search_state_all_l0 st_8 st_9 st_10 y8 i0 l1 = some z45 := hz46
  unfold z_search_state_all_l0 at hz46
  refine w_seqk fun _ k49 => g_' (q_ (.bool (decide (i0 < ((List.replicate y8.toNat (0 : Int)).length : Int)))) (s_nil (k49 _ _ (w_seqk fun _ k50 => ?_))))
  refine w_condp (i0 < ((List.replicate y8.toNat (0 : Int)).length : Int)) (by kernel_rfl) rfl (fun h51 => ?_) (fun h51 => ?_)
  ·have r52 := ite_t h51 hz46
   refine w_skip (k50 _ _ (w_seqk fun _ k53 => w_block (w_seqk fun _ k54 => g_' (q_ (i_ i0) (q_ (i_ i0) (s_nil (k54 _ _ (w_seqk fun _ k55 => g_' (q_ (pt_ b_st 0) (q_ (pt_ b_st 0) (q_ (pt_ b_st 4) ?_)))))))))))
   have u56 := (((h_st.frS e12 Dj.nil_l).ext e18).frS e39 (hf19.djn (h_st.ltF.le e12.next)))
   refine l_' (pt_ b_st_7 0) (aLoad Tryz.prog 72 (pt_ b_st 4) H38) (u56.ld (by kernel_rfl)) ?_
   refine q_ (i_ i0) ?_
   have u57 := (((h_st_8.fr e12 Dj.nil_l).ext e18).fr e39 (hf19.djn (h_st_8.lt.le e12.next)))
   have u58 := (((h_st_7.frS e12 Dj.nil_l).ext e18).frS e39 (hf19.djn (h_st_7.ltF.le e12.next)))
   obtain ⟨y59, hy60, r61⟩ := bind_some r52
   refine s_ck 31 #[pt_ b_st_7 0, i_ i0] (by kernel_rfl) (c_stamp_Stamp_Get e39.wf u57 u58 hy60) ?_
   rintro _ _ ⟨rfl, rfl⟩
   refine q_ (.tuple #[.int .u64 y59.1, .bool y59.2]) (q_ (.int .u64 y59.1) (q_ (.bool y59.2) (q_ (.int .u64 y59.1) (q_ (.bool y59.2) (s_nil (k55 _ _ (w_seqk fun _ k64 => w_seqk fun _ k65 => g_' (q_ (.bool y59.2) (q_ (.bool (!y59.2)) (s_nil (k65 _ _ ?_)))))))))))
   refine w_cond ((!y59.2)) (by kernel_rfl) rfl (fun h66 => ?_) (fun h66 => ?_)
   ·have r67 := ite_t h66 r61
    refine g_' (q_ (.int .u64 18446744073709551615) (s_nil (k64 _ _ (g_' (q_ (.slice a21 n22 c23) (q_ (i_ i0) (q_ (.int .u64 18446744073709551615) ?_)))))))
    obtain ⟨g68, r69⟩ := G_some r67
    refine l_' (elp (.slice a21 n22 c23) 1 i0.toNat 0) (aIndexAddr Tryz.prog 29 (.slice a21 n22 c23) (i_ i0)) (m41.sq.idxb (by kernel_rfl) g68.1 g68.2) ?_
    obtain ⟨H70, q71, e72, hm73⟩ := Ow.store (P := Tryz.prog) (t := 37) (off := 0) e39.wf m41 g68.1 g68.2 (.int .u64 18446744073709551615) [.int .u64 18446744073709551615] (by kernel_rfl) (by kernel_rfl) rfl 18446744073709551615 (Nat.le_of_ble_eq_true rfl) (by kernel_rfl)
    refine s_ek (undef) (by kernel_rfl) (map_ok q71) ?_
    refine s_nil (k53 _ _ (g_' ?_))
    obtain ⟨g74, r75⟩ := G_some r69
    refine w_' (i0 + 1) (wrap64 (by have := g74; omega)) ?_
    refine q_ (i_ (i0 + 1)) (s_nil ?_)
    obtain rfl := Option.some.inj r75
    exact k48 n44 _ _ (Nat.lt_succ_self _) ⟨(i0 + 1), (l1.set i0.toNat 18446744073709551615), hn47, ha_, (FrS.step e18.wf (FrS.step e18.wf (FrS.refl (W := f16) e18.wf) e39 Inn.refl') e72 Inn.refl'), hm73⟩
   have r76 := ite_bf h66 r61
   refine w_skip (k64 _ _ (g_' (q_ (.slice a21 n22 c23) (q_ (i_ i0) (q_ (.int .u64 y59.1) ?_)))))
   obtain ⟨g77, r78⟩ := G_some r76
   refine l_' (elp (.slice a21 n22 c23) 1 i0.toNat 0) (aIndexAddr Tryz.prog 29 (.slice a21 n22 c23) (i_ i0)) (m41.sq.idxb (by kernel_rfl) g77.1 g77.2) ?_
   obtain ⟨H79, q80, e81, hm82⟩ := Ow.store (P := Tryz.prog) (t := 37) (off := 0) e39.wf m41 g77.1 g77.2 (.int .u64 y59.1) [.int .u64 y59.1] (by kernel_rfl) (by kernel_rfl) rfl y59.1 (Nat.le_of_ble_eq_true rfl) (by kernel_rfl)
   refine s_ek (undef) (by kernel_rfl) (map_ok q80) ?_
   refine s_nil (k53 _ _ (g_' ?_))
   obtain ⟨g83, r84⟩ := G_some r78
   refine w_' (i0 + 1) (wrap64 (by have := g83; omega)) ?_
   refine q_ (i_ (i0 + 1)) (s_nil ?_)
   obtain rfl := Option.some.inj r84
   exact k48 n44 _ _ (Nat.lt_succ_self _) ⟨(i0 + 1), (l1.set i0.toNat y59.1), hn47, ha_, (FrS.step e18.wf (FrS.step e18.wf (FrS.refl (W := f16) e18.wf) e39 Inn.refl') e81 Inn.refl'), hm82⟩
  have r85 := ite_f h51 hz46
  refine w_exit (th_exit (th_exit (bl_eq ?_)))
  obtain rfl := Option.some.inj r85
  obtain rfl := it_inr hn47
  exact k34 _ _ ⟨ha_, (FrS.step e18.wf (FrS.refl (W := f16) e18.wf) e39 Inn.refl'), m41⟩
 obtain ⟨hh35, e31, m33⟩ := hM
 obtain ⟨β, rfl⟩ := has_ex hh35
 clear hh35
 refine k25 _ _ (w_seqk fun _ k86 => g_' (q_ (.slice a21 n22 c23) (q_ (.slice a21 n22 c23) (s_nil (k86 _ _ ?_)))))
 refine w_ret ?_
 refine b_ret (fn := Tryz.f24) (vs := [.slice a21 n22 c23]) (aRes_tmp (by kernel_rfl) (rfl)) ?_
 obtain rfl := Option.some.inj r29
 exact ⟨(.slice a21 n22 c23), f16, rfl, (FrS.step wf ((FrS.step wf (FrS.refl (W := []) wf) e12 Inn.nil).extR e18) e31 (hf19.fresh e12.next)), m33, (hf19.fresh e12.next)⟩
end Go.Vd

/-! (KSt5) -/

set_option maxRecDepth 100000
set_option maxHeartbeats 4000000
set_option linter.unusedVariables false
namespace Go.Vd
open Go.Proofs
attribute [local irreducible] wpSeq wpOrd aWp
theorem c_search_From {H : AH} {hd_First : Value} {fp_First : Fp} {hd_To : Value} {fp_To : Fp} {hd_Weight : Value} {fp_Weight : Fp} {First : List (Int)} {To : List (Int)} {Weight : List (Int)} {s : Int} {r : List (Int) × Er}
    (wf : WF H) (h_First : Sq (encI .i64) 1 H hd_First First fp_First) (h_To : Sq (encI .i64) 1 H hd_To To fp_To) (h_Weight : Sq (encI .i64) 1 H hd_Weight Weight fp_Weight) (hr : z_search_From First To Weight s = some r) :
    ACalls Tryz.prog 8 #[.agg #[hd_First, hd_To, hd_Weight], i_ s] H fun v H' => ∃ (s3 : Value) (f4 : Fp) (v7 : Value) (f8 : Fp), v = .tuple #[s3, v7] ∧ FrS [] H H' ∧ Ow (encI .u64) 1 H' s3 r.1 f4 ∧ Ev 43 81 H' v7 r.2 f8 ∧ Inn [] H f4 ∧ Inn [] H f8 ∧ Dj f4 f8 := by
 refine acalls_of_body mixed Tryz.func8 rfl (Nat.le_of_ble_eq_true rfl) ?_
 unfold z_search_From at hr
 refine w_seqk fun _ k12 => g_' ?_
 refine s_rwl wf [hd_First, hd_To, hd_Weight] (one_cons (h_First.one1) (one_cons (h_To.one1) (one_cons (h_Weight.one1) (one_nil)))) (by kernel_rfl) fun b13 H14 e15 hb16 r17 => ?_
 refine q_ (.slice none 0 0) (q_ (.nilIface) (s_nil (k12 _ _ (w_seqk fun _ k19 => w_seqk fun _ k20 => g_' ?_))))
 refine l_' (.agg #[hd_First, hd_To, hd_Weight]) (aLoad Tryz.prog 25 (pt_ b13 0) H14) (r17.ld (by kernel_rfl)) ?_
 refine q_ (i_ s) ?_
 refine s_owk (enc := (encI .i64)) (sz := 1) e15.wf [s] 1 (by decide) (fun _ _ => rfl) (fun _ _ => rfl) rfl (by kernel_rfl) fun s21 f22 H23 e24 hf25 hm26 => ?_
 obtain ⟨a27, n28, c29, rfl⟩ := hm26.form
 have u31 := ((h_First.ext e15).ext e24)
 have u32 := ((h_To.ext e15).ext e24)
 have u33 := ((h_Weight.ext e15).ext e24)
 obtain ⟨y34, hy35, r36⟩ := bind_some hr
 refine s_ck 21 #[.agg #[hd_First, hd_To, hd_Weight], .slice a27 n28 c29] (by kernel_rfl) (c_search_node e24.wf u31 u32 u33 hm26.sq hy35) ?_
 rintro v37 H39 ⟨_, f38, rfl, e40, m41, i42⟩
 refine q_ (v37) (s_nil (k20 _ _ (w_seqk fun _ k44 => g_' (q_ (v37) ?_))))
 rcases (m41).cases with ⟨h45, rfl⟩ | ⟨h45, t46, x47, rfl⟩
 ·have r48 := ite_t h45 r36
  refine q_ (.bool false) (s_nil (k44 _ _ ?_))
  refine w_cond false (by kernel_rfl) rfl (fun h => by cases h) (fun _ => ?_)
  refine w_skip (k19 _ _ (w_seqk fun _ k49 => ?_))
  refine w_draw [0, 1, 2, 3, 4, 5, 6] (by kernel_rfl) ?_
  have u50 := ((r17.ext e24).frS e40 Dj.nil_l)
  refine d_fl (.agg #[hd_First, hd_To, hd_Weight]) (x := aLoad Tryz.prog 25 (pt_ b13 0) H39) (by kernel_rfl) (u50.ld (by kernel_rfl)) ?_
  refine e_' (i_ s) ?_
  obtain ⟨y51, hy52, r53⟩ := bind_some r48
  refine d_ck 23 #[] (by kernel_rfl) (c_search_free e40.wf hy52) ?_
  rintro _ H54 ⟨rfl, e55⟩
  have u56 := (u50.frS e55 Dj.nil_l)
  refine ⟨st_ql (y := aLoad Tryz.prog 25 (pt_ b13 0) H54) (by kernel_rfl) (u56.ld (by kernel_rfl)) (st_nil), ?_⟩
  have u57 := ((u31.fr e40 Dj.nil_l).fr e55 Dj.nil_l)
  have u58 := ((u32.fr e40 Dj.nil_l).fr e55 Dj.nil_l)
  have u59 := ((u33.fr e40 Dj.nil_l).fr e55 Dj.nil_l)
  obtain ⟨y60, hy61, r62⟩ := bind_some r53
  refine d_ck 22 #[.agg #[hd_First, hd_To, hd_Weight], i_ s, .agg #[i_ 4611686018427387904, i_ 4611686018427387904, .int .u64 18446744073709551615]] (by kernel_rfl) (c_search_run e55.wf u57 u58 u59 hy61) ?_
  rintro _ H76 ⟨s63, f64, s65, f66, b67, s68, f69, b70, s71, f72, s73, f74, b75, rfl, e77, m78, m79, m80, m81, m82, m83, m84, m85, i86, i87, i88, i89, i90, i91, i92, i93, d94, d95, d96, d97, d98, d99, d100, d101, d102, d103, d104, d105, d106, d107, d108, d109, d110, d111, d112, d113, d114, d115, d116, d117, d118, d119, d120, d121⟩
  obtain ⟨a130, n131, c132, rfl⟩ := m78.form
  obtain ⟨a133, n134, c135, rfl⟩ := m79.form
  obtain ⟨a136, n137, c138, rfl⟩ := m81.form
  obtain ⟨a139, n140, c141, rfl⟩ := m83.form
  obtain ⟨a142, n143, c144, rfl⟩ := m84.form
  refine ⟨st_anc (by kernel_rfl) (st_nil), ?_⟩
  have u145 := (u57.fr e77 Dj.nil_l)
  have u146 := (u58.fr e77 Dj.nil_l)
  have u147 := (u59.fr e77 Dj.nil_l)
  obtain ⟨y148, hy149, r150⟩ := bind_some r62
  refine d_ck 24 #[pt_ b75 0] (by kernel_rfl) (c_search_state_all e77.wf u145 u146 u147 m78.sq m79.sq m80 m81.sq m82 m83.sq m84.sq m85 hy149) ?_
  rintro s151 H153 ⟨_, f152, rfl, e154, m155, i156⟩
  obtain ⟨a158, n159, c160, rfl⟩ := m155.form
  refine ⟨st_anc (by kernel_rfl) (st_nil), ?_⟩
  refine e_' (.slice a158 n159 c160) (e_' (.nilIface) ?_)
  refine d_nil ?_
  refine k49 _ _ ?_
  refine w_ret ?_
  refine b_ret (fn := Tryz.f8) (vs := [.slice a158 n159 c160, .nilIface]) (aRes_tmp (by kernel_rfl) (aRes_tmp (by kernel_rfl) (rfl))) ?_
  obtain rfl := Option.some.inj r150
  exact ⟨(.slice a158 n159 c160), f152, (.nilIface), [], rfl, (FrS.step wf (FrS.step wf (FrS.step wf (FrS.step wf (((FrS.refl (W := []) wf).extR e15).extR e24) e40 Inn.nil) e55 Inn.nil) e77 Inn.nil) e154 Inn.nil), m155, Ev.nil, (i156.fresh (ntr (ntr (ntr (ntr e15.next e24.next) e40.next) e55.next) e77.next)), Inn.nil, Dj.nil_r⟩
 have r161 := ite_f h45 r36
 refine l_' (.bool true) (aBin Tryz.prog .neq 31 (.tmp 11) (.const .nilIface) (.iface t46 x47) .nilIface) (aBin_nnil (by kernel_rfl)) ?_
 refine s_nil (k44 _ _ ?_)
 refine w_cond true (by kernel_rfl) rfl (fun _ => ?_) (fun h => by cases h)
 refine w_seqk fun _ k162 => g_' (q_ (.iface t46 x47) (q_ (.slice none 0 0) (q_ (.iface t46 x47) (s_nil (k162 _ _ ?_)))))
 refine w_ret (th_ret ?_)
 refine b_ret (fn := Tryz.f8) (vs := [.slice none 0 0, .iface t46 x47]) (aRes_tmp (by kernel_rfl) (aRes_tmp (by kernel_rfl) (rfl))) ?_
 obtain rfl := Option.some.inj r161
 exact ⟨(.slice none 0 0), [], (.iface t46 x47), f38, rfl, (FrS.step wf (((FrS.refl (W := []) wf).extR e15).extR e24) e40 Inn.nil), (Ow.nil (by decide)), m41, Inn.nil, (i42.fresh (ntr e15.next e24.next)), Dj.nil_l⟩
theorem c_search_Matrix {H : AH} {hd_First : Value} {fp_First : Fp} {hd_To : Value} {fp_To : Fp} {hd_Weight : Value} {fp_Weight : Fp} {First : List (Int)} {To : List (Int)} {Weight : List (Int)} {r : List (List (Int)) × Er}
    (wf : WF H) (h_First : Sq (encI .i64) 1 H hd_First First fp_First) (h_To : Sq (encI .i64) 1 H hd_To To fp_To) (h_Weight : Sq (encI .i64) 1 H hd_Weight Weight fp_Weight) (hr : z_search_Matrix First To Weight = some r) :
    ACalls Tryz.prog 15 #[.agg #[hd_First, hd_To, hd_Weight]] H fun v H' => ∃ (s3 : Value) (f4 : Fp) (v7 : Value) (f8 : Fp), v = .tuple #[s3, v7] ∧ FrS [] H H' ∧ Nst (CR.sl (encI .u64) 1) H' s3 r.1 f4 ∧ Ev 43 81 H' v7 r.2 f8 ∧ Inn [] H f4 ∧ Inn [] H f8 ∧ Dj f4 f8 := by
 refine acalls_of_body mixed Tryz.func15 rfl (Nat.le_of_ble_eq_true rfl) ?_
 unfold z_search_Matrix at hr
 refine w_seqk fun _ k12 => g_' ?_
 refine s_rwl wf [hd_First, hd_To, hd_Weight] (one_cons (h_First.one1) (one_cons (h_To.one1) (one_cons (h_Weight.one1) (one_nil)))) (by kernel_rfl) fun b13 H14 e15 hb16 r17 => ?_
 refine q_ (.slice none 0 0) (q_ (.nilIface) (s_nil (k12 _ _ (w_seqk fun _ k19 => w_seqk fun _ k20 => g_' ?_))))
 refine l_' (.agg #[hd_First, hd_To, hd_Weight]) (aLoad Tryz.prog 25 (pt_ b13 0) H14) (r17.ld (by kernel_rfl)) ?_
 have u21 := (h_First.ext e15)
 have u22 := (h_To.ext e15)
 have u23 := (h_Weight.ext e15)
 obtain ⟨y24, hy25, r26⟩ := bind_some hr
 refine s_ck 34 #[.agg #[hd_First, hd_To, hd_Weight]] (by kernel_rfl) (c_csr_Check e15.wf u21 u22 u23 hy25) ?_
 rintro v27 H29 ⟨_, f28, rfl, e30, m31, i32⟩
 refine q_ (v27) (s_nil (k20 _ _ (w_seqk fun _ k34 => g_' (q_ (v27) ?_))))
 rcases (m31).cases with ⟨h35, rfl⟩ | ⟨h35, t36, x37, rfl⟩
 ·have r38 := ite_t h35 r26
  refine q_ (.bool false) (s_nil (k34 _ _ ?_))
  refine w_cond false (by kernel_rfl) rfl (fun h => by cases h) (fun _ => ?_)
  refine w_skip (k19 _ _ (w_seqk fun _ k39 => g_' ?_))
  have u40 := (r17.frS e30 Dj.nil_l)
  refine l_' (.agg #[hd_First, hd_To, hd_Weight]) (aLoad Tryz.prog 25 (pt_ b13 0) H29) (u40.ld (by kernel_rfl)) ?_
  have u41 := (u21.fr e30 Dj.nil_l)
  have u42 := (u22.fr e30 Dj.nil_l)
  have u43 := (u23.fr e30 Dj.nil_l)
  obtain ⟨y44, hy45, r46⟩ := bind_some r38
  refine s_ck 35 #[.agg #[hd_First, hd_To, hd_Weight]] (by kernel_rfl) (c_search_nodes e30.wf u41 u42 u43 hy45) ?_
  rintro _ H47 ⟨rfl, e48⟩
  refine q_ (i_ y44) (s_nil (k39 _ _ (w_seqk fun _ k49 => w_seqk fun _ k50 => g_' (q_ (i_ y44) (q_ (i_ y44) ?_)))))
  obtain ⟨g51, r52⟩ := G_some r46
  refine w_' (y44 * y44) (wrap64 g51) ?_
  refine q_ (.bool (decide ((y44 * y44) > 1048576))) (s_nil (k50 _ _ ?_))
  refine w_condp ((y44 * y44) > 1048576) (by kernel_rfl) rfl (fun h53 => ?_) (fun h53 => ?_)
  ·have r54 := ite_t h53 r52
   refine w_seqk fun _ k55 => g_' (q_ (.iface 43 (i_ 9)) (q_ (.slice none 0 0) (q_ (.iface 43 (i_ 9)) (s_nil (k55 _ _ ?_)))))
   refine w_ret (th_ret ?_)
   refine b_ret (fn := Tryz.f15) (vs := [.slice none 0 0, .iface 43 (i_ 9)]) (aRes_tmp (by kernel_rfl) (aRes_tmp (by kernel_rfl) (rfl))) ?_
   obtain rfl := Option.some.inj r54
   exact ⟨(.slice none 0 0), [], (.iface 43 (i_ 9)), [], rfl, (FrS.step wf (FrS.step wf ((FrS.refl (W := []) wf).extR e15) e30 Inn.nil) e48 Inn.nil), Nst.nil, Ev.no, Inn.nil, Inn.nil, Dj.nil_l⟩
  have r56 := ite_f h53 r52
  refine w_skip (k49 _ _ (w_seqk fun _ k57 => g_' (q_ (.slice none 0 0) (s_nil (k57 _ _ (w_seqk fun _ k58 => w_seqk fun _ k59 => g_' (q_ (i_ y44) (q_ (i_ 0) (s_nil (k59 _ _ ?_))))))))))
  obtain ⟨o60, hx61, r62⟩ := bind_some r56
  refine w_mid (fun α H63 => ∃ (s67 : Value) (f68 : Fp), Has α [(6, s67)] ∧ FrS [] H47 H63 ∧ Nst (CR.sl (encI .u64) 1) H63 s67 o60 f68 ∧ Inn [] H47 f68) (fun _ k70 => ?_) (fun α H63 hM => ?_)
  ·refine w_block ?_
   obtain ⟨n72, hn73⟩ := loopO_iff.1 hx61
   refine w_loopn (fun n α H74 => ∃ (i0 : Int), ∃ (l1 : List (List (Int))), ∃ (s78 : Value), ∃ (f79 : Fp), iterO (fun zz_ => z_search_Matrix_l0 First To Weight y44 zz_.1 zz_.2) n (i0, l1) = some o60 ∧ Has α [(1, pt_ b13 0), (6, s78), (20, i_ y44), (21, i_ i0)] ∧ FrS [] H47 H74 ∧ Nst (CR.sl (encI .u64) 1) H74 s78 l1 f79 ∧ Inn [] H47 f79) n72 ⟨0, [], (.slice none 0 0), [], hn73, ha_, (FrS.refl (W := []) e48.wf), Nst.nil, Inn.nil⟩ ?_
   rintro n72 α H74 ⟨i0, l1, s78, f79, hi82, hh81, e75, m77, i80⟩ K87 k87
   obtain ⟨n83, z84, rfl, hz85, hn86⟩ := iter_succ hi82
   obtain ⟨β, rfl⟩ := has_ex hh81
   clear hh81
   replace hz85 : z_search_Matrix_l0 First To Weight y44 i0 l1 = some z84 := hz85
   unfold z_search_Matrix_l0 at hz85
   obtain ⟨a88, n89, c90, rfl⟩ := m77.form
   refine w_seqk fun _ k91 => g_' (q_ (.bool (decide (i0 < y44))) (s_nil (k91 _ _ (w_seqk fun _ k92 => ?_))))
   refine w_condp (i0 < y44) (by kernel_rfl) rfl (fun h93 => ?_) (fun h93 => ?_)
   ·have r94 := ite_t h93 hz85
    refine w_skip (k92 _ _ (w_seqk fun _ k95 => w_block (w_seqk fun _ k96 => g_' (q_ (i_ i0) (q_ (i_ i0) (s_nil (k96 _ _ ?_)))))))
    refine w_draw [0, 1, 2, 3, 4, 5, 6, 7, 8] (by kernel_rfl) ?_
    refine e_' (.slice a88 n89 c90) ?_
    have u97 := ((u40.frS e48 Dj.nil_l).frS e75 Dj.nil_l)
    refine d_fl (.agg #[hd_First, hd_To, hd_Weight]) (x := aLoad Tryz.prog 25 (pt_ b13 0) H74) (by kernel_rfl) (u97.ld (by kernel_rfl)) ?_
    refine e_' (i_ i0) ?_
    obtain ⟨y98, hy99, r100⟩ := bind_some r94
    refine d_ck 23 #[] (by kernel_rfl) (c_search_free e75.wf hy99) ?_
    rintro _ H101 ⟨rfl, e102⟩
    have u103 := (u97.frS e102 Dj.nil_l)
    refine ⟨st_ql (y := aLoad Tryz.prog 25 (pt_ b13 0) H101) (by kernel_rfl) (u103.ld (by kernel_rfl)) (st_nil), ?_⟩
    have u104 := (((u41.fr e48 Dj.nil_l).fr e75 Dj.nil_l).fr e102 Dj.nil_l)
    have u105 := (((u42.fr e48 Dj.nil_l).fr e75 Dj.nil_l).fr e102 Dj.nil_l)
    have u106 := (((u43.fr e48 Dj.nil_l).fr e75 Dj.nil_l).fr e102 Dj.nil_l)
    obtain ⟨y107, hy108, r109⟩ := bind_some r100
    refine d_ck 22 #[.agg #[hd_First, hd_To, hd_Weight], i_ i0, .agg #[i_ 4611686018427387904, i_ 4611686018427387904, .int .u64 18446744073709551615]] (by kernel_rfl) (c_search_run e102.wf u104 u105 u106 hy108) ?_
    rintro _ H123 ⟨s110, f111, s112, f113, b114, s115, f116, b117, s118, f119, s120, f121, b122, rfl, e124, m125, m126, m127, m128, m129, m130, m131, m132, i133, i134, i135, i136, i137, i138, i139, i140, d141, d142, d143, d144, d145, d146, d147, d148, d149, d150, d151, d152, d153, d154, d155, d156, d157, d158, d159, d160, d161, d162, d163, d164, d165, d166, d167, d168⟩
    obtain ⟨a177, n178, c179, rfl⟩ := m125.form
    obtain ⟨a180, n181, c182, rfl⟩ := m126.form
    obtain ⟨a183, n184, c185, rfl⟩ := m128.form
    obtain ⟨a186, n187, c188, rfl⟩ := m130.form
    obtain ⟨a189, n190, c191, rfl⟩ := m131.form
    refine ⟨st_anc (by kernel_rfl) (st_nil), ?_⟩
    have u192 := (u104.fr e124 Dj.nil_l)
    have u193 := (u105.fr e124 Dj.nil_l)
    have u194 := (u106.fr e124 Dj.nil_l)
    obtain ⟨y195, hy196, r197⟩ := bind_some r109
    refine d_ck 24 #[pt_ b122 0] (by kernel_rfl) (c_search_state_all e124.wf u192 u193 u194 m125.sq m126.sq m127 m128.sq m129 m130.sq m131.sq m132 hy196) ?_
    rintro s198 H200 ⟨_, f199, rfl, e201, m202, i203⟩
    obtain ⟨a205, n206, c207, rfl⟩ := m202.form
    refine ⟨st_anc (by kernel_rfl) (st_nil), ?_⟩
    refine d_lsl e201.wf [.slice a205 n206 c207] 1 (one_cons (m202.one1) (one_nil)) (by kernel_rfl) fun b208 H209 e210 hb211 r212 => ?_
    have u214 := ((((m77.fr e102 Dj.nil_l).fr e124 Dj.nil_l).fr e201 Dj.nil_l).ext e210)
    have u215 := (m202.ext e210)
    obtain ⟨g216, r217⟩ := G_some r197
    obtain ⟨s218, H219, f220, q224, e221, hm222, hf223⟩ := Nst.append1 (P := Tryz.prog) (C := (CR.sl (encI .u64) 1)) 24 e210.wf u214 r212 (cr_sl_mk u215) (Dj.symm (i203.djn (m77.lt.le (ntr e102.next e124.next)))) (at_ := #[56, 56]) rfl rfl (by kernel_rfl) (by kernel_rfl) (by decide) (by have := g216; first | omega | (simp at this ⊢; omega))
    obtain ⟨a225, n226, c227, rfl⟩ := hm222.form
    have w229 := hf223.grow2 (i203.fresh (Nat.le_refl _)) (ntr e201.next e210.next)
    refine d_ek (.slice a225 n226 c227) (by kernel_rfl) (q224) (st_anc (by kernel_rfl) (st_nil)) ?_
    refine e_' (.slice a225 n226 c227) ?_
    refine d_nil ?_
    refine k95 _ _ (g_' ?_)
    obtain ⟨g230, r231⟩ := G_some r217
    refine w_' (i0 + 1) (wrap64 g230) ?_
    refine q_ (i_ (i0 + 1)) (s_nil ?_)
    obtain rfl := Option.some.inj r231
    exact k87 n83 _ _ (Nat.lt_succ_self _) ⟨(i0 + 1), (l1 ++ [y195]), (.slice a225 n226 c227), f220, hn86, ha_, (FrS.step e48.wf ((FrS.step e48.wf (FrS.step e48.wf (FrS.step e48.wf (FrS.step e48.wf (FrS.refl (W := []) e48.wf) e75 Inn.nil) e102 Inn.nil) e124 Inn.nil) e201 Inn.nil).extR e210) e221 (i80.fresh (Nat.le_refl _))), hm222, (Inn.trans (i80.fresh (Nat.le_refl _)) (ntr (ntr e75.next e102.next) e124.next) w229)⟩
   have r232 := ite_f h93 hz85
   refine w_exit (th_exit (th_exit (bl_eq ?_)))
   obtain rfl := Option.some.inj r232
   obtain rfl := it_inr hn86
   exact k70 _ _ ⟨(.slice a88 n89 c90), f79, ha_, (FrS.step e48.wf (FrS.refl (W := []) e48.wf) e75 Inn.nil), m77, (i80.fresh (Nat.le_refl _))⟩
  obtain ⟨s67, f68, hh71, e64, m66, i69⟩ := hM
  obtain ⟨β, rfl⟩ := has_ex hh71
  clear hh71
  obtain ⟨a233, n234, c235, rfl⟩ := m66.form
  refine k58 _ _ (w_seqk fun _ k236 => g_' (q_ (.slice a233 n234 c235) (q_ (.slice a233 n234 c235) (q_ (.nilIface) (s_nil (k236 _ _ ?_))))))
  refine w_ret ?_
  refine b_ret (fn := Tryz.f15) (vs := [.slice a233 n234 c235, .nilIface]) (aRes_tmp (by kernel_rfl) (aRes_tmp (by kernel_rfl) (rfl))) ?_
  obtain rfl := Option.some.inj r62
  exact ⟨(.slice a233 n234 c235), f68, (.nilIface), [], rfl, (FrS.step wf (FrS.step wf (FrS.step wf ((FrS.refl (W := []) wf).extR e15) e30 Inn.nil) e48 Inn.nil) e64 Inn.nil), m66, Ev.nil, (i69.fresh (ntr (ntr e15.next e30.next) e48.next)), Inn.nil, Dj.nil_r⟩
 have r237 := ite_f h35 r26
 refine l_' (.bool true) (aBin Tryz.prog .neq 31 (.tmp 10) (.const .nilIface) (.iface t36 x37) .nilIface) (aBin_nnil (by kernel_rfl)) ?_
 refine s_nil (k34 _ _ ?_)
 refine w_cond true (by kernel_rfl) rfl (fun _ => ?_) (fun h => by cases h)
 refine w_seqk fun _ k238 => g_' (q_ (.iface t36 x37) (q_ (.slice none 0 0) (q_ (.iface t36 x37) (s_nil (k238 _ _ ?_)))))
 refine w_ret (th_ret ?_)
 refine b_ret (fn := Tryz.f15) (vs := [.slice none 0 0, .iface t36 x37]) (aRes_tmp (by kernel_rfl) (aRes_tmp (by kernel_rfl) (rfl))) ?_
 obtain rfl := Option.some.inj r237
 exact ⟨(.slice none 0 0), [], (.iface t36 x37), f28, rfl, (FrS.step wf ((FrS.refl (W := []) wf).extR e15) e30 Inn.nil), Nst.nil, m31, Inn.nil, (i32.fresh e15.next), Dj.nil_l⟩
theorem c_stamp_Stamp_All {H : AH} {b_s : Nat} {hd_s_ : Value} {fp_s_ : Fp} {s_ : List (Int × Int)} {s_2 : Int} {s_3 : Int} {r : List (Int)}
    (wf : WF H) (h_s_ : Sq enc_u64_u32 2 H hd_s_ s_ fp_s_) (h_s : Row H b_s [hd_s_, .int .u32 s_2, i_ s_3]) (hr : z_stamp_Stamp_All s_ s_2 s_3 = some r) :
    ACalls Tryz.prog 30 #[pt_ b_s 0] H fun v H' => ∃ (s3 : Value) (f4 : Fp), v = s3 ∧ FrS [] H H' ∧ Ow (encI .i64) 1 H' s3 r f4 ∧ Inn [] H f4 := by
 refine acalls_of_body mixed Tryz.func30 rfl (Nat.le_of_ble_eq_true rfl) ?_
 unfold z_stamp_Stamp_All at hr
 refine w_seqk fun _ k6 => g_' (q_ (.slice none 0 0) (s_nil (k6 _ _ (w_seqk fun _ k7 => w_seqk fun _ k8 => g_' (q_ (pt_ b_s 0) (q_ (.bool false) (s_nil (k8 _ _ ?_))))))))
 refine w_cond false (by kernel_rfl) rfl (fun h => by cases h) (fun _ => ?_)
 refine w_skip (k7 _ _ (w_seqk fun _ k9 => g_' (q_ (.slice none 0 0) (s_nil (k9 _ _ (w_seqk fun _ k10 => w_seqk fun _ k11 => g_' (q_ (pt_ b_s 0) (q_ (pt_ b_s 0) (q_ (pt_ b_s 0) ?_)))))))))
 refine l_' (hd_s_) (aLoad Tryz.prog 123 (pt_ b_s 0) H) (h_s.ld (by kernel_rfl)) ?_
 refine l_' (i_ (s_.length : Int)) (aLen Tryz.prog 123 hd_s_ H) (h_s_.lenb (by kernel_rfl)) ?_
 refine q_ (i_ 0) (s_nil (k11 _ _ ?_))
 obtain ⟨o12, hx13, r14⟩ := bind_some hr
 refine w_mid (fun α H15 => ∃ (s19 : Value) (f20 : Fp), Has α [(3, s19)] ∧ FrS [] H H15 ∧ Ow (encI .i64) 1 H15 s19 o12 f20 ∧ Inn [] H f20) (fun _ k22 => ?_) (fun α H15 hM => ?_)
 ·refine w_block ?_
  obtain ⟨n24, hn25⟩ := loopO_iff.1 hx13
  refine w_loopn (fun n α H26 => ∃ (i0 : Int), ∃ (l1 : List (Int)), ∃ (s30 : Value), ∃ (f31 : Fp), iterO (fun zz_ => z_stamp_Stamp_All_l0 s_ s_2 zz_.1 zz_.2) n (i0, l1) = some o12 ∧ Has α [(0, pt_ b_s 0), (3, s30), (11, hd_s_), (12, i_ (s_.length : Int)), (13, i_ i0)] ∧ FrS [] H H26 ∧ Ow (encI .i64) 1 H26 s30 l1 f31 ∧ Inn [] H f31) n24 ⟨0, [], (.slice none 0 0), [], hn25, ha_, (FrS.refl (W := []) wf), (Ow.nil (by decide)), Inn.nil⟩ ?_
  rintro n24 α H26 ⟨i0, l1, s30, f31, hi34, hh33, e27, m29, i32⟩ K39 k39
  obtain ⟨n35, z36, rfl, hz37, hn38⟩ := iter_succ hi34
  obtain ⟨β, rfl⟩ := has_ex hh33
  clear hh33
  replace hz37 : z_stamp_Stamp_All_l0 s_ s_2 i0 l1 = some z36 := hz37
  unfold z_stamp_Stamp_All_l0 at hz37
  obtain ⟨a40, n41, c42, rfl⟩ := m29.form
  refine w_seqk fun _ k43 => g_' (q_ (.bool (decide (i0 < (s_.length : Int)))) (s_nil (k43 _ _ (w_seqk fun _ k44 => ?_))))
  refine w_condp (i0 < (s_.length : Int)) (by kernel_rfl) rfl (fun h45 => ?_) (fun h45 => ?_)
  ·have r46 := ite_t h45 hz37
   refine w_skip (k44 _ _ (w_seqk fun _ k47 => w_block (w_seqk fun _ k48 => g_' (q_ (i_ i0) ?_))))
   obtain ⟨g49, r50⟩ := G_some r46
   have u51 := (h_s_.fr e27 Dj.nil_l)
   refine l_' (elp hd_s_ 2 i0.toNat 0) (aIndexAddr Tryz.prog 123 hd_s_ (i_ i0)) (u51.idxb (by kernel_rfl) g49 h45) ?_
   refine l_' (.agg #[.int .u64 ((gt s_ i0).1), .int .u32 ((gt s_ i0).2)]) (aLoad Tryz.prog 127 (elp hd_s_ 2 i0.toNat 0) H26) (u51.ld g49 h45 (by kernel_rfl)) ?_
   refine s_rwk e27.wf [.int .u64 0, .int .u32 0] (by kernel_rfl) fun b52 H53 e54 hb55 r56 => ?_
   refine q_ (i_ i0) ?_
   obtain ⟨H58, q59, e60, r61⟩ := Row.store (P := Tryz.prog) (t := 127) (p := 0) e54.wf r56 (.agg #[.int .u64 ((gt s_ i0).1), .int .u32 ((gt s_ i0).2)]) [.int .u64 ((gt s_ i0).1), .int .u32 ((gt s_ i0).2)] (by kernel_rfl) (by kernel_rfl) (one_cons (rfl) (one_cons (rfl) (one_nil))) (Nat.le_of_ble_eq_true (by kernel_rfl)) [.int .u64 ((gt s_ i0).1), .int .u32 ((gt s_ i0).2)] (by kernel_rfl)
   refine s_ek (undef) (by kernel_rfl) (map_ok q59) ?_
   refine s_nil (k48 _ _ (w_seqk fun _ k62 => ?_))
   refine w_draw [0, 1, 2, 3, 4, 5, 6] (by kernel_rfl) ?_
   refine e_' (pt_ b52 1) ?_
   refine m_' (.int .u32 ((gt s_ i0).2)) (aLoad Tryz.prog 105 (pt_ b52 1) H58) (r61.ld (by kernel_rfl)) ?_
   refine e_' (pt_ b_s 0) (e_' (pt_ b_s 0) (e_' (pt_ b_s 1) ?_))
   have u63 := (((h_s.frS e27 Dj.nil_l).ext e54).frS e60 (hb55.djn (h_s.ltF.le e27.next)))
   refine m_' (.int .u32 s_2) (aLoad Tryz.prog 105 (pt_ b_s 1) H58) (u63.ld (by kernel_rfl)) ?_
   refine e_' (.bool (decide (((gt s_ i0).2) = s_2))) ?_
   refine d_nil ?_
   refine k62 _ _ ?_
   refine w_condp (((gt s_ i0).2) = s_2) (by kernel_rfl) rfl (fun h64 => ?_) (fun h64 => ?_)
   ·have r65 := ite_t h64 r50
    refine g_' (q_ (.slice a40 n41 c42) (q_ (i_ i0) ?_))
    refine s_owk (enc := (encI .i64)) (sz := 1) e60.wf [i0] 1 (by decide) (fun _ _ => rfl) (fun _ _ => rfl) rfl (by kernel_rfl) fun s66 f67 H68 e69 hf70 hm71 => ?_
    obtain ⟨a72, n73, c74, rfl⟩ := hm71.form
    have u76 := (((m29.ext e54).fr e60 (hb55.djn m29.lt)).ext e69)
    obtain ⟨g77, r78⟩ := G_some r65
    obtain ⟨s79, H80, f81, q85, e82, hm83, hf84⟩ := Ow.append (P := Tryz.prog) 8 e69.wf u76 hm71.sq (fun _ _ => rfl) (at_ := #[23, 23]) rfl rfl (by kernel_rfl) (by kernel_rfl) (by decide) (by have := g77; first | omega | (simp only [List.length_cons, List.length_nil] at this ⊢; omega) | (simp at this ⊢; omega))
    obtain ⟨a86, n87, c88, rfl⟩ := hm83.form
    refine s_ek (.slice a86 n87 c88) (by kernel_rfl) (q85) ?_
    refine q_ (.slice a86 n87 c88) (s_nil (k47 _ _ (g_' ?_)))
    obtain ⟨g90, r91⟩ := G_some r78
    refine w_' (i0 + 1) (wrap64 (by have := g90; omega)) ?_
    refine q_ (i_ (i0 + 1)) (s_nil ?_)
    obtain rfl := Option.some.inj r91
    exact k39 n35 _ _ (Nat.lt_succ_self _) ⟨(i0 + 1), (l1 ++ [i0]), (.slice a86 n87 c88), f81, hn38, ha_, (FrS.step wf ((FrS.step wf ((FrS.step wf (FrS.refl (W := []) wf) e27 Inn.nil).extR e54) e60 (hb55.fresh e27.next)).extR e69) e82 (i32.fresh (Nat.le_refl _))), hm83, (Inn.trans (i32.fresh (Nat.le_refl _)) (ntr (ntr (ntr e27.next e54.next) e60.next) e69.next) hf84)⟩
   have r92 := ite_f h64 r50
   refine w_skip (k47 _ _ (g_' ?_))
   obtain ⟨g93, r94⟩ := G_some r92
   refine w_' (i0 + 1) (wrap64 (by have := g93; omega)) ?_
   refine q_ (i_ (i0 + 1)) (s_nil ?_)
   have u95 := ((m29.ext e54).fr e60 (hb55.djn m29.lt))
   obtain rfl := Option.some.inj r94
   exact k39 n35 _ _ (Nat.lt_succ_self _) ⟨(i0 + 1), l1, (.slice a40 n41 c42), f31, hn38, ha_, (FrS.step wf ((FrS.step wf (FrS.refl (W := []) wf) e27 Inn.nil).extR e54) e60 (hb55.fresh e27.next)), u95, (i32.fresh (Nat.le_refl _))⟩
  have r96 := ite_f h45 hz37
  refine w_exit (th_exit (th_exit (bl_eq ?_)))
  obtain rfl := Option.some.inj r96
  obtain rfl := it_inr hn38
  exact k22 _ _ ⟨(.slice a40 n41 c42), f31, ha_, (FrS.step wf (FrS.refl (W := []) wf) e27 Inn.nil), m29, (i32.fresh (Nat.le_refl _))⟩
 obtain ⟨s19, f20, hh23, e16, m18, i21⟩ := hM
 obtain ⟨β, rfl⟩ := has_ex hh23
 clear hh23
 obtain ⟨a97, n98, c99, rfl⟩ := m18.form
 refine k10 _ _ (w_seqk fun _ k100 => g_' (q_ (.slice a97 n98 c99) (q_ (.slice a97 n98 c99) (s_nil (k100 _ _ ?_)))))
 refine w_ret ?_
 refine b_ret (fn := Tryz.f30) (vs := [.slice a97 n98 c99]) (aRes_tmp (by kernel_rfl) (rfl)) ?_
 obtain rfl := Option.some.inj r14
 exact ⟨(.slice a97 n98 c99), f20, rfl, (FrS.step wf (FrS.refl (W := []) wf) e16 Inn.nil), m18, (i21.fresh (Nat.le_refl _))⟩
theorem c_search_Bounded {H : AH} {hd_First : Value} {fp_First : Fp} {hd_To : Value} {fp_To : Fp} {hd_Weight : Value} {fp_Weight : Fp} {First : List (Int)} {To : List (Int)} {Weight : List (Int)} {s : Int} {hops : Int} {settles : Int} {most : Int} {r : List (Int × Int × Int × Bool) × Er}
    (wf : WF H) (h_First : Sq (encI .i64) 1 H hd_First First fp_First) (h_To : Sq (encI .i64) 1 H hd_To To fp_To) (h_Weight : Sq (encI .i64) 1 H hd_Weight Weight fp_Weight) (hr : z_search_Bounded First To Weight s hops settles most = some r) :
    ACalls Tryz.prog 13 #[.agg #[hd_First, hd_To, hd_Weight], i_ s, i_ hops, i_ settles, .int .u64 most] H fun v H' => ∃ (s3 : Value) (f4 : Fp) (v7 : Value) (f8 : Fp), v = .tuple #[s3, v7] ∧ FrS [] H H' ∧ Ow enc_i64_u64_i64_bool 4 H' s3 r.1 f4 ∧ Ev 43 81 H' v7 r.2 f8 ∧ Inn [] H f4 ∧ Inn [] H f8 ∧ Dj f4 f8 := by
 refine acalls_of_body mixed Tryz.func13 rfl (Nat.le_of_ble_eq_true rfl) ?_
 unfold z_search_Bounded at hr
 refine w_seqk fun _ k12 => g_' ?_
 refine s_rwl wf [hd_First, hd_To, hd_Weight] (one_cons (h_First.one1) (one_cons (h_To.one1) (one_cons (h_Weight.one1) (one_nil)))) (by kernel_rfl) fun b13 H14 e15 hb16 r17 => ?_
 refine q_ (.slice none 0 0) (q_ (.nilIface) (s_nil (k12 _ _ (w_seqk fun _ k19 => w_seqk fun _ k20 => g_' ?_))))
 refine l_' (.agg #[hd_First, hd_To, hd_Weight]) (aLoad Tryz.prog 25 (pt_ b13 0) H14) (r17.ld (by kernel_rfl)) ?_
 refine q_ (i_ s) ?_
 refine s_owk (enc := (encI .i64)) (sz := 1) e15.wf [s] 1 (by decide) (fun _ _ => rfl) (fun _ _ => rfl) rfl (by kernel_rfl) fun s21 f22 H23 e24 hf25 hm26 => ?_
 obtain ⟨a27, n28, c29, rfl⟩ := hm26.form
 have u31 := ((h_First.ext e15).ext e24)
 have u32 := ((h_To.ext e15).ext e24)
 have u33 := ((h_Weight.ext e15).ext e24)
 obtain ⟨y34, hy35, r36⟩ := bind_some hr
 refine s_ck 21 #[.agg #[hd_First, hd_To, hd_Weight], .slice a27 n28 c29] (by kernel_rfl) (c_search_node e24.wf u31 u32 u33 hm26.sq hy35) ?_
 rintro v37 H39 ⟨_, f38, rfl, e40, m41, i42⟩
 refine q_ (v37) (s_nil (k20 _ _ (w_seqk fun _ k44 => g_' (q_ (v37) ?_))))
 rcases (m41).cases with ⟨h45, rfl⟩ | ⟨h45, t46, x47, rfl⟩
 ·have r48 := ite_t h45 r36
  refine q_ (.bool false) (s_nil (k44 _ _ ?_))
  refine w_cond false (by kernel_rfl) rfl (fun h => by cases h) (fun _ => ?_)
  refine w_skip (k19 _ _ (w_seqk fun _ k49 => g_' ?_))
  have u50 := ((r17.ext e24).frS e40 Dj.nil_l)
  refine l_' (.agg #[hd_First, hd_To, hd_Weight]) (aLoad Tryz.prog 25 (pt_ b13 0) H39) (u50.ld (by kernel_rfl)) ?_
  refine q_ (i_ s) (q_ (i_ hops) (q_ (i_ settles) (q_ (.int .u64 most) (q_ (.agg #[i_ hops, i_ settles, .int .u64 most]) ?_))))
  have u51 := (u31.fr e40 Dj.nil_l)
  have u52 := (u32.fr e40 Dj.nil_l)
  have u53 := (u33.fr e40 Dj.nil_l)
  obtain ⟨y54, hy55, r56⟩ := bind_some r48
  refine s_ck 22 #[.agg #[hd_First, hd_To, hd_Weight], i_ s, .agg #[i_ hops, i_ settles, .int .u64 most]] (by kernel_rfl) (c_search_run e40.wf u51 u52 u53 hy55) ?_
  rintro _ H70 ⟨s57, f58, s59, f60, b61, s62, f63, b64, s65, f66, s67, f68, b69, rfl, e71, m72, m73, m74, m75, m76, m77, m78, m79, i80, i81, i82, i83, i84, i85, i86, i87, d88, d89, d90, d91, d92, d93, d94, d95, d96, d97, d98, d99, d100, d101, d102, d103, d104, d105, d106, d107, d108, d109, d110, d111, d112, d113, d114, d115⟩
  obtain ⟨a124, n125, c126, rfl⟩ := m72.form
  obtain ⟨a127, n128, c129, rfl⟩ := m73.form
  obtain ⟨a130, n131, c132, rfl⟩ := m75.form
  obtain ⟨a133, n134, c135, rfl⟩ := m77.form
  obtain ⟨a136, n137, c138, rfl⟩ := m78.form
  refine q_ (pt_ b69 0) (s_nil (k49 _ _ (w_seqk fun _ k139 => g_' (q_ (.slice none 0 0) (s_nil (k139 _ _ (w_seqk fun _ k140 => w_seqk fun _ k141 => g_' (q_ (pt_ b69 0) (q_ (pt_ b69 0) (q_ (pt_ b69 4) ?_))))))))))
  refine l_' (pt_ b64 0) (aLoad Tryz.prog 72 (pt_ b69 4) H70) (m79.ld (by kernel_rfl)) ?_
  obtain ⟨y142, hy143, r144⟩ := bind_some r56
  refine s_ck 30 #[pt_ b64 0] (by kernel_rfl) (c_stamp_Stamp_All e71.wf m75.sq m76 hy143) ?_
  rintro s145 H147 ⟨_, f146, rfl, e148, m149, i150⟩
  obtain ⟨a152, n153, c154, rfl⟩ := m149.form
  refine l_' (i_ (y142.length : Int)) (aLen Tryz.prog 23 (.slice a152 n153 c154) H147) (m149.sq.lenb (by kernel_rfl)) ?_
  refine q_ (i_ 0) (s_nil (k141 _ _ ?_))
  obtain ⟨o155, hx156, r157⟩ := bind_some r144
  refine w_mid (fun α H158 => ∃ (s162 : Value) (f163 : Fp), Has α [(14, s162)] ∧ FrS [] H147 H158 ∧ Ow enc_i64_u64_i64_bool 4 H158 s162 o155 f163 ∧ Inn [] H147 f163) (fun _ k165 => ?_) (fun α H158 hM => ?_)
  ·refine w_block ?_
   obtain ⟨n167, hn168⟩ := loopO_iff.1 hx156
   refine w_loopn (fun n α H169 => ∃ (l0 : List (Int × Int × Int × Bool)), ∃ (i1 : Int), ∃ (s173 : Value), ∃ (f174 : Fp), iterO (fun zz_ => z_search_Bounded_l0 y54 y142 zz_.1 zz_.2) n (l0, i1) = some o155 ∧ Has α [(13, pt_ b69 0), (14, s173), (37, .slice a152 n153 c154), (38, i_ (y142.length : Int)), (39, i_ i1)] ∧ FrS [] H147 H169 ∧ Ow enc_i64_u64_i64_bool 4 H169 s173 l0 f174 ∧ Inn [] H147 f174) n167 ⟨[], 0, (.slice none 0 0), [], hn168, ha_, (FrS.refl (W := []) e148.wf), (Ow.nil (by decide)), Inn.nil⟩ ?_
   rintro n167 α H169 ⟨l0, i1, s173, f174, hi177, hh176, e170, m172, i175⟩ K182 k182
   obtain ⟨n178, z179, rfl, hz180, hn181⟩ := iter_succ hi177
   obtain ⟨β, rfl⟩ := has_ex hh176
   clear hh176
   replace hz180 : z_search_Bounded_l0 y54 y142 l0 i1 = some z179 := hz180
   unfold z_search_Bounded_l0 at hz180
   obtain ⟨a183, n184, c185, rfl⟩ := m172.form
   refine w_seqk fun _ k186 => g_' (q_ (.bool (decide (i1 < (y142.length : Int)))) (s_nil (k186 _ _ (w_seqk fun _ k187 => ?_))))
   refine w_condp (i1 < (y142.length : Int)) (by kernel_rfl) rfl (fun h188 => ?_) (fun h188 => ?_)
   ·have r189 := ite_t h188 hz180
    refine w_skip (k187 _ _ (w_seqk fun _ k190 => w_block (w_seqk fun _ k191 => g_' ?_)))
    obtain ⟨g192, r193⟩ := G_some r189
    have u194 := (m149.fr e170 Dj.nil_l)
    refine l_' (elp (.slice a152 n153 c154) 1 i1.toNat 0) (aIndexAddr Tryz.prog 23 (.slice a152 n153 c154) (i_ i1)) (u194.sq.idxb (by kernel_rfl) g192 h188) ?_
    refine l_' (i_ (gt y142 i1)) (aLoad Tryz.prog 3 (elp (.slice a152 n153 c154) 1 i1.toNat 0) H169) (u194.sq.ld g192 h188 (by kernel_rfl)) ?_
    refine q_ (i_ (gt y142 i1)) (s_nil (k191 _ _ (w_seqk fun _ k195 => g_' (q_ (pt_ b69 0) (q_ (pt_ b69 0) (q_ (pt_ b69 4) ?_))))))
    have u196 := ((m79.frS e148 Dj.nil_l).frS e170 Dj.nil_l)
    refine l_' (pt_ b64 0) (aLoad Tryz.prog 72 (pt_ b69 4) H169) (u196.ld (by kernel_rfl)) ?_
    refine q_ (i_ (gt y142 i1)) ?_
    have u197 := ((m75.fr e148 Dj.nil_l).fr e170 Dj.nil_l)
    have u198 := ((m76.frS e148 Dj.nil_l).frS e170 Dj.nil_l)
    obtain ⟨y199, hy200, r201⟩ := bind_some r193
    refine s_ck 31 #[pt_ b64 0, i_ (gt y142 i1)] (by kernel_rfl) (c_stamp_Stamp_Get e170.wf u197.sq u198 hy200) ?_
    rintro _ _ ⟨rfl, rfl⟩
    refine q_ (.tuple #[.int .u64 y199.1, .bool y199.2]) (q_ (.int .u64 y199.1) (q_ (.bool y199.2) (q_ (.int .u64 y199.1) (q_ (.bool y199.2) (s_nil (k195 _ _ ?_))))))
    refine w_draw [0, 1, 2, 3, 4, 5, 6, 7, 8, 9, 10, 11, 12, 13, 14, 15, 16, 17, 18, 19, 20] (by kernel_rfl) ?_
    refine e_' (.slice a183 n184 c185) (e_' (i_ (gt y142 i1)) (e_' (.int .u64 y199.1) (e_' (pt_ b69 0) (e_' (pt_ b69 0) (e_' (pt_ b69 5) ?_)))))
    refine m_' (.slice a133 n134 c135) (aLoad Tryz.prog 23 (pt_ b69 5) H169) (u196.ld (by kernel_rfl)) ?_
    refine e_' (i_ (gt y142 i1)) ?_
    obtain ⟨g204, r205⟩ := G_some r201
    have u206 := ((m77.fr e148 Dj.nil_l).fr e170 Dj.nil_l)
    refine m_' (elp (.slice a133 n134 c135) 1 (gt y142 i1).toNat 0) (aIndexAddr Tryz.prog 23 (.slice a133 n134 c135) (i_ (gt y142 i1))) (u206.sq.idxb (by kernel_rfl) g204.1 g204.2) ?_
    refine m_' (i_ (gt y54.2.2.2.2.2.1 (gt y142 i1))) (aLoad Tryz.prog 3 (elp (.slice a133 n134 c135) 1 (gt y142 i1).toNat 0) H169) (u206.sq.ld g204.1 g204.2 (by kernel_rfl)) ?_
    refine e_' (pt_ b69 0) (e_' (pt_ b69 0) (e_' (pt_ b69 6) ?_))
    refine m_' (.slice a136 n137 c138) (aLoad Tryz.prog 73 (pt_ b69 6) H169) (u196.ld (by kernel_rfl)) ?_
    refine e_' (i_ (gt y142 i1)) ?_
    obtain ⟨g207, r208⟩ := G_some r205
    have u209 := ((m78.fr e148 Dj.nil_l).fr e170 Dj.nil_l)
    refine m_' (elp (.slice a136 n137 c138) 1 (gt y142 i1).toNat 0) (aIndexAddr Tryz.prog 73 (.slice a136 n137 c138) (i_ (gt y142 i1))) (u209.sq.idxb (by kernel_rfl) g204.1 g207) ?_
    refine m_' (.bool (gt y54.2.2.2.2.2.2 (gt y142 i1))) (aLoad Tryz.prog 4 (elp (.slice a136 n137 c138) 1 (gt y142 i1).toNat 0) H169) (u209.sq.ld g204.1 g207 (by kernel_rfl)) ?_
    refine e_' (.agg #[i_ (gt y142 i1), .int .u64 y199.1, i_ (gt y54.2.2.2.2.2.1 (gt y142 i1)), .bool (gt y54.2.2.2.2.2.2 (gt y142 i1))]) ?_
    refine d_owk (enc := enc_i64_u64_i64_bool) (sz := 4) e170.wf [((gt y142 i1), y199.1, (gt y54.2.2.2.2.2.1 (gt y142 i1)), (gt y54.2.2.2.2.2.2 (gt y142 i1)))] 1 (by decide) (fun _ _ => rfl) (fun _ _ => rfl) rfl (by kernel_rfl) fun s210 f211 H212 e213 hf214 hm215 => ?_
    obtain ⟨a216, n217, c218, rfl⟩ := hm215.form
    have u220 := (m172.ext e213)
    obtain ⟨g221, r222⟩ := G_some r208
    obtain ⟨s223, H224, f225, q229, e226, hm227, hf228⟩ := Ow.append (P := Tryz.prog) 32 e213.wf u220 hm215.sq (fun _ _ => rfl) (at_ := #[44, 44]) rfl rfl (by kernel_rfl) (by kernel_rfl) (by decide) (by have := g221; first | omega | (simp only [List.length_cons, List.length_nil] at this ⊢; omega) | (simp at this ⊢; omega))
    obtain ⟨a230, n231, c232, rfl⟩ := hm227.form
    refine d_ek (.slice a230 n231 c232) (by kernel_rfl) (q229) (st_nil) ?_
    refine e_' (.slice a230 n231 c232) ?_
    refine d_nil ?_
    refine k190 _ _ (g_' ?_)
    obtain ⟨g234, r235⟩ := G_some r222
    refine w_' (i1 + 1) (wrap64 (by have := g234; omega)) ?_
    refine q_ (i_ (i1 + 1)) (s_nil ?_)
    obtain rfl := Option.some.inj r235
    exact k182 n178 _ _ (Nat.lt_succ_self _) ⟨(l0 ++ [((gt y142 i1), y199.1, (gt y54.2.2.2.2.2.1 (gt y142 i1)), (gt y54.2.2.2.2.2.2 (gt y142 i1)))]), (i1 + 1), (.slice a230 n231 c232), f225, hn181, ha_, (FrS.step e148.wf ((FrS.step e148.wf (FrS.refl (W := []) e148.wf) e170 Inn.nil).extR e213) e226 (i175.fresh (Nat.le_refl _))), hm227, (Inn.trans (i175.fresh (Nat.le_refl _)) (ntr e170.next e213.next) hf228)⟩
   have r236 := ite_f h188 hz180
   refine w_exit (th_exit (th_exit (bl_eq ?_)))
   obtain rfl := Option.some.inj r236
   obtain rfl := it_inr hn181
   exact k165 _ _ ⟨(.slice a183 n184 c185), f174, ha_, (FrS.step e148.wf (FrS.refl (W := []) e148.wf) e170 Inn.nil), m172, (i175.fresh (Nat.le_refl _))⟩
  obtain ⟨s162, f163, hh166, e159, m161, i164⟩ := hM
  obtain ⟨β, rfl⟩ := has_ex hh166
  clear hh166
  obtain ⟨a237, n238, c239, rfl⟩ := m161.form
  refine k140 _ _ (w_seqk fun _ k240 => g_' (q_ (.slice a237 n238 c239) (q_ (.slice a237 n238 c239) (q_ (.nilIface) (s_nil (k240 _ _ ?_))))))
  refine w_ret ?_
  refine b_ret (fn := Tryz.f13) (vs := [.slice a237 n238 c239, .nilIface]) (aRes_tmp (by kernel_rfl) (aRes_tmp (by kernel_rfl) (rfl))) ?_
  obtain rfl := Option.some.inj r157
  exact ⟨(.slice a237 n238 c239), f163, (.nilIface), [], rfl, (FrS.step wf (FrS.step wf (FrS.step wf (FrS.step wf (((FrS.refl (W := []) wf).extR e15).extR e24) e40 Inn.nil) e71 Inn.nil) e148 Inn.nil) e159 Inn.nil), m161, Ev.nil, (i164.fresh (ntr (ntr (ntr (ntr e15.next e24.next) e40.next) e71.next) e148.next)), Inn.nil, Dj.nil_r⟩
 have r241 := ite_f h45 r36
 refine l_' (.bool true) (aBin Tryz.prog .neq 31 (.tmp 23) (.const .nilIface) (.iface t46 x47) .nilIface) (aBin_nnil (by kernel_rfl)) ?_
 refine s_nil (k44 _ _ ?_)
 refine w_cond true (by kernel_rfl) rfl (fun _ => ?_) (fun h => by cases h)
 refine w_seqk fun _ k242 => g_' (q_ (.iface t46 x47) (q_ (.slice none 0 0) (q_ (.iface t46 x47) (s_nil (k242 _ _ ?_)))))
 refine w_ret (th_ret ?_)
 refine b_ret (fn := Tryz.f13) (vs := [.slice none 0 0, .iface t46 x47]) (aRes_tmp (by kernel_rfl) (aRes_tmp (by kernel_rfl) (rfl))) ?_
 obtain rfl := Option.some.inj r241
 exact ⟨(.slice none 0 0), [], (.iface t46 x47), f38, rfl, (FrS.step wf (((FrS.refl (W := []) wf).extR e15).extR e24) e40 Inn.nil), (Ow.nil (by decide)), m41, Inn.nil, (i42.fresh (ntr e15.next e24.next)), Dj.nil_l⟩
theorem c_search_state_parents {H : AH} {b_st : Nat} {hd_st_ : Value} {fp_st_ : Fp} {hd_st_2 : Value} {fp_st_2 : Fp} {hd_st_3 : Value} {fp_st_3 : Fp} {b_st_4 : Nat} {hd_st_5 : Value} {fp_st_5 : Fp} {hd_st_6 : Value} {fp_st_6 : Fp} {b_st_7 : Nat} {hd_st_8 : Value} {fp_st_8 : Fp} {hd_st_11 : Value} {fp_st_11 : Fp} {hd_st_12 : Value} {fp_st_12 : Fp} {st_ : List (Int)} {st_2 : List (Int)} {st_3 : List (Int)} {st_5 : List (Int × Int)} {st_6 : List (Int)} {st_8 : List (Int × Int)} {st_9 : Int} {st_10 : Int} {st_11 : List (Int)} {st_12 : List (Bool)} {s : Int} {r : List (Int)}
    (wf : WF H) (h_st_ : Sq (encI .i64) 1 H hd_st_ st_ fp_st_) (h_st_2 : Sq (encI .i64) 1 H hd_st_2 st_2 fp_st_2) (h_st_3 : Sq (encI .i64) 1 H hd_st_3 st_3 fp_st_3) (h_st_5 : Sq enc_u64_u32 2 H hd_st_5 st_5 fp_st_5) (h_st_6 : Sq (encI .i64) 1 H hd_st_6 st_6 fp_st_6) (h_st_4 : Row H b_st_4 [hd_st_5, hd_st_6]) (h_st_8 : Sq enc_u64_u32 2 H hd_st_8 st_8 fp_st_8) (h_st_7 : Row H b_st_7 [hd_st_8, .int .u32 st_9, i_ st_10]) (h_st_11 : Sq (encI .i64) 1 H hd_st_11 st_11 fp_st_11) (h_st_12 : Sq encB 1 H hd_st_12 st_12 fp_st_12) (h_st : Row H b_st [hd_st_, hd_st_2, hd_st_3, pt_ b_st_4 0, pt_ b_st_7 0, hd_st_11, hd_st_12]) (hr : z_search_state_parents st_ st_2 st_3 st_5 st_6 st_8 st_9 st_10 st_11 st_12 s = some r) :
    ACalls Tryz.prog 25 #[pt_ b_st 0, i_ s] H fun v H' => ∃ (s3 : Value) (f4 : Fp), v = s3 ∧ FrS [] H H' ∧ Ow (encI .i64) 1 H' s3 r f4 ∧ Inn [] H f4 := by
 refine acalls_of_body mixed Tryz.func25 rfl (Nat.le_of_ble_eq_true rfl) ?_
 unfold z_search_state_parents at hr
 refine w_seqk fun _ k6 => g_' (q_ (.slice none 0 0) (s_nil (k6 _ _ (w_seqk fun _ k7 => g_' (q_ (pt_ b_st 0) (q_ (pt_ b_st 0) (q_ (pt_ b_st 0) ?_)))))))
 refine l_' (.agg #[hd_st_, hd_st_2, hd_st_3]) (aLoad Tryz.prog 25 (pt_ b_st 0) H) (h_st.ld (by kernel_rfl)) ?_
 obtain ⟨y8, hy9, r10⟩ := bind_some hr
 refine s_ck 35 #[.agg #[hd_st_, hd_st_2, hd_st_3]] (by kernel_rfl) (c_search_nodes wf h_st_ h_st_2 h_st_3 hy9) ?_
 rintro _ H11 ⟨rfl, e12⟩
 obtain ⟨g13, r14⟩ := G_some r10
 refine s_mks (t := 23) (m := 8) (l := y8) (c := y8) (enc := (encI .i64)) (sz := 1) e12.wf (0 : Int) (by kernel_rfl) (by decide) g13.1 (Int.le_refl _) (by omega) (by have := g13; omega) (by kernel_rfl) fun s15 f16 H17 e18 hf19 hm20 => ?_
 obtain ⟨a21, n22, c23, rfl⟩ := hm20.form
 have hm20 : Ow (encI .i64) 1 H17 (.slice a21 n22 c23) (List.replicate y8.toNat (0 : Int)) f16 := hm20
 refine q_ (.slice a21 n22 c23) (s_nil (k7 _ _ (w_seqk fun _ k25 => g_' (q_ (pt_ b_st 0) (q_ (pt_ b_st 0) (q_ (pt_ b_st 0) ?_))))))
 have u26 := ((h_st.frS e12 Dj.nil_l).ext e18)
 refine l_' (.agg #[hd_st_, hd_st_2, hd_st_3]) (aLoad Tryz.prog 25 (pt_ b_st 0) H17) (u26.ld (by kernel_rfl)) ?_
 have u27 := ((h_st_.fr e12 Dj.nil_l).ext e18)
 have u28 := ((h_st_2.fr e12 Dj.nil_l).ext e18)
 have u29 := ((h_st_3.fr e12 Dj.nil_l).ext e18)
 obtain ⟨y30, hy31, r32⟩ := bind_some r14
 refine s_ck 35 #[.agg #[hd_st_, hd_st_2, hd_st_3]] (by kernel_rfl) (c_search_nodes e18.wf u27 u28 u29 hy31) ?_
 rintro _ H33 ⟨rfl, e34⟩
 obtain ⟨g35, r36⟩ := G_some r32
 refine s_mks (t := 23) (m := 8) (l := y30) (c := y30) (enc := (encI .i64)) (sz := 1) e34.wf (0 : Int) (by kernel_rfl) (by decide) g35.1 (Int.le_refl _) (by omega) (by have := g35; omega) (by kernel_rfl) fun s37 f38 H39 e40 hf41 hm42 => ?_
 obtain ⟨a43, n44, c45, rfl⟩ := hm42.form
 have hm42 : Ow (encI .i64) 1 H39 (.slice a43 n44 c45) (List.replicate y30.toNat (0 : Int)) f38 := hm42
 refine q_ (.slice a43 n44 c45) (s_nil (k25 _ _ (w_seqk fun _ k47 => g_' (q_ (.slice a43 n44 c45) (q_ (i_ s) ?_)))))
 obtain ⟨g48, r49⟩ := G_some r36
 refine l_' (elp (.slice a43 n44 c45) 1 s.toNat 0) (aIndexAddr Tryz.prog 23 (.slice a43 n44 c45) (i_ s)) (hm42.sq.idxb (by kernel_rfl) g48.1 g48.2) ?_
 obtain ⟨H50, q51, e52, hm53⟩ := Ow.store (P := Tryz.prog) (t := 3) (off := 0) e40.wf hm42 g48.1 g48.2 (i_ 1) [i_ 1] (by kernel_rfl) (by kernel_rfl) rfl 1 (Nat.le_of_ble_eq_true rfl) (by kernel_rfl)
 refine s_ek (undef) (by kernel_rfl) (map_ok q51) ?_
 refine s_nil (k47 _ _ (w_seqk fun _ k54 => g_' (q_ (i_ s) ?_)))
 refine s_owk (enc := (encI .i64)) (sz := 1) e52.wf [s] 1 (by decide) (fun _ _ => rfl) (fun _ _ => rfl) rfl (by kernel_rfl) fun s55 f56 H57 e58 hf59 hm60 => ?_
 obtain ⟨a61, n62, c63, rfl⟩ := hm60.form
 refine q_ (.slice a61 n62 c63) (s_nil (k54 _ _ (w_seqk fun _ k65 => w_seqk fun _ k66 => g_' (q_ (i_ 0) (s_nil (k66 _ _ ?_))))))
 obtain ⟨o67, hx68, r69⟩ := bind_some r49
 refine w_mid (fun α H70 => Has α [(5, .slice a21 n22 c23)] ∧ FrS (f16 ++ (f38 ++ f56)) H57 H70 ∧ Ow (encI .i64) 1 H70 (.slice a21 n22 c23) o67 f16) (fun _ k74 => ?_) (fun α H70 hM => ?_)
 ·refine w_block ?_
  obtain ⟨n76, hn77⟩ := loopO_iff.1 hx68
  have u95 := ((((hm20.fr e34 Dj.nil_l).ext e40).fr e52 (hf41.djn (hm20.lt.le e34.next))).ext e58)
  have u96 := (hm53.ext e58)
  refine w_loopn (fun n α H78 => ∃ (from4 : List (Int)), ∃ (seen5 : List (Int)), ∃ (list6 : List (Int)), ∃ (i7 : Int), ∃ (s86 : Value), ∃ (f87 : Fp), iterO (fun zz_ => z_search_state_parents_l1 st_ st_2 st_3 st_8 st_9 st_10 zz_.1 zz_.2.1 zz_.2.2.1 zz_.2.2.2) n (from4, seen5, list6, i7) = some o67 ∧ Has α [(0, pt_ b_st 0), (5, .slice a21 n22 c23), (6, .slice a43 n44 c45), (7, s86), (8, i_ i7)] ∧ FrS (f16 ++ (f38 ++ f56)) H57 H78 ∧ Ow (encI .i64) 1 H78 (.slice a21 n22 c23) from4 f16 ∧ Ow (encI .i64) 1 H78 (.slice a43 n44 c45) seen5 f38 ∧ Ow (encI .i64) 1 H78 s86 list6 f87 ∧ Inn f56 H57 f87) n76 ⟨(List.replicate y8.toNat (0 : Int)), ((List.replicate y30.toNat (0 : Int)).set s.toNat 1), [s], 0, (.slice a61 n62 c63), f56, hn77, ha_, (FrS.refl (W := (f16 ++ (f38 ++ f56))) e58.wf), u95, u96, hm60, Inn.refl'⟩ ?_
  rintro n76 α H78 ⟨from4, seen5, list6, i7, s86, f87, hi90, hh89, e79, m81, m83, m85, i88⟩ K97 k97
  obtain ⟨n91, z92, rfl, hz93, hn94⟩ := iter_succ hi90
  obtain ⟨β, rfl⟩ := has_ex hh89
  clear hh89
  replace hz93 : z_search_state_parents_l1 st_ st_2 st_3 st_8 st_9 st_10 from4 seen5 list6 i7 = some z92 := hz93
  unfold z_search_state_parents_l1 at hz93
  obtain ⟨a98, n99, c100, rfl⟩ := m85.form
  refine w_seqk fun _ k101 => w_seqk fun _ k102 => g_' (q_ (i_ i7) (q_ (.slice a98 n99 c100) ?_))
  refine l_' (i_ (list6.length : Int)) (aLen Tryz.prog 23 (.slice a98 n99 c100) H78) (m85.sq.lenb (by kernel_rfl)) ?_
  refine q_ (.bool (decide (i7 < (list6.length : Int)))) (s_nil (k102 _ _ ?_))
  refine w_condp (i7 < (list6.length : Int)) (by kernel_rfl) rfl (fun h103 => ?_) (fun h103 => ?_)
  ·have r104 := ite_t h103 hz93
   refine w_skip (k101 _ _ (w_seqk fun _ k105 => w_block (w_seqk fun _ k106 => g_' (q_ (.slice a98 n99 c100) (q_ (i_ i7) ?_)))))
   obtain ⟨g107, r108⟩ := G_some r104
   refine l_' (elp (.slice a98 n99 c100) 1 i7.toNat 0) (aIndexAddr Tryz.prog 23 (.slice a98 n99 c100) (i_ i7)) (m85.sq.idxb (by kernel_rfl) g107 h103) ?_
   refine l_' (i_ (gt list6 i7)) (aLoad Tryz.prog 3 (elp (.slice a98 n99 c100) 1 i7.toNat 0) H78) (m85.sq.ld g107 h103 (by kernel_rfl)) ?_
   refine q_ (i_ (gt list6 i7)) (s_nil (k106 _ _ (w_seqk fun _ k109 => g_' (q_ (pt_ b_st 0) (q_ (pt_ b_st 0) (q_ (pt_ b_st 4) ?_))))))
   have u110 := (((((u26.frS e34 Dj.nil_l).ext e40).frS e52 (hf41.djn (h_st.ltF.le (ntr (ntr e12.next e18.next) e34.next)))).ext e58).frS e79 (Dj.app (hf19.djn (h_st.ltF.le e12.next)) (Dj.app (hf41.djn (h_st.ltF.le (ntr (ntr e12.next e18.next) e34.next))) (hf59.djn (h_st.ltF.le (ntr (ntr (ntr (ntr e12.next e18.next) e34.next) e40.next) e52.next))))))
   refine l_' (pt_ b_st_7 0) (aLoad Tryz.prog 72 (pt_ b_st 4) H78) (u110.ld (by kernel_rfl)) ?_
   refine q_ (i_ (gt list6 i7)) ?_
   have u111 := (((((((h_st_8.fr e12 Dj.nil_l).ext e18).fr e34 Dj.nil_l).ext e40).fr e52 (hf41.djn (h_st_8.lt.le (ntr (ntr e12.next e18.next) e34.next)))).ext e58).fr e79 (Dj.app (hf19.djn (h_st_8.lt.le e12.next)) (Dj.app (hf41.djn (h_st_8.lt.le (ntr (ntr e12.next e18.next) e34.next))) (hf59.djn (h_st_8.lt.le (ntr (ntr (ntr (ntr e12.next e18.next) e34.next) e40.next) e52.next))))))
   have u112 := (((((((h_st_7.frS e12 Dj.nil_l).ext e18).frS e34 Dj.nil_l).ext e40).frS e52 (hf41.djn (h_st_7.ltF.le (ntr (ntr e12.next e18.next) e34.next)))).ext e58).frS e79 (Dj.app (hf19.djn (h_st_7.ltF.le e12.next)) (Dj.app (hf41.djn (h_st_7.ltF.le (ntr (ntr e12.next e18.next) e34.next))) (hf59.djn (h_st_7.ltF.le (ntr (ntr (ntr (ntr e12.next e18.next) e34.next) e40.next) e52.next))))))
   obtain ⟨y113, hy114, r115⟩ := bind_some r108
   refine s_ck 31 #[pt_ b_st_7 0, i_ (gt list6 i7)] (by kernel_rfl) (c_stamp_Stamp_Get e79.wf u111 u112 hy114) ?_
   rintro _ _ ⟨rfl, rfl⟩
   refine q_ (.tuple #[.int .u64 y113.1, .bool y113.2]) (q_ (.int .u64 y113.1) (q_ (.bool y113.2) (q_ (.int .u64 y113.1) (q_ (.bool y113.2) (s_nil (k109 _ _ (w_seqk fun _ k118 => g_' (q_ (pt_ b_st 0) (q_ (pt_ b_st 0) (q_ (pt_ b_st 0) (q_ (pt_ b_st 0) ?_)))))))))))
   refine l_' (hd_st_) (aLoad Tryz.prog 23 (pt_ b_st 0) H78) (u110.ld (by kernel_rfl)) ?_
   refine q_ (i_ (gt list6 i7)) ?_
   obtain ⟨g119, r120⟩ := G_some r115
   have u121 := (((((u27.fr e34 Dj.nil_l).ext e40).fr e52 (hf41.djn (h_st_.lt.le (ntr (ntr e12.next e18.next) e34.next)))).ext e58).fr e79 (Dj.app (hf19.djn (h_st_.lt.le e12.next)) (Dj.app (hf41.djn (h_st_.lt.le (ntr (ntr e12.next e18.next) e34.next))) (hf59.djn (h_st_.lt.le (ntr (ntr (ntr (ntr e12.next e18.next) e34.next) e40.next) e52.next))))))
   refine l_' (elp hd_st_ 1 (gt list6 i7).toNat 0) (aIndexAddr Tryz.prog 23 hd_st_ (i_ (gt list6 i7))) (u121.idxb (by kernel_rfl) g119.1 g119.2) ?_
   refine l_' (i_ (gt st_ (gt list6 i7))) (aLoad Tryz.prog 3 (elp hd_st_ 1 (gt list6 i7).toNat 0) H78) (u121.ld g119.1 g119.2 (by kernel_rfl)) ?_
   refine q_ (i_ (gt st_ (gt list6 i7))) (s_nil (k118 _ _ ?_))
   obtain ⟨o122, hx123, r124⟩ := bind_some r120
   refine w_mid (fun α H125 => ∃ (s133 : Value) (f134 : Fp), Has α [(0, pt_ b_st 0), (5, .slice a21 n22 c23), (6, .slice a43 n44 c45), (7, s133), (8, i_ i7)] ∧ FrS (f16 ++ (f38 ++ f87)) H78 H125 ∧ Ow (encI .i64) 1 H125 (.slice a21 n22 c23) o122.1 f16 ∧ Ow (encI .i64) 1 H125 (.slice a43 n44 c45) o122.2.1 f38 ∧ Ow (encI .i64) 1 H125 s133 o122.2.2 f134 ∧ Inn f87 H78 f134) (fun _ k136 => ?_) (fun α H125 hM => ?_)
   ·refine w_block ?_
    obtain ⟨n138, hn139⟩ := loopO_iff.1 hx123
    refine w_loopn (fun n α H140 => ∃ (j0 : Int), ∃ (from1 : List (Int)), ∃ (seen2 : List (Int)), ∃ (list3 : List (Int)), ∃ (s148 : Value), ∃ (f149 : Fp), iterO (fun zz_ => z_search_state_parents_l0 st_ st_2 st_3 st_8 st_9 st_10 list6 i7 y113 zz_.1 zz_.2.1 zz_.2.2.1 zz_.2.2.2) n (j0, from1, seen2, list3) = some o122 ∧ Has α [(0, pt_ b_st 0), (5, .slice a21 n22 c23), (6, .slice a43 n44 c45), (7, s148), (8, i_ i7), (9, i_ (gt list6 i7)), (10, .int .u64 y113.1), (12, i_ j0)] ∧ FrS (f16 ++ (f38 ++ f87)) H78 H140 ∧ Ow (encI .i64) 1 H140 (.slice a21 n22 c23) from1 f16 ∧ Ow (encI .i64) 1 H140 (.slice a43 n44 c45) seen2 f38 ∧ Ow (encI .i64) 1 H140 s148 list3 f149 ∧ Inn f87 H78 f149) n138 ⟨(gt st_ (gt list6 i7)), from4, seen5, list6, (.slice a98 n99 c100), f87, hn139, ha_, (FrS.refl (W := (f16 ++ (f38 ++ f87))) e79.wf), m81, m83, m85, Inn.refl'⟩ ?_
    rintro n138 α H140 ⟨j0, from1, seen2, list3, s148, f149, hi152, hh151, e141, m143, m145, m147, i150⟩ K157 k157
    obtain ⟨n153, z154, rfl, hz155, hn156⟩ := iter_succ hi152
    obtain ⟨β, rfl⟩ := has_ex hh151
    clear hh151
    replace hz155 : z_search_state_parents_l0 st_ st_2 st_3 st_8 st_9 st_10 list6 i7 y113 j0 from1 seen2 list3 = some z154 := hz155
    unfold z_search_state_parents_l0 at hz155
    obtain ⟨a158, n159, c160, rfl⟩ := m147.form
    refine w_seqk fun _ k161 => w_seqk fun _ k162 => g_' (q_ (i_ j0) (q_ (pt_ b_st 0) (q_ (pt_ b_st 0) (q_ (pt_ b_st 0) (q_ (pt_ b_st 0) ?_)))))
    have u163 := (u110.frS e141 (Dj.app (hf19.djn (h_st.ltF.le e12.next)) (Dj.app (hf41.djn (h_st.ltF.le (ntr (ntr e12.next e18.next) e34.next))) (i88.dj (hf59.djn (h_st.ltF.le (ntr (ntr (ntr (ntr e12.next e18.next) e34.next) e40.next) e52.next))) (h_st.ltF.le (ntr (ntr (ntr (ntr (ntr e12.next e18.next) e34.next) e40.next) e52.next) e58.next))))))
    refine l_' (hd_st_) (aLoad Tryz.prog 23 (pt_ b_st 0) H140) (u163.ld (by kernel_rfl)) ?_
    refine q_ (i_ (gt list6 i7)) ?_
    obtain ⟨g164, r165⟩ := G_some hz155
    refine w_' ((gt list6 i7) + 1) (wrap64 (by have := g164; omega)) ?_
    obtain ⟨g166, r167⟩ := G_some r165
    have u168 := (u121.fr e141 (Dj.app (hf19.djn (h_st_.lt.le e12.next)) (Dj.app (hf41.djn (h_st_.lt.le (ntr (ntr e12.next e18.next) e34.next))) (i88.dj (hf59.djn (h_st_.lt.le (ntr (ntr (ntr (ntr e12.next e18.next) e34.next) e40.next) e52.next))) (h_st_.lt.le (ntr (ntr (ntr (ntr (ntr e12.next e18.next) e34.next) e40.next) e52.next) e58.next))))))
    refine l_' (elp hd_st_ 1 ((gt list6 i7) + 1).toNat 0) (aIndexAddr Tryz.prog 23 hd_st_ (i_ ((gt list6 i7) + 1))) (u168.idxb (by kernel_rfl) g166.1 g166.2) ?_
    refine l_' (i_ (gt st_ ((gt list6 i7) + 1))) (aLoad Tryz.prog 3 (elp hd_st_ 1 ((gt list6 i7) + 1).toNat 0) H140) (u168.ld g166.1 g166.2 (by kernel_rfl)) ?_
    refine q_ (.bool (decide (j0 < (gt st_ ((gt list6 i7) + 1))))) (s_nil (k162 _ _ ?_))
    refine w_condp (j0 < (gt st_ ((gt list6 i7) + 1))) (by kernel_rfl) rfl (fun h169 => ?_) (fun h169 => ?_)
    ·have r170 := ite_t h169 r167
     refine w_skip (k161 _ _ (w_seqk fun _ k171 => w_block (w_seqk fun _ k172 => g_' (q_ (pt_ b_st 0) (q_ (pt_ b_st 0) (q_ (pt_ b_st 0) (q_ (pt_ b_st 1) ?_)))))))
     refine l_' (hd_st_2) (aLoad Tryz.prog 23 (pt_ b_st 1) H140) (u163.ld (by kernel_rfl)) ?_
     refine q_ (i_ j0) ?_
     obtain ⟨g173, r174⟩ := G_some r170
     have u175 := ((((((u28.fr e34 Dj.nil_l).ext e40).fr e52 (hf41.djn (h_st_2.lt.le (ntr (ntr e12.next e18.next) e34.next)))).ext e58).fr e79 (Dj.app (hf19.djn (h_st_2.lt.le e12.next)) (Dj.app (hf41.djn (h_st_2.lt.le (ntr (ntr e12.next e18.next) e34.next))) (hf59.djn (h_st_2.lt.le (ntr (ntr (ntr (ntr e12.next e18.next) e34.next) e40.next) e52.next)))))).fr e141 (Dj.app (hf19.djn (h_st_2.lt.le e12.next)) (Dj.app (hf41.djn (h_st_2.lt.le (ntr (ntr e12.next e18.next) e34.next))) (i88.dj (hf59.djn (h_st_2.lt.le (ntr (ntr (ntr (ntr e12.next e18.next) e34.next) e40.next) e52.next))) (h_st_2.lt.le (ntr (ntr (ntr (ntr (ntr e12.next e18.next) e34.next) e40.next) e52.next) e58.next))))))
     refine l_' (elp hd_st_2 1 j0.toNat 0) (aIndexAddr Tryz.prog 23 hd_st_2 (i_ j0)) (u175.idxb (by kernel_rfl) g173.1 g173.2) ?_
     refine l_' (i_ (gt st_2 j0)) (aLoad Tryz.prog 3 (elp hd_st_2 1 j0.toNat 0) H140) (u175.ld g173.1 g173.2 (by kernel_rfl)) ?_
     refine q_ (i_ (gt st_2 j0)) (s_nil (k172 _ _ (w_seqk fun _ k176 => g_' (q_ (pt_ b_st 0) (q_ (pt_ b_st 0) (q_ (pt_ b_st 4) ?_))))))
     refine l_' (pt_ b_st_7 0) (aLoad Tryz.prog 72 (pt_ b_st 4) H140) (u163.ld (by kernel_rfl)) ?_
     refine q_ (i_ (gt st_2 j0)) ?_
     have u177 := (u111.fr e141 (Dj.app (hf19.djn (h_st_8.lt.le e12.next)) (Dj.app (hf41.djn (h_st_8.lt.le (ntr (ntr e12.next e18.next) e34.next))) (i88.dj (hf59.djn (h_st_8.lt.le (ntr (ntr (ntr (ntr e12.next e18.next) e34.next) e40.next) e52.next))) (h_st_8.lt.le (ntr (ntr (ntr (ntr (ntr e12.next e18.next) e34.next) e40.next) e52.next) e58.next))))))
     have u178 := (u112.frS e141 (Dj.app (hf19.djn (h_st_7.ltF.le e12.next)) (Dj.app (hf41.djn (h_st_7.ltF.le (ntr (ntr e12.next e18.next) e34.next))) (i88.dj (hf59.djn (h_st_7.ltF.le (ntr (ntr (ntr (ntr e12.next e18.next) e34.next) e40.next) e52.next))) (h_st_7.ltF.le (ntr (ntr (ntr (ntr (ntr e12.next e18.next) e34.next) e40.next) e52.next) e58.next))))))
     obtain ⟨y179, hy180, r181⟩ := bind_some r174
     refine s_ck 31 #[pt_ b_st_7 0, i_ (gt st_2 j0)] (by kernel_rfl) (c_stamp_Stamp_Get e141.wf u177 u178 hy180) ?_
     rintro _ _ ⟨rfl, rfl⟩
     refine q_ (.tuple #[.int .u64 y179.1, .bool y179.2]) (q_ (.int .u64 y179.1) (q_ (.bool y179.2) (q_ (.int .u64 y179.1) (q_ (.bool y179.2) (s_nil (k176 _ _ (w_seqk fun _ k184 => ?_)))))))
     obtain ⟨o185, hx186, r187⟩ := bind_some r181
     refine w_mid (fun α H188 => Has α [(0, pt_ b_st 0), (5, .slice a21 n22 c23), (6, .slice a43 n44 c45), (7, .slice a158 n159 c160), (8, i_ i7), (9, i_ (gt list6 i7)), (10, .int .u64 y113.1), (12, i_ j0), (13, i_ (gt st_2 j0)), (109, .bool o185)] ∧ H140 = H188) (fun _ k190 => ?_) (fun α H188 hM => ?_)
     ·refine g_' (q_ (.slice a43 n44 c45) (q_ (i_ (gt st_2 j0)) ?_))
      obtain ⟨g192, r193⟩ := G_some hx186
      refine l_' (elp (.slice a43 n44 c45) 1 (gt st_2 j0).toNat 0) (aIndexAddr Tryz.prog 23 (.slice a43 n44 c45) (i_ (gt st_2 j0))) (m145.sq.idxb (by kernel_rfl) g192.1 g192.2) ?_
      refine l_' (i_ (gt seen2 (gt st_2 j0))) (aLoad Tryz.prog 3 (elp (.slice a43 n44 c45) 1 (gt st_2 j0).toNat 0) H140) (m145.sq.ld g192.1 g192.2 (by kernel_rfl)) ?_
      refine s_b ((gt seen2 (gt st_2 j0)) = 0) (by kernel_rfl) (fun h194 => ?_) (fun h194 => ?_)
      ·have r195 := ite_t h194 r193
       refine q_ (.bool true) (q_ (.int .u64 y179.1) (q_ (.int .u64 y113.1) (q_ (pt_ b_st 0) (q_ (pt_ b_st 0) (q_ (pt_ b_st 0) (q_ (pt_ b_st 2) ?_))))))
       refine l_' (hd_st_3) (aLoad Tryz.prog 23 (pt_ b_st 2) H140) (u163.ld (by kernel_rfl)) ?_
       refine q_ (i_ j0) ?_
       obtain ⟨g196, r197⟩ := G_some r195
       have u198 := ((((((u29.fr e34 Dj.nil_l).ext e40).fr e52 (hf41.djn (h_st_3.lt.le (ntr (ntr e12.next e18.next) e34.next)))).ext e58).fr e79 (Dj.app (hf19.djn (h_st_3.lt.le e12.next)) (Dj.app (hf41.djn (h_st_3.lt.le (ntr (ntr e12.next e18.next) e34.next))) (hf59.djn (h_st_3.lt.le (ntr (ntr (ntr (ntr e12.next e18.next) e34.next) e40.next) e52.next)))))).fr e141 (Dj.app (hf19.djn (h_st_3.lt.le e12.next)) (Dj.app (hf41.djn (h_st_3.lt.le (ntr (ntr e12.next e18.next) e34.next))) (i88.dj (hf59.djn (h_st_3.lt.le (ntr (ntr (ntr (ntr e12.next e18.next) e34.next) e40.next) e52.next))) (h_st_3.lt.le (ntr (ntr (ntr (ntr (ntr e12.next e18.next) e34.next) e40.next) e52.next) e58.next))))))
       refine l_' (elp hd_st_3 1 j0.toNat 0) (aIndexAddr Tryz.prog 23 hd_st_3 (i_ j0)) (u198.idxb (by kernel_rfl) g173.1 g196) ?_
       refine l_' (i_ (gt st_3 j0)) (aLoad Tryz.prog 3 (elp hd_st_3 1 j0.toNat 0) H140) (u198.ld g173.1 g196 (by kernel_rfl)) ?_
       obtain ⟨g199, r200⟩ := G_some r197
       refine s_w ((gt st_3 j0)) (k := .u64) (x := (gt st_3 j0)) (by kernel_rfl) (wrapu64 g199) ?_
       obtain ⟨g201, r202⟩ := G_some r200
       refine s_w ((y113.1 + (gt st_3 j0))) (k := .u64) (x := (y113.1 + (gt st_3 j0))) (by kernel_rfl) (wrapu64 g201) ?_
       refine q_ (.bool (decide (y179.1 = (y113.1 + (gt st_3 j0))))) (q_ (.bool (decide (y179.1 = (y113.1 + (gt st_3 j0))))) (s_nil ?_))
       obtain rfl := Option.some.inj r202
       exact k190 _ _ ⟨ha_, rfl⟩
      have r203 := ite_f h194 r193
      refine q_ (.bool false) (n_' (n_' (n_' (n_' (n_' (n_' (n_' (n_' (n_' (n_' (n_' (n_' (n_' (q_ (.bool false) (s_nil ?_)))))))))))))))
      obtain rfl := Option.some.inj r203
      exact k190 _ _ ⟨ha_, rfl⟩
     obtain ⟨hh191, rfl⟩ := hM
     obtain ⟨β, rfl⟩ := has_ex hh191
     clear hh191
     refine k184 _ _ ?_
     refine w_cond (o185) (by kernel_rfl) rfl (fun h204 => ?_) (fun h204 => ?_)
     ·have r205 := ite_t h204 r187
      refine w_seqk fun _ k206 => g_' (q_ (.slice a43 n44 c45) (q_ (i_ (gt st_2 j0)) ?_))
      obtain ⟨g207, r208⟩ := G_some r205
      refine l_' (elp (.slice a43 n44 c45) 1 (gt st_2 j0).toNat 0) (aIndexAddr Tryz.prog 23 (.slice a43 n44 c45) (i_ (gt st_2 j0))) (m145.sq.idxb (by kernel_rfl) g207.1 g207.2) ?_
      obtain ⟨H209, q210, e211, hm212⟩ := Ow.store (P := Tryz.prog) (t := 3) (off := 0) e141.wf m145 g207.1 g207.2 (i_ 1) [i_ 1] (by kernel_rfl) (by kernel_rfl) rfl 1 (Nat.le_of_ble_eq_true rfl) (by kernel_rfl)
      refine s_ek (undef) (by kernel_rfl) (map_ok q210) ?_
      refine s_nil (k206 _ _ (w_seqk fun _ k213 => g_' (q_ (.slice a21 n22 c23) (q_ (i_ (gt st_2 j0)) (q_ (i_ (gt list6 i7)) ?_)))))
      obtain ⟨g214, r215⟩ := G_some r208
      have u216 := (m143.fr e211 (hf41.djn (hm20.lt.le e34.next)))
      refine l_' (elp (.slice a21 n22 c23) 1 (gt st_2 j0).toNat 0) (aIndexAddr Tryz.prog 23 (.slice a21 n22 c23) (i_ (gt st_2 j0))) (u216.sq.idxb (by kernel_rfl) g207.1 g214) ?_
      obtain ⟨H217, q218, e219, hm220⟩ := Ow.store (P := Tryz.prog) (t := 3) (off := 0) e211.wf u216 g207.1 g214 (i_ (gt list6 i7)) [i_ (gt list6 i7)] (by kernel_rfl) (by kernel_rfl) rfl (gt list6 i7) (Nat.le_of_ble_eq_true rfl) (by kernel_rfl)
      refine s_ek (undef) (by kernel_rfl) (map_ok q218) ?_
      refine s_nil (k213 _ _ (g_' (q_ (.slice a158 n159 c160) (q_ (i_ (gt st_2 j0)) ?_))))
      refine s_owk (enc := (encI .i64)) (sz := 1) e219.wf [(gt st_2 j0)] 1 (by decide) (fun _ _ => rfl) (fun _ _ => rfl) rfl (by kernel_rfl) fun s221 f222 H223 e224 hf225 hm226 => ?_
      obtain ⟨a227, n228, c229, rfl⟩ := hm226.form
      have u231 := (((m147.fr e211 (Dj.symm (i150.dj (i88.dj (hf59.djn (hm42.lt.le e52.next)) (hm42.lt.le (ntr e52.next e58.next))) (hm42.lt.le (ntr (ntr e52.next e58.next) e79.next))))).fr e219 (Dj.symm (i150.dj (i88.dj (hf59.djn (hm20.lt.le (ntr (ntr e34.next e40.next) e52.next))) (hm20.lt.le (ntr (ntr (ntr e34.next e40.next) e52.next) e58.next))) (hm20.lt.le (ntr (ntr (ntr (ntr e34.next e40.next) e52.next) e58.next) e79.next))))).ext e224)
      obtain ⟨g232, r233⟩ := G_some r215
      obtain ⟨s234, H235, f236, q240, e237, hm238, hf239⟩ := Ow.append (P := Tryz.prog) 8 e224.wf u231 hm226.sq (fun _ _ => rfl) (at_ := #[23, 23]) rfl rfl (by kernel_rfl) (by kernel_rfl) (by decide) (by have := g232; first | omega | (simp only [List.length_cons, List.length_nil] at this ⊢; omega) | (simp at this ⊢; omega))
      obtain ⟨a241, n242, c243, rfl⟩ := hm238.form
      refine s_ek (.slice a241 n242 c243) (by kernel_rfl) (q240) ?_
      refine q_ (.slice a241 n242 c243) (s_nil (k171 _ _ (g_' (q_ (i_ j0) ?_))))
      obtain ⟨g245, r246⟩ := G_some r233
      refine w_' (j0 + 1) (wrap64 (by have := g245; omega)) ?_
      refine q_ (i_ (j0 + 1)) (s_nil ?_)
      have u247 := ((hm220.ext e224).fr e237 (i150.dj (i88.dj (hf59.djn (hm20.lt.le (ntr (ntr e34.next e40.next) e52.next))) (hm20.lt.le (ntr (ntr (ntr e34.next e40.next) e52.next) e58.next))) (hm20.lt.le (ntr (ntr (ntr (ntr e34.next e40.next) e52.next) e58.next) e79.next))))
      have u248 := (((hm212.fr e219 (Dj.symm (hf41.djn (hm20.lt.le e34.next)))).ext e224).fr e237 (i150.dj (i88.dj (hf59.djn (hm42.lt.le e52.next)) (hm42.lt.le (ntr e52.next e58.next))) (hm42.lt.le (ntr (ntr e52.next e58.next) e79.next))))
      obtain rfl := Option.some.inj r246
      exact k157 n153 _ _ (Nat.lt_succ_self _) ⟨(j0 + 1), (from1.set (gt st_2 j0).toNat (gt list6 i7)), (seen2.set (gt st_2 j0).toNat 1), (list3 ++ [(gt st_2 j0)]), (.slice a241 n242 c243), f236, hn156, ha_, (FrS.step e79.wf ((FrS.step e79.wf (FrS.step e79.wf (FrS.step e79.wf (FrS.refl (W := (f16 ++ (f38 ++ f87))) e79.wf) e141 (Inn.app Inn.left (Inn.app (Inn.right Inn.left) (Inn.right (Inn.right Inn.refl'))))) e211 (Inn.right Inn.left)) e219 Inn.left).extR e224) e237 (Inn.trans (Inn.right (Inn.right Inn.refl')) (Nat.le_refl _) i150)), u247, u248, hm238, (Inn.trans (Inn.trans Inn.refl' (Nat.le_refl _) i150) (ntr (ntr (ntr e141.next e211.next) e219.next) e224.next) hf239)⟩
     have r249 := ite_bf h204 r187
     refine w_skip (k171 _ _ (g_' (q_ (i_ j0) ?_)))
     obtain ⟨g250, r251⟩ := G_some r249
     refine w_' (j0 + 1) (wrap64 (by have := g250; omega)) ?_
     refine q_ (i_ (j0 + 1)) (s_nil ?_)
     obtain rfl := Option.some.inj r251
     exact k157 n153 _ _ (Nat.lt_succ_self _) ⟨(j0 + 1), from1, seen2, list3, (.slice a158 n159 c160), f149, hn156, ha_, (FrS.step e79.wf (FrS.refl (W := (f16 ++ (f38 ++ f87))) e79.wf) e141 (Inn.app Inn.left (Inn.app (Inn.right Inn.left) (Inn.right (Inn.right Inn.refl'))))), m143, m145, m147, (Inn.trans Inn.refl' (Nat.le_refl _) i150)⟩
    have r252 := ite_f h169 r167
    refine w_exit (th_exit (th_exit (bl_eq ?_)))
    obtain rfl := Option.some.inj r252
    obtain rfl := it_inr hn156
    exact k136 _ _ ⟨(.slice a158 n159 c160), f149, ha_, (FrS.step e79.wf (FrS.refl (W := (f16 ++ (f38 ++ f87))) e79.wf) e141 (Inn.app Inn.left (Inn.app (Inn.right Inn.left) (Inn.right (Inn.right Inn.refl'))))), m143, m145, m147, (Inn.trans Inn.refl' (Nat.le_refl _) i150)⟩
   obtain ⟨s133, f134, hh137, e126, m128, m130, m132, i135⟩ := hM
   obtain ⟨β, rfl⟩ := has_ex hh137
   clear hh137
   obtain ⟨a253, n254, c255, rfl⟩ := m132.form
   refine k105 _ _ (g_' (q_ (i_ i7) ?_))
   obtain ⟨g256, r257⟩ := G_some r124
   refine w_' (i7 + 1) (wrap64 (by have := g256; omega)) ?_
   refine q_ (i_ (i7 + 1)) (s_nil ?_)
   obtain rfl := Option.some.inj r257
   exact k97 n91 _ _ (Nat.lt_succ_self _) ⟨o122.1, o122.2.1, o122.2.2, (i7 + 1), (.slice a253 n254 c255), f134, hn94, ha_, (FrS.step e58.wf (FrS.step e58.wf (FrS.refl (W := (f16 ++ (f38 ++ f56))) e58.wf) e79 (Inn.app Inn.left (Inn.app (Inn.right Inn.left) (Inn.right (Inn.right Inn.refl'))))) e126 (Inn.app Inn.left (Inn.app (Inn.right Inn.left) (Inn.trans (Inn.right (Inn.right Inn.refl')) (Nat.le_refl _) i88)))), m128, m130, m132, (Inn.trans (Inn.trans Inn.refl' (Nat.le_refl _) i88) e79.next i135)⟩
  have r258 := ite_f h103 hz93
  refine w_exit (th_exit (th_exit (bl_eq ?_)))
  obtain rfl := Option.some.inj r258
  obtain rfl := it_inr hn94
  exact k74 _ _ ⟨ha_, (FrS.step e58.wf (FrS.refl (W := (f16 ++ (f38 ++ f56))) e58.wf) e79 (Inn.app Inn.left (Inn.app (Inn.right Inn.left) (Inn.right (Inn.right Inn.refl'))))), m81⟩
 obtain ⟨hh75, e71, m73⟩ := hM
 obtain ⟨β, rfl⟩ := has_ex hh75
 clear hh75
 refine k65 _ _ (w_seqk fun _ k259 => g_' (q_ (.slice a21 n22 c23) (q_ (.slice a21 n22 c23) (s_nil (k259 _ _ ?_)))))
 refine w_ret ?_
 refine b_ret (fn := Tryz.f25) (vs := [.slice a21 n22 c23]) (aRes_tmp (by kernel_rfl) (rfl)) ?_
 obtain rfl := Option.some.inj r69
 exact ⟨(.slice a21 n22 c23), f16, rfl, (FrS.step wf ((FrS.step wf ((FrS.step wf ((FrS.step wf (FrS.refl (W := []) wf) e12 Inn.nil).extR e18) e34 Inn.nil).extR e40) e52 (hf41.fresh (ntr (ntr e12.next e18.next) e34.next))).extR e58) e71 (Inn.app (hf19.fresh e12.next) (Inn.app (hf41.fresh (ntr (ntr e12.next e18.next) e34.next)) (hf59.fresh (ntr (ntr (ntr (ntr e12.next e18.next) e34.next) e40.next) e52.next))))), m73, (hf19.fresh e12.next)⟩
theorem c_slices_Reverse {H : AH} {hd_s : Value} {fp_s : Fp} {s : List (Int)} {r : List (Int)}
    (wf : WF H) (h_s : Ow (encI .i64) 1 H hd_s s fp_s) (hr : z_slices_Reverse s = some r) :
    ACalls Tryz.prog 26 #[hd_s] H fun v H' => v = .tuple #[] ∧ FrS fp_s H H' ∧ Ow (encI .i64) 1 H' hd_s r fp_s := by
 refine acalls_of_body mixed Tryz.func26 rfl (Nat.le_of_ble_eq_true rfl) ?_
 unfold z_slices_Reverse at hr
 refine w_seqk fun _ k3 => g_' (q_ (hd_s) ?_)
 refine l_' (i_ (s.length : Int)) (aLen Tryz.prog 23 hd_s H) (h_s.sq.lenb (by kernel_rfl)) ?_
 obtain ⟨g4, r5⟩ := G_some hr
 refine w_' ((s.length : Int) - 1) (wrap64 g4) ?_
 refine q_ (i_ 0) (q_ (i_ ((s.length : Int) - 1)) (s_nil (k3 _ _ ?_)))
 obtain ⟨o6, hx7, r8⟩ := bind_some r5
 refine w_mid (fun α H9 => Has α [] ∧ FrS fp_s H H9 ∧ Ow (encI .i64) 1 H9 hd_s o6 fp_s) (fun _ k13 => ?_) (fun α H9 hM => ?_)
 ·refine w_block ?_
  obtain ⟨n15, hn16⟩ := loopO_iff.1 hx7
  refine w_loopn (fun n α H17 => ∃ (s0 : List (Int)), ∃ (i1 : Int), ∃ (j2 : Int), iterO (fun zz_ => z_slices_Reverse_l0 zz_.1 zz_.2.1 zz_.2.2) n (s0, i1, j2) = some o6 ∧ Has α [(0, hd_s), (2, i_ i1), (3, i_ j2)] ∧ FrS fp_s H H17 ∧ Ow (encI .i64) 1 H17 hd_s s0 fp_s) n15 ⟨s, 0, ((s.length : Int) - 1), hn16, ha_, (FrS.refl (W := fp_s) wf), h_s⟩ ?_
  rintro n15 α H17 ⟨s0, i1, j2, hi22, hh21, e18, m20⟩ K27 k27
  obtain ⟨n23, z24, rfl, hz25, hn26⟩ := iter_succ hi22
  obtain ⟨β, rfl⟩ := has_ex hh21
  clear hh21
  replace hz25 : z_slices_Reverse_l0 s0 i1 j2 = some z24 := hz25
  unfold z_slices_Reverse_l0 at hz25
  refine w_seqk fun _ k28 => w_seqk fun _ k29 => g_' (q_ (i_ i1) (q_ (i_ j2) (q_ (.bool (decide (i1 < j2))) (s_nil (k29 _ _ ?_)))))
  refine w_condp (i1 < j2) (by kernel_rfl) rfl (fun h30 => ?_) (fun h30 => ?_)
  ·have r31 := ite_t h30 hz25
   refine w_skip (k28 _ _ (w_seqk fun _ k32 => w_block ?_))
   refine w_draw [0, 1, 2, 3, 4, 5, 6, 7, 8, 9, 10, 11, 12, 13, 14, 15] (by kernel_rfl) ?_
   refine e_' (hd_s) (e_' (i_ i1) (e_' (hd_s) (e_' (i_ j2) (e_' (hd_s) (e_' (i_ j2) ?_)))))
   obtain ⟨g33, r34⟩ := G_some r31
   refine m_' (elp hd_s 1 j2.toNat 0) (aIndexAddr Tryz.prog 23 hd_s (i_ j2)) (m20.sq.idxb (by kernel_rfl) g33.1 g33.2) ?_
   refine m_' (i_ (gt s0 j2)) (aLoad Tryz.prog 3 (elp hd_s 1 j2.toNat 0) H17) (m20.sq.ld g33.1 g33.2 (by kernel_rfl)) ?_
   refine e_' (hd_s) (e_' (i_ i1) ?_)
   obtain ⟨g35, r36⟩ := G_some r34
   refine m_' (elp hd_s 1 i1.toNat 0) (aIndexAddr Tryz.prog 23 hd_s (i_ i1)) (m20.sq.idxb (by kernel_rfl) g35.1 g35.2) ?_
   refine m_' (i_ (gt s0 i1)) (aLoad Tryz.prog 3 (elp hd_s 1 i1.toNat 0) H17) (m20.sq.ld g35.1 g35.2 (by kernel_rfl)) ?_
   refine m_' (elp hd_s 1 i1.toNat 0) (aIndexAddr Tryz.prog 23 hd_s (i_ i1)) (m20.sq.idxb (by kernel_rfl) g35.1 g35.2) ?_
   obtain ⟨H37, q38, e39, hm40⟩ := Ow.store (P := Tryz.prog) (t := 3) (off := 0) e18.wf m20 g35.1 g35.2 (i_ (gt s0 j2)) [i_ (gt s0 j2)] (by kernel_rfl) (by kernel_rfl) rfl (gt s0 j2) (Nat.le_of_ble_eq_true rfl) (by kernel_rfl)
   refine d_ek (undef) (by kernel_rfl) (map_ok q38) (st_nil) ?_
   obtain ⟨g41, r42⟩ := G_some r36
   refine m_' (elp hd_s 1 j2.toNat 0) (aIndexAddr Tryz.prog 23 hd_s (i_ j2)) (hm40.sq.idxb (by kernel_rfl) g33.1 g41) ?_
   obtain ⟨H43, q44, e45, hm46⟩ := Ow.store (P := Tryz.prog) (t := 3) (off := 0) e39.wf hm40 g33.1 g41 (i_ (gt s0 i1)) [i_ (gt s0 i1)] (by kernel_rfl) (by kernel_rfl) rfl (gt s0 i1) (Nat.le_of_ble_eq_true rfl) (by kernel_rfl)
   refine d_ek (undef) (by kernel_rfl) (map_ok q44) (st_nil) ?_
   refine d_nil ?_
   refine k32 _ _ (g_' (q_ (i_ i1) ?_))
   obtain ⟨g47, r48⟩ := G_some r42
   refine w_' (i1 + 1) (wrap64 (by have := g47; omega)) ?_
   refine q_ (i_ j2) ?_
   obtain ⟨g49, r50⟩ := G_some r48
   refine w_' (j2 - 1) (wrap64 g49) ?_
   refine q_ (i_ (i1 + 1)) (q_ (i_ (j2 - 1)) (s_nil ?_))
   obtain rfl := Option.some.inj r50
   exact k27 n23 _ _ (Nat.lt_succ_self _) ⟨((s0.set i1.toNat (gt s0 j2)).set j2.toNat (gt s0 i1)), (i1 + 1), (j2 - 1), hn26, ha_, (FrS.step wf (FrS.step wf (FrS.step wf (FrS.refl (W := fp_s) wf) e18 Inn.refl') e39 Inn.refl') e45 Inn.refl'), hm46⟩
  have r51 := ite_f h30 hz25
  refine w_exit (th_exit (th_exit (bl_eq ?_)))
  obtain rfl := Option.some.inj r51
  obtain rfl := it_inr hn26
  exact k13 _ _ ⟨trivial, (FrS.step wf (FrS.refl (W := fp_s) wf) e18 Inn.refl'), m20⟩
 obtain ⟨hh14, e10, m12⟩ := hM
 obtain ⟨β, rfl⟩ := has_ex hh14
 clear hh14
 refine b_nrm (fn := Tryz.f26) (vs := []) (rfl) ?_
 obtain rfl := Option.some.inj r8
 exact ⟨rfl, (FrS.step wf (FrS.refl (W := fp_s) wf) e10 Inn.refl'), m12⟩
end Go.Vd

/-! (KSt6) -/

set_option maxRecDepth 100000
set_option maxHeartbeats 4000000
set_option linter.unusedVariables false
namespace Go.Vd
open Go.Proofs
attribute [local irreducible] wpSeq wpOrd aWp
theorem c_search_Path {H : AH} {hd_First : Value} {fp_First : Fp} {hd_To : Value} {fp_To : Fp} {hd_Weight : Value} {fp_Weight : Fp} {First : List (Int)} {To : List (Int)} {Weight : List (Int)} {s : Int} {t : Int} {r : List (Int) × Er}
    (wf : WF H) (h_First : Sq (encI .i64) 1 H hd_First First fp_First) (h_To : Sq (encI .i64) 1 H hd_To To fp_To) (h_Weight : Sq (encI .i64) 1 H hd_Weight Weight fp_Weight) (hr : z_search_Path First To Weight s t = some r) :
    ACalls Tryz.prog 9 #[.agg #[hd_First, hd_To, hd_Weight], i_ s, i_ t] H fun v H' => ∃ (s3 : Value) (f4 : Fp) (v7 : Value) (f8 : Fp), v = .tuple #[s3, v7] ∧ FrS [] H H' ∧ Ow (encI .i64) 1 H' s3 r.1 f4 ∧ Ev 43 81 H' v7 r.2 f8 ∧ Inn [] H f4 ∧ Inn [] H f8 ∧ Dj f4 f8 := by
 refine acalls_of_body mixed Tryz.func9 rfl (Nat.le_of_ble_eq_true rfl) ?_
 unfold z_search_Path at hr
 refine w_seqk fun _ k12 => g_' ?_
 refine s_rwl wf [hd_First, hd_To, hd_Weight] (one_cons (h_First.one1) (one_cons (h_To.one1) (one_cons (h_Weight.one1) (one_nil)))) (by kernel_rfl) fun b13 H14 e15 hb16 r17 => ?_
 refine q_ (.slice none 0 0) (q_ (.nilIface) (s_nil (k12 _ _ (w_seqk fun _ k19 => w_seqk fun _ k20 => g_' ?_))))
 refine l_' (.agg #[hd_First, hd_To, hd_Weight]) (aLoad Tryz.prog 25 (pt_ b13 0) H14) (r17.ld (by kernel_rfl)) ?_
 refine q_ (i_ s) (q_ (i_ t) ?_)
 refine s_owk (enc := (encI .i64)) (sz := 1) e15.wf [s, t] 2 (by decide) (fun _ _ => rfl) (fun _ _ => rfl) rfl (by kernel_rfl) fun s21 f22 H23 e24 hf25 hm26 => ?_
 obtain ⟨a27, n28, c29, rfl⟩ := hm26.form
 have u31 := ((h_First.ext e15).ext e24)
 have u32 := ((h_To.ext e15).ext e24)
 have u33 := ((h_Weight.ext e15).ext e24)
 obtain ⟨y34, hy35, r36⟩ := bind_some hr
 refine s_ck 21 #[.agg #[hd_First, hd_To, hd_Weight], .slice a27 n28 c29] (by kernel_rfl) (c_search_node e24.wf u31 u32 u33 hm26.sq hy35) ?_
 rintro v37 H39 ⟨_, f38, rfl, e40, m41, i42⟩
 refine q_ (v37) (s_nil (k20 _ _ (w_seqk fun _ k44 => g_' (q_ (v37) ?_))))
 rcases (m41).cases with ⟨h45, rfl⟩ | ⟨h45, t46, x47, rfl⟩
 ·have r48 := ite_t h45 r36
  refine q_ (.bool false) (s_nil (k44 _ _ ?_))
  refine w_cond false (by kernel_rfl) rfl (fun h => by cases h) (fun _ => ?_)
  refine w_skip (k19 _ _ (w_seqk fun _ k49 => ?_))
  refine w_draw [0, 1, 2, 3, 4] (by kernel_rfl) ?_
  have u50 := ((r17.ext e24).frS e40 Dj.nil_l)
  refine d_fl (.agg #[hd_First, hd_To, hd_Weight]) (x := aLoad Tryz.prog 25 (pt_ b13 0) H39) (by kernel_rfl) (u50.ld (by kernel_rfl)) ?_
  refine e_' (i_ s) ?_
  obtain ⟨y51, hy52, r53⟩ := bind_some r48
  refine d_ck 23 #[] (by kernel_rfl) (c_search_free e40.wf hy52) ?_
  rintro _ H54 ⟨rfl, e55⟩
  have u56 := (u50.frS e55 Dj.nil_l)
  refine ⟨st_ql (y := aLoad Tryz.prog 25 (pt_ b13 0) H54) (by kernel_rfl) (u56.ld (by kernel_rfl)) (st_nil), ?_⟩
  have u57 := ((u31.fr e40 Dj.nil_l).fr e55 Dj.nil_l)
  have u58 := ((u32.fr e40 Dj.nil_l).fr e55 Dj.nil_l)
  have u59 := ((u33.fr e40 Dj.nil_l).fr e55 Dj.nil_l)
  obtain ⟨y60, hy61, r62⟩ := bind_some r53
  refine d_ck 22 #[.agg #[hd_First, hd_To, hd_Weight], i_ s, .agg #[i_ 4611686018427387904, i_ 4611686018427387904, .int .u64 18446744073709551615]] (by kernel_rfl) (c_search_run e55.wf u57 u58 u59 hy61) ?_
  rintro _ H76 ⟨s63, f64, s65, f66, b67, s68, f69, b70, s71, f72, s73, f74, b75, rfl, e77, m78, m79, m80, m81, m82, m83, m84, m85, i86, i87, i88, i89, i90, i91, i92, i93, d94, d95, d96, d97, d98, d99, d100, d101, d102, d103, d104, d105, d106, d107, d108, d109, d110, d111, d112, d113, d114, d115, d116, d117, d118, d119, d120, d121⟩
  obtain ⟨a130, n131, c132, rfl⟩ := m78.form
  obtain ⟨a133, n134, c135, rfl⟩ := m79.form
  obtain ⟨a136, n137, c138, rfl⟩ := m81.form
  obtain ⟨a139, n140, c141, rfl⟩ := m83.form
  obtain ⟨a142, n143, c144, rfl⟩ := m84.form
  refine ⟨st_anc (by kernel_rfl) (st_nil), ?_⟩
  refine e_' (pt_ b75 0) ?_
  refine d_nil ?_
  refine k49 _ _ (w_seqk fun _ k145 => w_seqk fun _ k146 => g_' (q_ (pt_ b75 0) (q_ (pt_ b75 0) (q_ (pt_ b75 6) ?_))))
  refine l_' (.slice a142 n143 c144) (aLoad Tryz.prog 73 (pt_ b75 6) H76) (m85.ld (by kernel_rfl)) ?_
  refine q_ (i_ t) ?_
  obtain ⟨g147, r148⟩ := G_some r62
  refine l_' (elp (.slice a142 n143 c144) 1 t.toNat 0) (aIndexAddr Tryz.prog 73 (.slice a142 n143 c144) (i_ t)) (m84.sq.idxb (by kernel_rfl) g147.1 g147.2) ?_
  refine l_' (.bool (gt y60.2.2.2.2.2.2 t)) (aLoad Tryz.prog 4 (elp (.slice a142 n143 c144) 1 t.toNat 0) H76) (m84.sq.ld g147.1 g147.2 (by kernel_rfl)) ?_
  refine q_ (.bool (!(gt y60.2.2.2.2.2.2 t))) (s_nil (k146 _ _ ?_))
  refine w_cond ((!(gt y60.2.2.2.2.2.2 t))) (by kernel_rfl) rfl (fun h149 => ?_) (fun h149 => ?_)
  ·have r150 := ite_t h149 r148
   refine w_seqk fun _ k151 => g_' (q_ (.iface 43 (i_ 16)) (q_ (.slice none 0 0) (q_ (.iface 43 (i_ 16)) (s_nil (k151 _ _ ?_)))))
   refine w_ret (th_ret ?_)
   refine b_ret (fn := Tryz.f9) (vs := [.slice none 0 0, .iface 43 (i_ 16)]) (aRes_tmp (by kernel_rfl) (aRes_tmp (by kernel_rfl) (rfl))) ?_
   obtain rfl := Option.some.inj r150
   exact ⟨(.slice none 0 0), [], (.iface 43 (i_ 16)), [], rfl, (FrS.step wf (FrS.step wf (FrS.step wf (((FrS.refl (W := []) wf).extR e15).extR e24) e40 Inn.nil) e55 Inn.nil) e77 Inn.nil), (Ow.nil (by decide)), Ev.no, Inn.nil, Inn.nil, Dj.nil_l⟩
  have r152 := ite_bf h149 r148
  refine w_skip (k145 _ _ (w_seqk fun _ k153 => g_' (q_ (pt_ b75 0) (q_ (i_ s) ?_))))
  have u154 := (u57.fr e77 Dj.nil_l)
  have u155 := (u58.fr e77 Dj.nil_l)
  have u156 := (u59.fr e77 Dj.nil_l)
  obtain ⟨y157, hy158, r159⟩ := bind_some r152
  refine s_ck 25 #[pt_ b75 0, i_ s] (by kernel_rfl) (c_search_state_parents e77.wf u154 u155 u156 m78.sq m79.sq m80 m81.sq m82 m83.sq m84.sq m85 hy158) ?_
  rintro s160 H162 ⟨_, f161, rfl, e163, m164, i165⟩
  obtain ⟨a167, n168, c169, rfl⟩ := m164.form
  refine q_ (.slice a167 n168 c169) (s_nil (k153 _ _ (w_seqk fun _ k170 => g_' (q_ (i_ t) ?_))))
  refine s_owk (enc := (encI .i64)) (sz := 1) e163.wf [t] 1 (by decide) (fun _ _ => rfl) (fun _ _ => rfl) rfl (by kernel_rfl) fun s171 f172 H173 e174 hf175 hm176 => ?_
  obtain ⟨a177, n178, c179, rfl⟩ := hm176.form
  refine q_ (.slice a177 n178 c179) (s_nil (k170 _ _ (w_seqk fun _ k181 => w_seqk fun _ k182 => g_' (q_ (i_ t) (q_ (i_ t) (s_nil (k182 _ _ ?_)))))))
  obtain ⟨o183, hx184, r185⟩ := bind_some r159
  refine w_mid (fun α H186 => ∃ (s190 : Value) (f191 : Fp), Has α [(11, s190)] ∧ FrS f172 H173 H186 ∧ Ow (encI .i64) 1 H186 s190 o183 f191 ∧ Inn f172 H173 f191) (fun _ k193 => ?_) (fun α H186 hM => ?_)
  ·refine w_block ?_
   obtain ⟨n195, hn196⟩ := loopO_iff.1 hx184
   refine w_loopn (fun n α H197 => ∃ (l0 : List (Int)), ∃ (v1 : Int), ∃ (s201 : Value), ∃ (f202 : Fp), iterO (fun zz_ => z_search_Path_l0 s y157 zz_.1 zz_.2) n (l0, v1) = some o183 ∧ Has α [(1, i_ s), (10, .slice a167 n168 c169), (11, s201), (12, i_ v1)] ∧ FrS f172 H173 H197 ∧ Ow (encI .i64) 1 H197 s201 l0 f202 ∧ Inn f172 H173 f202) n195 ⟨[t], t, (.slice a177 n178 c179), f172, hn196, ha_, (FrS.refl (W := f172) e174.wf), hm176, Inn.refl'⟩ ?_
   rintro n195 α H197 ⟨l0, v1, s201, f202, hi205, hh204, e198, m200, i203⟩ K210 k210
   obtain ⟨n206, z207, rfl, hz208, hn209⟩ := iter_succ hi205
   obtain ⟨β, rfl⟩ := has_ex hh204
   clear hh204
   replace hz208 : z_search_Path_l0 s y157 l0 v1 = some z207 := hz208
   unfold z_search_Path_l0 at hz208
   obtain ⟨a211, n212, c213, rfl⟩ := m200.form
   refine w_seqk fun _ k214 => w_seqk fun _ k215 => g_' (q_ (i_ v1) (q_ (i_ s) (q_ (.bool (!decide (v1 = s))) (s_nil (k215 _ _ ?_)))))
   refine w_condn (v1 = s) (by kernel_rfl) rfl (fun h216 => ?_) (fun h216 => ?_)
   ·have r217 := ite_f h216 hz208
    refine w_skip (k214 _ _ (w_block (w_seqk fun _ k218 => g_' (q_ (.slice a167 n168 c169) (q_ (i_ v1) ?_)))))
    obtain ⟨g219, r220⟩ := G_some r217
    have u221 := ((m164.ext e174).fr e198 (hf175.djn m164.lt))
    refine l_' (elp (.slice a167 n168 c169) 1 v1.toNat 0) (aIndexAddr Tryz.prog 23 (.slice a167 n168 c169) (i_ v1)) (u221.sq.idxb (by kernel_rfl) g219.1 g219.2) ?_
    refine l_' (i_ (gt y157 v1)) (aLoad Tryz.prog 3 (elp (.slice a167 n168 c169) 1 v1.toNat 0) H197) (u221.sq.ld g219.1 g219.2 (by kernel_rfl)) ?_
    refine q_ (i_ (gt y157 v1)) (s_nil (k218 _ _ (g_' (q_ (.slice a211 n212 c213) (q_ (i_ (gt y157 v1)) ?_)))))
    refine s_owk (enc := (encI .i64)) (sz := 1) e198.wf [(gt y157 v1)] 1 (by decide) (fun _ _ => rfl) (fun _ _ => rfl) rfl (by kernel_rfl) fun s222 f223 H224 e225 hf226 hm227 => ?_
    obtain ⟨a228, n229, c230, rfl⟩ := hm227.form
    have u232 := (m200.ext e225)
    obtain ⟨g233, r234⟩ := G_some r220
    obtain ⟨s235, H236, f237, q241, e238, hm239, hf240⟩ := Ow.append (P := Tryz.prog) 8 e225.wf u232 hm227.sq (fun _ _ => rfl) (at_ := #[23, 23]) rfl rfl (by kernel_rfl) (by kernel_rfl) (by decide) (by have := g233; first | omega | (simp only [List.length_cons, List.length_nil] at this ⊢; omega) | (simp at this ⊢; omega))
    obtain ⟨a242, n243, c244, rfl⟩ := hm239.form
    refine s_ek (.slice a242 n243 c244) (by kernel_rfl) (q241) ?_
    refine q_ (.slice a242 n243 c244) (s_nil ?_)
    obtain rfl := Option.some.inj r234
    exact k210 n206 _ _ (Nat.lt_succ_self _) ⟨(l0 ++ [(gt y157 v1)]), (gt y157 v1), (.slice a242 n243 c244), f237, hn209, ha_, (FrS.step e174.wf ((FrS.step e174.wf (FrS.refl (W := f172) e174.wf) e198 Inn.refl').extR e225) e238 (Inn.trans Inn.refl' (Nat.le_refl _) i203)), hm239, (Inn.trans (Inn.trans Inn.refl' (Nat.le_refl _) i203) (ntr e198.next e225.next) hf240)⟩
   have r246 := ite_t h216 hz208
   refine w_exit (th_exit (th_exit (bl_eq ?_)))
   obtain rfl := Option.some.inj r246
   obtain rfl := it_inr hn209
   exact k193 _ _ ⟨(.slice a211 n212 c213), f202, ha_, (FrS.step e174.wf (FrS.refl (W := f172) e174.wf) e198 Inn.refl'), m200, (Inn.trans Inn.refl' (Nat.le_refl _) i203)⟩
  obtain ⟨s190, f191, hh194, e187, m189, i192⟩ := hM
  obtain ⟨β, rfl⟩ := has_ex hh194
  clear hh194
  obtain ⟨a247, n248, c249, rfl⟩ := m189.form
  refine k181 _ _ (w_seqk fun _ k250 => g_' (q_ (.slice a247 n248 c249) ?_))
  obtain ⟨y251, hy252, r253⟩ := bind_some r185
  refine s_ck 26 #[.slice a247 n248 c249] (by kernel_rfl) (c_slices_Reverse e187.wf m189 hy252) ?_
  rintro _ H254 ⟨rfl, e255, m256⟩
  refine s_nil (k250 _ _ (w_seqk fun _ k257 => g_' (q_ (.slice a247 n248 c249) (q_ (.slice a247 n248 c249) (q_ (.nilIface) (s_nil (k257 _ _ ?_)))))))
  refine w_ret ?_
  refine b_ret (fn := Tryz.f9) (vs := [.slice a247 n248 c249, .nilIface]) (aRes_tmp (by kernel_rfl) (aRes_tmp (by kernel_rfl) (rfl))) ?_
  obtain rfl := Option.some.inj r253
  exact ⟨(.slice a247 n248 c249), f191, (.nilIface), [], rfl, (FrS.step wf (FrS.step wf ((FrS.step wf (FrS.step wf (FrS.step wf (FrS.step wf (((FrS.refl (W := []) wf).extR e15).extR e24) e40 Inn.nil) e55 Inn.nil) e77 Inn.nil) e163 Inn.nil).extR e174) e187 (hf175.fresh (ntr (ntr (ntr (ntr (ntr e15.next e24.next) e40.next) e55.next) e77.next) e163.next))) e255 (Inn.trans (hf175.fresh (ntr (ntr (ntr (ntr (ntr e15.next e24.next) e40.next) e55.next) e77.next) e163.next)) (ntr (ntr (ntr (ntr (ntr (ntr e15.next e24.next) e40.next) e55.next) e77.next) e163.next) e174.next) i192)), m256, Ev.nil, (Inn.trans (hf175.fresh (ntr (ntr (ntr (ntr (ntr e15.next e24.next) e40.next) e55.next) e77.next) e163.next)) (ntr (ntr (ntr (ntr (ntr (ntr e15.next e24.next) e40.next) e55.next) e77.next) e163.next) e174.next) i192), Inn.nil, Dj.nil_r⟩
 have r258 := ite_f h45 r36
 refine l_' (.bool true) (aBin Tryz.prog .neq 31 (.tmp 18) (.const .nilIface) (.iface t46 x47) .nilIface) (aBin_nnil (by kernel_rfl)) ?_
 refine s_nil (k44 _ _ ?_)
 refine w_cond true (by kernel_rfl) rfl (fun _ => ?_) (fun h => by cases h)
 refine w_seqk fun _ k259 => g_' (q_ (.iface t46 x47) (q_ (.slice none 0 0) (q_ (.iface t46 x47) (s_nil (k259 _ _ ?_)))))
 refine w_ret (th_ret ?_)
 refine b_ret (fn := Tryz.f9) (vs := [.slice none 0 0, .iface t46 x47]) (aRes_tmp (by kernel_rfl) (aRes_tmp (by kernel_rfl) (rfl))) ?_
 obtain rfl := Option.some.inj r258
 exact ⟨(.slice none 0 0), [], (.iface t46 x47), f38, rfl, (FrS.step wf (((FrS.refl (W := []) wf).extR e15).extR e24) e40 Inn.nil), (Ow.nil (by decide)), m41, Inn.nil, (i42.fresh (ntr e15.next e24.next)), Dj.nil_l⟩
theorem c_viaductseen_Same {H : AH} {ev_err : Value} {fp_err : Fp} {hd_Places : Value} {fp_Places : Fp} {err : Er} {Code : Int} {Places : List (Int × Int)} {r : Bool}
    (wf : WF H) (h_err : Ev 43 81 H ev_err err fp_err) (h_Places : Sq enc_i64_i64 2 H hd_Places Places fp_Places) (hr : z_viaductseen_Same err Code Places = some r) :
    ACalls Tryz.prog 11 #[ev_err, .agg #[i_ Code, hd_Places]] H fun v H' => v = .bool r ∧ FrS [] H H' := by
 refine acalls_of_body mixed Tryz.func11 rfl (Nat.le_of_ble_eq_true rfl) ?_
 unfold z_viaductseen_Same at hr
 refine w_seqk fun _ k1 => g_' ?_
 refine s_rwl wf [i_ Code, hd_Places] (one_cons (rfl) (one_cons (h_Places.one1) (one_nil))) (by kernel_rfl) fun b2 H3 e4 hb5 r6 => ?_
 refine q_ (.bool false) (s_nil (k1 _ _ (w_seqk fun _ k8 => w_seqk fun _ k9 => g_' ?_)))
 refine l_' (.agg #[i_ Code, hd_Places]) (aLoad Tryz.prog 41 (pt_ b2 0) H3) (r6.ld (by kernel_rfl)) ?_
 have u10 := (h_Places.ext e4)
 obtain ⟨y11, hy12, r13⟩ := bind_some hr
 refine s_ck 27 #[.agg #[i_ Code, hd_Places]] (by kernel_rfl) (c_viaductref01_Err_Bad e4.wf u10 hy12) ?_
 rintro _ H14 ⟨rfl, e15⟩
 refine q_ (.bool (!y11)) (s_nil (k9 _ _ ?_))
 refine w_cond ((!y11)) (by kernel_rfl) rfl (fun h16 => ?_) (fun h16 => ?_)
 ·have r17 := ite_t h16 r13
  refine w_seqk fun _ k18 => g_' (q_ (ev_err) ?_)
  have u22 := ((h_err.ext e4).fr e15 Dj.nil_l)
  rcases (u22).cases with ⟨h19, rfl⟩ | ⟨h19, t20, x21, rfl⟩
  ·have r23 := ite_t h19 r17
   refine q_ (.bool true) (q_ (.bool true) (s_nil (k18 _ _ ?_)))
   refine w_ret (th_ret ?_)
   refine b_ret (fn := Tryz.f11) (vs := [.bool true]) (aRes_tmp (by kernel_rfl) (rfl)) ?_
   obtain rfl := Option.some.inj r23
   exact ⟨rfl, (FrS.step wf ((FrS.refl (W := []) wf).extR e4) e15 Inn.nil)⟩
  have r24 := ite_f h19 r17
  refine l_' (.bool false) (aBin Tryz.prog .eql 31 (.tmp 15) (.const .nilIface) (.iface t20 x21) .nilIface) (aBin_nil (by kernel_rfl)) ?_
  refine q_ (.bool false) (s_nil (k18 _ _ ?_))
  refine w_ret (th_ret ?_)
  refine b_ret (fn := Tryz.f11) (vs := [.bool false]) (aRes_tmp (by kernel_rfl) (rfl)) ?_
  obtain rfl := Option.some.inj r24
  exact ⟨rfl, (FrS.step wf ((FrS.refl (W := []) wf).extR e4) e15 Inn.nil)⟩
 have r25 := ite_bf h16 r13
 refine w_skip (k8 _ _ (w_seqk fun _ k26 => w_seqk fun _ k27 => g_' (q_ (ev_err) ?_)))
 have u31 := ((h_err.ext e4).fr e15 Dj.nil_l)
 rcases (u31).cases with ⟨h28, rfl⟩ | ⟨h28, t29, x30, rfl⟩
 ·have r32 := ite_t h28 r25
  refine q_ (.bool true) (s_nil (k27 _ _ ?_))
  refine w_cond true (by kernel_rfl) rfl (fun _ => ?_) (fun h => by cases h)
  refine w_seqk fun _ k33 => g_' (q_ (.bool false) (s_nil (k33 _ _ ?_)))
  refine w_ret (th_ret ?_)
  refine b_ret (fn := Tryz.f11) (vs := [.bool false]) (aRes_tmp (by kernel_rfl) (rfl)) ?_
  obtain rfl := Option.some.inj r32
  exact ⟨rfl, (FrS.step wf ((FrS.refl (W := []) wf).extR e4) e15 Inn.nil)⟩
 have r34 := ite_f h28 r25
 refine l_' (.bool false) (aBin Tryz.prog .eql 31 (.tmp 17) (.const .nilIface) (.iface t29 x30) .nilIface) (aBin_nil (by kernel_rfl)) ?_
 refine s_nil (k27 _ _ ?_)
 refine w_cond false (by kernel_rfl) rfl (fun h => by cases h) (fun _ => ?_)
 refine w_skip (k26 _ _ (w_seqk fun _ k35 => g_' (q_ (.iface t29 x30) (q_ (.iface t29 x30) (s_nil (k35 _ _ (w_seqk fun _ k36 => w_seqk fun _ k37 => g_' (q_ (pt_ b2 1) ?_))))))))
 have u38 := (r6.frS e15 Dj.nil_l)
 refine l_' (hd_Places) (aLoad Tryz.prog 39 (pt_ b2 1) H14) (u38.ld (by kernel_rfl)) ?_
 have u39 := (u10.fr e15 Dj.nil_l)
 refine l_' (i_ (Places.length : Int)) (aLen Tryz.prog 39 hd_Places H14) (u39.lenb (by kernel_rfl)) ?_
 refine q_ (i_ 0) (s_nil (k37 _ _ ?_))
 obtain ⟨z43, hx41, r42⟩ := bind_some r34
 refine w_mid (fun α H44 => ∃ o40, z43 = Sum.inr o40 ∧ ∃ (v48 : Value), Has α [(0, .iface t29 x30), (3, pt_ b2 0), (5, v48)] ∧ FrS [] H14 H44 ∧ Ev 43 81 H44 v48 o40 fp_err) (fun _ k49 => ?_) (fun α H44 hM => ?_)
 ·refine w_block ?_
  obtain ⟨n51, hn52⟩ := loopO_iff.1 hx41
  refine w_loopn (fun n α H53 => ∃ (i0 : Int), ∃ (e1 : Er), ∃ (v57 : Value), iterO (fun zz_ => z_viaductseen_Same_l0 Places zz_.1 zz_.2) n (i0, e1) = some z43 ∧ Has α [(0, .iface t29 x30), (3, pt_ b2 0), (5, v57), (21, hd_Places), (22, i_ (Places.length : Int)), (23, i_ i0)] ∧ FrS [] H14 H53 ∧ Ev 43 81 H53 v57 e1 fp_err) n51 ⟨0, err, (.iface t29 x30), hn52, ha_, (FrS.refl (W := []) e15.wf), u31⟩ ?_
  rintro n51 α H53 ⟨i0, e1, v57, hi59, hh58, e54, m56⟩ K64 k64
  obtain ⟨n60, z61, rfl, hz62, hn63⟩ := iter_succ hi59
  obtain ⟨β, rfl⟩ := has_ex hh58
  clear hh58
  replace hz62 : z_viaductseen_Same_l0 Places i0 e1 = some z61 := hz62
  unfold z_viaductseen_Same_l0 at hz62
  refine w_seqk fun _ k65 => g_' (q_ (.bool (decide (i0 < (Places.length : Int)))) (s_nil (k65 _ _ (w_seqk fun _ k66 => ?_))))
  refine w_condp (i0 < (Places.length : Int)) (by kernel_rfl) rfl (fun h67 => ?_) (fun h67 => ?_)
  ·have r68 := ite_t h67 hz62
   refine w_skip (k66 _ _ (w_seqk fun _ k69 => w_block (w_seqk fun _ k70 => g_' ?_)))
   obtain ⟨g71, r72⟩ := G_some r68
   have u73 := (u39.fr e54 Dj.nil_l)
   refine l_' (elp hd_Places 2 i0.toNat 0) (aIndexAddr Tryz.prog 39 hd_Places (i_ i0)) (u73.idxb (by kernel_rfl) g71 h67) ?_
   refine l_' (.agg #[i_ ((gt Places i0).1), i_ ((gt Places i0).2)]) (aLoad Tryz.prog 80 (elp hd_Places 2 i0.toNat 0) H53) (u73.ld g71 h67 (by kernel_rfl)) ?_
   refine s_rwk e54.wf [i_ 0, i_ 0] (by kernel_rfl) fun b74 H75 e76 hb77 r78 => ?_
   obtain ⟨H80, q81, e82, r83⟩ := Row.store (P := Tryz.prog) (t := 80) (p := 0) e76.wf r78 (.agg #[i_ ((gt Places i0).1), i_ ((gt Places i0).2)]) [i_ ((gt Places i0).1), i_ ((gt Places i0).2)] (by kernel_rfl) (by kernel_rfl) (one_cons (rfl) (one_cons (rfl) (one_nil))) (Nat.le_of_ble_eq_true (by kernel_rfl)) [i_ ((gt Places i0).1), i_ ((gt Places i0).2)] (by kernel_rfl)
   refine s_ek (undef) (by kernel_rfl) (map_ok q81) ?_
   refine s_nil (k70 _ _ (w_seqk fun _ k84 => g_' ?_))
   refine s_rwk e82.wf [.pointer none] (by kernel_rfl) fun b85 H86 e87 hb88 r89 => ?_
   refine s_nil (k84 _ _ (w_seqk fun _ k91 => w_seqk fun _ k92 => ?_))
   refine w_draw [0, 1, 2, 3, 4, 5, 6, 7, 8, 9, 10, 11, 12, 13, 14, 15] (by kernel_rfl) ?_
   refine e_' (v57) (e_' (.iface 83 (pt_ b85 0)) ?_)
   by_cases h93 : Er.isAt e1 = true
   ·have r94 := ite_t h93 r72
    have u103 := (((m56.ext e76).fr e82 (hb77.djn (h_err.lt.le (ntr (ntr e4.next e15.next) e54.next)))).ext e87)
    refine d_ck 28 #[v57, .iface 83 (pt_ b85 0)] (by kernel_rfl) (a_asF_at e87.wf r89 (hb88.djn (h_err.lt.le (ntr (ntr (ntr (ntr e4.next e15.next) e54.next) e76.next) e82.next))) u103 h93) ?_
    rintro _ H95 ⟨rfl, e96, b98, u99, -, i100, r97, r101, v102⟩
    refine ⟨st_nil, ?_⟩
    refine e_' (.bool false) (e_' (.bool false) ?_)
    refine m_' (pt_ b98 0) (aLoad Tryz.prog 81 (pt_ b85 0) H95) (r97.ld (by kernel_rfl)) ?_
    refine e_' (.bool false) (e_' (.bool false) (e_' (.bool false) ?_))
    refine m_' (pt_ b98 0) (aLoad Tryz.prog 81 (pt_ b85 0) H95) (r97.ld (by kernel_rfl)) ?_
    refine e_' (pt_ b98 0) (e_' (pt_ b98 0) ?_)
    refine m_' (.agg #[i_ (Er.fk e1), i_ (Er.fi e1)]) (aLoad Tryz.prog 80 (pt_ b98 0) H95) (r101.ld (by kernel_rfl)) ?_
    have u106 := ((r83.ext e87).frS e96 (hb88.djn (r78.ltF.le e82.next)))
    refine m_' (.agg #[i_ ((gt Places i0).1), i_ ((gt Places i0).2)]) (aLoad Tryz.prog 80 (pt_ b74 0) H95) (u106.ld (by kernel_rfl)) ?_
    refine m_' (.bool (!decide ((Er.fk e1) = ((gt Places i0).1) ∧ (Er.fi e1) = ((gt Places i0).2)))) (aBin Tryz.prog .neq 80 (.tmp 39) (.tmp 40) (.agg #[i_ (Er.fk e1), i_ (Er.fi e1)]) (.agg #[i_ ((gt Places i0).1), i_ ((gt Places i0).2)])) (aBin_neq80 _ _ (Er.fk e1) (Er.fi e1) ((gt Places i0).1) ((gt Places i0).2)) ?_
    refine e_' (.bool (!decide ((Er.fk e1) = ((gt Places i0).1) ∧ (Er.fi e1) = ((gt Places i0).2)))) ?_
    refine d_nil ?_
    refine k92 _ _ ?_
    refine w_condn ((Er.fk e1) = ((gt Places i0).1) ∧ (Er.fi e1) = ((gt Places i0).2)) (by kernel_rfl) rfl (fun h107 => ?_) (fun h107 => ?_)
    ·have r108 := ite_f h107 r94
     refine w_seqk fun _ k109 => g_' (q_ (.bool false) (s_nil (k109 _ _ ?_)))
     refine w_ret (th_ret (bl_ret (th_ret (th_ret (bl_ret (th_ret (th_ret ?_)))))))
     obtain ⟨v110, hv111, hz112⟩ := map_some r108
     subst hz112
     obtain rfl := it_inr hn63
     have hq113 := elim_inl r42
     rw [hq113] at hv111
     refine b_ret (fn := Tryz.f11) (vs := [.bool false]) (aRes_tmp (by kernel_rfl) (rfl)) ?_
     obtain rfl := Option.some.inj hv111
     exact ⟨rfl, (FrS.step wf ((FrS.step wf ((FrS.step wf (FrS.step wf ((FrS.refl (W := []) wf).extR e4) e15 Inn.nil) e54 Inn.nil).extR e76) e82 (hb77.fresh (ntr (ntr e4.next e15.next) e54.next))).extR e87) e96 (hb88.fresh (ntr (ntr (ntr (ntr e4.next e15.next) e54.next) e76.next) e82.next)))⟩
    have r114 := ite_t h107 r94
    refine w_skip (k91 _ _ (g_' ?_))
    refine l_' (pt_ b98 0) (aLoad Tryz.prog 81 (pt_ b85 0) H95) (r97.ld (by kernel_rfl)) ?_
    refine q_ (pt_ b98 0) (q_ (pt_ b98 2) ?_)
    refine l_' (u99) (aLoad Tryz.prog 31 (pt_ b98 2) H95) (r101.ld (by kernel_rfl)) ?_
    refine q_ (u99) (s_nil (k69 _ _ (g_' ?_)))
    obtain ⟨g115, r116⟩ := G_some r114
    refine w_' (i0 + 1) (wrap64 (by have := g115; omega)) ?_
    refine q_ (i_ (i0 + 1)) (s_nil ?_)
    obtain rfl := Option.some.inj r116
    exact k64 n60 _ _ (Nat.lt_succ_self _) ⟨(i0 + 1), (Er.fe e1), (u99), hn63, ha_, (FrS.step e15.wf ((FrS.step e15.wf ((FrS.step e15.wf (FrS.refl (W := []) e15.wf) e54 Inn.nil).extR e76) e82 (hb77.fresh e54.next)).extR e87) e96 (hb88.fresh (ntr (ntr e54.next e76.next) e82.next))), v102⟩
   have r117 := ite_f h93 r72
   have u118 := (((m56.ext e76).fr e82 (hb77.djn (h_err.lt.le (ntr (ntr e4.next e15.next) e54.next)))).ext e87)
   refine d_ck 28 #[v57, .iface 83 (pt_ b85 0)] (by kernel_rfl) (a_asF_no r89 u118 h93) ?_
   rintro _ _ ⟨rfl, rfl⟩
   refine ⟨st_nil, ?_⟩
   refine e_' (.bool true) (e_' (.bool true) (j_' (j_' (e_' (.bool true) (e_' (.bool true) (j_' (j_' (j_' (j_' (j_' (j_' (e_' (.bool true) ?_))))))))))))
   refine d_nil ?_
   refine k92 _ _ ?_
   refine w_cond true (by kernel_rfl) rfl (fun _ => ?_) (fun h => by cases h)
   refine w_seqk fun _ k119 => g_' (q_ (.bool false) (s_nil (k119 _ _ ?_)))
   refine w_ret (th_ret (bl_ret (th_ret (th_ret (bl_ret (th_ret (th_ret ?_)))))))
   obtain ⟨v120, hv121, hz122⟩ := map_some r117
   subst hz122
   obtain rfl := it_inr hn63
   have hq123 := elim_inl r42
   rw [hq123] at hv121
   refine b_ret (fn := Tryz.f11) (vs := [.bool false]) (aRes_tmp (by kernel_rfl) (rfl)) ?_
   obtain rfl := Option.some.inj hv121
   exact ⟨rfl, ((FrS.step wf ((FrS.step wf (FrS.step wf ((FrS.refl (W := []) wf).extR e4) e15 Inn.nil) e54 Inn.nil).extR e76) e82 (hb77.fresh (ntr (ntr e4.next e15.next) e54.next))).extR e87)⟩
  have r124 := ite_f h67 hz62
  refine w_exit (th_exit (th_exit (bl_eq ?_)))
  obtain rfl := Option.some.inj r124
  obtain rfl := it_inr hn63
  exact k49 _ _ ⟨_, rfl, (v57), ha_, (FrS.step e15.wf (FrS.refl (W := []) e15.wf) e54 Inn.nil), m56⟩
 obtain ⟨o40, rfl, v48, hh50, e45, m47⟩ := hM
 have r125 := elim_inr r42
 obtain ⟨β, rfl⟩ := has_ex hh50
 clear hh50
 refine k36 _ _ (w_seqk fun _ k126 => g_' ?_)
 refine s_rwk e45.wf [.pointer none] (by kernel_rfl) fun b127 H128 e129 hb130 r131 => ?_
 refine s_nil (k126 _ _ (w_seqk fun _ k133 => w_seqk fun _ k134 => g_' (q_ (v48) (q_ (.iface 83 (pt_ b127 0)) ?_))))
 by_cases h135 : Er.isAt o40 = true
 ·have r136 := ite_t h135 r125
  have u145 := (m47.ext e129)
  refine s_ck 28 #[v48, .iface 83 (pt_ b127 0)] (by kernel_rfl) (a_asF_at e129.wf r131 (hb130.djn (h_err.lt.le (ntr (ntr e4.next e15.next) e45.next))) u145 h135) ?_
  rintro _ H137 ⟨rfl, e138, b140, u141, -, i142, r139, r143, v144⟩
  refine s_nil (k134 _ _ ?_)
  refine w_cond true (by kernel_rfl) rfl (fun _ => ?_) (fun h => by cases h)
  refine w_seqk fun _ k148 => g_' (q_ (.bool false) (s_nil (k148 _ _ ?_)))
  refine w_ret (th_ret ?_)
  refine b_ret (fn := Tryz.f11) (vs := [.bool false]) (aRes_tmp (by kernel_rfl) (rfl)) ?_
  obtain rfl := Option.some.inj r136
  exact ⟨rfl, (FrS.step wf ((FrS.step wf (FrS.step wf ((FrS.refl (W := []) wf).extR e4) e15 Inn.nil) e45 Inn.nil).extR e129) e138 (hb130.fresh (ntr (ntr e4.next e15.next) e45.next)))⟩
 have r149 := ite_f h135 r125
 have u150 := (m47.ext e129)
 refine s_ck 28 #[v48, .iface 83 (pt_ b127 0)] (by kernel_rfl) (a_asF_no r131 u150 h135) ?_
 rintro _ _ ⟨rfl, rfl⟩
 refine s_nil (k134 _ _ ?_)
 refine w_cond false (by kernel_rfl) rfl (fun h => by cases h) (fun _ => ?_)
 refine w_skip (k133 _ _ (w_seqk fun _ k151 => g_' ?_))
 refine s_rwk e129.wf [i_ 0] (by kernel_rfl) fun b152 H153 e154 hb155 r156 => ?_
 refine s_nil (k151 _ _ (w_seqk fun _ k158 => w_seqk fun _ k159 => ?_))
 obtain ⟨o160, hx161, r162⟩ := bind_some r149
 refine w_mid (fun α H163 => Has α [(0, .iface t29 x30), (3, pt_ b2 0), (60, .bool o160)] ∧ FrS [b152] H153 H163) (fun _ k165 => ?_) (fun α H163 hM => ?_)
 ·refine g_' (q_ (.iface t29 x30) (q_ (.iface 86 (pt_ b152 0)) ?_))
  by_cases h167 : (Er.num err).isSome = true
  ·have r168 := ite_t h167 hx161
   have u172 := (((u31.fr e45 Dj.nil_l).ext e129).ext e154)
   refine s_ck 28 #[.iface t29 x30, .iface 86 (pt_ b152 0)] (by kernel_rfl) (a_asN_y e154.wf r156 u172 h28 h167) ?_
   rintro _ H169 ⟨rfl, e170, r171⟩
   refine q_ (.bool false) (q_ (.bool false) ?_)
   refine l_' (i_ ((Er.num err).getD 0)) (aLoad Tryz.prog 43 (pt_ b152 0) H169) (r171.ld (by kernel_rfl)) ?_
   refine q_ (pt_ b2 0) ?_
   have u173 := ((((u38.frS e45 Dj.nil_l).ext e129).ext e154).frS e170 (hb155.djn (r6.ltF.le (ntr (ntr e15.next e45.next) e129.next))))
   refine l_' (i_ Code) (aLoad Tryz.prog 3 (pt_ b2 0) H169) (u173.ld (by kernel_rfl)) ?_
   refine q_ (.bool (!decide (((Er.num err).getD 0) = Code))) (q_ (.bool (!decide (((Er.num err).getD 0) = Code))) (s_nil ?_))
   obtain rfl := Option.some.inj r168
   exact k165 _ _ ⟨ha_, (FrS.step e154.wf (FrS.refl (W := [b152]) e154.wf) e170 Inn.refl')⟩
  have r174 := ite_f h167 hx161
  have u178 := (((u31.fr e45 Dj.nil_l).ext e129).ext e154)
  refine s_ck 28 #[.iface t29 x30, .iface 86 (pt_ b152 0)] (by kernel_rfl) (a_asN_n e154.wf r156 u178 h28 h167) ?_
  rintro _ H175 ⟨rfl, e176, r177⟩
  refine q_ (.bool true) (q_ (.bool true) (n_' (n_' (n_' (n_' (q_ (.bool true) (s_nil ?_)))))))
  obtain rfl := Option.some.inj r174
  exact k165 _ _ ⟨ha_, (FrS.step e154.wf (FrS.refl (W := [b152]) e154.wf) e176 Inn.refl')⟩
 obtain ⟨hh166, e164⟩ := hM
 obtain ⟨β, rfl⟩ := has_ex hh166
 clear hh166
 refine k159 _ _ ?_
 refine w_cond (o160) (by kernel_rfl) rfl (fun h179 => ?_) (fun h179 => ?_)
 ·have r180 := ite_t h179 r162
  refine w_seqk fun _ k181 => g_' (q_ (.bool false) (s_nil (k181 _ _ ?_)))
  refine w_ret (th_ret ?_)
  refine b_ret (fn := Tryz.f11) (vs := [.bool false]) (aRes_tmp (by kernel_rfl) (rfl)) ?_
  obtain rfl := Option.some.inj r180
  exact ⟨rfl, (FrS.step wf (((FrS.step wf (FrS.step wf ((FrS.refl (W := []) wf).extR e4) e15 Inn.nil) e45 Inn.nil).extR e129).extR e154) e164 (hb155.fresh (ntr (ntr (ntr e4.next e15.next) e45.next) e129.next)))⟩
 have r182 := ite_bf h179 r162
 refine w_skip (k158 _ _ (w_seqk fun _ k183 => w_seqk fun _ k184 => g_' (q_ (i_ 1) (s_nil (k184 _ _ ?_)))))
 obtain ⟨z188, hx186, r187⟩ := bind_some r182
 refine w_mid (fun α H189 => ∃ o185, z188 = Sum.inr o185 ∧ Has α [] ∧ H163 = H189) (fun _ k191 => ?_) (fun α H189 hM => ?_)
 ·refine w_block ?_
  obtain ⟨n193, hn194⟩ := loopO_iff.1 hx186
  refine w_loopn (fun n α H195 => ∃ (i2 : Int), iterO (fun zz_ => z_viaductseen_Same_l1 err Code zz_) n i2 = some z188 ∧ Has α [(0, .iface t29 x30), (3, pt_ b2 0), (11, i_ i2)] ∧ H163 = H195) n193 ⟨1, hn194, ha_, rfl⟩ ?_
  rintro n193 α H195 ⟨i2, hi198, hh197, rfl⟩ K203 k203
  obtain ⟨n199, z200, rfl, hz201, hn202⟩ := iter_succ hi198
  obtain ⟨β, rfl⟩ := has_ex hh197
  clear hh197
  replace hz201 : z_viaductseen_Same_l1 err Code i2 = some z200 := hz201
  unfold z_viaductseen_Same_l1 at hz201
  refine w_seqk fun _ k204 => w_seqk fun _ k205 => g_' (q_ (i_ i2) (q_ (.bool (decide (i2 ≤ 20))) (s_nil (k205 _ _ ?_))))
  refine w_condp (i2 ≤ 20) (by kernel_rfl) rfl (fun h206 => ?_) (fun h206 => ?_)
  ·have r207 := ite_t h206 hz201
   refine w_skip (k204 _ _ (w_seqk fun _ k208 => w_block (w_seqk fun _ k209 => ?_)))
   refine w_draw [0, 1, 2, 4, 5, 6, 7, 3, 8] (by kernel_rfl) ?_
   refine e_' (.iface t29 x30) (e_' (i_ i2) (e_' (.iface 43 (i_ i2)) (e_' (i_ i2) (e_' (pt_ b2 0) ?_))))
   have u210 := ((((u38.frS e45 Dj.nil_l).ext e129).ext e154).frS e164 (hb155.djn (r6.ltF.le (ntr (ntr e15.next e45.next) e129.next))))
   refine d_fl (i_ Code) (x := aLoad Tryz.prog 3 (pt_ b2 0) H163) (by kernel_rfl) (u210.ld (by kernel_rfl)) ?_
   refine e_' (.bool (decide (i2 = Code))) ?_
   have u211 := ((((u31.fr e45 Dj.nil_l).ext e129).ext e154).fr e164 (hb155.djn (h_err.lt.le (ntr (ntr (ntr e4.next e15.next) e45.next) e129.next))))
   refine d_ck 29 #[.iface t29 x30, .iface 43 (i_ i2)] (by kernel_rfl) (a_isN u211 h28) ?_
   rintro _ _ ⟨rfl, rfl⟩
   refine ⟨st_ql (y := aLoad Tryz.prog 3 (pt_ b2 0) H163) (by kernel_rfl) (u210.ld (by kernel_rfl)) (st_nil), ?_⟩
   refine e_' (.bool (!decide ((decide (Er.num err = some i2)) = (decide (i2 = Code))))) ?_
   refine d_nil ?_
   refine k209 _ _ ?_
   refine w_condn ((decide (Er.num err = some i2)) = (decide (i2 = Code))) (by kernel_rfl) rfl (fun h212 => ?_) (fun h212 => ?_)
   ·have r213 := ite_f h212 r207
    refine w_seqk fun _ k214 => g_' (q_ (.bool false) (s_nil (k214 _ _ ?_)))
    refine w_ret (bl_ret (th_ret (th_ret (bl_ret (th_ret (th_ret ?_))))))
    obtain ⟨v215, hv216, hz217⟩ := map_some r213
    subst hz217
    obtain rfl := it_inr hn202
    have hq218 := elim_inl r187
    rw [hq218] at hv216
    refine b_ret (fn := Tryz.f11) (vs := [.bool false]) (aRes_tmp (by kernel_rfl) (rfl)) ?_
    obtain rfl := Option.some.inj hv216
    exact ⟨rfl, (FrS.step wf (((FrS.step wf (FrS.step wf ((FrS.refl (W := []) wf).extR e4) e15 Inn.nil) e45 Inn.nil).extR e129).extR e154) e164 (hb155.fresh (ntr (ntr (ntr e4.next e15.next) e45.next) e129.next)))⟩
   have r219 := ite_t h212 r207
   refine w_skip (k208 _ _ (g_' (q_ (i_ i2) ?_)))
   obtain ⟨g220, r221⟩ := G_some r219
   refine w_' (i2 + 1) (wrap64 g220) ?_
   refine q_ (i_ (i2 + 1)) (s_nil ?_)
   obtain rfl := Option.some.inj r221
   exact k203 n199 _ _ (Nat.lt_succ_self _) ⟨(i2 + 1), hn202, ha_, rfl⟩
  have r222 := ite_f h206 hz201
  refine w_exit (th_exit (th_exit (bl_eq ?_)))
  obtain rfl := Option.some.inj r222
  obtain rfl := it_inr hn202
  exact k191 _ _ ⟨_, rfl, trivial, rfl⟩
 obtain ⟨o185, rfl, hh192, rfl⟩ := hM
 have r223 := elim_inr r187
 obtain ⟨β, rfl⟩ := has_ex hh192
 clear hh192
 refine k183 _ _ (w_seqk fun _ k224 => g_' (q_ (.bool true) (s_nil (k224 _ _ ?_))))
 refine w_ret ?_
 refine b_ret (fn := Tryz.f11) (vs := [.bool true]) (aRes_tmp (by kernel_rfl) (rfl)) ?_
 obtain rfl := Option.some.inj r223
 exact ⟨rfl, (FrS.step wf (((FrS.step wf (FrS.step wf ((FrS.refl (W := []) wf).extR e4) e15 Inn.nil) e45 Inn.nil).extR e129).extR e154) e164 (hb155.fresh (ntr (ntr (ntr e4.next e15.next) e45.next) e129.next)))⟩
theorem c_viaductref05_Node {H : AH} {hd_First : Value} {fp_First : Fp} {hd_To : Value} {fp_To : Fp} {hd_Weight : Value} {fp_Weight : Fp} {First : List (Int)} {To : List (Int)} {Weight : List (Int)} {v_ : Int} {r : Bool}
    (wf : WF H) (h_First : Sq (encI .i64) 1 H hd_First First fp_First) (h_To : Sq (encI .i64) 1 H hd_To To fp_To) (h_Weight : Sq (encI .i64) 1 H hd_Weight Weight fp_Weight) (hr : z_viaductref05_Node First To Weight v_ = some r) :
    ACalls Tryz.prog 38 #[.agg #[hd_First, hd_To, hd_Weight], i_ v_] H fun v H' => v = .bool r ∧ FrS [] H H' := by
 refine acalls_of_body mixed Tryz.func38 rfl (Nat.le_of_ble_eq_true rfl) ?_
 unfold z_viaductref05_Node at hr
 refine w_seqk fun _ k1 => g_' ?_
 refine s_rwl wf [hd_First, hd_To, hd_Weight] (one_cons (h_First.one1) (one_cons (h_To.one1) (one_cons (h_Weight.one1) (one_nil)))) (by kernel_rfl) fun b2 H3 e4 hb5 r6 => ?_
 refine q_ (.bool false) (s_nil (k1 _ _ (w_seqk fun _ k8 => g_' (q_ (i_ v_) ?_))))
 refine s_b (v_ ≥ 0) (by kernel_rfl) (fun h9 => ?_) (fun h9 => ?_)
 ·have r10 := ite_t h9 hr
  refine q_ (.bool true) (q_ (i_ v_) (q_ (pt_ b2 0) ?_))
  refine l_' (hd_First) (aLoad Tryz.prog 23 (pt_ b2 0) H3) (r6.ld (by kernel_rfl)) ?_
  have u11 := (h_First.ext e4)
  refine l_' (i_ (First.length : Int)) (aLen Tryz.prog 23 hd_First H3) (u11.lenb (by kernel_rfl)) ?_
  obtain ⟨g12, r13⟩ := G_some r10
  refine w_' ((First.length : Int) - 1) (wrap64 g12) ?_
  refine q_ (.bool (decide (v_ < ((First.length : Int) - 1)))) (q_ (.bool (decide (v_ < ((First.length : Int) - 1)))) (q_ (.bool (decide (v_ < ((First.length : Int) - 1)))) (s_nil (k8 _ _ ?_))))
  refine w_ret ?_
  refine b_ret (fn := Tryz.f38) (vs := [.bool (decide (v_ < ((First.length : Int) - 1)))]) (aRes_tmp (by kernel_rfl) (rfl)) ?_
  obtain rfl := Option.some.inj r13
  exact ⟨rfl, ((FrS.refl (W := []) wf).extR e4)⟩
 have r14 := ite_f h9 hr
 refine q_ (.bool false) (n_' (n_' (n_' (n_' (n_' (n_' (q_ (.bool false) (q_ (.bool false) (s_nil (k8 _ _ ?_))))))))))
 refine w_ret ?_
 refine b_ret (fn := Tryz.f38) (vs := [.bool false]) (aRes_tmp (by kernel_rfl) (rfl)) ?_
 obtain rfl := Option.some.inj r14
 exact ⟨rfl, ((FrS.refl (W := []) wf).extR e4)⟩
end Go.Vd
