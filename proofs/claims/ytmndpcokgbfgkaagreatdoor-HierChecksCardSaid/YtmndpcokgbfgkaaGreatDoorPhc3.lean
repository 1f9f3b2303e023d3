/- The walks of the functions (printed by a program of ours). -/
import Derived.Test.YtmndpcokgbfgkaaGreatDoorPhc2
import Derived.Test.YtmndpcokgbfgkaaGreatDoorPhcDrG
import Derived.Test.YtmndpcokgbfgkaaGreatDoorPhcIHc
import Derived.Test.YtmndpcokgbfgkaaGreatDoorPhcVeN
import Derived.Test.YtmndpcokgbfgkaaGreatDoorPhcSoA
import Derived.Test.YtmndpcokgbfgkaaGreatDoorPhcVeT
set_option linter.unusedVariables false
set_option linter.unusedSimpArgs false
set_option linter.unusedSectionVars false
/-! (KHc7) -/

set_option maxRecDepth 100000
set_option maxHeartbeats 4000000
set_option linter.unusedVariables false
namespace Go.Vd
open Go.Proofs
attribute [local irreducible] wpSeq wpOrd aWp
theorem c_viaductref10_DocRanks {H : AH} {hd_Node : Value} {fp_Node : Fp} {hd_UpFirst : Value} {fp_UpFirst : Fp} {hd_Up : Value} {fp_Up : Fp} {hd_DownFirst : Value} {fp_DownFirst : Fp} {hd_Down : Value} {fp_Down : Fp} {Node : List (Int)} {UpFirst : List (Int)} {Up : List (Int × Int × Int × Int)} {DownFirst : List (Int)} {Down : List (Int × Int × Int × Int)} {r : List (Int) × Int × List (Int × Int)}
    (wf : WF H) (h_Node : Sq (encI .u32) 1 H hd_Node Node fp_Node) (h_UpFirst : Sq (encI .u32) 1 H hd_UpFirst UpFirst fp_UpFirst) (h_Up : Sq enc_u32_u64_u32_u32 4 H hd_Up Up fp_Up) (h_DownFirst : Sq (encI .u32) 1 H hd_DownFirst DownFirst fp_DownFirst) (h_Down : Sq enc_u32_u64_u32_u32 4 H hd_Down Down fp_Down) (hr : z_viaductref10_DocRanks Node UpFirst Up DownFirst Down = some r) :
    ACalls Tryz.prog 16 #[.agg #[hd_Node, hd_UpFirst, hd_Up, hd_DownFirst, hd_Down]] H fun v H' => ∃ (s3 : Value) (f4 : Fp) (s7 : Value) (f8 : Fp), v = .tuple #[s3, .agg #[i_ r.2.1, s7]] ∧ FrS [] H H' ∧ Ow (encI .i64) 1 H' s3 r.1 f4 ∧ Sq enc_i64_i64 2 H' s7 r.2.2 f8 ∧ Inn [] H f4 ∧ Inn [] H f8 ∧ Dj f4 f8 := by
 refine acalls_of_body mixed Tryz.func16 rfl (Nat.le_of_ble_eq_true rfl) ?_
 unfold z_viaductref10_DocRanks at hr
 refine w_seqk fun _ k12 => g_' ?_
 refine s_rwl wf [hd_Node, hd_UpFirst, hd_Up, hd_DownFirst, hd_Down] (one_cons (h_Node.one1) (one_cons (h_UpFirst.one1) (one_cons (h_Up.one1) (one_cons (h_DownFirst.one1) (one_cons (h_Down.one1) (one_nil)))))) (by kernel_rfl) fun b13 H14 e15 hb16 r17 => ?_
 refine q_ (.slice none 0 0) ?_
 refine s_rwk e15.wf [i_ 0, .slice none 0 0] (by kernel_rfl) fun b19 H20 e21 hb22 r23 => ?_
 refine s_nil (k12 _ _ (w_seqk fun _ k25 => w_seqk fun _ k26 => g_' ?_))
 have u27 := (r17.ext e21)
 refine l_' (.agg #[hd_Node, hd_UpFirst, hd_Up, hd_DownFirst, hd_Down]) (aLoad Tryz.prog 25 (pt_ b13 0) H20) (u27.ld (by kernel_rfl)) ?_
 have u28 := ((h_Node.ext e15).ext e21)
 have u29 := ((h_UpFirst.ext e15).ext e21)
 have u30 := ((h_Up.ext e15).ext e21)
 have u31 := ((h_DownFirst.ext e15).ext e21)
 have u32 := ((h_Down.ext e15).ext e21)
 obtain ⟨y33, hy34, r35⟩ := bind_some hr
 refine s_ck 9 #[.agg #[hd_Node, hd_UpFirst, hd_Up, hd_DownFirst, hd_Down]] (by kernel_rfl) (c_viaductref10_DocCheck e21.wf u28 u29 u30 u31 u32 hy34) ?_
 rintro _ H38 ⟨s36, f37, rfl, e39, m40, i41⟩
 obtain ⟨a43, n44, c45, rfl⟩ := m40.form
 refine s_rwk e39.wf [i_ 0, .slice none 0 0] (by kernel_rfl) fun b46 H47 e48 hb49 r50 => ?_
 have u56 := (m40.ext e48)
 obtain ⟨H52, q53, e54, r55⟩ := Row.store (P := Tryz.prog) (t := 35) (p := 0) e48.wf r50 (.agg #[i_ y33.1, .slice a43 n44 c45]) [i_ y33.1, .slice a43 n44 c45] (by kernel_rfl) (by kernel_rfl) (one_cons (rfl) (one_cons (u56.one1) (one_nil))) (Nat.le_of_ble_eq_true (by kernel_rfl)) [i_ y33.1, .slice a43 n44 c45] (by kernel_rfl)
 refine s_ek (undef) (by kernel_rfl) (map_ok q53) ?_
 refine s_nil (k26 _ _ (w_seqk fun _ k57 => g_' ?_))
 refine l_' (.agg #[i_ y33.1, .slice a43 n44 c45]) (aLoad Tryz.prog 35 (pt_ b46 0) H52) (r55.ld (by kernel_rfl)) ?_
 have u58 := (u56.fr e54 (hb49.djn m40.lt))
 obtain ⟨y59, hy60, r61⟩ := bind_some r35
 refine s_ck 23 #[.agg #[i_ y33.1, .slice a43 n44 c45]] (by kernel_rfl) (c_viaductref01_Err_Bad e54.wf u58 hy60) ?_
 rintro _ H62 ⟨rfl, e63⟩
 refine s_nil (k57 _ _ ?_)
 refine w_cond (y59) (by kernel_rfl) rfl (fun h64 => ?_) (fun h64 => ?_)
 ·have r65 := ite_t h64 r61
  refine w_seqk fun _ k66 => ?_
  refine w_draw [0, 1, 2] (by kernel_rfl) ?_
  have u67 := (r55.frS e63 Dj.nil_l)
  refine m_' (.agg #[i_ y33.1, .slice a43 n44 c45]) (aLoad Tryz.prog 35 (pt_ b46 0) H62) (u67.ld (by kernel_rfl)) ?_
  refine e_' (.slice none 0 0) ?_
  have u72 := ((((r23.frS e39 Dj.nil_l).ext e48).frS e54 (hb49.djn (r23.ltF.le e39.next))).frS e63 Dj.nil_l)
  have u73 := (u58.fr e63 Dj.nil_l)
  obtain ⟨H68, q69, e70, r71⟩ := Row.store (P := Tryz.prog) (t := 35) (p := 0) e63.wf u72 (.agg #[i_ y33.1, .slice a43 n44 c45]) [i_ y33.1, .slice a43 n44 c45] (by kernel_rfl) (by kernel_rfl) (one_cons (rfl) (one_cons (u73.one1) (one_nil))) (Nat.le_of_ble_eq_true (by kernel_rfl)) [i_ y33.1, .slice a43 n44 c45] (by kernel_rfl)
  refine d_ek (undef) (by kernel_rfl) (map_ok q69) (st_nil) ?_
  refine d_nil ?_
  refine k66 _ _ ?_
  refine w_ret (th_ret ?_)
  refine b_ret (fn := Tryz.f16) (vs := [.slice none 0 0, .agg #[i_ y33.1, .slice a43 n44 c45]]) (aRes_tmp (by kernel_rfl) (aRes_cell (Eq.trans (b := aLoad Tryz.prog 35 (pt_ b19 0) H68) (by kernel_rfl) (r71.ld (by kernel_rfl))) (rfl))) ?_
  have u74 := (u73.fr e70 (Dj.symm (i41.djn r23.ltF)))
  obtain rfl := Option.some.inj r65
  exact ⟨(.slice none 0 0), [], (.slice a43 n44 c45), f37, rfl, (FrS.step wf (FrS.step wf (FrS.step wf ((FrS.step wf (((FrS.refl (W := []) wf).extR e15).extR e21) e39 Inn.nil).extR e48) e54 (hb49.fresh (ntr (ntr e15.next e21.next) e39.next))) e63 Inn.nil) e70 (hb22.fresh e15.next)), (Ow.nil (by decide)), u74, Inn.nil, (i41.fresh (ntr e15.next e21.next)), Dj.nil_l⟩
 have r75 := ite_bf h64 r61
 refine w_skip (k25 _ _ (w_seqk fun _ k76 => g_' (q_ (pt_ b13 0) ?_)))
 have u77 := ((((u27.frS e39 Dj.nil_l).ext e48).frS e54 (hb49.djn (r17.ltF.le (ntr e21.next e39.next)))).frS e63 Dj.nil_l)
 refine l_' (hd_Node) (aLoad Tryz.prog 22 (pt_ b13 0) H62) (u77.ld (by kernel_rfl)) ?_
 have u78 := ((((u28.fr e39 Dj.nil_l).ext e48).fr e54 (hb49.djn (h_Node.lt.le (ntr (ntr e15.next e21.next) e39.next)))).fr e63 Dj.nil_l)
 refine l_' (i_ (Node.length : Int)) (aLen Tryz.prog 22 hd_Node H62) (u78.lenb (by kernel_rfl)) ?_
 obtain ⟨g79, r80⟩ := G_some r75
 refine s_mks (t := 49) (m := 8) (l := (Node.length : Int)) (c := (Node.length : Int)) (enc := (encI .i64)) (sz := 1) e63.wf (0 : Int) (by kernel_rfl) (by decide) g79.1 (Int.le_refl _) (by omega) (by have := g79; omega) (by kernel_rfl) fun s81 f82 H83 e84 hf85 hm86 => ?_
 obtain ⟨a87, n88, c89, rfl⟩ := hm86.form
 have hm86 : Ow (encI .i64) 1 H83 (.slice a87 n88 c89) (List.replicate Node.length (0 : Int)) f82 := hm86
 refine q_ (.slice a87 n88 c89) (s_nil (k76 _ _ (w_seqk fun _ k91 => w_seqk fun _ k92 => g_' (q_ (pt_ b13 0) ?_))))
 have u93 := (u77.ext e84)
 refine l_' (hd_Node) (aLoad Tryz.prog 22 (pt_ b13 0) H83) (u93.ld (by kernel_rfl)) ?_
 have u94 := (u78.ext e84)
 refine l_' (i_ (Node.length : Int)) (aLen Tryz.prog 22 hd_Node H83) (u94.lenb (by kernel_rfl)) ?_
 refine q_ (i_ 0) (s_nil (k92 _ _ ?_))
 obtain ⟨o95, hx96, r97⟩ := bind_some r80
 refine w_mid (fun α H98 => Has α [(3, pt_ b19 0), (5, .slice a87 n88 c89)] ∧ FrS f82 H83 H98 ∧ Ow (encI .i64) 1 H98 (.slice a87 n88 c89) o95 f82) (fun _ k102 => ?_) (fun α H98 hM => ?_)
 ·refine w_block ?_
  obtain ⟨n104, hn105⟩ := loopO_iff.1 hx96
  refine w_loopn (fun n α H106 => ∃ (i0 : Int), ∃ (l1 : List (Int)), iterO (fun zz_ => z_viaductref10_DocRanks_l0 Node zz_.1 zz_.2) n (i0, l1) = some o95 ∧ Has α [(3, pt_ b19 0), (5, .slice a87 n88 c89), (18, hd_Node), (19, i_ (Node.length : Int)), (20, i_ i0)] ∧ FrS f82 H83 H106 ∧ Ow (encI .i64) 1 H106 (.slice a87 n88 c89) l1 f82) n104 ⟨0, (List.replicate Node.length (0 : Int)), hn105, ha_, (FrS.refl (W := f82) e84.wf), hm86⟩ ?_
  rintro n104 α H106 ⟨i0, l1, hi111, hh110, e107, m109⟩ K116 k116
  obtain ⟨n112, z113, rfl, hz114, hn115⟩ := iter_succ hi111
  obtain ⟨β, rfl⟩ := has_ex hh110
  clear hh110
  replace hz114 : z_viaductref10_DocRanks_l0 Node i0 l1 = some z113 := hz114
  unfold z_viaductref10_DocRanks_l0 at hz114
  refine w_seqk fun _ k117 => g_' (q_ (.bool (decide (i0 < (Node.length : Int)))) (s_nil (k117 _ _ (w_seqk fun _ k118 => ?_))))
  refine w_condp (i0 < (Node.length : Int)) (by kernel_rfl) rfl (fun h119 => ?_) (fun h119 => ?_)
  ·have r120 := ite_t h119 hz114
   refine w_skip (k118 _ _ (w_seqk fun _ k121 => w_block (w_seqk fun _ k122 => g_' (q_ (i_ i0) ?_))))
   obtain ⟨g123, r124⟩ := G_some r120
   have u125 := (u94.fr e107 (hf85.djn (h_Node.lt.le (ntr (ntr (ntr (ntr (ntr e15.next e21.next) e39.next) e48.next) e54.next) e63.next))))
   refine l_' (elp hd_Node 1 i0.toNat 0) (aIndexAddr Tryz.prog 22 hd_Node (i_ i0)) (u125.idxb (by kernel_rfl) g123 h119) ?_
   refine l_' (.int .u32 (gt Node i0)) (aLoad Tryz.prog 86 (elp hd_Node 1 i0.toNat 0) H106) (u125.ld g123 h119 (by kernel_rfl)) ?_
   refine q_ (i_ i0) (q_ (.int .u32 (gt Node i0)) (s_nil (k122 _ _ (g_' (q_ (.slice a87 n88 c89) (q_ (.int .u32 (gt Node i0)) (q_ (i_ i0) ?_)))))))
   obtain ⟨g126, r127⟩ := G_some r124
   refine l_' (elp (.slice a87 n88 c89) 1 (gt Node i0).toNat 0) (aIndexAddr Tryz.prog 49 (.slice a87 n88 c89) (.int .u32 (gt Node i0))) (m109.sq.idxb (by kernel_rfl) g126.1 g126.2) ?_
   obtain ⟨H128, q129, e130, hm131⟩ := Ow.store (P := Tryz.prog) (t := 3) (off := 0) e107.wf m109 g126.1 g126.2 (i_ i0) [i_ i0] (by kernel_rfl) (by kernel_rfl) rfl i0 (Nat.le_of_ble_eq_true rfl) (by kernel_rfl)
   refine s_ek (undef) (by kernel_rfl) (map_ok q129) ?_
   refine s_nil (k121 _ _ (g_' ?_))
   obtain ⟨g132, r133⟩ := G_some r127
   refine w_' (i0 + 1) (wrap64 (by have := g132; omega)) ?_
   refine q_ (i_ (i0 + 1)) (s_nil ?_)
   obtain rfl := Option.some.inj r133
   exact k116 n112 _ _ (Nat.lt_succ_self _) ⟨(i0 + 1), (l1.set (gt Node i0).toNat i0), hn115, ha_, (FrS.step e84.wf (FrS.step e84.wf (FrS.refl (W := f82) e84.wf) e107 Inn.refl') e130 Inn.refl'), hm131⟩
  have r134 := ite_f h119 hz114
  refine w_exit (th_exit (th_exit (bl_eq ?_)))
  obtain rfl := Option.some.inj r134
  obtain rfl := it_inr hn115
  exact k102 _ _ ⟨ha_, (FrS.step e84.wf (FrS.refl (W := f82) e84.wf) e107 Inn.refl'), m109⟩
 obtain ⟨hh103, e99, m101⟩ := hM
 obtain ⟨β, rfl⟩ := has_ex hh103
 clear hh103
 refine k91 _ _ (w_seqk fun _ k135 => g_' (q_ (.slice a87 n88 c89) (q_ (.agg #[i_ 0, .slice none 0 0]) (q_ (.slice a87 n88 c89) ?_))))
 have u140 := ((((((r23.frS e39 Dj.nil_l).ext e48).frS e54 (hb49.djn (r23.ltF.le e39.next))).frS e63 Dj.nil_l).ext e84).frS e99 (hf85.djn (r23.ltF.le (ntr (ntr (ntr e39.next e48.next) e54.next) e63.next))))
 obtain ⟨H136, q137, e138, r139⟩ := Row.store (P := Tryz.prog) (t := 35) (p := 0) e99.wf u140 (.agg #[i_ 0, .slice none 0 0]) [i_ 0, .slice none 0 0] (by kernel_rfl) (by kernel_rfl) (one_cons (rfl) (one_cons (rfl) (one_nil))) (Nat.le_of_ble_eq_true (by kernel_rfl)) [i_ 0, .slice none 0 0] (by kernel_rfl)
 refine s_ek (undef) (by kernel_rfl) (map_ok q137) ?_
 refine s_nil (k135 _ _ ?_)
 refine w_ret ?_
 refine b_ret (fn := Tryz.f16) (vs := [.slice a87 n88 c89, .agg #[i_ 0, .slice none 0 0]]) (aRes_tmp (by kernel_rfl) (aRes_cell (Eq.trans (b := aLoad Tryz.prog 35 (pt_ b19 0) H136) (by kernel_rfl) (r139.ld (by kernel_rfl))) (rfl))) ?_
 have u141 := (m101.fr e138 (Dj.symm (hf85.djn (r23.ltF.le (ntr (ntr (ntr e39.next e48.next) e54.next) e63.next)))))
 obtain rfl := Option.some.inj r97
 exact ⟨(.slice a87 n88 c89), f82, (.slice none 0 0), [], rfl, (FrS.step wf (FrS.step wf ((FrS.step wf (FrS.step wf ((FrS.step wf (((FrS.refl (W := []) wf).extR e15).extR e21) e39 Inn.nil).extR e48) e54 (hb49.fresh (ntr (ntr e15.next e21.next) e39.next))) e63 Inn.nil).extR e84) e99 (hf85.fresh (ntr (ntr (ntr (ntr (ntr e15.next e21.next) e39.next) e48.next) e54.next) e63.next))) e138 (hb22.fresh e15.next)), u141, (Sq.nil (by decide)), (hf85.fresh (ntr (ntr (ntr (ntr (ntr e15.next e21.next) e39.next) e48.next) e54.next) e63.next)), Inn.nil, Dj.nil_r⟩
theorem c_viaductref02_SameInts {H : AH} {hd_a : Value} {fp_a : Fp} {hd_b : Value} {fp_b : Fp} {a : List (Int)} {b : List (Int)} {r : Bool}
    (wf : WF H) (h_a : Sq (encI .i64) 1 H hd_a a fp_a) (h_b : Sq (encI .i64) 1 H hd_b b fp_b) (hr : z_viaductref02_SameInts a b = some r) :
    ACalls Tryz.prog 17 #[hd_a, hd_b] H fun v H' => v = .bool r ∧ H = H' := by
 refine acalls_of_body mixed Tryz.func17 rfl (Nat.le_of_ble_eq_true rfl) ?_
 unfold z_viaductref02_SameInts at hr
 refine w_seqk fun _ k1 => g_' (q_ (.bool false) (s_nil (k1 _ _ (w_seqk fun _ k2 => w_seqk fun _ k3 => g_' (q_ (hd_a) ?_)))))
 refine l_' (i_ (a.length : Int)) (aLen Tryz.prog 49 hd_a H) (h_a.lenb (by kernel_rfl)) ?_
 refine q_ (hd_b) ?_
 refine l_' (i_ (b.length : Int)) (aLen Tryz.prog 49 hd_b H) (h_b.lenb (by kernel_rfl)) ?_
 refine q_ (.bool (!decide ((a.length : Int) = (b.length : Int)))) (s_nil (k3 _ _ ?_))
 refine w_condn ((a.length : Int) = (b.length : Int)) (by kernel_rfl) rfl (fun h4 => ?_) (fun h4 => ?_)
 ·have r5 := ite_f h4 hr
  refine w_seqk fun _ k6 => g_' (q_ (.bool false) (s_nil (k6 _ _ ?_)))
  refine w_ret (th_ret ?_)
  refine b_ret (fn := Tryz.f17) (vs := [.bool false]) (aRes_tmp (by kernel_rfl) (rfl)) ?_
  obtain rfl := Option.some.inj r5
  exact ⟨rfl, rfl⟩
 have r7 := ite_t h4 hr
 refine w_skip (k2 _ _ (w_seqk fun _ k8 => w_seqk fun _ k9 => g_' (q_ (hd_a) ?_)))
 refine l_' (i_ (a.length : Int)) (aLen Tryz.prog 49 hd_a H) (h_a.lenb (by kernel_rfl)) ?_
 refine q_ (i_ 0) (s_nil (k9 _ _ ?_))
 obtain ⟨z13, hx11, r12⟩ := bind_some r7
 refine w_mid (fun α H14 => ∃ o10, z13 = Sum.inr o10 ∧ Has α [] ∧ H = H14) (fun _ k16 => ?_) (fun α H14 hM => ?_)
 ·refine w_block ?_
  obtain ⟨n18, hn19⟩ := loopO_iff.1 hx11
  refine w_loopn (fun n α H20 => ∃ (i0 : Int), iterO (fun zz_ => z_viaductref02_SameInts_l0 a b zz_) n i0 = some z13 ∧ Has α [(0, hd_a), (1, hd_b), (12, i_ (a.length : Int)), (13, i_ i0)] ∧ H = H20) n18 ⟨0, hn19, ha_, rfl⟩ ?_
  rintro n18 α H20 ⟨i0, hi23, hh22, rfl⟩ K28 k28
  obtain ⟨n24, z25, rfl, hz26, hn27⟩ := iter_succ hi23
  obtain ⟨β, rfl⟩ := has_ex hh22
  clear hh22
  replace hz26 : z_viaductref02_SameInts_l0 a b i0 = some z25 := hz26
  unfold z_viaductref02_SameInts_l0 at hz26
  refine w_seqk fun _ k29 => g_' (q_ (.bool (decide (i0 < (a.length : Int)))) (s_nil (k29 _ _ (w_seqk fun _ k30 => ?_))))
  refine w_condp (i0 < (a.length : Int)) (by kernel_rfl) rfl (fun h31 => ?_) (fun h31 => ?_)
  ·have r32 := ite_t h31 hz26
   refine w_skip (k30 _ _ (w_seqk fun _ k33 => w_block (w_seqk fun _ k34 => g_' (q_ (i_ i0) (q_ (i_ i0) (s_nil (k34 _ _ (w_seqk fun _ k35 => ?_))))))))
   refine w_draw [0, 1, 2, 3, 4, 5, 6, 7, 8] (by kernel_rfl) ?_
   refine e_' (hd_a) (e_' (i_ i0) ?_)
   obtain ⟨g36, r37⟩ := G_some r32
   refine m_' (elp hd_a 1 i0.toNat 0) (aIndexAddr Tryz.prog 49 hd_a (i_ i0)) (h_a.idxb (by kernel_rfl) g36 h31) ?_
   refine m_' (i_ (gt a i0)) (aLoad Tryz.prog 3 (elp hd_a 1 i0.toNat 0) H) (h_a.ld g36 h31 (by kernel_rfl)) ?_
   refine e_' (hd_b) (e_' (i_ i0) ?_)
   obtain ⟨g38, r39⟩ := G_some r37
   refine m_' (elp hd_b 1 i0.toNat 0) (aIndexAddr Tryz.prog 49 hd_b (i_ i0)) (h_b.idxb (by kernel_rfl) g36 g38) ?_
   refine m_' (i_ (gt b i0)) (aLoad Tryz.prog 3 (elp hd_b 1 i0.toNat 0) H) (h_b.ld g36 g38 (by kernel_rfl)) ?_
   refine e_' (.bool (!decide ((gt a i0) = (gt b i0)))) ?_
   refine d_nil ?_
   refine k35 _ _ ?_
   refine w_condn ((gt a i0) = (gt b i0)) (by kernel_rfl) rfl (fun h40 => ?_) (fun h40 => ?_)
   ·have r41 := ite_f h40 r39
    refine w_seqk fun _ k42 => g_' (q_ (.bool false) (s_nil (k42 _ _ ?_)))
    refine w_ret (bl_ret (th_ret (th_ret (bl_ret (th_ret (th_ret ?_))))))
    obtain ⟨v43, hv44, hz45⟩ := map_some r41
    subst hz45
    obtain rfl := it_inr hn27
    have hq46 := elim_inl r12
    rw [hq46] at hv44
    refine b_ret (fn := Tryz.f17) (vs := [.bool false]) (aRes_tmp (by kernel_rfl) (rfl)) ?_
    obtain rfl := Option.some.inj hv44
    exact ⟨rfl, rfl⟩
   have r47 := ite_t h40 r39
   refine w_skip (k33 _ _ (g_' ?_))
   obtain ⟨g48, r49⟩ := G_some r47
   refine w_' (i0 + 1) (wrap64 (by have := g48; omega)) ?_
   refine q_ (i_ (i0 + 1)) (s_nil ?_)
   obtain rfl := Option.some.inj r49
   exact k28 n24 _ _ (Nat.lt_succ_self _) ⟨(i0 + 1), hn27, ha_, rfl⟩
  have r50 := ite_f h31 hz26
  refine w_exit (th_exit (th_exit (bl_eq ?_)))
  obtain rfl := Option.some.inj r50
  obtain rfl := it_inr hn27
  exact k16 _ _ ⟨_, rfl, trivial, rfl⟩
 obtain ⟨o10, rfl, hh17, rfl⟩ := hM
 have r51 := elim_inr r12
 obtain ⟨β, rfl⟩ := has_ex hh17
 clear hh17
 refine k8 _ _ (w_seqk fun _ k52 => g_' (q_ (.bool true) (s_nil (k52 _ _ ?_))))
 refine w_ret ?_
 refine b_ret (fn := Tryz.f17) (vs := [.bool true]) (aRes_tmp (by kernel_rfl) (rfl)) ?_
 obtain rfl := Option.some.inj r51
 exact ⟨rfl, rfl⟩
theorem c_slices_Clone {H : AH} {hd_s : Value} {fp_s : Fp} {s : List (Int)} {r : List (Int)}
    (wf : WF H) (h_s : Sq (encI .u32) 1 H hd_s s fp_s) (hr : z_slices_Clone s = some r) :
    ACalls Tryz.prog 43 #[hd_s] H fun v H' => ∃ (s3 : Value) (f4 : Fp), v = s3 ∧ FrS [] H H' ∧ Ow (encI .u32) 1 H' s3 r f4 ∧ Inn [] H f4 := by
 refine acalls_of_body mixed Tryz.func43 rfl (Nat.le_of_ble_eq_true rfl) ?_
 unfold z_slices_Clone at hr
 refine w_seqk fun _ k6 => g_' (q_ (.slice none 0 0) (s_nil (k6 _ _ (w_seqk fun _ k7 => w_seqk fun _ k8 => g_' (q_ (hd_s) ?_)))))
 rcases Sq.nilOr h_s with ⟨rfl, rfl⟩ | ⟨a9, n10, c11, rfl⟩
 ·refine q_ (.bool true) (s_nil (k8 _ _ ?_))
  refine w_cond true (by kernel_rfl) rfl (fun _ => ?_) (fun h => by cases h)
  refine w_seqk fun _ k12 => g_' (q_ (.slice none 0 0) (s_nil (k12 _ _ ?_)))
  refine w_ret (th_ret ?_)
  refine b_ret (fn := Tryz.f43) (vs := [.slice none 0 0]) (aRes_tmp (by kernel_rfl) (rfl)) ?_
  have hn_ : some ([] : List (Int)) = some r := by simpa [G] using hr
  obtain rfl := Option.some.inj hn_
  exact ⟨(.slice none 0 0), [], rfl, (FrS.refl (W := []) wf), (Ow.nil (by decide)), Inn.nil⟩
 refine q_ (.bool false) (s_nil (k8 _ _ ?_))
 refine w_cond false (by kernel_rfl) rfl (fun h => by cases h) (fun _ => ?_)
 refine w_skip (k7 _ _ (w_seqk fun _ k13 => g_' ?_))
 refine s_owk (enc := (encI .u32)) (sz := 1) wf ([] : List (Int)) 0 (by decide) (fun _ _ => rfl) (fun _ _ => rfl) rfl (by kernel_rfl) fun s14 f15 H16 e17 hf18 hm19 => ?_
 obtain ⟨a20, n21, c22, rfl⟩ := hm19.form
 refine q_ (.slice (some a9) n10 c11) ?_
 obtain ⟨g24, r25⟩ := G_some hr
 have u33 := (h_s.ext e17)
 obtain ⟨s26, H27, f28, q32, e29, hm30, hf31⟩ := Ow.append (P := Tryz.prog) 4 e17.wf hm19 u33 (fun _ _ => rfl) (at_ := #[22, 22]) rfl rfl (by kernel_rfl) (by kernel_rfl) (by decide) (by have := g24; first | omega | (simp only [List.length_cons, List.length_nil] at this ⊢; omega) | (simp at this ⊢; omega))
 obtain ⟨a34, n35, c36, rfl⟩ := hm30.form
 refine s_ek (.slice a34 n35 c36) (by kernel_rfl) (q32) ?_
 refine q_ (.slice a34 n35 c36) (s_nil (k13 _ _ ?_))
 refine w_ret ?_
 refine b_ret (fn := Tryz.f43) (vs := [.slice a34 n35 c36]) (aRes_tmp (by kernel_rfl) (rfl)) ?_
 obtain rfl := Option.some.inj r25
 exact ⟨(.slice a34 n35 c36), f28, rfl, (FrS.step wf ((FrS.refl (W := []) wf).extR e17) e29 (hf18.fresh (Nat.le_refl _))), hm30, (Inn.trans (hf18.fresh (Nat.le_refl _)) e17.next hf31)⟩
theorem c_hier_Turn_1 {H : AH} {b_p : Nat} {b_p_ : Nat} {i : Int} {x : Int} {x_ : Int} {r : Int}
    (wf : WF H) (h_p : Row H b_p [.int .u32 x]) (h_p_ : Row H b_p_ [.int .u32 x_]) (hr : z_hier_Turn_1 i x x_ = some r) :
    ACalls Tryz.prog 41 #[.int .u32 i, pt_ b_p 0, pt_ b_p_ 0] H fun v H' => v = .int .u32 r ∧ H = H' := by
 refine acalls_of_body mixed Tryz.func41 rfl (Nat.le_of_ble_eq_true rfl) ?_
 unfold z_hier_Turn_1 at hr
 refine w_seqk fun _ k1 => g_' (q_ (.int .u32 0) (s_nil (k1 _ _ (w_seqk fun _ k2 => w_block (w_seqk fun _ k3 => g_' (q_ (.int .u32 i) (q_ (.bool (decide (i = 4294967295))) (q_ (.bool (decide (i = 4294967295))) (s_nil (k3 _ _ ?_))))))))))
 refine w_condp (i = 4294967295) (by kernel_rfl) rfl (fun h4 => ?_) (fun h4 => ?_)
 ·have r5 := ite_t h4 hr
  refine w_seqk fun _ k6 => g_' (q_ (.int .u32 i) (q_ (.int .u32 i) (s_nil (k6 _ _ ?_))))
  refine w_ret (bl_ret (th_ret ?_))
  refine b_ret (fn := Tryz.f41) (vs := [.int .u32 i]) (aRes_tmp (by kernel_rfl) (rfl)) ?_
  obtain rfl := Option.some.inj r5
  exact ⟨rfl, rfl⟩
 have r7 := ite_f h4 hr
 refine w_seqk fun _ k8 => g_' (q_ (.int .u32 i) ?_)
 refine l_' (.int .u32 x) (aLoad Tryz.prog 86 (pt_ b_p 0) H) (h_p.ld (by kernel_rfl)) ?_
 refine q_ (.bool (decide (i < x))) (q_ (.bool (decide (i < x))) (s_nil (k8 _ _ ?_)))
 refine w_condp (i < x) (by kernel_rfl) rfl (fun h9 => ?_) (fun h9 => ?_)
 ·have r10 := ite_t h9 r7
  refine w_seqk fun _ k11 => g_' (q_ (.int .u32 i) ?_)
  refine l_' (.int .u32 x_) (aLoad Tryz.prog 86 (pt_ b_p_ 0) H) (h_p_.ld (by kernel_rfl)) ?_
  obtain ⟨g12, r13⟩ := G_some r10
  refine s_w ((i + x_)) (k := .u32) (x := (i + x_)) (by kernel_rfl) (wrapu32 g12) ?_
  refine q_ (.int .u32 (i + x_)) (s_nil (k11 _ _ ?_))
  refine w_ret (bl_ret (th_ret ?_))
  refine b_ret (fn := Tryz.f41) (vs := [.int .u32 (i + x_)]) (aRes_tmp (by kernel_rfl) (rfl)) ?_
  obtain rfl := Option.some.inj r13
  exact ⟨rfl, rfl⟩
 have r14 := ite_f h9 r7
 refine w_skip (k2 _ _ (w_seqk fun _ k15 => g_' (q_ (.int .u32 i) ?_)))
 refine l_' (.int .u32 x) (aLoad Tryz.prog 86 (pt_ b_p 0) H) (h_p.ld (by kernel_rfl)) ?_
 obtain ⟨g16, r17⟩ := G_some r14
 refine s_w ((i - x)) (k := .u32) (x := (i - x)) (by kernel_rfl) (wrapu32 g16) ?_
 refine q_ (.int .u32 (i - x)) (s_nil (k15 _ _ ?_))
 refine w_ret ?_
 refine b_ret (fn := Tryz.f41) (vs := [.int .u32 (i - x)]) (aRes_tmp (by kernel_rfl) (rfl)) ?_
 obtain rfl := Option.some.inj r17
 exact ⟨rfl, rfl⟩
theorem c_hier_Turn_2 {H : AH} {hd_l : Value} {fp_l : Fp} {b_p : Nat} {b_p_ : Nat} {b_p_2 : Nat} {l : List (Int × Int × Int × Int)} {x : Int} {x_ : Int} {r : List (Int × Int × Int × Int)}
    (wf : WF H) (h_l : Sq enc_u32_u64_u32_u32 4 H hd_l l fp_l) (h_p_ : Row H b_p_ [.int .u32 x]) (h_p_2 : Row H b_p_2 [.int .u32 x_]) (h_p : Row H b_p [.func (.func 41) #[] #[pt_ b_p_ 0, pt_ b_p_2 0]]) (hr : z_hier_Turn_2 l x x_ = some r) :
    ACalls Tryz.prog 42 #[hd_l, pt_ b_p 0] H fun v H' => ∃ (s3 : Value) (f4 : Fp), v = s3 ∧ FrS [] H H' ∧ Ow enc_u32_u64_u32_u32 4 H' s3 r f4 ∧ Inn [] H f4 := by
 refine acalls_of_body mixed Tryz.func42 rfl (Nat.le_of_ble_eq_true rfl) ?_
 unfold z_hier_Turn_2 at hr
 refine w_seqk fun _ k6 => g_' (q_ (.slice none 0 0) (s_nil (k6 _ _ (w_seqk fun _ k7 => g_' (q_ (.slice none 0 0) (s_nil (k7 _ _ (w_seqk fun _ k8 => w_seqk fun _ k9 => g_' (q_ (hd_l) ?_)))))))))
 refine l_' (i_ (l.length : Int)) (aLen Tryz.prog 23 hd_l H) (h_l.lenb (by kernel_rfl)) ?_
 refine q_ (i_ 0) (s_nil (k9 _ _ ?_))
 obtain ⟨o10, hx11, r12⟩ := bind_some hr
 refine w_mid (fun α H13 => ∃ (s17 : Value) (f18 : Fp), Has α [(4, s17)] ∧ FrS [] H H13 ∧ Ow enc_u32_u64_u32_u32 4 H13 s17 o10 f18 ∧ Inn [] H f18) (fun _ k20 => ?_) (fun α H13 hM => ?_)
 ·refine w_block ?_
  obtain ⟨n22, hn23⟩ := loopO_iff.1 hx11
  refine w_loopn (fun n α H24 => ∃ (m0 : List (Int × Int × Int × Int)), ∃ (i1 : Int), ∃ (s28 : Value), ∃ (f29 : Fp), iterO (fun zz_ => z_hier_Turn_2_l0 l x x_ zz_.1 zz_.2) n (m0, i1) = some o10 ∧ Has α [(1, pt_ b_p 0), (4, s28), (7, hd_l), (8, i_ (l.length : Int)), (9, i_ i1)] ∧ FrS [] H H24 ∧ Ow enc_u32_u64_u32_u32 4 H24 s28 m0 f29 ∧ Inn [] H f29) n22 ⟨[], 0, (.slice none 0 0), [], hn23, ha_, (FrS.refl (W := []) wf), (Ow.nil (by decide)), Inn.nil⟩ ?_
  rintro n22 α H24 ⟨m0, i1, s28, f29, hi32, hh31, e25, m27, i30⟩ K37 k37
  obtain ⟨n33, z34, rfl, hz35, hn36⟩ := iter_succ hi32
  obtain ⟨β, rfl⟩ := has_ex hh31
  clear hh31
  replace hz35 : z_hier_Turn_2_l0 l x x_ m0 i1 = some z34 := hz35
  unfold z_hier_Turn_2_l0 at hz35
  obtain ⟨a38, n39, c40, rfl⟩ := m27.form
  refine w_seqk fun _ k41 => g_' (q_ (.bool (decide (i1 < (l.length : Int)))) (s_nil (k41 _ _ (w_seqk fun _ k42 => ?_))))
  refine w_condp (i1 < (l.length : Int)) (by kernel_rfl) rfl (fun h43 => ?_) (fun h43 => ?_)
  ·have r44 := ite_t h43 hz35
   refine w_skip (k42 _ _ (w_seqk fun _ k45 => w_block (w_seqk fun _ k46 => g_' ?_)))
   obtain ⟨g47, r48⟩ := G_some r44
   have u49 := (h_l.fr e25 Dj.nil_l)
   refine l_' (elp hd_l 4 i1.toNat 0) (aIndexAddr Tryz.prog 23 hd_l (i_ i1)) (u49.idxb (by kernel_rfl) g47 h43) ?_
   refine l_' (.agg #[.int .u32 ((gt l i1).1), .int .u64 ((gt l i1).2.1), .int .u32 ((gt l i1).2.2.1), .int .u32 ((gt l i1).2.2.2)]) (aLoad Tryz.prog 92 (elp hd_l 4 i1.toNat 0) H24) (u49.ld g47 h43 (by kernel_rfl)) ?_
   refine s_rwk e25.wf [.int .u32 0, .int .u64 0, .int .u32 0, .int .u32 0] (by kernel_rfl) fun b50 H51 e52 hb53 r54 => ?_
   obtain ⟨H56, q57, e58, r59⟩ := Row.store (P := Tryz.prog) (t := 92) (p := 0) e52.wf r54 (.agg #[.int .u32 ((gt l i1).1), .int .u64 ((gt l i1).2.1), .int .u32 ((gt l i1).2.2.1), .int .u32 ((gt l i1).2.2.2)]) [.int .u32 ((gt l i1).1), .int .u64 ((gt l i1).2.1), .int .u32 ((gt l i1).2.2.1), .int .u32 ((gt l i1).2.2.2)] (by kernel_rfl) (by kernel_rfl) (one_cons (rfl) (one_cons (rfl) (one_cons (rfl) (one_cons (rfl) (one_nil))))) (Nat.le_of_ble_eq_true (by kernel_rfl)) [.int .u32 ((gt l i1).1), .int .u64 ((gt l i1).2.1), .int .u32 ((gt l i1).2.2.1), .int .u32 ((gt l i1).2.2.2)] (by kernel_rfl)
   refine s_ek (undef) (by kernel_rfl) (map_ok q57) ?_
   refine s_nil (k46 _ _ (w_seqk fun _ k60 => ?_))
   refine w_draw [0, 1, 2, 4, 5, 6, 3, 8, 7, 9, 10, 11] (by kernel_rfl) ?_
   have u61 := (((h_p.frS e25 Dj.nil_l).ext e52).frS e58 (hb53.djn (h_p.ltF.le e25.next)))
   refine m_' (.func (.func 41) #[] #[pt_ b_p_ 0, pt_ b_p_2 0]) (aLoad Tryz.prog 103 (pt_ b_p 0) H56) (u61.ld (by kernel_rfl)) ?_
   refine e_' (pt_ b50 3) ?_
   refine m_' (.int .u32 ((gt l i1).2.2.2)) (aLoad Tryz.prog 86 (pt_ b50 3) H56) (r59.ld (by kernel_rfl)) ?_
   refine d_fl (.func (.func 41) #[] #[pt_ b_p_ 0, pt_ b_p_2 0]) (x := aLoad Tryz.prog 103 (pt_ b_p 0) H56) (by kernel_rfl) (u61.ld (by kernel_rfl)) ?_
   refine e_' (pt_ b50 2) ?_
   refine d_fl (.int .u32 ((gt l i1).2.2.1)) (x := aLoad Tryz.prog 86 (pt_ b50 2) H56) (by kernel_rfl) (r59.ld (by kernel_rfl)) ?_
   have u62 := (((h_p_.frS e25 Dj.nil_l).ext e52).frS e58 (hb53.djn (h_p_.ltF.le e25.next)))
   have u63 := (((h_p_2.frS e25 Dj.nil_l).ext e52).frS e58 (hb53.djn (h_p_2.ltF.le e25.next)))
   obtain ⟨y64, hy65, r66⟩ := bind_some r48
   refine d_ck 41 #[.int .u32 ((gt l i1).2.2.2), pt_ b_p_ 0, pt_ b_p_2 0] (by kernel_rfl) (c_hier_Turn_1 e58.wf u62 u63 hy65) ?_
   rintro _ _ ⟨rfl, rfl⟩
   refine ⟨st_ql (y := aLoad Tryz.prog 86 (pt_ b50 2) H56) (by kernel_rfl) (r59.ld (by kernel_rfl)) (st_ql (y := aLoad Tryz.prog 103 (pt_ b_p 0) H56) (by kernel_rfl) (u61.ld (by kernel_rfl)) (st_nil)), ?_⟩
   refine e_' (pt_ b50 2) ?_
   obtain ⟨y69, hy70, r71⟩ := bind_some r66
   refine d_ck 41 #[.int .u32 ((gt l i1).2.2.1), pt_ b_p_ 0, pt_ b_p_2 0] (by kernel_rfl) (c_hier_Turn_1 e58.wf u62 u63 hy70) ?_
   rintro _ _ ⟨rfl, rfl⟩
   refine ⟨st_anc (by kernel_rfl) (st_anc (by kernel_rfl) (st_nil)), ?_⟩
   obtain ⟨H74, q75, e76, r77⟩ := Row.store (P := Tryz.prog) (t := 86) (p := 2) e58.wf r59 (.int .u32 y64) [.int .u32 y64] (by kernel_rfl) (by kernel_rfl) (one_cons (rfl) (one_nil)) (Nat.le_of_ble_eq_true (by kernel_rfl)) [.int .u32 ((gt l i1).1), .int .u64 ((gt l i1).2.1), .int .u32 y64, .int .u32 ((gt l i1).2.2.2)] (by kernel_rfl)
   refine d_ek (undef) (by kernel_rfl) (map_ok q75) (st_anc (by kernel_rfl) (st_anc (by kernel_rfl) (st_nil))) ?_
   refine e_' (pt_ b50 3) ?_
   obtain ⟨H78, q79, e80, r81⟩ := Row.store (P := Tryz.prog) (t := 86) (p := 3) e76.wf r77 (.int .u32 y69) [.int .u32 y69] (by kernel_rfl) (by kernel_rfl) (one_cons (rfl) (one_nil)) (Nat.le_of_ble_eq_true (by kernel_rfl)) [.int .u32 ((gt l i1).1), .int .u64 ((gt l i1).2.1), .int .u32 y64, .int .u32 y69] (by kernel_rfl)
   refine d_ek (undef) (by kernel_rfl) (map_ok q79) (st_anc (by kernel_rfl) (st_anc (by kernel_rfl) (st_nil))) ?_
   refine d_nil ?_
   refine k60 _ _ (g_' (q_ (.slice a38 n39 c40) ?_))
   refine l_' (.agg #[.int .u32 ((gt l i1).1), .int .u64 ((gt l i1).2.1), .int .u32 y64, .int .u32 y69]) (aLoad Tryz.prog 92 (pt_ b50 0) H78) (r81.ld (by kernel_rfl)) ?_
   refine s_owk (enc := enc_u32_u64_u32_u32) (sz := 4) e80.wf [((gt l i1).1, (gt l i1).2.1, y64, y69)] 1 (by decide) (fun _ _ => rfl) (fun _ _ => rfl) rfl (by kernel_rfl) fun s82 f83 H84 e85 hf86 hm87 => ?_
   obtain ⟨a88, n89, c90, rfl⟩ := hm87.form
   have u92 := (((((m27.ext e52).fr e58 (hb53.djn m27.lt)).fr e76 (hb53.djn m27.lt)).fr e80 (hb53.djn m27.lt)).ext e85)
   obtain ⟨g93, r94⟩ := G_some r71
   obtain ⟨s95, H96, f97, q101, e98, hm99, hf100⟩ := Ow.append (P := Tryz.prog) 24 e85.wf u92 hm87.sq (fun _ _ => rfl) (at_ := #[23, 23]) rfl rfl (by kernel_rfl) (by kernel_rfl) (by decide) (by have := g93; first | omega | (simp only [List.length_cons, List.length_nil] at this ⊢; omega) | (simp at this ⊢; omega))
   obtain ⟨a102, n103, c104, rfl⟩ := hm99.form
   refine s_ek (.slice a102 n103 c104) (by kernel_rfl) (q101) ?_
   refine q_ (.slice a102 n103 c104) (s_nil (k45 _ _ (g_' ?_)))
   obtain ⟨g106, r107⟩ := G_some r94
   refine w_' (i1 + 1) (wrap64 (by have := g106; omega)) ?_
   refine q_ (i_ (i1 + 1)) (s_nil ?_)
   obtain rfl := Option.some.inj r107
   exact k37 n33 _ _ (Nat.lt_succ_self _) ⟨(m0 ++ [((gt l i1).1, (gt l i1).2.1, y64, y69)]), (i1 + 1), (.slice a102 n103 c104), f97, hn36, ha_, (FrS.step wf ((FrS.step wf (FrS.step wf (FrS.step wf ((FrS.step wf (FrS.refl (W := []) wf) e25 Inn.nil).extR e52) e58 (hb53.fresh e25.next)) e76 (hb53.fresh e25.next)) e80 (hb53.fresh e25.next)).extR e85) e98 (i30.fresh (Nat.le_refl _))), hm99, (Inn.trans (i30.fresh (Nat.le_refl _)) (ntr (ntr (ntr (ntr (ntr e25.next e52.next) e58.next) e76.next) e80.next) e85.next) hf100)⟩
  have r108 := ite_f h43 hz35
  refine w_exit (th_exit (th_exit (bl_eq ?_)))
  obtain rfl := Option.some.inj r108
  obtain rfl := it_inr hn36
  exact k20 _ _ ⟨(.slice a38 n39 c40), f29, ha_, (FrS.step wf (FrS.refl (W := []) wf) e25 Inn.nil), m27, (i30.fresh (Nat.le_refl _))⟩
 obtain ⟨s17, f18, hh21, e14, m16, i19⟩ := hM
 obtain ⟨β, rfl⟩ := has_ex hh21
 clear hh21
 obtain ⟨a109, n110, c111, rfl⟩ := m16.form
 refine k8 _ _ (w_seqk fun _ k112 => g_' (q_ (.slice a109 n110 c111) (q_ (.slice a109 n110 c111) (s_nil (k112 _ _ ?_)))))
 refine w_ret ?_
 refine b_ret (fn := Tryz.f42) (vs := [.slice a109 n110 c111]) (aRes_tmp (by kernel_rfl) (rfl)) ?_
 obtain rfl := Option.some.inj r12
 exact ⟨(.slice a109 n110 c111), f18, rfl, (FrS.step wf (FrS.refl (W := []) wf) e14 Inn.nil), m16, (i19.fresh (Nat.le_refl _))⟩
theorem c_hier_Turn {H : AH} {hd_Node : Value} {fp_Node : Fp} {hd_UpFirst : Value} {fp_UpFirst : Fp} {hd_Up : Value} {fp_Up : Fp} {hd_DownFirst : Value} {fp_DownFirst : Fp} {hd_Down : Value} {fp_Down : Fp} {Node : List (Int)} {UpFirst : List (Int)} {Up : List (Int × Int × Int × Int)} {DownFirst : List (Int)} {Down : List (Int × Int × Int × Int)} {r : List (Int) × List (Int) × List (Int × Int × Int × Int) × List (Int) × List (Int × Int × Int × Int) × Er}
    (wf : WF H) (h_Node : Sq (encI .u32) 1 H hd_Node Node fp_Node) (h_UpFirst : Sq (encI .u32) 1 H hd_UpFirst UpFirst fp_UpFirst) (h_Up : Sq enc_u32_u64_u32_u32 4 H hd_Up Up fp_Up) (h_DownFirst : Sq (encI .u32) 1 H hd_DownFirst DownFirst fp_DownFirst) (h_Down : Sq enc_u32_u64_u32_u32 4 H hd_Down Down fp_Down) (hr : z_hier_Turn Node UpFirst Up DownFirst Down = some r) :
    ACalls Tryz.prog 18 #[.agg #[hd_Node, hd_UpFirst, hd_Up, hd_DownFirst, hd_Down]] H fun v H' => ∃ (s3 : Value) (f4 : Fp) (s7 : Value) (f8 : Fp) (s11 : Value) (f12 : Fp) (s15 : Value) (f16 : Fp) (s19 : Value) (f20 : Fp) (v23 : Value) (f24 : Fp), v = .tuple #[.agg #[s3, s7, s11, s15, s19], v23] ∧ FrS [] H H' ∧ Ow (encI .u32) 1 H' s3 r.1 f4 ∧ Ow (encI .u32) 1 H' s7 r.2.1 f8 ∧ Ow enc_u32_u64_u32_u32 4 H' s11 r.2.2.1 f12 ∧ Ow (encI .u32) 1 H' s15 r.2.2.2.1 f16 ∧ Ow enc_u32_u64_u32_u32 4 H' s19 r.2.2.2.2.1 f20 ∧ Ev 73 68 H' v23 r.2.2.2.2.2 f24 ∧ Inn [] H f4 ∧ Inn [] H f8 ∧ Inn [] H f12 ∧ Inn [] H f16 ∧ Inn [] H f20 ∧ Inn [] H f24 ∧ Dj f4 f8 ∧ Dj f4 f12 ∧ Dj f8 f12 ∧ Dj f4 f16 ∧ Dj f8 f16 ∧ Dj f12 f16 ∧ Dj f4 f20 ∧ Dj f8 f20 ∧ Dj f12 f20 ∧ Dj f16 f20 ∧ Dj f4 f24 ∧ Dj f8 f24 ∧ Dj f12 f24 ∧ Dj f16 f24 ∧ Dj f20 f24 := by
 refine acalls_of_body mixed Tryz.func18 rfl (Nat.le_of_ble_eq_true rfl) ?_
 unfold z_hier_Turn at hr
 refine w_seqk fun _ k46 => g_' ?_
 refine s_rwl wf [hd_Node, hd_UpFirst, hd_Up, hd_DownFirst, hd_Down] (one_cons (h_Node.one1) (one_cons (h_UpFirst.one1) (one_cons (h_Up.one1) (one_cons (h_DownFirst.one1) (one_cons (h_Down.one1) (one_nil)))))) (by kernel_rfl) fun b47 H48 e49 hb50 r51 => ?_
 refine s_rwk e49.wf [.slice none 0 0, .slice none 0 0, .slice none 0 0, .slice none 0 0, .slice none 0 0] (by kernel_rfl) fun b53 H54 e55 hb56 r57 => ?_
 refine q_ (.nilIface) (s_nil (k46 _ _ (w_seqk fun _ k59 => w_seqk fun _ k60 => g_' ?_)))
 have u61 := (r51.ext e55)
 refine l_' (.agg #[hd_Node, hd_UpFirst, hd_Up, hd_DownFirst, hd_Down]) (aLoad Tryz.prog 25 (pt_ b47 0) H54) (u61.ld (by kernel_rfl)) ?_
 have u62 := ((h_Node.ext e49).ext e55)
 have u63 := ((h_UpFirst.ext e49).ext e55)
 have u64 := ((h_Up.ext e49).ext e55)
 have u65 := ((h_DownFirst.ext e49).ext e55)
 have u66 := ((h_Down.ext e49).ext e55)
 obtain ⟨y67, hy68, r69⟩ := bind_some hr
 refine s_ck 7 #[.agg #[hd_Node, hd_UpFirst, hd_Up, hd_DownFirst, hd_Down]] (by kernel_rfl) (c_hier_Check e55.wf u62 u63 u64 u65 u66 hy68) ?_
 rintro v70 H72 ⟨_, f71, rfl, e73, m74, i75⟩
 refine q_ (v70) (s_nil (k60 _ _ (w_seqk fun _ k77 => g_' (q_ (v70) ?_))))
 rcases (m74).cases with ⟨h78, rfl⟩ | ⟨h78, t79, x80, rfl⟩
 ·have r81 := ite_t h78 r69
  refine q_ (.bool false) (s_nil (k77 _ _ ?_))
  refine w_cond false (by kernel_rfl) rfl (fun h => by cases h) (fun _ => ?_)
  refine w_skip (k59 _ _ (w_seqk fun _ k82 => ?_))
  refine w_draw [0, 1, 2, 3, 4, 5, 6, 7, 8, 9, 10, 11] (by kernel_rfl) ?_
  refine e_' (pt_ b47 2) ?_
  have u83 := (u61.frS e73 Dj.nil_l)
  refine m_' (hd_Up) (aLoad Tryz.prog 23 (pt_ b47 2) H72) (u83.ld (by kernel_rfl)) ?_
  have u84 := (u64.fr e73 Dj.nil_l)
  refine m_' (i_ (Up.length : Int)) (aLen Tryz.prog 23 hd_Up H72) (u84.lenb (by kernel_rfl)) ?_
  obtain ⟨g85, r86⟩ := G_some r81
  refine d_w ((Up.length : Int)) (k := .u32) (x := (Up.length : Int)) (by kernel_rfl) (wrapu32 (by have := g85; omega)) ?_
  refine e_' (pt_ b47 4) ?_
  refine d_fl (hd_Down) (x := aLoad Tryz.prog 23 (pt_ b47 4) H72) (by kernel_rfl) (u83.ld (by kernel_rfl)) ?_
  have u87 := (u66.fr e73 Dj.nil_l)
  refine m_' (i_ (Down.length : Int)) (aLen Tryz.prog 23 hd_Down H72) (u87.lenb (by kernel_rfl)) ?_
  obtain ⟨g88, r89⟩ := G_some r86
  refine d_w ((Down.length : Int)) (k := .u32) (x := (Down.length : Int)) (by kernel_rfl) (wrapu32 (by have := g88; omega)) ?_
  refine d_rwk e73.wf [.int .u32 0] (by kernel_rfl) fun b90 H91 e92 hb93 r94 => ?_
  refine d_rwk e92.wf [.int .u32 0] (by kernel_rfl) fun b96 H97 e98 hb99 r100 => ?_
  have u106 := (r94.ext e98)
  obtain ⟨H102, q103, e104, r105⟩ := Row.store (P := Tryz.prog) (t := 86) (p := 0) e98.wf u106 (.int .u32 (Up.length : Int)) [.int .u32 (Up.length : Int)] (by kernel_rfl) (by kernel_rfl) (one_cons (rfl) (one_nil)) (Nat.le_of_ble_eq_true (by kernel_rfl)) [.int .u32 (Up.length : Int)] (by kernel_rfl)
  have u107 := (((u83.ext e92).ext e98).frS e104 (hb93.djn (r51.ltF.le (ntr e55.next e73.next))))
  refine d_ek (undef) (by kernel_rfl) (map_ok q103) (st_ql (y := aLoad Tryz.prog 23 (pt_ b47 4) H102) (by kernel_rfl) (u107.ld (by kernel_rfl)) (st_nil)) ?_
  have u112 := (r100.frS e104 (Dj.symm (hb99.djn r94.ltF)))
  obtain ⟨H108, q109, e110, r111⟩ := Row.store (P := Tryz.prog) (t := 86) (p := 0) e104.wf u112 (.int .u32 (Down.length : Int)) [.int .u32 (Down.length : Int)] (by kernel_rfl) (by kernel_rfl) (one_cons (rfl) (one_nil)) (Nat.le_of_ble_eq_true (by kernel_rfl)) [.int .u32 (Down.length : Int)] (by kernel_rfl)
  refine d_ek (undef) (by kernel_rfl) (map_ok q109) (st_anc (by kernel_rfl) (st_nil)) ?_
  refine d_nil ?_
  refine k82 _ _ (w_seqk fun _ k113 => g_' (q_ (.func (.func 41) #[] #[pt_ b90 0, pt_ b96 0]) ?_))
  refine s_rwk e110.wf [.nilFunc] (by kernel_rfl) fun b114 H115 e116 hb117 r118 => ?_
  obtain ⟨H120, q121, e122, r123⟩ := Row.store (P := Tryz.prog) (t := 103) (p := 0) e116.wf r118 (.func (.func 41) #[] #[pt_ b90 0, pt_ b96 0]) [.func (.func 41) #[] #[pt_ b90 0, pt_ b96 0]] (by kernel_rfl) (by kernel_rfl) (one_cons (rfl) (one_nil)) (Nat.le_of_ble_eq_true (by kernel_rfl)) [.func (.func 41) #[] #[pt_ b90 0, pt_ b96 0]] (by kernel_rfl)
  refine s_ek (undef) (by kernel_rfl) (map_ok q121) ?_
  refine s_nil (k113 _ _ (w_seqk fun _ k124 => g_' (q_ (.func (.func 42) #[] #[pt_ b114 0]) (q_ (.func (.func 42) #[] #[pt_ b114 0]) (s_nil (k124 _ _ (w_seqk fun _ k125 => ?_)))))))
  refine w_draw [0, 1, 3, 4, 6, 7, 8, 10, 11, 13, 14, 15, 2, 5, 9, 12, 16, 17, 18, 19] (by kernel_rfl) ?_
  refine e_' (pt_ b47 0) ?_
  have u126 := (((u107.frS e110 (hb99.djn (r51.ltF.le (ntr (ntr e55.next e73.next) e92.next)))).ext e116).frS e122 (hb117.djn (r51.ltF.le (ntr (ntr (ntr (ntr (ntr e55.next e73.next) e92.next) e98.next) e104.next) e110.next))))
  refine m_' (hd_Node) (aLoad Tryz.prog 22 (pt_ b47 0) H120) (u126.ld (by kernel_rfl)) ?_
  refine e_' (pt_ b47 3) ?_
  refine d_fl (hd_DownFirst) (x := aLoad Tryz.prog 22 (pt_ b47 3) H120) (by kernel_rfl) (u126.ld (by kernel_rfl)) ?_
  refine e_' (.func (.func 42) #[] #[pt_ b114 0]) (e_' (pt_ b47 4) ?_)
  refine d_fl (hd_Down) (x := aLoad Tryz.prog 23 (pt_ b47 4) H120) (by kernel_rfl) (u126.ld (by kernel_rfl)) ?_
  refine e_' (pt_ b47 1) ?_
  refine d_fl (hd_UpFirst) (x := aLoad Tryz.prog 22 (pt_ b47 1) H120) (by kernel_rfl) (u126.ld (by kernel_rfl)) ?_
  refine e_' (.func (.func 42) #[] #[pt_ b114 0]) (e_' (pt_ b47 2) ?_)
  refine d_fl (hd_Up) (x := aLoad Tryz.prog 23 (pt_ b47 2) H120) (by kernel_rfl) (u126.ld (by kernel_rfl)) ?_
  have u127 := (((((((u62.fr e73 Dj.nil_l).ext e92).ext e98).fr e104 (hb93.djn (h_Node.lt.le (ntr (ntr e49.next e55.next) e73.next)))).fr e110 (hb99.djn (h_Node.lt.le (ntr (ntr (ntr e49.next e55.next) e73.next) e92.next)))).ext e116).fr e122 (hb117.djn (h_Node.lt.le (ntr (ntr (ntr (ntr (ntr (ntr e49.next e55.next) e73.next) e92.next) e98.next) e104.next) e110.next))))
  obtain ⟨y128, hy129, r130⟩ := bind_some r89
  refine d_ck 43 #[hd_Node] (by kernel_rfl) (c_slices_Clone e122.wf u127 hy129) ?_
  rintro s131 H133 ⟨_, f132, rfl, e134, m135, i136⟩
  obtain ⟨a138, n139, c140, rfl⟩ := m135.form
  have u141 := (u126.frS e134 Dj.nil_l)
  refine ⟨st_ql (y := aLoad Tryz.prog 23 (pt_ b47 2) H133) (by kernel_rfl) (u141.ld (by kernel_rfl)) (st_ql (y := aLoad Tryz.prog 22 (pt_ b47 1) H133) (by kernel_rfl) (u141.ld (by kernel_rfl)) (st_ql (y := aLoad Tryz.prog 23 (pt_ b47 4) H133) (by kernel_rfl) (u141.ld (by kernel_rfl)) (st_ql (y := aLoad Tryz.prog 22 (pt_ b47 3) H133) (by kernel_rfl) (u141.ld (by kernel_rfl)) (st_nil)))), ?_⟩
  have u142 := ((((((((u65.fr e73 Dj.nil_l).ext e92).ext e98).fr e104 (hb93.djn (h_DownFirst.lt.le (ntr (ntr e49.next e55.next) e73.next)))).fr e110 (hb99.djn (h_DownFirst.lt.le (ntr (ntr (ntr e49.next e55.next) e73.next) e92.next)))).ext e116).fr e122 (hb117.djn (h_DownFirst.lt.le (ntr (ntr (ntr (ntr (ntr (ntr e49.next e55.next) e73.next) e92.next) e98.next) e104.next) e110.next)))).fr e134 Dj.nil_l)
  obtain ⟨y143, hy144, r145⟩ := bind_some r130
  refine d_ck 43 #[hd_DownFirst] (by kernel_rfl) (c_slices_Clone e134.wf u142 hy144) ?_
  rintro s146 H148 ⟨_, f147, rfl, e149, m150, i151⟩
  obtain ⟨a153, n154, c155, rfl⟩ := m150.form
  have u156 := (u141.frS e149 Dj.nil_l)
  refine ⟨st_ql (y := aLoad Tryz.prog 23 (pt_ b47 2) H148) (by kernel_rfl) (u156.ld (by kernel_rfl)) (st_ql (y := aLoad Tryz.prog 22 (pt_ b47 1) H148) (by kernel_rfl) (u156.ld (by kernel_rfl)) (st_ql (y := aLoad Tryz.prog 23 (pt_ b47 4) H148) (by kernel_rfl) (u156.ld (by kernel_rfl)) (st_anc (by kernel_rfl) (st_nil)))), ?_⟩
  have u157 := ((((((((u87.ext e92).ext e98).fr e104 (hb93.djn (h_Down.lt.le (ntr (ntr e49.next e55.next) e73.next)))).fr e110 (hb99.djn (h_Down.lt.le (ntr (ntr (ntr e49.next e55.next) e73.next) e92.next)))).ext e116).fr e122 (hb117.djn (h_Down.lt.le (ntr (ntr (ntr (ntr (ntr (ntr e49.next e55.next) e73.next) e92.next) e98.next) e104.next) e110.next)))).fr e134 Dj.nil_l).fr e149 Dj.nil_l)
  have u158 := (((((r105.frS e110 (hb99.djn r94.ltF)).ext e116).frS e122 (hb117.djn (r94.ltF.le (ntr (ntr e98.next e104.next) e110.next)))).frS e134 Dj.nil_l).frS e149 Dj.nil_l)
  have u159 := ((((r111.ext e116).frS e122 (hb117.djn (r100.ltF.le (ntr e104.next e110.next)))).frS e134 Dj.nil_l).frS e149 Dj.nil_l)
  have u160 := ((r123.frS e134 Dj.nil_l).frS e149 Dj.nil_l)
  obtain ⟨y161, hy162, r163⟩ := bind_some r145
  refine d_ck 42 #[hd_Down, pt_ b114 0] (by kernel_rfl) (c_hier_Turn_2 e149.wf u157 u158 u159 u160 hy162) ?_
  rintro s164 H166 ⟨_, f165, rfl, e167, m168, i169⟩
  obtain ⟨a171, n172, c173, rfl⟩ := m168.form
  have u174 := (u156.frS e167 Dj.nil_l)
  refine ⟨st_ql (y := aLoad Tryz.prog 23 (pt_ b47 2) H166) (by kernel_rfl) (u174.ld (by kernel_rfl)) (st_ql (y := aLoad Tryz.prog 22 (pt_ b47 1) H166) (by kernel_rfl) (u174.ld (by kernel_rfl)) (st_anc (by kernel_rfl) (st_anc (by kernel_rfl) (st_nil)))), ?_⟩
  have u175 := ((((((((((u63.fr e73 Dj.nil_l).ext e92).ext e98).fr e104 (hb93.djn (h_UpFirst.lt.le (ntr (ntr e49.next e55.next) e73.next)))).fr e110 (hb99.djn (h_UpFirst.lt.le (ntr (ntr (ntr e49.next e55.next) e73.next) e92.next)))).ext e116).fr e122 (hb117.djn (h_UpFirst.lt.le (ntr (ntr (ntr (ntr (ntr (ntr e49.next e55.next) e73.next) e92.next) e98.next) e104.next) e110.next)))).fr e134 Dj.nil_l).fr e149 Dj.nil_l).fr e167 Dj.nil_l)
  obtain ⟨y176, hy177, r178⟩ := bind_some r163
  refine d_ck 43 #[hd_UpFirst] (by kernel_rfl) (c_slices_Clone e167.wf u175 hy177) ?_
  rintro s179 H181 ⟨_, f180, rfl, e182, m183, i184⟩
  obtain ⟨a186, n187, c188, rfl⟩ := m183.form
  have u189 := (u174.frS e182 Dj.nil_l)
  refine ⟨st_ql (y := aLoad Tryz.prog 23 (pt_ b47 2) H181) (by kernel_rfl) (u189.ld (by kernel_rfl)) (st_anc (by kernel_rfl) (st_anc (by kernel_rfl) (st_anc (by kernel_rfl) (st_nil)))), ?_⟩
  have u190 := ((((((((((u84.ext e92).ext e98).fr e104 (hb93.djn (h_Up.lt.le (ntr (ntr e49.next e55.next) e73.next)))).fr e110 (hb99.djn (h_Up.lt.le (ntr (ntr (ntr e49.next e55.next) e73.next) e92.next)))).ext e116).fr e122 (hb117.djn (h_Up.lt.le (ntr (ntr (ntr (ntr (ntr (ntr e49.next e55.next) e73.next) e92.next) e98.next) e104.next) e110.next)))).fr e134 Dj.nil_l).fr e149 Dj.nil_l).fr e167 Dj.nil_l).fr e182 Dj.nil_l)
  have u191 := ((u158.frS e167 Dj.nil_l).frS e182 Dj.nil_l)
  have u192 := ((u159.frS e167 Dj.nil_l).frS e182 Dj.nil_l)
  have u193 := ((u160.frS e167 Dj.nil_l).frS e182 Dj.nil_l)
  obtain ⟨y194, hy195, r196⟩ := bind_some r178
  refine d_ck 42 #[hd_Up, pt_ b114 0] (by kernel_rfl) (c_hier_Turn_2 e182.wf u190 u191 u192 u193 hy195) ?_
  rintro s197 H199 ⟨_, f198, rfl, e200, m201, i202⟩
  obtain ⟨a204, n205, c206, rfl⟩ := m201.form
  refine ⟨st_anc (by kernel_rfl) (st_anc (by kernel_rfl) (st_anc (by kernel_rfl) (st_anc (by kernel_rfl) (st_nil)))), ?_⟩
  refine e_' (.agg #[.slice a138 n139 c140, .slice a153 n154 c155, .slice a171 n172 c173, .slice a186 n187 c188, .slice a204 n205 c206]) ?_
  have u211 := ((((((((((((r57.frS e73 Dj.nil_l).ext e92).ext e98).frS e104 (hb93.djn (r57.ltF.le e73.next))).frS e110 (hb99.djn (r57.ltF.le (ntr e73.next e92.next)))).ext e116).frS e122 (hb117.djn (r57.ltF.le (ntr (ntr (ntr (ntr e73.next e92.next) e98.next) e104.next) e110.next)))).frS e134 Dj.nil_l).frS e149 Dj.nil_l).frS e167 Dj.nil_l).frS e182 Dj.nil_l).frS e200 Dj.nil_l)
  have u212 := (m183.fr e200 Dj.nil_l)
  have u213 := ((m168.fr e182 Dj.nil_l).fr e200 Dj.nil_l)
  have u214 := (((m150.fr e167 Dj.nil_l).fr e182 Dj.nil_l).fr e200 Dj.nil_l)
  have u215 := ((((m135.fr e149 Dj.nil_l).fr e167 Dj.nil_l).fr e182 Dj.nil_l).fr e200 Dj.nil_l)
  obtain ⟨H207, q208, e209, r210⟩ := Row.store (P := Tryz.prog) (t := 25) (p := 0) e200.wf u211 (.agg #[.slice a138 n139 c140, .slice a153 n154 c155, .slice a171 n172 c173, .slice a186 n187 c188, .slice a204 n205 c206]) [.slice a138 n139 c140, .slice a153 n154 c155, .slice a171 n172 c173, .slice a186 n187 c188, .slice a204 n205 c206] (by kernel_rfl) (by kernel_rfl) (one_cons (u215.one1) (one_cons (u214.one1) (one_cons (u213.one1) (one_cons (u212.one1) (one_cons (m201.one1) (one_nil)))))) (Nat.le_of_ble_eq_true (by kernel_rfl)) [.slice a138 n139 c140, .slice a153 n154 c155, .slice a171 n172 c173, .slice a186 n187 c188, .slice a204 n205 c206] (by kernel_rfl)
  refine d_ek (undef) (by kernel_rfl) (map_ok q208) (st_anc (by kernel_rfl) (st_anc (by kernel_rfl) (st_anc (by kernel_rfl) (st_anc (by kernel_rfl) (st_nil))))) ?_
  refine e_' (.nilIface) ?_
  refine d_nil ?_
  refine k125 _ _ ?_
  refine w_ret ?_
  refine b_ret (fn := Tryz.f18) (vs := [.agg #[.slice a138 n139 c140, .slice a153 n154 c155, .slice a171 n172 c173, .slice a186 n187 c188, .slice a204 n205 c206], .nilIface]) (aRes_cell (Eq.trans (b := aLoad Tryz.prog 25 (pt_ b53 0) H207) (by kernel_rfl) (r210.ld (by kernel_rfl))) (aRes_tmp (by kernel_rfl) (rfl))) ?_
  have u216 := (u215.fr e209 (Dj.symm (i136.djn (r57.ltF.le (ntr (ntr (ntr (ntr (ntr (ntr e73.next e92.next) e98.next) e104.next) e110.next) e116.next) e122.next)))))
  have u217 := (u214.fr e209 (Dj.symm (i151.djn (r57.ltF.le (ntr (ntr (ntr (ntr (ntr (ntr (ntr e73.next e92.next) e98.next) e104.next) e110.next) e116.next) e122.next) e134.next)))))
  have u218 := (u213.fr e209 (Dj.symm (i169.djn (r57.ltF.le (ntr (ntr (ntr (ntr (ntr (ntr (ntr (ntr e73.next e92.next) e98.next) e104.next) e110.next) e116.next) e122.next) e134.next) e149.next)))))
  have u219 := (u212.fr e209 (Dj.symm (i184.djn (r57.ltF.le (ntr (ntr (ntr (ntr (ntr (ntr (ntr (ntr (ntr e73.next e92.next) e98.next) e104.next) e110.next) e116.next) e122.next) e134.next) e149.next) e167.next)))))
  have u220 := (m201.fr e209 (Dj.symm (i202.djn (r57.ltF.le (ntr (ntr (ntr (ntr (ntr (ntr (ntr (ntr (ntr (ntr e73.next e92.next) e98.next) e104.next) e110.next) e116.next) e122.next) e134.next) e149.next) e167.next) e182.next)))))
  obtain rfl := Option.some.inj r196
  exact ⟨(.slice a138 n139 c140), f132, (.slice a153 n154 c155), f147, (.slice a171 n172 c173), f165, (.slice a186 n187 c188), f180, (.slice a204 n205 c206), f198, (.nilIface), [], rfl, (FrS.step wf (FrS.step wf (FrS.step wf (FrS.step wf (FrS.step wf (FrS.step wf (FrS.step wf ((FrS.step wf (FrS.step wf (((FrS.step wf (((FrS.refl (W := []) wf).extR e49).extR e55) e73 Inn.nil).extR e92).extR e98) e104 (hb93.fresh (ntr (ntr e49.next e55.next) e73.next))) e110 (hb99.fresh (ntr (ntr (ntr e49.next e55.next) e73.next) e92.next))).extR e116) e122 (hb117.fresh (ntr (ntr (ntr (ntr (ntr (ntr e49.next e55.next) e73.next) e92.next) e98.next) e104.next) e110.next))) e134 Inn.nil) e149 Inn.nil) e167 Inn.nil) e182 Inn.nil) e200 Inn.nil) e209 (hb56.fresh e49.next)), u216, u217, u218, u219, u220, Ev.nil, (i136.fresh (ntr (ntr (ntr (ntr (ntr (ntr (ntr (ntr e49.next e55.next) e73.next) e92.next) e98.next) e104.next) e110.next) e116.next) e122.next)), (i151.fresh (ntr (ntr (ntr (ntr (ntr (ntr (ntr (ntr (ntr e49.next e55.next) e73.next) e92.next) e98.next) e104.next) e110.next) e116.next) e122.next) e134.next)), (i169.fresh (ntr (ntr (ntr (ntr (ntr (ntr (ntr (ntr (ntr (ntr e49.next e55.next) e73.next) e92.next) e98.next) e104.next) e110.next) e116.next) e122.next) e134.next) e149.next)), (i184.fresh (ntr (ntr (ntr (ntr (ntr (ntr (ntr (ntr (ntr (ntr (ntr e49.next e55.next) e73.next) e92.next) e98.next) e104.next) e110.next) e116.next) e122.next) e134.next) e149.next) e167.next)), (i202.fresh (ntr (ntr (ntr (ntr (ntr (ntr (ntr (ntr (ntr (ntr (ntr (ntr e49.next e55.next) e73.next) e92.next) e98.next) e104.next) e110.next) e116.next) e122.next) e134.next) e149.next) e167.next) e182.next)), Inn.nil, (Dj.symm (i151.djn m135.lt)), (Dj.symm (i169.djn (m135.lt.le e149.next))), (Dj.symm (i169.djn m150.lt)), (Dj.symm (i184.djn (m135.lt.le (ntr e149.next e167.next)))), (Dj.symm (i184.djn (m150.lt.le e167.next))), (Dj.symm (i184.djn m168.lt)), (Dj.symm (i202.djn (m135.lt.le (ntr (ntr e149.next e167.next) e182.next)))), (Dj.symm (i202.djn (m150.lt.le (ntr e167.next e182.next)))), (Dj.symm (i202.djn (m168.lt.le e182.next))), (Dj.symm (i202.djn m183.lt)), Dj.nil_r, Dj.nil_r, Dj.nil_r, Dj.nil_r, Dj.nil_r⟩
 have r221 := ite_f h78 r69
 refine l_' (.bool true) (aBin Tryz.prog .neq 30 (.tmp 11) (.const .nilIface) (.iface t79 x80) .nilIface) (aBin_nnil (by kernel_rfl)) ?_
 refine s_nil (k77 _ _ ?_)
 refine w_cond true (by kernel_rfl) rfl (fun _ => ?_) (fun h => by cases h)
 refine w_seqk fun _ k222 => g_' (q_ (.agg #[.slice none 0 0, .slice none 0 0, .slice none 0 0, .slice none 0 0, .slice none 0 0]) (q_ (.iface t79 x80) ?_))
 have u227 := (r57.frS e73 Dj.nil_l)
 obtain ⟨H223, q224, e225, r226⟩ := Row.store (P := Tryz.prog) (t := 25) (p := 0) e73.wf u227 (.agg #[.slice none 0 0, .slice none 0 0, .slice none 0 0, .slice none 0 0, .slice none 0 0]) [.slice none 0 0, .slice none 0 0, .slice none 0 0, .slice none 0 0, .slice none 0 0] (by kernel_rfl) (by kernel_rfl) (one_cons (rfl) (one_cons (rfl) (one_cons (rfl) (one_cons (rfl) (one_cons (rfl) (one_nil)))))) (Nat.le_of_ble_eq_true (by kernel_rfl)) [.slice none 0 0, .slice none 0 0, .slice none 0 0, .slice none 0 0, .slice none 0 0] (by kernel_rfl)
 refine s_ek (undef) (by kernel_rfl) (map_ok q224) ?_
 refine q_ (.iface t79 x80) (s_nil (k222 _ _ ?_))
 refine w_ret (th_ret ?_)
 refine b_ret (fn := Tryz.f18) (vs := [.agg #[.slice none 0 0, .slice none 0 0, .slice none 0 0, .slice none 0 0, .slice none 0 0], .iface t79 x80]) (aRes_cell (Eq.trans (b := aLoad Tryz.prog 25 (pt_ b53 0) H223) (by kernel_rfl) (r226.ld (by kernel_rfl))) (aRes_tmp (by kernel_rfl) (rfl))) ?_
 have u228 := (m74.fr e225 (Dj.symm (i75.djn r57.ltF)))
 obtain rfl := Option.some.inj r221
 exact ⟨(.slice none 0 0), [], (.slice none 0 0), [], (.slice none 0 0), [], (.slice none 0 0), [], (.slice none 0 0), [], (.iface t79 x80), f71, rfl, (FrS.step wf (FrS.step wf (((FrS.refl (W := []) wf).extR e49).extR e55) e73 Inn.nil) e225 (hb56.fresh e49.next)), (Ow.nil (by decide)), (Ow.nil (by decide)), (Ow.nil (by decide)), (Ow.nil (by decide)), (Ow.nil (by decide)), u228, Inn.nil, Inn.nil, Inn.nil, Inn.nil, Inn.nil, (i75.fresh (ntr e49.next e55.next)), Dj.nil_l, Dj.nil_l, Dj.nil_l, Dj.nil_l, Dj.nil_l, Dj.nil_l, Dj.nil_l, Dj.nil_l, Dj.nil_l, Dj.nil_l, Dj.nil_l, Dj.nil_l, Dj.nil_l, Dj.nil_l, Dj.nil_l⟩
theorem c_viaductref10_number {H : AH} {hd_Node : Value} {fp_Node : Fp} {hd_UpFirst : Value} {fp_UpFirst : Fp} {hd_Up : Value} {fp_Up : Fp} {hd_DownFirst : Value} {fp_DownFirst : Fp} {hd_Down : Value} {fp_Down : Fp} {Node : List (Int)} {UpFirst : List (Int)} {Up : List (Int × Int × Int × Int)} {DownFirst : List (Int)} {Down : List (Int × Int × Int × Int)} {i : Int} {r : Int}
    (wf : WF H) (h_Node : Sq (encI .u32) 1 H hd_Node Node fp_Node) (h_UpFirst : Sq (encI .u32) 1 H hd_UpFirst UpFirst fp_UpFirst) (h_Up : Sq enc_u32_u64_u32_u32 4 H hd_Up Up fp_Up) (h_DownFirst : Sq (encI .u32) 1 H hd_DownFirst DownFirst fp_DownFirst) (h_Down : Sq enc_u32_u64_u32_u32 4 H hd_Down Down fp_Down) (hr : z_viaductref10_number Node UpFirst Up DownFirst Down i = some r) :
    ACalls Tryz.prog 80 #[.agg #[hd_Node, hd_UpFirst, hd_Up, hd_DownFirst, hd_Down], .int .u32 i] H fun v H' => v = .int .u32 r ∧ FrS [] H H' := by
 refine acalls_of_body mixed Tryz.func80 rfl (Nat.le_of_ble_eq_true rfl) ?_
 unfold z_viaductref10_number at hr
 refine w_seqk fun _ k1 => g_' ?_
 refine s_rwl wf [hd_Node, hd_UpFirst, hd_Up, hd_DownFirst, hd_Down] (one_cons (h_Node.one1) (one_cons (h_UpFirst.one1) (one_cons (h_Up.one1) (one_cons (h_DownFirst.one1) (one_cons (h_Down.one1) (one_nil)))))) (by kernel_rfl) fun b2 H3 e4 hb5 r6 => ?_
 refine q_ (.int .u32 0) (s_nil (k1 _ _ (w_seqk fun _ k8 => w_block (w_seqk fun _ k9 => g_' (q_ (.int .u32 i) (q_ (.bool (decide (i = 4294967295))) (q_ (.bool (decide (i = 4294967295))) (s_nil (k9 _ _ ?_)))))))))
 refine w_condp (i = 4294967295) (by kernel_rfl) rfl (fun h10 => ?_) (fun h10 => ?_)
 ·have r11 := ite_t h10 hr
  refine w_seqk fun _ k12 => g_' (q_ (.int .u32 i) (q_ (.int .u32 i) (s_nil (k12 _ _ ?_))))
  refine w_ret (bl_ret (th_ret ?_))
  refine b_ret (fn := Tryz.f80) (vs := [.int .u32 i]) (aRes_tmp (by kernel_rfl) (rfl)) ?_
  obtain rfl := Option.some.inj r11
  exact ⟨rfl, ((FrS.refl (W := []) wf).extR e4)⟩
 have r13 := ite_f h10 hr
 refine w_seqk fun _ k14 => g_' (q_ (.int .u32 i) ?_)
 obtain ⟨g15, r16⟩ := G_some r13
 refine w_' i (wrap64 g15) ?_
 refine q_ (pt_ b2 2) ?_
 refine l_' (hd_Up) (aLoad Tryz.prog 23 (pt_ b2 2) H3) (r6.ld (by kernel_rfl)) ?_
 have u17 := (h_Up.ext e4)
 refine l_' (i_ (Up.length : Int)) (aLen Tryz.prog 23 hd_Up H3) (u17.lenb (by kernel_rfl)) ?_
 refine q_ (.bool (decide (i < (Up.length : Int)))) (q_ (.bool (decide (i < (Up.length : Int)))) (s_nil (k14 _ _ ?_)))
 refine w_condp (i < (Up.length : Int)) (by kernel_rfl) rfl (fun h18 => ?_) (fun h18 => ?_)
 ·have r19 := ite_t h18 r16
  refine w_seqk fun _ k20 => g_' (q_ (pt_ b2 4) ?_)
  refine l_' (hd_Down) (aLoad Tryz.prog 23 (pt_ b2 4) H3) (r6.ld (by kernel_rfl)) ?_
  have u21 := (h_Down.ext e4)
  refine l_' (i_ (Down.length : Int)) (aLen Tryz.prog 23 hd_Down H3) (u21.lenb (by kernel_rfl)) ?_
  obtain ⟨g22, r23⟩ := G_some r19
  refine s_w ((Down.length : Int)) (k := .u32) (x := (Down.length : Int)) (by kernel_rfl) (wrapu32 (by have := g22; omega)) ?_
  refine q_ (.int .u32 i) ?_
  obtain ⟨g24, r25⟩ := G_some r23
  refine s_w (((Down.length : Int) + i)) (k := .u32) (x := ((Down.length : Int) + i)) (by kernel_rfl) (wrapu32 g24) ?_
  refine q_ (.int .u32 ((Down.length : Int) + i)) (s_nil (k20 _ _ ?_))
  refine w_ret (bl_ret (th_ret ?_))
  refine b_ret (fn := Tryz.f80) (vs := [.int .u32 ((Down.length : Int) + i)]) (aRes_tmp (by kernel_rfl) (rfl)) ?_
  obtain rfl := Option.some.inj r25
  exact ⟨rfl, ((FrS.refl (W := []) wf).extR e4)⟩
 have r26 := ite_f h18 r16
 refine w_skip (k8 _ _ (w_seqk fun _ k27 => g_' (q_ (.int .u32 i) (q_ (pt_ b2 2) ?_))))
 refine l_' (hd_Up) (aLoad Tryz.prog 23 (pt_ b2 2) H3) (r6.ld (by kernel_rfl)) ?_
 refine l_' (i_ (Up.length : Int)) (aLen Tryz.prog 23 hd_Up H3) (u17.lenb (by kernel_rfl)) ?_
 obtain ⟨g28, r29⟩ := G_some r26
 refine s_w ((Up.length : Int)) (k := .u32) (x := (Up.length : Int)) (by kernel_rfl) (wrapu32 (by have := g28; omega)) ?_
 obtain ⟨g30, r31⟩ := G_some r29
 refine s_w ((i - (Up.length : Int))) (k := .u32) (x := (i - (Up.length : Int))) (by kernel_rfl) (wrapu32 g30) ?_
 refine q_ (.int .u32 (i - (Up.length : Int))) (s_nil (k27 _ _ ?_))
 refine w_ret ?_
 refine b_ret (fn := Tryz.f80) (vs := [.int .u32 (i - (Up.length : Int))]) (aRes_tmp (by kernel_rfl) (rfl)) ?_
 obtain rfl := Option.some.inj r31
 exact ⟨rfl, ((FrS.refl (W := []) wf).extR e4)⟩
theorem c_viaductref10_turned {H : AH} {hd_Node : Value} {fp_Node : Fp} {hd_UpFirst : Value} {fp_UpFirst : Fp} {hd_Up : Value} {fp_Up : Fp} {hd_DownFirst : Value} {fp_DownFirst : Fp} {hd_Down : Value} {fp_Down : Fp} {Node : List (Int)} {UpFirst : List (Int)} {Up : List (Int × Int × Int × Int)} {DownFirst : List (Int)} {Down : List (Int × Int × Int × Int)} {r : List (Int × Int × Int × Int)}
    (wf : WF H) (h_Node : Sq (encI .u32) 1 H hd_Node Node fp_Node) (h_UpFirst : Sq (encI .u32) 1 H hd_UpFirst UpFirst fp_UpFirst) (h_Up : Sq enc_u32_u64_u32_u32 4 H hd_Up Up fp_Up) (h_DownFirst : Sq (encI .u32) 1 H hd_DownFirst DownFirst fp_DownFirst) (h_Down : Sq enc_u32_u64_u32_u32 4 H hd_Down Down fp_Down) (hr : z_viaductref10_turned Node UpFirst Up DownFirst Down = some r) :
    ACalls Tryz.prog 65 #[.agg #[hd_Node, hd_UpFirst, hd_Up, hd_DownFirst, hd_Down], hd_Down] H fun v H' => ∃ (s3 : Value) (f4 : Fp), v = s3 ∧ FrS [] H H' ∧ Ow enc_u32_u64_u32_u32 4 H' s3 r f4 ∧ Inn [] H f4 := by
 refine acalls_of_body mixed Tryz.func65 rfl (Nat.le_of_ble_eq_true rfl) ?_
 unfold z_viaductref10_turned at hr
 refine w_seqk fun _ k6 => g_' ?_
 refine s_rwl wf [hd_Node, hd_UpFirst, hd_Up, hd_DownFirst, hd_Down] (one_cons (h_Node.one1) (one_cons (h_UpFirst.one1) (one_cons (h_Up.one1) (one_cons (h_DownFirst.one1) (one_cons (h_Down.one1) (one_nil)))))) (by kernel_rfl) fun b7 H8 e9 hb10 r11 => ?_
 refine q_ (.slice none 0 0) (s_nil (k6 _ _ (w_seqk fun _ k13 => g_' (q_ (.slice none 0 0) (s_nil (k13 _ _ (w_seqk fun _ k14 => w_seqk fun _ k15 => g_' (q_ (hd_Down) ?_))))))))
 have u16 := (h_Down.ext e9)
 refine l_' (i_ (Down.length : Int)) (aLen Tryz.prog 23 hd_Down H8) (u16.lenb (by kernel_rfl)) ?_
 refine q_ (i_ 0) (s_nil (k15 _ _ ?_))
 obtain ⟨o17, hx18, r19⟩ := bind_some hr
 refine w_mid (fun α H20 => ∃ (s24 : Value) (f25 : Fp), Has α [(5, s24)] ∧ FrS [] H8 H20 ∧ Ow enc_u32_u64_u32_u32 4 H20 s24 o17 f25 ∧ Inn [] H8 f25) (fun _ k27 => ?_) (fun α H20 hM => ?_)
 ·refine w_block ?_
  obtain ⟨n29, hn30⟩ := loopO_iff.1 hx18
  refine w_loopn (fun n α H31 => ∃ (i0 : Int), ∃ (m1 : List (Int × Int × Int × Int)), ∃ (s35 : Value), ∃ (f36 : Fp), iterO (fun zz_ => z_viaductref10_turned_l0 Node UpFirst Up DownFirst Down zz_.1 zz_.2) n (i0, m1) = some o17 ∧ Has α [(2, pt_ b7 0), (5, s35), (8, hd_Down), (9, i_ (Down.length : Int)), (10, i_ i0)] ∧ FrS [] H8 H31 ∧ Ow enc_u32_u64_u32_u32 4 H31 s35 m1 f36 ∧ Inn [] H8 f36) n29 ⟨0, [], (.slice none 0 0), [], hn30, ha_, (FrS.refl (W := []) e9.wf), (Ow.nil (by decide)), Inn.nil⟩ ?_
  rintro n29 α H31 ⟨i0, m1, s35, f36, hi39, hh38, e32, m34, i37⟩ K44 k44
  obtain ⟨n40, z41, rfl, hz42, hn43⟩ := iter_succ hi39
  obtain ⟨β, rfl⟩ := has_ex hh38
  clear hh38
  replace hz42 : z_viaductref10_turned_l0 Node UpFirst Up DownFirst Down i0 m1 = some z41 := hz42
  unfold z_viaductref10_turned_l0 at hz42
  obtain ⟨a45, n46, c47, rfl⟩ := m34.form
  refine w_seqk fun _ k48 => g_' (q_ (.bool (decide (i0 < (Down.length : Int)))) (s_nil (k48 _ _ (w_seqk fun _ k49 => ?_))))
  refine w_condp (i0 < (Down.length : Int)) (by kernel_rfl) rfl (fun h50 => ?_) (fun h50 => ?_)
  ·have r51 := ite_t h50 hz42
   refine w_skip (k49 _ _ (w_seqk fun _ k52 => w_block (w_seqk fun _ k53 => g_' ?_)))
   obtain ⟨g54, r55⟩ := G_some r51
   have u56 := (u16.fr e32 Dj.nil_l)
   refine l_' (elp hd_Down 4 i0.toNat 0) (aIndexAddr Tryz.prog 23 hd_Down (i_ i0)) (u56.idxb (by kernel_rfl) g54 h50) ?_
   refine l_' (.agg #[.int .u32 ((gt Down i0).1), .int .u64 ((gt Down i0).2.1), .int .u32 ((gt Down i0).2.2.1), .int .u32 ((gt Down i0).2.2.2)]) (aLoad Tryz.prog 92 (elp hd_Down 4 i0.toNat 0) H31) (u56.ld g54 h50 (by kernel_rfl)) ?_
   refine s_rwk e32.wf [.int .u32 0, .int .u64 0, .int .u32 0, .int .u32 0] (by kernel_rfl) fun b57 H58 e59 hb60 r61 => ?_
   obtain ⟨H63, q64, e65, r66⟩ := Row.store (P := Tryz.prog) (t := 92) (p := 0) e59.wf r61 (.agg #[.int .u32 ((gt Down i0).1), .int .u64 ((gt Down i0).2.1), .int .u32 ((gt Down i0).2.2.1), .int .u32 ((gt Down i0).2.2.2)]) [.int .u32 ((gt Down i0).1), .int .u64 ((gt Down i0).2.1), .int .u32 ((gt Down i0).2.2.1), .int .u32 ((gt Down i0).2.2.2)] (by kernel_rfl) (by kernel_rfl) (one_cons (rfl) (one_cons (rfl) (one_cons (rfl) (one_cons (rfl) (one_nil))))) (Nat.le_of_ble_eq_true (by kernel_rfl)) [.int .u32 ((gt Down i0).1), .int .u64 ((gt Down i0).2.1), .int .u32 ((gt Down i0).2.2.1), .int .u32 ((gt Down i0).2.2.2)] (by kernel_rfl)
   refine s_ek (undef) (by kernel_rfl) (map_ok q64) ?_
   refine s_nil (k53 _ _ ?_)
   refine w_draw [0, 1, 2, 3, 4, 5, 6, 7, 9, 10, 11, 8, 12, 13, 14, 15, 16] (by kernel_rfl) ?_
   refine e_' (.slice a45 n46 c47) (e_' (pt_ b57 0) ?_)
   refine d_fl (.int .u32 ((gt Down i0).1)) (x := aLoad Tryz.prog 86 (pt_ b57 0) H63) (by kernel_rfl) (r66.ld (by kernel_rfl)) ?_
   refine e_' (pt_ b57 1) ?_
   refine d_fl (.int .u64 ((gt Down i0).2.1)) (x := aLoad Tryz.prog 87 (pt_ b57 1) H63) (by kernel_rfl) (r66.ld (by kernel_rfl)) ?_
   have u67 := (((r11.frS e32 Dj.nil_l).ext e59).frS e65 (hb60.djn (r11.ltF.le e32.next)))
   refine m_' (.agg #[hd_Node, hd_UpFirst, hd_Up, hd_DownFirst, hd_Down]) (aLoad Tryz.prog 25 (pt_ b7 0) H63) (u67.ld (by kernel_rfl)) ?_
   refine e_' (pt_ b57 3) ?_
   refine m_' (.int .u32 ((gt Down i0).2.2.2)) (aLoad Tryz.prog 86 (pt_ b57 3) H63) (r66.ld (by kernel_rfl)) ?_
   refine d_fl (.agg #[hd_Node, hd_UpFirst, hd_Up, hd_DownFirst, hd_Down]) (x := aLoad Tryz.prog 25 (pt_ b7 0) H63) (by kernel_rfl) (u67.ld (by kernel_rfl)) ?_
   refine e_' (pt_ b57 2) ?_
   refine d_fl (.int .u32 ((gt Down i0).2.2.1)) (x := aLoad Tryz.prog 86 (pt_ b57 2) H63) (by kernel_rfl) (r66.ld (by kernel_rfl)) ?_
   have u68 := ((((h_Node.ext e9).fr e32 Dj.nil_l).ext e59).fr e65 (hb60.djn (h_Node.lt.le (ntr e9.next e32.next))))
   have u69 := ((((h_UpFirst.ext e9).fr e32 Dj.nil_l).ext e59).fr e65 (hb60.djn (h_UpFirst.lt.le (ntr e9.next e32.next))))
   have u70 := ((((h_Up.ext e9).fr e32 Dj.nil_l).ext e59).fr e65 (hb60.djn (h_Up.lt.le (ntr e9.next e32.next))))
   have u71 := ((((h_DownFirst.ext e9).fr e32 Dj.nil_l).ext e59).fr e65 (hb60.djn (h_DownFirst.lt.le (ntr e9.next e32.next))))
   have u72 := ((u56.ext e59).fr e65 (hb60.djn (h_Down.lt.le (ntr e9.next e32.next))))
   obtain ⟨y73, hy74, r75⟩ := bind_some r55
   refine d_ck 80 #[.agg #[hd_Node, hd_UpFirst, hd_Up, hd_DownFirst, hd_Down], .int .u32 ((gt Down i0).2.2.2)] (by kernel_rfl) (c_viaductref10_number e65.wf u68 u69 u70 u71 u72 hy74) ?_
   rintro _ H76 ⟨rfl, e77⟩
   have u78 := (r66.frS e77 Dj.nil_l)
   have u79 := (u67.frS e77 Dj.nil_l)
   refine ⟨st_ql (y := aLoad Tryz.prog 86 (pt_ b57 2) H76) (by kernel_rfl) (u78.ld (by kernel_rfl)) (st_ql (y := aLoad Tryz.prog 25 (pt_ b7 0) H76) (by kernel_rfl) (u79.ld (by kernel_rfl)) (st_ql (y := aLoad Tryz.prog 87 (pt_ b57 1) H76) (by kernel_rfl) (u78.ld (by kernel_rfl)) (st_ql (y := aLoad Tryz.prog 86 (pt_ b57 0) H76) (by kernel_rfl) (u78.ld (by kernel_rfl)) (st_nil)))), ?_⟩
   have u80 := (u68.fr e77 Dj.nil_l)
   have u81 := (u69.fr e77 Dj.nil_l)
   have u82 := (u70.fr e77 Dj.nil_l)
   have u83 := (u71.fr e77 Dj.nil_l)
   have u84 := (u72.fr e77 Dj.nil_l)
   obtain ⟨y85, hy86, r87⟩ := bind_some r75
   refine d_ck 80 #[.agg #[hd_Node, hd_UpFirst, hd_Up, hd_DownFirst, hd_Down], .int .u32 ((gt Down i0).2.2.1)] (by kernel_rfl) (c_viaductref10_number e77.wf u80 u81 u82 u83 u84 hy86) ?_
   rintro _ H88 ⟨rfl, e89⟩
   have u90 := (u78.frS e89 Dj.nil_l)
   refine ⟨st_anc (by kernel_rfl) (st_anc (by kernel_rfl) (st_ql (y := aLoad Tryz.prog 87 (pt_ b57 1) H88) (by kernel_rfl) (u90.ld (by kernel_rfl)) (st_ql (y := aLoad Tryz.prog 86 (pt_ b57 0) H88) (by kernel_rfl) (u90.ld (by kernel_rfl)) (st_nil)))), ?_⟩
   refine e_' (.agg #[.int .u32 ((gt Down i0).1), .int .u64 ((gt Down i0).2.1), .int .u32 y73, .int .u32 y85]) ?_
   refine d_owk (enc := enc_u32_u64_u32_u32) (sz := 4) e89.wf [((gt Down i0).1, (gt Down i0).2.1, y73, y85)] 1 (by decide) (fun _ _ => rfl) (fun _ _ => rfl) rfl (by kernel_rfl) fun s91 f92 H93 e94 hf95 hm96 => ?_
   obtain ⟨a97, n98, c99, rfl⟩ := hm96.form
   have u101 := (((((m34.ext e59).fr e65 (hb60.djn m34.lt)).fr e77 Dj.nil_l).fr e89 Dj.nil_l).ext e94)
   obtain ⟨g102, r103⟩ := G_some r87
   obtain ⟨s104, H105, f106, q110, e107, hm108, hf109⟩ := Ow.append (P := Tryz.prog) 24 e94.wf u101 hm96.sq (fun _ _ => rfl) (at_ := #[23, 23]) rfl rfl (by kernel_rfl) (by kernel_rfl) (by decide) (by have := g102; first | omega | (simp only [List.length_cons, List.length_nil] at this ⊢; omega) | (simp at this ⊢; omega))
   obtain ⟨a111, n112, c113, rfl⟩ := hm108.form
   refine d_ek (.slice a111 n112 c113) (by kernel_rfl) (q110) (st_anc (by kernel_rfl) (st_anc (by kernel_rfl) (st_anc (by kernel_rfl) (st_anc (by kernel_rfl) (st_nil))))) ?_
   refine e_' (.slice a111 n112 c113) ?_
   refine d_nil ?_
   refine k52 _ _ (g_' ?_)
   obtain ⟨g115, r116⟩ := G_some r103
   refine w_' (i0 + 1) (wrap64 (by have := g115; omega)) ?_
   refine q_ (i_ (i0 + 1)) (s_nil ?_)
   obtain rfl := Option.some.inj r116
   exact k44 n40 _ _ (Nat.lt_succ_self _) ⟨(i0 + 1), (m1 ++ [((gt Down i0).1, (gt Down i0).2.1, y73, y85)]), (.slice a111 n112 c113), f106, hn43, ha_, (FrS.step e9.wf ((FrS.step e9.wf (FrS.step e9.wf (FrS.step e9.wf ((FrS.step e9.wf (FrS.refl (W := []) e9.wf) e32 Inn.nil).extR e59) e65 (hb60.fresh e32.next)) e77 Inn.nil) e89 Inn.nil).extR e94) e107 (i37.fresh (Nat.le_refl _))), hm108, (Inn.trans (i37.fresh (Nat.le_refl _)) (ntr (ntr (ntr (ntr (ntr e32.next e59.next) e65.next) e77.next) e89.next) e94.next) hf109)⟩
  have r117 := ite_f h50 hz42
  refine w_exit (th_exit (th_exit (bl_eq ?_)))
  obtain rfl := Option.some.inj r117
  obtain rfl := it_inr hn43
  exact k27 _ _ ⟨(.slice a45 n46 c47), f36, ha_, (FrS.step e9.wf (FrS.refl (W := []) e9.wf) e32 Inn.nil), m34, (i37.fresh (Nat.le_refl _))⟩
 obtain ⟨s24, f25, hh28, e21, m23, i26⟩ := hM
 obtain ⟨β, rfl⟩ := has_ex hh28
 clear hh28
 obtain ⟨a118, n119, c120, rfl⟩ := m23.form
 refine k14 _ _ (w_seqk fun _ k121 => g_' (q_ (.slice a118 n119 c120) (q_ (.slice a118 n119 c120) (s_nil (k121 _ _ ?_)))))
 refine w_ret ?_
 refine b_ret (fn := Tryz.f65) (vs := [.slice a118 n119 c120]) (aRes_tmp (by kernel_rfl) (rfl)) ?_
 obtain rfl := Option.some.inj r19
 exact ⟨(.slice a118 n119 c120), f25, rfl, (FrS.step wf ((FrS.refl (W := []) wf).extR e9) e21 Inn.nil), m23, (i26.fresh e9.next)⟩
theorem c_viaductref10_turned_1 {H : AH} {hd_Node : Value} {fp_Node : Fp} {hd_UpFirst : Value} {fp_UpFirst : Fp} {hd_Up : Value} {fp_Up : Fp} {hd_DownFirst : Value} {fp_DownFirst : Fp} {hd_Down : Value} {fp_Down : Fp} {Node : List (Int)} {UpFirst : List (Int)} {Up : List (Int × Int × Int × Int)} {DownFirst : List (Int)} {Down : List (Int × Int × Int × Int)} {r : List (Int × Int × Int × Int)}
    (wf : WF H) (h_Node : Sq (encI .u32) 1 H hd_Node Node fp_Node) (h_UpFirst : Sq (encI .u32) 1 H hd_UpFirst UpFirst fp_UpFirst) (h_Up : Sq enc_u32_u64_u32_u32 4 H hd_Up Up fp_Up) (h_DownFirst : Sq (encI .u32) 1 H hd_DownFirst DownFirst fp_DownFirst) (h_Down : Sq enc_u32_u64_u32_u32 4 H hd_Down Down fp_Down) (hr : z_viaductref10_turned_1 Node UpFirst Up DownFirst Down = some r) :
    ACalls Tryz.prog 65 #[.agg #[hd_Node, hd_UpFirst, hd_Up, hd_DownFirst, hd_Down], hd_Up] H fun v H' => ∃ (s3 : Value) (f4 : Fp), v = s3 ∧ FrS [] H H' ∧ Ow enc_u32_u64_u32_u32 4 H' s3 r f4 ∧ Inn [] H f4 := by
 refine acalls_of_body mixed Tryz.func65 rfl (Nat.le_of_ble_eq_true rfl) ?_
 unfold z_viaductref10_turned_1 at hr
 refine w_seqk fun _ k6 => g_' ?_
 refine s_rwl wf [hd_Node, hd_UpFirst, hd_Up, hd_DownFirst, hd_Down] (one_cons (h_Node.one1) (one_cons (h_UpFirst.one1) (one_cons (h_Up.one1) (one_cons (h_DownFirst.one1) (one_cons (h_Down.one1) (one_nil)))))) (by kernel_rfl) fun b7 H8 e9 hb10 r11 => ?_
 refine q_ (.slice none 0 0) (s_nil (k6 _ _ (w_seqk fun _ k13 => g_' (q_ (.slice none 0 0) (s_nil (k13 _ _ (w_seqk fun _ k14 => w_seqk fun _ k15 => g_' (q_ (hd_Up) ?_))))))))
 have u16 := (h_Up.ext e9)
 refine l_' (i_ (Up.length : Int)) (aLen Tryz.prog 23 hd_Up H8) (u16.lenb (by kernel_rfl)) ?_
 refine q_ (i_ 0) (s_nil (k15 _ _ ?_))
 obtain ⟨o17, hx18, r19⟩ := bind_some hr
 refine w_mid (fun α H20 => ∃ (s24 : Value) (f25 : Fp), Has α [(5, s24)] ∧ FrS [] H8 H20 ∧ Ow enc_u32_u64_u32_u32 4 H20 s24 o17 f25 ∧ Inn [] H8 f25) (fun _ k27 => ?_) (fun α H20 hM => ?_)
 ·refine w_block ?_
  obtain ⟨n29, hn30⟩ := loopO_iff.1 hx18
  refine w_loopn (fun n α H31 => ∃ (i0 : Int), ∃ (m1 : List (Int × Int × Int × Int)), ∃ (s35 : Value), ∃ (f36 : Fp), iterO (fun zz_ => z_viaductref10_turned_1_l0 Node UpFirst Up DownFirst Down zz_.1 zz_.2) n (i0, m1) = some o17 ∧ Has α [(2, pt_ b7 0), (5, s35), (8, hd_Up), (9, i_ (Up.length : Int)), (10, i_ i0)] ∧ FrS [] H8 H31 ∧ Ow enc_u32_u64_u32_u32 4 H31 s35 m1 f36 ∧ Inn [] H8 f36) n29 ⟨0, [], (.slice none 0 0), [], hn30, ha_, (FrS.refl (W := []) e9.wf), (Ow.nil (by decide)), Inn.nil⟩ ?_
  rintro n29 α H31 ⟨i0, m1, s35, f36, hi39, hh38, e32, m34, i37⟩ K44 k44
  obtain ⟨n40, z41, rfl, hz42, hn43⟩ := iter_succ hi39
  obtain ⟨β, rfl⟩ := has_ex hh38
  clear hh38
  replace hz42 : z_viaductref10_turned_1_l0 Node UpFirst Up DownFirst Down i0 m1 = some z41 := hz42
  unfold z_viaductref10_turned_1_l0 at hz42
  obtain ⟨a45, n46, c47, rfl⟩ := m34.form
  refine w_seqk fun _ k48 => g_' (q_ (.bool (decide (i0 < (Up.length : Int)))) (s_nil (k48 _ _ (w_seqk fun _ k49 => ?_))))
  refine w_condp (i0 < (Up.length : Int)) (by kernel_rfl) rfl (fun h50 => ?_) (fun h50 => ?_)
  ·have r51 := ite_t h50 hz42
   refine w_skip (k49 _ _ (w_seqk fun _ k52 => w_block (w_seqk fun _ k53 => g_' ?_)))
   obtain ⟨g54, r55⟩ := G_some r51
   have u56 := (u16.fr e32 Dj.nil_l)
   refine l_' (elp hd_Up 4 i0.toNat 0) (aIndexAddr Tryz.prog 23 hd_Up (i_ i0)) (u56.idxb (by kernel_rfl) g54 h50) ?_
   refine l_' (.agg #[.int .u32 ((gt Up i0).1), .int .u64 ((gt Up i0).2.1), .int .u32 ((gt Up i0).2.2.1), .int .u32 ((gt Up i0).2.2.2)]) (aLoad Tryz.prog 92 (elp hd_Up 4 i0.toNat 0) H31) (u56.ld g54 h50 (by kernel_rfl)) ?_
   refine s_rwk e32.wf [.int .u32 0, .int .u64 0, .int .u32 0, .int .u32 0] (by kernel_rfl) fun b57 H58 e59 hb60 r61 => ?_
   obtain ⟨H63, q64, e65, r66⟩ := Row.store (P := Tryz.prog) (t := 92) (p := 0) e59.wf r61 (.agg #[.int .u32 ((gt Up i0).1), .int .u64 ((gt Up i0).2.1), .int .u32 ((gt Up i0).2.2.1), .int .u32 ((gt Up i0).2.2.2)]) [.int .u32 ((gt Up i0).1), .int .u64 ((gt Up i0).2.1), .int .u32 ((gt Up i0).2.2.1), .int .u32 ((gt Up i0).2.2.2)] (by kernel_rfl) (by kernel_rfl) (one_cons (rfl) (one_cons (rfl) (one_cons (rfl) (one_cons (rfl) (one_nil))))) (Nat.le_of_ble_eq_true (by kernel_rfl)) [.int .u32 ((gt Up i0).1), .int .u64 ((gt Up i0).2.1), .int .u32 ((gt Up i0).2.2.1), .int .u32 ((gt Up i0).2.2.2)] (by kernel_rfl)
   refine s_ek (undef) (by kernel_rfl) (map_ok q64) ?_
   refine s_nil (k53 _ _ ?_)
   refine w_draw [0, 1, 2, 3, 4, 5, 6, 7, 9, 10, 11, 8, 12, 13, 14, 15, 16] (by kernel_rfl) ?_
   refine e_' (.slice a45 n46 c47) (e_' (pt_ b57 0) ?_)
   refine d_fl (.int .u32 ((gt Up i0).1)) (x := aLoad Tryz.prog 86 (pt_ b57 0) H63) (by kernel_rfl) (r66.ld (by kernel_rfl)) ?_
   refine e_' (pt_ b57 1) ?_
   refine d_fl (.int .u64 ((gt Up i0).2.1)) (x := aLoad Tryz.prog 87 (pt_ b57 1) H63) (by kernel_rfl) (r66.ld (by kernel_rfl)) ?_
   have u67 := (((r11.frS e32 Dj.nil_l).ext e59).frS e65 (hb60.djn (r11.ltF.le e32.next)))
   refine m_' (.agg #[hd_Node, hd_UpFirst, hd_Up, hd_DownFirst, hd_Down]) (aLoad Tryz.prog 25 (pt_ b7 0) H63) (u67.ld (by kernel_rfl)) ?_
   refine e_' (pt_ b57 3) ?_
   refine m_' (.int .u32 ((gt Up i0).2.2.2)) (aLoad Tryz.prog 86 (pt_ b57 3) H63) (r66.ld (by kernel_rfl)) ?_
   refine d_fl (.agg #[hd_Node, hd_UpFirst, hd_Up, hd_DownFirst, hd_Down]) (x := aLoad Tryz.prog 25 (pt_ b7 0) H63) (by kernel_rfl) (u67.ld (by kernel_rfl)) ?_
   refine e_' (pt_ b57 2) ?_
   refine d_fl (.int .u32 ((gt Up i0).2.2.1)) (x := aLoad Tryz.prog 86 (pt_ b57 2) H63) (by kernel_rfl) (r66.ld (by kernel_rfl)) ?_
   have u68 := ((((h_Node.ext e9).fr e32 Dj.nil_l).ext e59).fr e65 (hb60.djn (h_Node.lt.le (ntr e9.next e32.next))))
   have u69 := ((((h_UpFirst.ext e9).fr e32 Dj.nil_l).ext e59).fr e65 (hb60.djn (h_UpFirst.lt.le (ntr e9.next e32.next))))
   have u70 := ((u56.ext e59).fr e65 (hb60.djn (h_Up.lt.le (ntr e9.next e32.next))))
   have u71 := ((((h_DownFirst.ext e9).fr e32 Dj.nil_l).ext e59).fr e65 (hb60.djn (h_DownFirst.lt.le (ntr e9.next e32.next))))
   have u72 := ((((h_Down.ext e9).fr e32 Dj.nil_l).ext e59).fr e65 (hb60.djn (h_Down.lt.le (ntr e9.next e32.next))))
   obtain ⟨y73, hy74, r75⟩ := bind_some r55
   refine d_ck 80 #[.agg #[hd_Node, hd_UpFirst, hd_Up, hd_DownFirst, hd_Down], .int .u32 ((gt Up i0).2.2.2)] (by kernel_rfl) (c_viaductref10_number e65.wf u68 u69 u70 u71 u72 hy74) ?_
   rintro _ H76 ⟨rfl, e77⟩
   have u78 := (r66.frS e77 Dj.nil_l)
   have u79 := (u67.frS e77 Dj.nil_l)
   refine ⟨st_ql (y := aLoad Tryz.prog 86 (pt_ b57 2) H76) (by kernel_rfl) (u78.ld (by kernel_rfl)) (st_ql (y := aLoad Tryz.prog 25 (pt_ b7 0) H76) (by kernel_rfl) (u79.ld (by kernel_rfl)) (st_ql (y := aLoad Tryz.prog 87 (pt_ b57 1) H76) (by kernel_rfl) (u78.ld (by kernel_rfl)) (st_ql (y := aLoad Tryz.prog 86 (pt_ b57 0) H76) (by kernel_rfl) (u78.ld (by kernel_rfl)) (st_nil)))), ?_⟩
   have u80 := (u68.fr e77 Dj.nil_l)
   have u81 := (u69.fr e77 Dj.nil_l)
   have u82 := (u70.fr e77 Dj.nil_l)
   have u83 := (u71.fr e77 Dj.nil_l)
   have u84 := (u72.fr e77 Dj.nil_l)
   obtain ⟨y85, hy86, r87⟩ := bind_some r75
   refine d_ck 80 #[.agg #[hd_Node, hd_UpFirst, hd_Up, hd_DownFirst, hd_Down], .int .u32 ((gt Up i0).2.2.1)] (by kernel_rfl) (c_viaductref10_number e77.wf u80 u81 u82 u83 u84 hy86) ?_
   rintro _ H88 ⟨rfl, e89⟩
   have u90 := (u78.frS e89 Dj.nil_l)
   refine ⟨st_anc (by kernel_rfl) (st_anc (by kernel_rfl) (st_ql (y := aLoad Tryz.prog 87 (pt_ b57 1) H88) (by kernel_rfl) (u90.ld (by kernel_rfl)) (st_ql (y := aLoad Tryz.prog 86 (pt_ b57 0) H88) (by kernel_rfl) (u90.ld (by kernel_rfl)) (st_nil)))), ?_⟩
   refine e_' (.agg #[.int .u32 ((gt Up i0).1), .int .u64 ((gt Up i0).2.1), .int .u32 y73, .int .u32 y85]) ?_
   refine d_owk (enc := enc_u32_u64_u32_u32) (sz := 4) e89.wf [((gt Up i0).1, (gt Up i0).2.1, y73, y85)] 1 (by decide) (fun _ _ => rfl) (fun _ _ => rfl) rfl (by kernel_rfl) fun s91 f92 H93 e94 hf95 hm96 => ?_
   obtain ⟨a97, n98, c99, rfl⟩ := hm96.form
   have u101 := (((((m34.ext e59).fr e65 (hb60.djn m34.lt)).fr e77 Dj.nil_l).fr e89 Dj.nil_l).ext e94)
   obtain ⟨g102, r103⟩ := G_some r87
   obtain ⟨s104, H105, f106, q110, e107, hm108, hf109⟩ := Ow.append (P := Tryz.prog) 24 e94.wf u101 hm96.sq (fun _ _ => rfl) (at_ := #[23, 23]) rfl rfl (by kernel_rfl) (by kernel_rfl) (by decide) (by have := g102; first | omega | (simp only [List.length_cons, List.length_nil] at this ⊢; omega) | (simp at this ⊢; omega))
   obtain ⟨a111, n112, c113, rfl⟩ := hm108.form
   refine d_ek (.slice a111 n112 c113) (by kernel_rfl) (q110) (st_anc (by kernel_rfl) (st_anc (by kernel_rfl) (st_anc (by kernel_rfl) (st_anc (by kernel_rfl) (st_nil))))) ?_
   refine e_' (.slice a111 n112 c113) ?_
   refine d_nil ?_
   refine k52 _ _ (g_' ?_)
   obtain ⟨g115, r116⟩ := G_some r103
   refine w_' (i0 + 1) (wrap64 (by have := g115; omega)) ?_
   refine q_ (i_ (i0 + 1)) (s_nil ?_)
   obtain rfl := Option.some.inj r116
   exact k44 n40 _ _ (Nat.lt_succ_self _) ⟨(i0 + 1), (m1 ++ [((gt Up i0).1, (gt Up i0).2.1, y73, y85)]), (.slice a111 n112 c113), f106, hn43, ha_, (FrS.step e9.wf ((FrS.step e9.wf (FrS.step e9.wf (FrS.step e9.wf ((FrS.step e9.wf (FrS.refl (W := []) e9.wf) e32 Inn.nil).extR e59) e65 (hb60.fresh e32.next)) e77 Inn.nil) e89 Inn.nil).extR e94) e107 (i37.fresh (Nat.le_refl _))), hm108, (Inn.trans (i37.fresh (Nat.le_refl _)) (ntr (ntr (ntr (ntr (ntr e32.next e59.next) e65.next) e77.next) e89.next) e94.next) hf109)⟩
  have r117 := ite_f h50 hz42
  refine w_exit (th_exit (th_exit (bl_eq ?_)))
  obtain rfl := Option.some.inj r117
  obtain rfl := it_inr hn43
  exact k27 _ _ ⟨(.slice a45 n46 c47), f36, ha_, (FrS.step e9.wf (FrS.refl (W := []) e9.wf) e32 Inn.nil), m34, (i37.fresh (Nat.le_refl _))⟩
 obtain ⟨s24, f25, hh28, e21, m23, i26⟩ := hM
 obtain ⟨β, rfl⟩ := has_ex hh28
 clear hh28
 obtain ⟨a118, n119, c120, rfl⟩ := m23.form
 refine k14 _ _ (w_seqk fun _ k121 => g_' (q_ (.slice a118 n119 c120) (q_ (.slice a118 n119 c120) (s_nil (k121 _ _ ?_)))))
 refine w_ret ?_
 refine b_ret (fn := Tryz.f65) (vs := [.slice a118 n119 c120]) (aRes_tmp (by kernel_rfl) (rfl)) ?_
 obtain rfl := Option.some.inj r19
 exact ⟨(.slice a118 n119 c120), f25, rfl, (FrS.step wf ((FrS.refl (W := []) wf).extR e9) e21 Inn.nil), m23, (i26.fresh e9.next)⟩
end Go.Vd

/-! (KHc8) -/

set_option maxRecDepth 100000
set_option maxHeartbeats 4000000
set_option linter.unusedVariables false
namespace Go.Vd
open Go.Proofs
attribute [local irreducible] wpSeq wpOrd aWp
theorem c_viaductref10_Turn {H : AH} {hd_Node : Value} {fp_Node : Fp} {hd_UpFirst : Value} {fp_UpFirst : Fp} {hd_Up : Value} {fp_Up : Fp} {hd_DownFirst : Value} {fp_DownFirst : Fp} {hd_Down : Value} {fp_Down : Fp} {Node : List (Int)} {UpFirst : List (Int)} {Up : List (Int × Int × Int × Int)} {DownFirst : List (Int)} {Down : List (Int × Int × Int × Int)} {r : List (Int) × List (Int) × List (Int × Int × Int × Int) × List (Int) × List (Int × Int × Int × Int)}
    (wf : WF H) (h_Node : Sq (encI .u32) 1 H hd_Node Node fp_Node) (h_UpFirst : Sq (encI .u32) 1 H hd_UpFirst UpFirst fp_UpFirst) (h_Up : Sq enc_u32_u64_u32_u32 4 H hd_Up Up fp_Up) (h_DownFirst : Sq (encI .u32) 1 H hd_DownFirst DownFirst fp_DownFirst) (h_Down : Sq enc_u32_u64_u32_u32 4 H hd_Down Down fp_Down) (hr : z_viaductref10_Turn Node UpFirst Up DownFirst Down = some r) :
    ACalls Tryz.prog 44 #[.agg #[hd_Node, hd_UpFirst, hd_Up, hd_DownFirst, hd_Down]] H fun v H' => ∃ (s3 : Value) (f4 : Fp) (s7 : Value) (f8 : Fp) (s11 : Value) (f12 : Fp) (s15 : Value) (f16 : Fp) (s19 : Value) (f20 : Fp), v = .agg #[s3, s7, s11, s15, s19] ∧ FrS [] H H' ∧ Ow (encI .u32) 1 H' s3 r.1 f4 ∧ Ow (encI .u32) 1 H' s7 r.2.1 f8 ∧ Ow enc_u32_u64_u32_u32 4 H' s11 r.2.2.1 f12 ∧ Ow (encI .u32) 1 H' s15 r.2.2.2.1 f16 ∧ Ow enc_u32_u64_u32_u32 4 H' s19 r.2.2.2.2 f20 ∧ Inn [] H f4 ∧ Inn [] H f8 ∧ Inn [] H f12 ∧ Inn [] H f16 ∧ Inn [] H f20 ∧ Dj f4 f8 ∧ Dj f4 f12 ∧ Dj f8 f12 ∧ Dj f4 f16 ∧ Dj f8 f16 ∧ Dj f12 f16 ∧ Dj f4 f20 ∧ Dj f8 f20 ∧ Dj f12 f20 ∧ Dj f16 f20 := by
 refine acalls_of_body mixed Tryz.func44 rfl (Nat.le_of_ble_eq_true rfl) ?_
 unfold z_viaductref10_Turn at hr
 refine w_seqk fun _ k36 => g_' ?_
 refine s_rwl wf [hd_Node, hd_UpFirst, hd_Up, hd_DownFirst, hd_Down] (one_cons (h_Node.one1) (one_cons (h_UpFirst.one1) (one_cons (h_Up.one1) (one_cons (h_DownFirst.one1) (one_cons (h_Down.one1) (one_nil)))))) (by kernel_rfl) fun b37 H38 e39 hb40 r41 => ?_
 refine s_rwk e39.wf [.slice none 0 0, .slice none 0 0, .slice none 0 0, .slice none 0 0, .slice none 0 0] (by kernel_rfl) fun b43 H44 e45 hb46 r47 => ?_
 refine s_nil (k36 _ _ (w_seqk fun _ k49 => ?_))
 refine w_draw [0, 1, 3, 4, 6, 7, 8, 10, 11, 13, 14, 15, 2, 5, 9, 12, 16, 17, 18] (by kernel_rfl) ?_
 refine e_' (pt_ b37 0) ?_
 have u50 := (r41.ext e45)
 refine m_' (hd_Node) (aLoad Tryz.prog 22 (pt_ b37 0) H44) (u50.ld (by kernel_rfl)) ?_
 refine e_' (pt_ b37 3) ?_
 refine d_fl (hd_DownFirst) (x := aLoad Tryz.prog 22 (pt_ b37 3) H44) (by kernel_rfl) (u50.ld (by kernel_rfl)) ?_
 refine d_fl (.agg #[hd_Node, hd_UpFirst, hd_Up, hd_DownFirst, hd_Down]) (x := aLoad Tryz.prog 25 (pt_ b37 0) H44) (by kernel_rfl) (u50.ld (by kernel_rfl)) ?_
 refine e_' (pt_ b37 4) ?_
 refine d_fl (hd_Down) (x := aLoad Tryz.prog 23 (pt_ b37 4) H44) (by kernel_rfl) (u50.ld (by kernel_rfl)) ?_
 refine e_' (pt_ b37 1) ?_
 refine d_fl (hd_UpFirst) (x := aLoad Tryz.prog 22 (pt_ b37 1) H44) (by kernel_rfl) (u50.ld (by kernel_rfl)) ?_
 refine d_fl (.agg #[hd_Node, hd_UpFirst, hd_Up, hd_DownFirst, hd_Down]) (x := aLoad Tryz.prog 25 (pt_ b37 0) H44) (by kernel_rfl) (u50.ld (by kernel_rfl)) ?_
 refine e_' (pt_ b37 2) ?_
 refine d_fl (hd_Up) (x := aLoad Tryz.prog 23 (pt_ b37 2) H44) (by kernel_rfl) (u50.ld (by kernel_rfl)) ?_
 have u51 := ((h_Node.ext e39).ext e45)
 obtain ⟨y52, hy53, r54⟩ := bind_some hr
 refine d_ck 27 #[hd_Node] (by kernel_rfl) (c_viaductref10_Words e45.wf u51 hy53) ?_
 rintro s55 H57 ⟨_, f56, rfl, e58, m59, i60⟩
 obtain ⟨a62, n63, c64, rfl⟩ := m59.form
 have u65 := (u50.frS e58 Dj.nil_l)
 refine ⟨st_ql (y := aLoad Tryz.prog 23 (pt_ b37 2) H57) (by kernel_rfl) (u65.ld (by kernel_rfl)) (st_ql (y := aLoad Tryz.prog 25 (pt_ b37 0) H57) (by kernel_rfl) (u65.ld (by kernel_rfl)) (st_ql (y := aLoad Tryz.prog 22 (pt_ b37 1) H57) (by kernel_rfl) (u65.ld (by kernel_rfl)) (st_ql (y := aLoad Tryz.prog 23 (pt_ b37 4) H57) (by kernel_rfl) (u65.ld (by kernel_rfl)) (st_ql (y := aLoad Tryz.prog 25 (pt_ b37 0) H57) (by kernel_rfl) (u65.ld (by kernel_rfl)) (st_ql (y := aLoad Tryz.prog 22 (pt_ b37 3) H57) (by kernel_rfl) (u65.ld (by kernel_rfl)) (st_nil)))))), ?_⟩
 have u66 := (((h_DownFirst.ext e39).ext e45).fr e58 Dj.nil_l)
 obtain ⟨y67, hy68, r69⟩ := bind_some r54
 refine d_ck 27 #[hd_DownFirst] (by kernel_rfl) (c_viaductref10_Words e58.wf u66 hy68) ?_
 rintro s70 H72 ⟨_, f71, rfl, e73, m74, i75⟩
 obtain ⟨a77, n78, c79, rfl⟩ := m74.form
 have u80 := (u65.frS e73 Dj.nil_l)
 refine ⟨st_ql (y := aLoad Tryz.prog 23 (pt_ b37 2) H72) (by kernel_rfl) (u80.ld (by kernel_rfl)) (st_ql (y := aLoad Tryz.prog 25 (pt_ b37 0) H72) (by kernel_rfl) (u80.ld (by kernel_rfl)) (st_ql (y := aLoad Tryz.prog 22 (pt_ b37 1) H72) (by kernel_rfl) (u80.ld (by kernel_rfl)) (st_ql (y := aLoad Tryz.prog 23 (pt_ b37 4) H72) (by kernel_rfl) (u80.ld (by kernel_rfl)) (st_ql (y := aLoad Tryz.prog 25 (pt_ b37 0) H72) (by kernel_rfl) (u80.ld (by kernel_rfl)) (st_anc (by kernel_rfl) (st_nil)))))), ?_⟩
 have u81 := ((u51.fr e58 Dj.nil_l).fr e73 Dj.nil_l)
 have u82 := ((((h_UpFirst.ext e39).ext e45).fr e58 Dj.nil_l).fr e73 Dj.nil_l)
 have u83 := ((((h_Up.ext e39).ext e45).fr e58 Dj.nil_l).fr e73 Dj.nil_l)
 have u84 := (u66.fr e73 Dj.nil_l)
 have u85 := ((((h_Down.ext e39).ext e45).fr e58 Dj.nil_l).fr e73 Dj.nil_l)
 obtain ⟨y86, hy87, r88⟩ := bind_some r69
 refine d_ck 65 #[.agg #[hd_Node, hd_UpFirst, hd_Up, hd_DownFirst, hd_Down], hd_Down] (by kernel_rfl) (c_viaductref10_turned e73.wf u81 u82 u83 u84 u85 hy87) ?_
 rintro s89 H91 ⟨_, f90, rfl, e92, m93, i94⟩
 obtain ⟨a96, n97, c98, rfl⟩ := m93.form
 have u99 := (u80.frS e92 Dj.nil_l)
 refine ⟨st_ql (y := aLoad Tryz.prog 23 (pt_ b37 2) H91) (by kernel_rfl) (u99.ld (by kernel_rfl)) (st_ql (y := aLoad Tryz.prog 25 (pt_ b37 0) H91) (by kernel_rfl) (u99.ld (by kernel_rfl)) (st_ql (y := aLoad Tryz.prog 22 (pt_ b37 1) H91) (by kernel_rfl) (u99.ld (by kernel_rfl)) (st_anc (by kernel_rfl) (st_anc (by kernel_rfl) (st_anc (by kernel_rfl) (st_nil)))))), ?_⟩
 have u100 := (u82.fr e92 Dj.nil_l)
 obtain ⟨y101, hy102, r103⟩ := bind_some r88
 refine d_ck 27 #[hd_UpFirst] (by kernel_rfl) (c_viaductref10_Words e92.wf u100 hy102) ?_
 rintro s104 H106 ⟨_, f105, rfl, e107, m108, i109⟩
 obtain ⟨a111, n112, c113, rfl⟩ := m108.form
 have u114 := (u99.frS e107 Dj.nil_l)
 refine ⟨st_ql (y := aLoad Tryz.prog 23 (pt_ b37 2) H106) (by kernel_rfl) (u114.ld (by kernel_rfl)) (st_ql (y := aLoad Tryz.prog 25 (pt_ b37 0) H106) (by kernel_rfl) (u114.ld (by kernel_rfl)) (st_anc (by kernel_rfl) (st_anc (by kernel_rfl) (st_anc (by kernel_rfl) (st_anc (by kernel_rfl) (st_nil)))))), ?_⟩
 have u115 := ((u81.fr e92 Dj.nil_l).fr e107 Dj.nil_l)
 have u116 := (u100.fr e107 Dj.nil_l)
 have u117 := ((u83.fr e92 Dj.nil_l).fr e107 Dj.nil_l)
 have u118 := ((u84.fr e92 Dj.nil_l).fr e107 Dj.nil_l)
 have u119 := ((u85.fr e92 Dj.nil_l).fr e107 Dj.nil_l)
 obtain ⟨y120, hy121, r122⟩ := bind_some r103
 refine d_ck 65 #[.agg #[hd_Node, hd_UpFirst, hd_Up, hd_DownFirst, hd_Down], hd_Up] (by kernel_rfl) (c_viaductref10_turned_1 e107.wf u115 u116 u117 u118 u119 hy121) ?_
 rintro s123 H125 ⟨_, f124, rfl, e126, m127, i128⟩
 obtain ⟨a130, n131, c132, rfl⟩ := m127.form
 refine ⟨st_anc (by kernel_rfl) (st_anc (by kernel_rfl) (st_anc (by kernel_rfl) (st_anc (by kernel_rfl) (st_anc (by kernel_rfl) (st_anc (by kernel_rfl) (st_nil)))))), ?_⟩
 refine e_' (.agg #[.slice a62 n63 c64, .slice a77 n78 c79, .slice a96 n97 c98, .slice a111 n112 c113, .slice a130 n131 c132]) ?_
 have u137 := (((((r47.frS e58 Dj.nil_l).frS e73 Dj.nil_l).frS e92 Dj.nil_l).frS e107 Dj.nil_l).frS e126 Dj.nil_l)
 have u138 := (m108.fr e126 Dj.nil_l)
 have u139 := ((m93.fr e107 Dj.nil_l).fr e126 Dj.nil_l)
 have u140 := (((m74.fr e92 Dj.nil_l).fr e107 Dj.nil_l).fr e126 Dj.nil_l)
 have u141 := ((((m59.fr e73 Dj.nil_l).fr e92 Dj.nil_l).fr e107 Dj.nil_l).fr e126 Dj.nil_l)
 obtain ⟨H133, q134, e135, r136⟩ := Row.store (P := Tryz.prog) (t := 25) (p := 0) e126.wf u137 (.agg #[.slice a62 n63 c64, .slice a77 n78 c79, .slice a96 n97 c98, .slice a111 n112 c113, .slice a130 n131 c132]) [.slice a62 n63 c64, .slice a77 n78 c79, .slice a96 n97 c98, .slice a111 n112 c113, .slice a130 n131 c132] (by kernel_rfl) (by kernel_rfl) (one_cons (u141.one1) (one_cons (u140.one1) (one_cons (u139.one1) (one_cons (u138.one1) (one_cons (m127.one1) (one_nil)))))) (Nat.le_of_ble_eq_true (by kernel_rfl)) [.slice a62 n63 c64, .slice a77 n78 c79, .slice a96 n97 c98, .slice a111 n112 c113, .slice a130 n131 c132] (by kernel_rfl)
 refine d_ek (undef) (by kernel_rfl) (map_ok q134) (st_anc (by kernel_rfl) (st_anc (by kernel_rfl) (st_anc (by kernel_rfl) (st_anc (by kernel_rfl) (st_anc (by kernel_rfl) (st_anc (by kernel_rfl) (st_nil))))))) ?_
 refine d_nil ?_
 refine k49 _ _ ?_
 refine w_ret ?_
 refine b_ret (fn := Tryz.f44) (vs := [.agg #[.slice a62 n63 c64, .slice a77 n78 c79, .slice a96 n97 c98, .slice a111 n112 c113, .slice a130 n131 c132]]) (aRes_cell (Eq.trans (b := aLoad Tryz.prog 25 (pt_ b43 0) H133) (by kernel_rfl) (r136.ld (by kernel_rfl))) (rfl)) ?_
 have u142 := (u141.fr e135 (Dj.symm (i60.djn r47.ltF)))
 have u143 := (u140.fr e135 (Dj.symm (i75.djn (r47.ltF.le e58.next))))
 have u144 := (u139.fr e135 (Dj.symm (i94.djn (r47.ltF.le (ntr e58.next e73.next)))))
 have u145 := (u138.fr e135 (Dj.symm (i109.djn (r47.ltF.le (ntr (ntr e58.next e73.next) e92.next)))))
 have u146 := (m127.fr e135 (Dj.symm (i128.djn (r47.ltF.le (ntr (ntr (ntr e58.next e73.next) e92.next) e107.next)))))
 obtain rfl := Option.some.inj r122
 exact ⟨(.slice a62 n63 c64), f56, (.slice a77 n78 c79), f71, (.slice a96 n97 c98), f90, (.slice a111 n112 c113), f105, (.slice a130 n131 c132), f124, rfl, (FrS.step wf (FrS.step wf (FrS.step wf (FrS.step wf (FrS.step wf (FrS.step wf (((FrS.refl (W := []) wf).extR e39).extR e45) e58 Inn.nil) e73 Inn.nil) e92 Inn.nil) e107 Inn.nil) e126 Inn.nil) e135 (hb46.fresh e39.next)), u142, u143, u144, u145, u146, (i60.fresh (ntr e39.next e45.next)), (i75.fresh (ntr (ntr e39.next e45.next) e58.next)), (i94.fresh (ntr (ntr (ntr e39.next e45.next) e58.next) e73.next)), (i109.fresh (ntr (ntr (ntr (ntr e39.next e45.next) e58.next) e73.next) e92.next)), (i128.fresh (ntr (ntr (ntr (ntr (ntr e39.next e45.next) e58.next) e73.next) e92.next) e107.next)), (Dj.symm (i75.djn m59.lt)), (Dj.symm (i94.djn (m59.lt.le e73.next))), (Dj.symm (i94.djn m74.lt)), (Dj.symm (i109.djn (m59.lt.le (ntr e73.next e92.next)))), (Dj.symm (i109.djn (m74.lt.le e92.next))), (Dj.symm (i109.djn m93.lt)), (Dj.symm (i128.djn (m59.lt.le (ntr (ntr e73.next e92.next) e107.next)))), (Dj.symm (i128.djn (m74.lt.le (ntr e92.next e107.next)))), (Dj.symm (i128.djn (m93.lt.le e107.next))), (Dj.symm (i128.djn m108.lt))⟩
theorem c_viaductref10_DocTurn {H : AH} {hd_Node : Value} {fp_Node : Fp} {hd_UpFirst : Value} {fp_UpFirst : Fp} {hd_Up : Value} {fp_Up : Fp} {hd_DownFirst : Value} {fp_DownFirst : Fp} {hd_Down : Value} {fp_Down : Fp} {Node : List (Int)} {UpFirst : List (Int)} {Up : List (Int × Int × Int × Int)} {DownFirst : List (Int)} {Down : List (Int × Int × Int × Int)} {r : List (Int) × List (Int) × List (Int × Int × Int × Int) × List (Int) × List (Int × Int × Int × Int) × Int × List (Int × Int)}
    (wf : WF H) (h_Node : Sq (encI .u32) 1 H hd_Node Node fp_Node) (h_UpFirst : Sq (encI .u32) 1 H hd_UpFirst UpFirst fp_UpFirst) (h_Up : Sq enc_u32_u64_u32_u32 4 H hd_Up Up fp_Up) (h_DownFirst : Sq (encI .u32) 1 H hd_DownFirst DownFirst fp_DownFirst) (h_Down : Sq enc_u32_u64_u32_u32 4 H hd_Down Down fp_Down) (hr : z_viaductref10_DocTurn Node UpFirst Up DownFirst Down = some r) :
    ACalls Tryz.prog 19 #[.agg #[hd_Node, hd_UpFirst, hd_Up, hd_DownFirst, hd_Down]] H fun v H' => ∃ (s3 : Value) (f4 : Fp) (s7 : Value) (f8 : Fp) (s11 : Value) (f12 : Fp) (s15 : Value) (f16 : Fp) (s19 : Value) (f20 : Fp) (s23 : Value) (f24 : Fp), v = .tuple #[.agg #[s3, s7, s11, s15, s19], .agg #[i_ r.2.2.2.2.2.1, s23]] ∧ FrS [] H H' ∧ Ow (encI .u32) 1 H' s3 r.1 f4 ∧ Ow (encI .u32) 1 H' s7 r.2.1 f8 ∧ Ow enc_u32_u64_u32_u32 4 H' s11 r.2.2.1 f12 ∧ Ow (encI .u32) 1 H' s15 r.2.2.2.1 f16 ∧ Ow enc_u32_u64_u32_u32 4 H' s19 r.2.2.2.2.1 f20 ∧ Sq enc_i64_i64 2 H' s23 r.2.2.2.2.2.2 f24 ∧ Inn [] H f4 ∧ Inn [] H f8 ∧ Inn [] H f12 ∧ Inn [] H f16 ∧ Inn [] H f20 ∧ Inn [] H f24 ∧ Dj f4 f8 ∧ Dj f4 f12 ∧ Dj f8 f12 ∧ Dj f4 f16 ∧ Dj f8 f16 ∧ Dj f12 f16 ∧ Dj f4 f20 ∧ Dj f8 f20 ∧ Dj f12 f20 ∧ Dj f16 f20 ∧ Dj f4 f24 ∧ Dj f8 f24 ∧ Dj f12 f24 ∧ Dj f16 f24 ∧ Dj f20 f24 := by
 refine acalls_of_body mixed Tryz.func19 rfl (Nat.le_of_ble_eq_true rfl) ?_
 unfold z_viaductref10_DocTurn at hr
 refine w_seqk fun _ k46 => g_' ?_
 refine s_rwl wf [hd_Node, hd_UpFirst, hd_Up, hd_DownFirst, hd_Down] (one_cons (h_Node.one1) (one_cons (h_UpFirst.one1) (one_cons (h_Up.one1) (one_cons (h_DownFirst.one1) (one_cons (h_Down.one1) (one_nil)))))) (by kernel_rfl) fun b47 H48 e49 hb50 r51 => ?_
 refine s_rwk e49.wf [.slice none 0 0, .slice none 0 0, .slice none 0 0, .slice none 0 0, .slice none 0 0] (by kernel_rfl) fun b53 H54 e55 hb56 r57 => ?_
 refine s_rwk e55.wf [i_ 0, .slice none 0 0] (by kernel_rfl) fun b59 H60 e61 hb62 r63 => ?_
 refine s_nil (k46 _ _ (w_seqk fun _ k65 => w_seqk fun _ k66 => g_' ?_))
 have u67 := ((r51.ext e55).ext e61)
 refine l_' (.agg #[hd_Node, hd_UpFirst, hd_Up, hd_DownFirst, hd_Down]) (aLoad Tryz.prog 25 (pt_ b47 0) H60) (u67.ld (by kernel_rfl)) ?_
 have u68 := (((h_Node.ext e49).ext e55).ext e61)
 have u69 := (((h_UpFirst.ext e49).ext e55).ext e61)
 have u70 := (((h_Up.ext e49).ext e55).ext e61)
 have u71 := (((h_DownFirst.ext e49).ext e55).ext e61)
 have u72 := (((h_Down.ext e49).ext e55).ext e61)
 obtain ⟨y73, hy74, r75⟩ := bind_some hr
 refine s_ck 9 #[.agg #[hd_Node, hd_UpFirst, hd_Up, hd_DownFirst, hd_Down]] (by kernel_rfl) (c_viaductref10_DocCheck e61.wf u68 u69 u70 u71 u72 hy74) ?_
 rintro _ H78 ⟨s76, f77, rfl, e79, m80, i81⟩
 obtain ⟨a83, n84, c85, rfl⟩ := m80.form
 refine s_rwk e79.wf [i_ 0, .slice none 0 0] (by kernel_rfl) fun b86 H87 e88 hb89 r90 => ?_
 have u96 := (m80.ext e88)
 obtain ⟨H92, q93, e94, r95⟩ := Row.store (P := Tryz.prog) (t := 35) (p := 0) e88.wf r90 (.agg #[i_ y73.1, .slice a83 n84 c85]) [i_ y73.1, .slice a83 n84 c85] (by kernel_rfl) (by kernel_rfl) (one_cons (rfl) (one_cons (u96.one1) (one_nil))) (Nat.le_of_ble_eq_true (by kernel_rfl)) [i_ y73.1, .slice a83 n84 c85] (by kernel_rfl)
 refine s_ek (undef) (by kernel_rfl) (map_ok q93) ?_
 refine s_nil (k66 _ _ (w_seqk fun _ k97 => g_' ?_))
 refine l_' (.agg #[i_ y73.1, .slice a83 n84 c85]) (aLoad Tryz.prog 35 (pt_ b86 0) H92) (r95.ld (by kernel_rfl)) ?_
 have u98 := (u96.fr e94 (hb89.djn m80.lt))
 obtain ⟨y99, hy100, r101⟩ := bind_some r75
 refine s_ck 23 #[.agg #[i_ y73.1, .slice a83 n84 c85]] (by kernel_rfl) (c_viaductref01_Err_Bad e94.wf u98 hy100) ?_
 rintro _ H102 ⟨rfl, e103⟩
 refine s_nil (k97 _ _ ?_)
 refine w_cond (y99) (by kernel_rfl) rfl (fun h104 => ?_) (fun h104 => ?_)
 ·have r105 := ite_t h104 r101
  refine w_seqk fun _ k106 => ?_
  refine w_draw [0, 1, 2, 3] (by kernel_rfl) ?_
  refine e_' (.agg #[.slice none 0 0, .slice none 0 0, .slice none 0 0, .slice none 0 0, .slice none 0 0]) ?_
  have u107 := (r95.frS e103 Dj.nil_l)
  refine d_fl (.agg #[i_ y73.1, .slice a83 n84 c85]) (x := aLoad Tryz.prog 35 (pt_ b86 0) H102) (by kernel_rfl) (u107.ld (by kernel_rfl)) ?_
  have u112 := (((((r57.ext e61).frS e79 Dj.nil_l).ext e88).frS e94 (hb89.djn (r57.ltF.le (ntr e61.next e79.next)))).frS e103 Dj.nil_l)
  obtain ⟨H108, q109, e110, r111⟩ := Row.store (P := Tryz.prog) (t := 25) (p := 0) e103.wf u112 (.agg #[.slice none 0 0, .slice none 0 0, .slice none 0 0, .slice none 0 0, .slice none 0 0]) [.slice none 0 0, .slice none 0 0, .slice none 0 0, .slice none 0 0, .slice none 0 0] (by kernel_rfl) (by kernel_rfl) (one_cons (rfl) (one_cons (rfl) (one_cons (rfl) (one_cons (rfl) (one_cons (rfl) (one_nil)))))) (Nat.le_of_ble_eq_true (by kernel_rfl)) [.slice none 0 0, .slice none 0 0, .slice none 0 0, .slice none 0 0, .slice none 0 0] (by kernel_rfl)
  have u113 := (u107.frS e110 (Dj.symm (hb89.djn (r57.ltF.le (ntr e61.next e79.next)))))
  refine d_ek (undef) (by kernel_rfl) (map_ok q109) (st_ql (y := aLoad Tryz.prog 35 (pt_ b86 0) H108) (by kernel_rfl) (u113.ld (by kernel_rfl)) (st_nil)) ?_
  have u118 := (((((r63.frS e79 Dj.nil_l).ext e88).frS e94 (hb89.djn (r63.ltF.le e79.next))).frS e103 Dj.nil_l).frS e110 (Dj.symm (hb62.djn r57.ltF)))
  have u119 := ((u98.fr e103 Dj.nil_l).fr e110 (Dj.symm (i81.djn (r57.ltF.le e61.next))))
  obtain ⟨H114, q115, e116, r117⟩ := Row.store (P := Tryz.prog) (t := 35) (p := 0) e110.wf u118 (.agg #[i_ y73.1, .slice a83 n84 c85]) [i_ y73.1, .slice a83 n84 c85] (by kernel_rfl) (by kernel_rfl) (one_cons (rfl) (one_cons (u119.one1) (one_nil))) (Nat.le_of_ble_eq_true (by kernel_rfl)) [i_ y73.1, .slice a83 n84 c85] (by kernel_rfl)
  refine d_ek (undef) (by kernel_rfl) (map_ok q115) (st_anc (by kernel_rfl) (st_nil)) ?_
  refine d_nil ?_
  refine k106 _ _ ?_
  refine w_ret (th_ret ?_)
  have u120 := (r111.frS e116 (hb62.djn r57.ltF))
  refine b_ret (fn := Tryz.f19) (vs := [.agg #[.slice none 0 0, .slice none 0 0, .slice none 0 0, .slice none 0 0, .slice none 0 0], .agg #[i_ y73.1, .slice a83 n84 c85]]) (aRes_cell (Eq.trans (b := aLoad Tryz.prog 25 (pt_ b53 0) H114) (by kernel_rfl) (u120.ld (by kernel_rfl))) (aRes_cell (Eq.trans (b := aLoad Tryz.prog 35 (pt_ b59 0) H114) (by kernel_rfl) (r117.ld (by kernel_rfl))) (rfl))) ?_
  have u121 := (u119.fr e116 (Dj.symm (i81.djn r63.ltF)))
  obtain rfl := Option.some.inj r105
  exact ⟨(.slice none 0 0), [], (.slice none 0 0), [], (.slice none 0 0), [], (.slice none 0 0), [], (.slice none 0 0), [], (.slice a83 n84 c85), f77, rfl, (FrS.step wf (FrS.step wf (FrS.step wf (FrS.step wf ((FrS.step wf ((((FrS.refl (W := []) wf).extR e49).extR e55).extR e61) e79 Inn.nil).extR e88) e94 (hb89.fresh (ntr (ntr (ntr e49.next e55.next) e61.next) e79.next))) e103 Inn.nil) e110 (hb56.fresh e49.next)) e116 (hb62.fresh (ntr e49.next e55.next))), (Ow.nil (by decide)), (Ow.nil (by decide)), (Ow.nil (by decide)), (Ow.nil (by decide)), (Ow.nil (by decide)), u121, Inn.nil, Inn.nil, Inn.nil, Inn.nil, Inn.nil, (i81.fresh (ntr (ntr e49.next e55.next) e61.next)), Dj.nil_l, Dj.nil_l, Dj.nil_l, Dj.nil_l, Dj.nil_l, Dj.nil_l, Dj.nil_l, Dj.nil_l, Dj.nil_l, Dj.nil_l, Dj.nil_l, Dj.nil_l, Dj.nil_l, Dj.nil_l, Dj.nil_l⟩
 have r122 := ite_bf h104 r101
 refine w_skip (k65 _ _ (w_seqk fun _ k123 => g_' ?_))
 have u124 := ((((u67.frS e79 Dj.nil_l).ext e88).frS e94 (hb89.djn (r51.ltF.le (ntr (ntr e55.next e61.next) e79.next)))).frS e103 Dj.nil_l)
 refine l_' (.agg #[hd_Node, hd_UpFirst, hd_Up, hd_DownFirst, hd_Down]) (aLoad Tryz.prog 25 (pt_ b47 0) H102) (u124.ld (by kernel_rfl)) ?_
 have u125 := ((((u68.fr e79 Dj.nil_l).ext e88).fr e94 (hb89.djn (h_Node.lt.le (ntr (ntr (ntr e49.next e55.next) e61.next) e79.next)))).fr e103 Dj.nil_l)
 have u126 := ((((u69.fr e79 Dj.nil_l).ext e88).fr e94 (hb89.djn (h_UpFirst.lt.le (ntr (ntr (ntr e49.next e55.next) e61.next) e79.next)))).fr e103 Dj.nil_l)
 have u127 := ((((u70.fr e79 Dj.nil_l).ext e88).fr e94 (hb89.djn (h_Up.lt.le (ntr (ntr (ntr e49.next e55.next) e61.next) e79.next)))).fr e103 Dj.nil_l)
 have u128 := ((((u71.fr e79 Dj.nil_l).ext e88).fr e94 (hb89.djn (h_DownFirst.lt.le (ntr (ntr (ntr e49.next e55.next) e61.next) e79.next)))).fr e103 Dj.nil_l)
 have u129 := ((((u72.fr e79 Dj.nil_l).ext e88).fr e94 (hb89.djn (h_Down.lt.le (ntr (ntr (ntr e49.next e55.next) e61.next) e79.next)))).fr e103 Dj.nil_l)
 obtain ⟨y130, hy131, r132⟩ := bind_some r122
 refine s_ck 44 #[.agg #[hd_Node, hd_UpFirst, hd_Up, hd_DownFirst, hd_Down]] (by kernel_rfl) (c_viaductref10_Turn e103.wf u125 u126 u127 u128 u129 hy131) ?_
 rintro _ H143 ⟨s133, f134, s135, f136, s137, f138, s139, f140, s141, f142, rfl, e144, m145, m146, m147, m148, m149, i150, i151, i152, i153, i154, d155, d156, d157, d158, d159, d160, d161, d162, d163, d164⟩
 obtain ⟨a170, n171, c172, rfl⟩ := m145.form
 obtain ⟨a173, n174, c175, rfl⟩ := m146.form
 obtain ⟨a176, n177, c178, rfl⟩ := m147.form
 obtain ⟨a179, n180, c181, rfl⟩ := m148.form
 obtain ⟨a182, n183, c184, rfl⟩ := m149.form
 refine q_ (.agg #[i_ 0, .slice none 0 0]) ?_
 have u189 := ((((((r57.ext e61).frS e79 Dj.nil_l).ext e88).frS e94 (hb89.djn (r57.ltF.le (ntr e61.next e79.next)))).frS e103 Dj.nil_l).frS e144 Dj.nil_l)
 obtain ⟨H185, q186, e187, r188⟩ := Row.store (P := Tryz.prog) (t := 25) (p := 0) e144.wf u189 (.agg #[.slice a170 n171 c172, .slice a173 n174 c175, .slice a176 n177 c178, .slice a179 n180 c181, .slice a182 n183 c184]) [.slice a170 n171 c172, .slice a173 n174 c175, .slice a176 n177 c178, .slice a179 n180 c181, .slice a182 n183 c184] (by kernel_rfl) (by kernel_rfl) (one_cons (m145.one1) (one_cons (m146.one1) (one_cons (m147.one1) (one_cons (m148.one1) (one_cons (m149.one1) (one_nil)))))) (Nat.le_of_ble_eq_true (by kernel_rfl)) [.slice a170 n171 c172, .slice a173 n174 c175, .slice a176 n177 c178, .slice a179 n180 c181, .slice a182 n183 c184] (by kernel_rfl)
 refine s_ek (undef) (by kernel_rfl) (map_ok q186) ?_
 have u194 := ((((((r63.frS e79 Dj.nil_l).ext e88).frS e94 (hb89.djn (r63.ltF.le e79.next))).frS e103 Dj.nil_l).frS e144 Dj.nil_l).frS e187 (Dj.symm (hb62.djn r57.ltF)))
 obtain ⟨H190, q191, e192, r193⟩ := Row.store (P := Tryz.prog) (t := 35) (p := 0) e187.wf u194 (.agg #[i_ 0, .slice none 0 0]) [i_ 0, .slice none 0 0] (by kernel_rfl) (by kernel_rfl) (one_cons (rfl) (one_cons (rfl) (one_nil))) (Nat.le_of_ble_eq_true (by kernel_rfl)) [i_ 0, .slice none 0 0] (by kernel_rfl)
 refine s_ek (undef) (by kernel_rfl) (map_ok q191) ?_
 refine s_nil (k123 _ _ ?_)
 refine w_ret ?_
 have u195 := (r188.frS e192 (hb62.djn r57.ltF))
 refine b_ret (fn := Tryz.f19) (vs := [.agg #[.slice a170 n171 c172, .slice a173 n174 c175, .slice a176 n177 c178, .slice a179 n180 c181, .slice a182 n183 c184], .agg #[i_ 0, .slice none 0 0]]) (aRes_cell (Eq.trans (b := aLoad Tryz.prog 25 (pt_ b53 0) H190) (by kernel_rfl) (u195.ld (by kernel_rfl))) (aRes_cell (Eq.trans (b := aLoad Tryz.prog 35 (pt_ b59 0) H190) (by kernel_rfl) (r193.ld (by kernel_rfl))) (rfl))) ?_
 have u196 := ((m145.fr e187 (Dj.symm (i150.djn (r57.ltF.le (ntr (ntr (ntr (ntr e61.next e79.next) e88.next) e94.next) e103.next))))).fr e192 (Dj.symm (i150.djn (r63.ltF.le (ntr (ntr (ntr e79.next e88.next) e94.next) e103.next)))))
 have u197 := ((m146.fr e187 (Dj.symm (i151.djn (r57.ltF.le (ntr (ntr (ntr (ntr e61.next e79.next) e88.next) e94.next) e103.next))))).fr e192 (Dj.symm (i151.djn (r63.ltF.le (ntr (ntr (ntr e79.next e88.next) e94.next) e103.next)))))
 have u198 := ((m147.fr e187 (Dj.symm (i152.djn (r57.ltF.le (ntr (ntr (ntr (ntr e61.next e79.next) e88.next) e94.next) e103.next))))).fr e192 (Dj.symm (i152.djn (r63.ltF.le (ntr (ntr (ntr e79.next e88.next) e94.next) e103.next)))))
 have u199 := ((m148.fr e187 (Dj.symm (i153.djn (r57.ltF.le (ntr (ntr (ntr (ntr e61.next e79.next) e88.next) e94.next) e103.next))))).fr e192 (Dj.symm (i153.djn (r63.ltF.le (ntr (ntr (ntr e79.next e88.next) e94.next) e103.next)))))
 have u200 := ((m149.fr e187 (Dj.symm (i154.djn (r57.ltF.le (ntr (ntr (ntr (ntr e61.next e79.next) e88.next) e94.next) e103.next))))).fr e192 (Dj.symm (i154.djn (r63.ltF.le (ntr (ntr (ntr e79.next e88.next) e94.next) e103.next)))))
 obtain rfl := Option.some.inj r132
 exact ⟨(.slice a170 n171 c172), f134, (.slice a173 n174 c175), f136, (.slice a176 n177 c178), f138, (.slice a179 n180 c181), f140, (.slice a182 n183 c184), f142, (.slice none 0 0), [], rfl, (FrS.step wf (FrS.step wf (FrS.step wf (FrS.step wf (FrS.step wf ((FrS.step wf ((((FrS.refl (W := []) wf).extR e49).extR e55).extR e61) e79 Inn.nil).extR e88) e94 (hb89.fresh (ntr (ntr (ntr e49.next e55.next) e61.next) e79.next))) e103 Inn.nil) e144 Inn.nil) e187 (hb56.fresh e49.next)) e192 (hb62.fresh (ntr e49.next e55.next))), u196, u197, u198, u199, u200, (Sq.nil (by decide)), (i150.fresh (ntr (ntr (ntr (ntr (ntr (ntr e49.next e55.next) e61.next) e79.next) e88.next) e94.next) e103.next)), (i151.fresh (ntr (ntr (ntr (ntr (ntr (ntr e49.next e55.next) e61.next) e79.next) e88.next) e94.next) e103.next)), (i152.fresh (ntr (ntr (ntr (ntr (ntr (ntr e49.next e55.next) e61.next) e79.next) e88.next) e94.next) e103.next)), (i153.fresh (ntr (ntr (ntr (ntr (ntr (ntr e49.next e55.next) e61.next) e79.next) e88.next) e94.next) e103.next)), (i154.fresh (ntr (ntr (ntr (ntr (ntr (ntr e49.next e55.next) e61.next) e79.next) e88.next) e94.next) e103.next)), Inn.nil, d155, d156, d157, d158, d159, d160, d161, d162, d163, d164, Dj.nil_r, Dj.nil_r, Dj.nil_r, Dj.nil_r, Dj.nil_r⟩
theorem c_viaductref10_SameWords {H : AH} {hd_a : Value} {fp_a : Fp} {hd_b : Value} {fp_b : Fp} {a : List (Int)} {b : List (Int)} {r : Bool}
    (wf : WF H) (h_a : Sq (encI .u32) 1 H hd_a a fp_a) (h_b : Sq (encI .u32) 1 H hd_b b fp_b) (hr : z_viaductref10_SameWords a b = some r) :
    ACalls Tryz.prog 45 #[hd_a, hd_b] H fun v H' => v = .bool r ∧ H = H' := by
 refine acalls_of_body mixed Tryz.func45 rfl (Nat.le_of_ble_eq_true rfl) ?_
 unfold z_viaductref10_SameWords at hr
 refine w_seqk fun _ k1 => g_' (q_ (.bool false) (s_nil (k1 _ _ (w_seqk fun _ k2 => w_seqk fun _ k3 => g_' (q_ (hd_a) ?_)))))
 refine l_' (i_ (a.length : Int)) (aLen Tryz.prog 22 hd_a H) (h_a.lenb (by kernel_rfl)) ?_
 refine q_ (hd_b) ?_
 refine l_' (i_ (b.length : Int)) (aLen Tryz.prog 22 hd_b H) (h_b.lenb (by kernel_rfl)) ?_
 refine q_ (.bool (!decide ((a.length : Int) = (b.length : Int)))) (s_nil (k3 _ _ ?_))
 refine w_condn ((a.length : Int) = (b.length : Int)) (by kernel_rfl) rfl (fun h4 => ?_) (fun h4 => ?_)
 ·have r5 := ite_f h4 hr
  refine w_seqk fun _ k6 => g_' (q_ (.bool false) (s_nil (k6 _ _ ?_)))
  refine w_ret (th_ret ?_)
  refine b_ret (fn := Tryz.f45) (vs := [.bool false]) (aRes_tmp (by kernel_rfl) (rfl)) ?_
  obtain rfl := Option.some.inj r5
  exact ⟨rfl, rfl⟩
 have r7 := ite_t h4 hr
 refine w_skip (k2 _ _ (w_seqk fun _ k8 => w_seqk fun _ k9 => g_' (q_ (hd_a) ?_)))
 refine l_' (i_ (a.length : Int)) (aLen Tryz.prog 22 hd_a H) (h_a.lenb (by kernel_rfl)) ?_
 refine q_ (i_ 0) (s_nil (k9 _ _ ?_))
 obtain ⟨z13, hx11, r12⟩ := bind_some r7
 refine w_mid (fun α H14 => ∃ o10, z13 = Sum.inr o10 ∧ Has α [] ∧ H = H14) (fun _ k16 => ?_) (fun α H14 hM => ?_)
 ·refine w_block ?_
  obtain ⟨n18, hn19⟩ := loopO_iff.1 hx11
  refine w_loopn (fun n α H20 => ∃ (i0 : Int), iterO (fun zz_ => z_viaductref10_SameWords_l0 a b zz_) n i0 = some z13 ∧ Has α [(0, hd_a), (1, hd_b), (12, i_ (a.length : Int)), (13, i_ i0)] ∧ H = H20) n18 ⟨0, hn19, ha_, rfl⟩ ?_
  rintro n18 α H20 ⟨i0, hi23, hh22, rfl⟩ K28 k28
  obtain ⟨n24, z25, rfl, hz26, hn27⟩ := iter_succ hi23
  obtain ⟨β, rfl⟩ := has_ex hh22
  clear hh22
  replace hz26 : z_viaductref10_SameWords_l0 a b i0 = some z25 := hz26
  unfold z_viaductref10_SameWords_l0 at hz26
  refine w_seqk fun _ k29 => g_' (q_ (.bool (decide (i0 < (a.length : Int)))) (s_nil (k29 _ _ (w_seqk fun _ k30 => ?_))))
  refine w_condp (i0 < (a.length : Int)) (by kernel_rfl) rfl (fun h31 => ?_) (fun h31 => ?_)
  ·have r32 := ite_t h31 hz26
   refine w_skip (k30 _ _ (w_seqk fun _ k33 => w_block (w_seqk fun _ k34 => g_' (q_ (i_ i0) (q_ (i_ i0) (s_nil (k34 _ _ (w_seqk fun _ k35 => ?_))))))))
   refine w_draw [0, 1, 2, 3, 4, 5, 6, 7, 8] (by kernel_rfl) ?_
   refine e_' (hd_a) (e_' (i_ i0) ?_)
   obtain ⟨g36, r37⟩ := G_some r32
   refine m_' (elp hd_a 1 i0.toNat 0) (aIndexAddr Tryz.prog 22 hd_a (i_ i0)) (h_a.idxb (by kernel_rfl) g36 h31) ?_
   refine m_' (.int .u32 (gt a i0)) (aLoad Tryz.prog 86 (elp hd_a 1 i0.toNat 0) H) (h_a.ld g36 h31 (by kernel_rfl)) ?_
   refine e_' (hd_b) (e_' (i_ i0) ?_)
   obtain ⟨g38, r39⟩ := G_some r37
   refine m_' (elp hd_b 1 i0.toNat 0) (aIndexAddr Tryz.prog 22 hd_b (i_ i0)) (h_b.idxb (by kernel_rfl) g36 g38) ?_
   refine m_' (.int .u32 (gt b i0)) (aLoad Tryz.prog 86 (elp hd_b 1 i0.toNat 0) H) (h_b.ld g36 g38 (by kernel_rfl)) ?_
   refine e_' (.bool (!decide ((gt a i0) = (gt b i0)))) ?_
   refine d_nil ?_
   refine k35 _ _ ?_
   refine w_condn ((gt a i0) = (gt b i0)) (by kernel_rfl) rfl (fun h40 => ?_) (fun h40 => ?_)
   ·have r41 := ite_f h40 r39
    refine w_seqk fun _ k42 => g_' (q_ (.bool false) (s_nil (k42 _ _ ?_)))
    refine w_ret (bl_ret (th_ret (th_ret (bl_ret (th_ret (th_ret ?_))))))
    obtain ⟨v43, hv44, hz45⟩ := map_some r41
    subst hz45
    obtain rfl := it_inr hn27
    have hq46 := elim_inl r12
    rw [hq46] at hv44
    refine b_ret (fn := Tryz.f45) (vs := [.bool false]) (aRes_tmp (by kernel_rfl) (rfl)) ?_
    obtain rfl := Option.some.inj hv44
    exact ⟨rfl, rfl⟩
   have r47 := ite_t h40 r39
   refine w_skip (k33 _ _ (g_' ?_))
   obtain ⟨g48, r49⟩ := G_some r47
   refine w_' (i0 + 1) (wrap64 (by have := g48; omega)) ?_
   refine q_ (i_ (i0 + 1)) (s_nil ?_)
   obtain rfl := Option.some.inj r49
   exact k28 n24 _ _ (Nat.lt_succ_self _) ⟨(i0 + 1), hn27, ha_, rfl⟩
  have r50 := ite_f h31 hz26
  refine w_exit (th_exit (th_exit (bl_eq ?_)))
  obtain rfl := Option.some.inj r50
  obtain rfl := it_inr hn27
  exact k16 _ _ ⟨_, rfl, trivial, rfl⟩
 obtain ⟨o10, rfl, hh17, rfl⟩ := hM
 have r51 := elim_inr r12
 obtain ⟨β, rfl⟩ := has_ex hh17
 clear hh17
 refine k8 _ _ (w_seqk fun _ k52 => g_' (q_ (.bool true) (s_nil (k52 _ _ ?_))))
 refine w_ret ?_
 refine b_ret (fn := Tryz.f45) (vs := [.bool true]) (aRes_tmp (by kernel_rfl) (rfl)) ?_
 obtain rfl := Option.some.inj r51
 exact ⟨rfl, rfl⟩
theorem c_viaductref10_SameLinks {H : AH} {hd_a : Value} {fp_a : Fp} {hd_b : Value} {fp_b : Fp} {a : List (Int × Int × Int × Int)} {b : List (Int × Int × Int × Int)} {r : Bool}
    (wf : WF H) (h_a : Sq enc_u32_u64_u32_u32 4 H hd_a a fp_a) (h_b : Sq enc_u32_u64_u32_u32 4 H hd_b b fp_b) (hr : z_viaductref10_SameLinks a b = some r) :
    ACalls Tryz.prog 46 #[hd_a, hd_b] H fun v H' => v = .bool r ∧ H = H' := by
 refine acalls_of_body mixed Tryz.func46 rfl (Nat.le_of_ble_eq_true rfl) ?_
 unfold z_viaductref10_SameLinks at hr
 refine w_seqk fun _ k1 => g_' (q_ (.bool false) (s_nil (k1 _ _ (w_seqk fun _ k2 => w_seqk fun _ k3 => g_' (q_ (hd_a) ?_)))))
 refine l_' (i_ (a.length : Int)) (aLen Tryz.prog 23 hd_a H) (h_a.lenb (by kernel_rfl)) ?_
 refine q_ (hd_b) ?_
 refine l_' (i_ (b.length : Int)) (aLen Tryz.prog 23 hd_b H) (h_b.lenb (by kernel_rfl)) ?_
 refine q_ (.bool (!decide ((a.length : Int) = (b.length : Int)))) (s_nil (k3 _ _ ?_))
 refine w_condn ((a.length : Int) = (b.length : Int)) (by kernel_rfl) rfl (fun h4 => ?_) (fun h4 => ?_)
 ·have r5 := ite_f h4 hr
  refine w_seqk fun _ k6 => g_' (q_ (.bool false) (s_nil (k6 _ _ ?_)))
  refine w_ret (th_ret ?_)
  refine b_ret (fn := Tryz.f46) (vs := [.bool false]) (aRes_tmp (by kernel_rfl) (rfl)) ?_
  obtain rfl := Option.some.inj r5
  exact ⟨rfl, rfl⟩
 have r7 := ite_t h4 hr
 refine w_skip (k2 _ _ (w_seqk fun _ k8 => w_seqk fun _ k9 => g_' (q_ (hd_a) ?_)))
 refine l_' (i_ (a.length : Int)) (aLen Tryz.prog 23 hd_a H) (h_a.lenb (by kernel_rfl)) ?_
 refine q_ (i_ 0) (s_nil (k9 _ _ ?_))
 obtain ⟨z13, hx11, r12⟩ := bind_some r7
 refine w_mid (fun α H14 => ∃ o10, z13 = Sum.inr o10 ∧ Has α [] ∧ H = H14) (fun _ k16 => ?_) (fun α H14 hM => ?_)
 ·refine w_block ?_
  obtain ⟨n18, hn19⟩ := loopO_iff.1 hx11
  refine w_loopn (fun n α H20 => ∃ (i0 : Int), iterO (fun zz_ => z_viaductref10_SameLinks_l0 a b zz_) n i0 = some z13 ∧ Has α [(0, hd_a), (1, hd_b), (12, i_ (a.length : Int)), (13, i_ i0)] ∧ H = H20) n18 ⟨0, hn19, ha_, rfl⟩ ?_
  rintro n18 α H20 ⟨i0, hi23, hh22, rfl⟩ K28 k28
  obtain ⟨n24, z25, rfl, hz26, hn27⟩ := iter_succ hi23
  obtain ⟨β, rfl⟩ := has_ex hh22
  clear hh22
  replace hz26 : z_viaductref10_SameLinks_l0 a b i0 = some z25 := hz26
  unfold z_viaductref10_SameLinks_l0 at hz26
  refine w_seqk fun _ k29 => g_' (q_ (.bool (decide (i0 < (a.length : Int)))) (s_nil (k29 _ _ (w_seqk fun _ k30 => ?_))))
  refine w_condp (i0 < (a.length : Int)) (by kernel_rfl) rfl (fun h31 => ?_) (fun h31 => ?_)
  ·have r32 := ite_t h31 hz26
   refine w_skip (k30 _ _ (w_seqk fun _ k33 => w_block (w_seqk fun _ k34 => g_' (q_ (i_ i0) (q_ (i_ i0) (s_nil (k34 _ _ (w_seqk fun _ k35 => ?_))))))))
   refine w_draw [0, 1, 2, 3, 4, 5, 6, 7, 8] (by kernel_rfl) ?_
   refine e_' (hd_a) (e_' (i_ i0) ?_)
   obtain ⟨g36, r37⟩ := G_some r32
   refine m_' (elp hd_a 4 i0.toNat 0) (aIndexAddr Tryz.prog 23 hd_a (i_ i0)) (h_a.idxb (by kernel_rfl) g36 h31) ?_
   refine m_' (.agg #[.int .u32 ((gt a i0).1), .int .u64 ((gt a i0).2.1), .int .u32 ((gt a i0).2.2.1), .int .u32 ((gt a i0).2.2.2)]) (aLoad Tryz.prog 92 (elp hd_a 4 i0.toNat 0) H) (h_a.ld g36 h31 (by kernel_rfl)) ?_
   refine e_' (hd_b) (e_' (i_ i0) ?_)
   obtain ⟨g38, r39⟩ := G_some r37
   refine m_' (elp hd_b 4 i0.toNat 0) (aIndexAddr Tryz.prog 23 hd_b (i_ i0)) (h_b.idxb (by kernel_rfl) g36 g38) ?_
   refine m_' (.agg #[.int .u32 ((gt b i0).1), .int .u64 ((gt b i0).2.1), .int .u32 ((gt b i0).2.2.1), .int .u32 ((gt b i0).2.2.2)]) (aLoad Tryz.prog 92 (elp hd_b 4 i0.toNat 0) H) (h_b.ld g36 g38 (by kernel_rfl)) ?_
   refine m_' (.bool (!decide (((gt a i0).1) = ((gt b i0).1) ∧ ((gt a i0).2.1) = ((gt b i0).2.1) ∧ ((gt a i0).2.2.1) = ((gt b i0).2.2.1) ∧ ((gt a i0).2.2.2) = ((gt b i0).2.2.2)))) (aBin Tryz.prog .neq 92 (.tmp 19) (.tmp 23) (.agg #[.int .u32 ((gt a i0).1), .int .u64 ((gt a i0).2.1), .int .u32 ((gt a i0).2.2.1), .int .u32 ((gt a i0).2.2.2)]) (.agg #[.int .u32 ((gt b i0).1), .int .u64 ((gt b i0).2.1), .int .u32 ((gt b i0).2.2.1), .int .u32 ((gt b i0).2.2.2)])) (aBin_neq92 _ _ ((gt a i0).1) ((gt a i0).2.1) ((gt a i0).2.2.1) ((gt a i0).2.2.2) ((gt b i0).1) ((gt b i0).2.1) ((gt b i0).2.2.1) ((gt b i0).2.2.2)) ?_
   refine d_nil ?_
   refine k35 _ _ ?_
   refine w_condn (((gt a i0).1) = ((gt b i0).1) ∧ ((gt a i0).2.1) = ((gt b i0).2.1) ∧ ((gt a i0).2.2.1) = ((gt b i0).2.2.1) ∧ ((gt a i0).2.2.2) = ((gt b i0).2.2.2)) (by kernel_rfl) rfl (fun h40 => ?_) (fun h40 => ?_)
   ·have r41 := ite_f h40 r39
    refine w_seqk fun _ k42 => g_' (q_ (.bool false) (s_nil (k42 _ _ ?_)))
    refine w_ret (bl_ret (th_ret (th_ret (bl_ret (th_ret (th_ret ?_))))))
    obtain ⟨v43, hv44, hz45⟩ := map_some r41
    subst hz45
    obtain rfl := it_inr hn27
    have hq46 := elim_inl r12
    rw [hq46] at hv44
    refine b_ret (fn := Tryz.f46) (vs := [.bool false]) (aRes_tmp (by kernel_rfl) (rfl)) ?_
    obtain rfl := Option.some.inj hv44
    exact ⟨rfl, rfl⟩
   have r47 := ite_t h40 r39
   refine w_skip (k33 _ _ (g_' ?_))
   obtain ⟨g48, r49⟩ := G_some r47
   refine w_' (i0 + 1) (wrap64 (by have := g48; omega)) ?_
   refine q_ (i_ (i0 + 1)) (s_nil ?_)
   obtain rfl := Option.some.inj r49
   exact k28 n24 _ _ (Nat.lt_succ_self _) ⟨(i0 + 1), hn27, ha_, rfl⟩
  have r50 := ite_f h31 hz26
  refine w_exit (th_exit (th_exit (bl_eq ?_)))
  obtain rfl := Option.some.inj r50
  obtain rfl := it_inr hn27
  exact k16 _ _ ⟨_, rfl, trivial, rfl⟩
 obtain ⟨o10, rfl, hh17, rfl⟩ := hM
 have r51 := elim_inr r12
 obtain ⟨β, rfl⟩ := has_ex hh17
 clear hh17
 refine k8 _ _ (w_seqk fun _ k52 => g_' (q_ (.bool true) (s_nil (k52 _ _ ?_))))
 refine w_ret ?_
 refine b_ret (fn := Tryz.f46) (vs := [.bool true]) (aRes_tmp (by kernel_rfl) (rfl)) ?_
 obtain rfl := Option.some.inj r51
 exact ⟨rfl, rfl⟩
theorem c_viaductref10_Same {H : AH} {hd_Node : Value} {fp_Node : Fp} {hd_UpFirst : Value} {fp_UpFirst : Fp} {hd_Up : Value} {fp_Up : Fp} {hd_DownFirst : Value} {fp_DownFirst : Fp} {hd_Down : Value} {fp_Down : Fp} {hd_Node_ : Value} {fp_Node_ : Fp} {hd_UpFirst_ : Value} {fp_UpFirst_ : Fp} {hd_Up_ : Value} {fp_Up_ : Fp} {hd_DownFirst_ : Value} {fp_DownFirst_ : Fp} {hd_Down_ : Value} {fp_Down_ : Fp} {Node : List (Int)} {UpFirst : List (Int)} {Up : List (Int × Int × Int × Int)} {DownFirst : List (Int)} {Down : List (Int × Int × Int × Int)} {Node_ : List (Int)} {UpFirst_ : List (Int)} {Up_ : List (Int × Int × Int × Int)} {DownFirst_ : List (Int)} {Down_ : List (Int × Int × Int × Int)} {r : Bool}
    (wf : WF H) (h_Node : Sq (encI .u32) 1 H hd_Node Node fp_Node) (h_UpFirst : Sq (encI .u32) 1 H hd_UpFirst UpFirst fp_UpFirst) (h_Up : Sq enc_u32_u64_u32_u32 4 H hd_Up Up fp_Up) (h_DownFirst : Sq (encI .u32) 1 H hd_DownFirst DownFirst fp_DownFirst) (h_Down : Sq enc_u32_u64_u32_u32 4 H hd_Down Down fp_Down) (h_Node_ : Sq (encI .u32) 1 H hd_Node_ Node_ fp_Node_) (h_UpFirst_ : Sq (encI .u32) 1 H hd_UpFirst_ UpFirst_ fp_UpFirst_) (h_Up_ : Sq enc_u32_u64_u32_u32 4 H hd_Up_ Up_ fp_Up_) (h_DownFirst_ : Sq (encI .u32) 1 H hd_DownFirst_ DownFirst_ fp_DownFirst_) (h_Down_ : Sq enc_u32_u64_u32_u32 4 H hd_Down_ Down_ fp_Down_) (hr : z_viaductref10_Same Node UpFirst Up DownFirst Down Node_ UpFirst_ Up_ DownFirst_ Down_ = some r) :
    ACalls Tryz.prog 20 #[.agg #[hd_Node, hd_UpFirst, hd_Up, hd_DownFirst, hd_Down], .agg #[hd_Node_, hd_UpFirst_, hd_Up_, hd_DownFirst_, hd_Down_]] H fun v H' => v = .bool r ∧ FrS [] H H' := by
 refine acalls_of_body mixed Tryz.func20 rfl (Nat.le_of_ble_eq_true rfl) ?_
 unfold z_viaductref10_Same at hr
 refine w_seqk fun _ k1 => g_' ?_
 refine s_rwl wf [hd_Node, hd_UpFirst, hd_Up, hd_DownFirst, hd_Down] (one_cons (h_Node.one1) (one_cons (h_UpFirst.one1) (one_cons (h_Up.one1) (one_cons (h_DownFirst.one1) (one_cons (h_Down.one1) (one_nil)))))) (by kernel_rfl) fun b2 H3 e4 hb5 r6 => ?_
 have u13 := (h_Down_.ext e4)
 have u14 := (h_DownFirst_.ext e4)
 have u15 := (h_Up_.ext e4)
 have u16 := (h_UpFirst_.ext e4)
 have u17 := (h_Node_.ext e4)
 refine s_rwl e4.wf [hd_Node_, hd_UpFirst_, hd_Up_, hd_DownFirst_, hd_Down_] (one_cons (u17.one1) (one_cons (u16.one1) (one_cons (u15.one1) (one_cons (u14.one1) (one_cons (u13.one1) (one_nil)))))) (by kernel_rfl) fun b8 H9 e10 hb11 r12 => ?_
 refine q_ (.bool false) (s_nil (k1 _ _ (w_seqk fun _ k19 => g_' (q_ (pt_ b2 0) ?_))))
 have u20 := (r6.ext e10)
 refine l_' (hd_Node) (aLoad Tryz.prog 22 (pt_ b2 0) H9) (u20.ld (by kernel_rfl)) ?_
 refine q_ (pt_ b8 0) ?_
 refine l_' (hd_Node_) (aLoad Tryz.prog 22 (pt_ b8 0) H9) (r12.ld (by kernel_rfl)) ?_
 have u21 := ((h_Node.ext e4).ext e10)
 have u22 := (u17.ext e10)
 obtain ⟨y23, hy24, r25⟩ := bind_some hr
 refine s_ck 45 #[hd_Node, hd_Node_] (by kernel_rfl) (c_viaductref10_SameWords e10.wf u21 u22 hy24) ?_
 rintro _ _ ⟨rfl, rfl⟩
 by_cases h28 : y23 = true
 ·have r29 := ite_t h28 r25
  rw [h28]
  refine q_ (.bool true) (q_ (pt_ b2 1) ?_)
  refine l_' (hd_UpFirst) (aLoad Tryz.prog 22 (pt_ b2 1) H9) (u20.ld (by kernel_rfl)) ?_
  refine q_ (pt_ b8 1) ?_
  refine l_' (hd_UpFirst_) (aLoad Tryz.prog 22 (pt_ b8 1) H9) (r12.ld (by kernel_rfl)) ?_
  have u31 := ((h_UpFirst.ext e4).ext e10)
  have u32 := (u16.ext e10)
  obtain ⟨y33, hy34, r35⟩ := bind_some r29
  refine s_ck 45 #[hd_UpFirst, hd_UpFirst_] (by kernel_rfl) (c_viaductref10_SameWords e10.wf u31 u32 hy34) ?_
  rintro _ _ ⟨rfl, rfl⟩
  by_cases h38 : y33 = true
  ·have r39 := ite_t h38 r35
   rw [h38]
   refine q_ (.bool true) (q_ (.bool true) (q_ (pt_ b2 3) ?_))
   refine l_' (hd_DownFirst) (aLoad Tryz.prog 22 (pt_ b2 3) H9) (u20.ld (by kernel_rfl)) ?_
   refine q_ (pt_ b8 3) ?_
   refine l_' (hd_DownFirst_) (aLoad Tryz.prog 22 (pt_ b8 3) H9) (r12.ld (by kernel_rfl)) ?_
   have u41 := ((h_DownFirst.ext e4).ext e10)
   have u42 := (u14.ext e10)
   obtain ⟨y43, hy44, r45⟩ := bind_some r39
   refine s_ck 45 #[hd_DownFirst, hd_DownFirst_] (by kernel_rfl) (c_viaductref10_SameWords e10.wf u41 u42 hy44) ?_
   rintro _ _ ⟨rfl, rfl⟩
   by_cases h48 : y43 = true
   ·have r49 := ite_t h48 r45
    rw [h48]
    refine q_ (.bool true) (q_ (.bool true) (q_ (pt_ b2 2) ?_))
    refine l_' (hd_Up) (aLoad Tryz.prog 23 (pt_ b2 2) H9) (u20.ld (by kernel_rfl)) ?_
    refine q_ (pt_ b8 2) ?_
    refine l_' (hd_Up_) (aLoad Tryz.prog 23 (pt_ b8 2) H9) (r12.ld (by kernel_rfl)) ?_
    have u51 := ((h_Up.ext e4).ext e10)
    have u52 := (u15.ext e10)
    obtain ⟨y53, hy54, r55⟩ := bind_some r49
    refine s_ck 46 #[hd_Up, hd_Up_] (by kernel_rfl) (c_viaductref10_SameLinks e10.wf u51 u52 hy54) ?_
    rintro _ _ ⟨rfl, rfl⟩
    by_cases h58 : y53 = true
    ·have r59 := ite_t h58 r55
     rw [h58]
     refine q_ (.bool true) (q_ (.bool true) (q_ (pt_ b2 4) ?_))
     refine l_' (hd_Down) (aLoad Tryz.prog 23 (pt_ b2 4) H9) (u20.ld (by kernel_rfl)) ?_
     refine q_ (pt_ b8 4) ?_
     refine l_' (hd_Down_) (aLoad Tryz.prog 23 (pt_ b8 4) H9) (r12.ld (by kernel_rfl)) ?_
     have u61 := ((h_Down.ext e4).ext e10)
     have u62 := (u13.ext e10)
     obtain ⟨y63, hy64, r65⟩ := bind_some r59
     refine s_ck 46 #[hd_Down, hd_Down_] (by kernel_rfl) (c_viaductref10_SameLinks e10.wf u61 u62 hy64) ?_
     rintro _ _ ⟨rfl, rfl⟩
     refine q_ (.bool y63) (q_ (.bool y63) (s_nil (k19 _ _ ?_)))
     refine w_ret ?_
     refine b_ret (fn := Tryz.f20) (vs := [.bool y63]) (aRes_tmp (by kernel_rfl) (rfl)) ?_
     obtain rfl := Option.some.inj r65
     exact ⟨rfl, (((FrS.refl (W := []) wf).extR e4).extR e10)⟩
    have r68 := ite_f h58 r55
    rw [nb h58]
    refine q_ (.bool false) (q_ (.bool false) (n_' (n_' (n_' (n_' (n_' (q_ (.bool false) (q_ (.bool false) (s_nil (k19 _ _ ?_))))))))))
    refine w_ret ?_
    refine b_ret (fn := Tryz.f20) (vs := [.bool false]) (aRes_tmp (by kernel_rfl) (rfl)) ?_
    obtain rfl := Option.some.inj r68
    exact ⟨rfl, (((FrS.refl (W := []) wf).extR e4).extR e10)⟩
   have r70 := ite_f h48 r45
   rw [nb h48]
   refine q_ (.bool false) (q_ (.bool false) (n_' (n_' (n_' (n_' (n_' (q_ (.bool false) (q_ (.bool false) (n_' (n_' (n_' (n_' (n_' (q_ (.bool false) (q_ (.bool false) (s_nil (k19 _ _ ?_)))))))))))))))))
   refine w_ret ?_
   refine b_ret (fn := Tryz.f20) (vs := [.bool false]) (aRes_tmp (by kernel_rfl) (rfl)) ?_
   obtain rfl := Option.some.inj r70
   exact ⟨rfl, (((FrS.refl (W := []) wf).extR e4).extR e10)⟩
  have r72 := ite_f h38 r35
  rw [nb h38]
  refine q_ (.bool false) (q_ (.bool false) (n_' (n_' (n_' (n_' (n_' (q_ (.bool false) (q_ (.bool false) (n_' (n_' (n_' (n_' (n_' (q_ (.bool false) (q_ (.bool false) (n_' (n_' (n_' (n_' (n_' (q_ (.bool false) (q_ (.bool false) (s_nil (k19 _ _ ?_))))))))))))))))))))))))
  refine w_ret ?_
  refine b_ret (fn := Tryz.f20) (vs := [.bool false]) (aRes_tmp (by kernel_rfl) (rfl)) ?_
  obtain rfl := Option.some.inj r72
  exact ⟨rfl, (((FrS.refl (W := []) wf).extR e4).extR e10)⟩
 have r74 := ite_f h28 r25
 rw [nb h28]
 refine q_ (.bool false) (n_' (n_' (n_' (n_' (n_' (q_ (.bool false) (q_ (.bool false) (n_' (n_' (n_' (n_' (n_' (q_ (.bool false) (q_ (.bool false) (n_' (n_' (n_' (n_' (n_' (q_ (.bool false) (q_ (.bool false) (n_' (n_' (n_' (n_' (n_' (q_ (.bool false) (q_ (.bool false) (s_nil (k19 _ _ ?_))))))))))))))))))))))))))))))
 refine w_ret ?_
 refine b_ret (fn := Tryz.f20) (vs := [.bool false]) (aRes_tmp (by kernel_rfl) (rfl)) ?_
 obtain rfl := Option.some.inj r74
 exact ⟨rfl, (((FrS.refl (W := []) wf).extR e4).extR e10)⟩
end Go.Vd

/-! (KHc9) -/

set_option maxRecDepth 100000
set_option maxHeartbeats 4000000
set_option linter.unusedVariables false
namespace Go.Vd
open Go.Proofs
attribute [local irreducible] wpSeq wpOrd aWp
theorem c_viaductlaw10_HierChecks {H : AH} {hd_Node : Value} {fp_Node : Fp} {hd_UpFirst : Value} {fp_UpFirst : Fp} {hd_Up : Value} {fp_Up : Fp} {hd_DownFirst : Value} {fp_DownFirst : Fp} {hd_Down : Value} {fp_Down : Fp} {Node : List (Int)} {UpFirst : List (Int)} {Up : List (Int × Int × Int × Int)} {DownFirst : List (Int)} {Down : List (Int × Int × Int × Int)} {i : Int} {r : Bool}
    (wf : WF H) (h_Node : Sq (encI .u32) 1 H hd_Node Node fp_Node) (h_UpFirst : Sq (encI .u32) 1 H hd_UpFirst UpFirst fp_UpFirst) (h_Up : Sq enc_u32_u64_u32_u32 4 H hd_Up Up fp_Up) (h_DownFirst : Sq (encI .u32) 1 H hd_DownFirst DownFirst fp_DownFirst) (h_Down : Sq enc_u32_u64_u32_u32 4 H hd_Down Down fp_Down) (hr : z_viaductlaw10_HierChecks Node UpFirst Up DownFirst Down i = some r) :
    ACalls Tryz.prog 3 #[.agg #[hd_Node, hd_UpFirst, hd_Up, hd_DownFirst, hd_Down], i_ i] H fun v H' => v = .bool r ∧ FrS [] H H' := by
 refine acalls_of_body mixed Tryz.func3 rfl (Nat.le_of_ble_eq_true rfl) ?_
 unfold z_viaductlaw10_HierChecks at hr
 refine w_seqk fun _ k1 => g_' ?_
 refine s_rwl wf [hd_Node, hd_UpFirst, hd_Up, hd_DownFirst, hd_Down] (one_cons (h_Node.one1) (one_cons (h_UpFirst.one1) (one_cons (h_Up.one1) (one_cons (h_DownFirst.one1) (one_cons (h_Down.one1) (one_nil)))))) (by kernel_rfl) fun b2 H3 e4 hb5 r6 => ?_
 refine q_ (.bool false) (s_nil (k1 _ _ (w_seqk fun _ k8 => w_seqk fun _ k9 => g_' ?_)))
 obtain ⟨y10, hy11, r12⟩ := bind_some hr
 refine s_ck 4 #[] (by kernel_rfl) (c_viaductlaw10_awake e4.wf hy11) ?_
 rintro _ H13 ⟨rfl, e14⟩
 refine q_ (.bool (!y10)) (s_nil (k9 _ _ ?_))
 refine w_cond ((!y10)) (by kernel_rfl) rfl (fun h15 => ?_) (fun h15 => ?_)
 ·have r16 := ite_t h15 r12
  refine w_seqk fun _ k17 => g_' (q_ (.bool false) (s_nil (k17 _ _ ?_)))
  refine w_ret (th_ret ?_)
  refine b_ret (fn := Tryz.f3) (vs := [.bool false]) (aRes_tmp (by kernel_rfl) (rfl)) ?_
  obtain rfl := Option.some.inj r16
  exact ⟨rfl, (FrS.step wf ((FrS.refl (W := []) wf).extR e4) e14 Inn.nil)⟩
 have r18 := ite_bf h15 r12
 refine w_skip (k8 _ _ (w_seqk fun _ k19 => w_seqk fun _ k20 => g_' ?_))
 have u21 := (r6.frS e14 Dj.nil_l)
 refine l_' (.agg #[hd_Node, hd_UpFirst, hd_Up, hd_DownFirst, hd_Down]) (aLoad Tryz.prog 25 (pt_ b2 0) H13) (u21.ld (by kernel_rfl)) ?_
 have u22 := ((h_Node.ext e4).fr e14 Dj.nil_l)
 have u23 := ((h_UpFirst.ext e4).fr e14 Dj.nil_l)
 have u24 := ((h_Up.ext e4).fr e14 Dj.nil_l)
 have u25 := ((h_DownFirst.ext e4).fr e14 Dj.nil_l)
 have u26 := ((h_Down.ext e4).fr e14 Dj.nil_l)
 obtain ⟨y27, hy28, r29⟩ := bind_some r18
 refine s_ck 5 #[.agg #[hd_Node, hd_UpFirst, hd_Up, hd_DownFirst, hd_Down]] (by kernel_rfl) (c_viaductlaw10_great e14.wf u22 u23 u24 u25 u26 hy28) ?_
 rintro _ H30 ⟨rfl, e31⟩
 refine s_nil (k20 _ _ ?_)
 refine w_cond (y27) (by kernel_rfl) rfl (fun h32 => ?_) (fun h32 => ?_)
 ·have r33 := ite_t h32 r29
  refine w_seqk fun _ k34 => g_' (q_ (.bool true) (s_nil (k34 _ _ ?_)))
  refine w_ret (th_ret ?_)
  refine b_ret (fn := Tryz.f3) (vs := [.bool true]) (aRes_tmp (by kernel_rfl) (rfl)) ?_
  obtain rfl := Option.some.inj r33
  exact ⟨rfl, (FrS.step wf (FrS.step wf ((FrS.refl (W := []) wf).extR e4) e14 Inn.nil) e31 Inn.nil)⟩
 have r35 := ite_bf h32 r29
 refine w_skip (k19 _ _ (w_seqk fun _ k36 => w_seqk fun _ k37 => ?_))
 refine w_draw [0, 3, 1, 2, 4, 5, 6] (by kernel_rfl) ?_
 have u38 := (u21.frS e31 Dj.nil_l)
 refine m_' (.agg #[hd_Node, hd_UpFirst, hd_Up, hd_DownFirst, hd_Down]) (aLoad Tryz.prog 25 (pt_ b2 0) H30) (u38.ld (by kernel_rfl)) ?_
 refine d_fl (.agg #[hd_Node, hd_UpFirst, hd_Up, hd_DownFirst, hd_Down]) (x := aLoad Tryz.prog 25 (pt_ b2 0) H30) (by kernel_rfl) (u38.ld (by kernel_rfl)) ?_
 have u39 := (u22.fr e31 Dj.nil_l)
 have u40 := (u23.fr e31 Dj.nil_l)
 have u41 := (u24.fr e31 Dj.nil_l)
 have u42 := (u25.fr e31 Dj.nil_l)
 have u43 := (u26.fr e31 Dj.nil_l)
 obtain ⟨y44, hy45, r46⟩ := bind_some r35
 refine d_ck 8 #[.agg #[hd_Node, hd_UpFirst, hd_Up, hd_DownFirst, hd_Down]] (by kernel_rfl) (c_viaductref10_Twin e31.wf u39 u40 u41 u42 u43 hy45) ?_
 rintro _ H57 ⟨s47, f48, s49, f50, s51, f52, s53, f54, s55, f56, rfl, e58, m59, m60, m61, m62, m63, i64, i65, i66, i67, i68, d69, d70, d71, d72, d73, d74, d75, d76, d77, d78⟩
 obtain ⟨a84, n85, c86, rfl⟩ := m59.form
 obtain ⟨a87, n88, c89, rfl⟩ := m60.form
 obtain ⟨a90, n91, c92, rfl⟩ := m61.form
 obtain ⟨a93, n94, c95, rfl⟩ := m62.form
 obtain ⟨a96, n97, c98, rfl⟩ := m63.form
 have u99 := (u38.frS e58 Dj.nil_l)
 refine ⟨st_ql (y := aLoad Tryz.prog 25 (pt_ b2 0) H57) (by kernel_rfl) (u99.ld (by kernel_rfl)) (st_nil), ?_⟩
 obtain ⟨y100, hy101, r102⟩ := bind_some r46
 refine d_ck 7 #[.agg #[.slice a84 n85 c86, .slice a87 n88 c89, .slice a90 n91 c92, .slice a93 n94 c95, .slice a96 n97 c98]] (by kernel_rfl) (c_hier_Check e58.wf m59.sq m60.sq m61.sq m62.sq m63.sq hy101) ?_
 rintro v103 H105 ⟨_, f104, rfl, e106, m107, i108⟩
 have u110 := (u99.frS e106 Dj.nil_l)
 refine ⟨st_ql (y := aLoad Tryz.prog 25 (pt_ b2 0) H105) (by kernel_rfl) (u110.ld (by kernel_rfl)) (st_nil), ?_⟩
 have u111 := ((u39.fr e58 Dj.nil_l).fr e106 Dj.nil_l)
 have u112 := ((u40.fr e58 Dj.nil_l).fr e106 Dj.nil_l)
 have u113 := ((u41.fr e58 Dj.nil_l).fr e106 Dj.nil_l)
 have u114 := ((u42.fr e58 Dj.nil_l).fr e106 Dj.nil_l)
 have u115 := ((u43.fr e58 Dj.nil_l).fr e106 Dj.nil_l)
 obtain ⟨y116, hy117, r118⟩ := bind_some r102
 refine d_ck 9 #[.agg #[hd_Node, hd_UpFirst, hd_Up, hd_DownFirst, hd_Down]] (by kernel_rfl) (c_viaductref10_DocCheck e106.wf u111 u112 u113 u114 u115 hy117) ?_
 rintro _ H121 ⟨s119, f120, rfl, e122, m123, i124⟩
 obtain ⟨a126, n127, c128, rfl⟩ := m123.form
 refine ⟨st_anc (by kernel_rfl) (st_nil), ?_⟩
 have u129 := (m107.fr e122 Dj.nil_l)
 obtain ⟨y130, hy131, r132⟩ := bind_some r118
 refine d_ck 6 #[v103, .agg #[i_ y116.1, .slice a126 n127 c128]] (by kernel_rfl) (c_viaductseen_Same e122.wf u129 m123 hy131) ?_
 rintro _ H133 ⟨rfl, e134⟩
 refine ⟨st_anc (by kernel_rfl) (st_nil), ?_⟩
 refine e_' (.bool (!y130)) ?_
 refine d_nil ?_
 refine k37 _ _ ?_
 refine w_cond ((!y130)) (by kernel_rfl) rfl (fun h135 => ?_) (fun h135 => ?_)
 ·have r136 := ite_t h135 r132
  refine w_seqk fun _ k137 => g_' (q_ (.bool false) (s_nil (k137 _ _ ?_)))
  refine w_ret (th_ret ?_)
  refine b_ret (fn := Tryz.f3) (vs := [.bool false]) (aRes_tmp (by kernel_rfl) (rfl)) ?_
  obtain rfl := Option.some.inj r136
  exact ⟨rfl, (FrS.step wf (FrS.step wf (FrS.step wf (FrS.step wf (FrS.step wf (FrS.step wf ((FrS.refl (W := []) wf).extR e4) e14 Inn.nil) e31 Inn.nil) e58 Inn.nil) e106 Inn.nil) e122 Inn.nil) e134 Inn.nil)⟩
 have r138 := ite_bf h135 r132
 refine w_skip (k36 _ _ (w_seqk fun _ k139 => g_' ?_))
 have u140 := ((u110.frS e122 Dj.nil_l).frS e134 Dj.nil_l)
 refine l_' (.agg #[hd_Node, hd_UpFirst, hd_Up, hd_DownFirst, hd_Down]) (aLoad Tryz.prog 25 (pt_ b2 0) H133) (u140.ld (by kernel_rfl)) ?_
 have u141 := ((u111.fr e122 Dj.nil_l).fr e134 Dj.nil_l)
 have u142 := ((u112.fr e122 Dj.nil_l).fr e134 Dj.nil_l)
 have u143 := ((u113.fr e122 Dj.nil_l).fr e134 Dj.nil_l)
 have u144 := ((u114.fr e122 Dj.nil_l).fr e134 Dj.nil_l)
 have u145 := ((u115.fr e122 Dj.nil_l).fr e134 Dj.nil_l)
 obtain ⟨y146, hy147, r148⟩ := bind_some r138
 refine s_ck 8 #[.agg #[hd_Node, hd_UpFirst, hd_Up, hd_DownFirst, hd_Down]] (by kernel_rfl) (c_viaductref10_Twin e134.wf u141 u142 u143 u144 u145 hy147) ?_
 rintro _ H159 ⟨s149, f150, s151, f152, s153, f154, s155, f156, s157, f158, rfl, e160, m161, m162, m163, m164, m165, i166, i167, i168, i169, i170, d171, d172, d173, d174, d175, d176, d177, d178, d179, d180⟩
 obtain ⟨a186, n187, c188, rfl⟩ := m161.form
 obtain ⟨a189, n190, c191, rfl⟩ := m162.form
 obtain ⟨a192, n193, c194, rfl⟩ := m163.form
 obtain ⟨a195, n196, c197, rfl⟩ := m164.form
 obtain ⟨a198, n199, c200, rfl⟩ := m165.form
 refine q_ (i_ i) ?_
 obtain ⟨y201, hy202, r203⟩ := bind_some r148
 refine s_ck 10 #[.agg #[.slice a186 n187 c188, .slice a189 n190 c191, .slice a192 n193 c194, .slice a195 n196 c197, .slice a198 n199 c200], i_ i] (by kernel_rfl) (c_hier_Ends e160.wf m161.sq m162.sq m163.sq m164.sq m165.sq hy202) ?_
 rintro _ H206 ⟨v204, f205, rfl, e207, m208, i209⟩
 refine q_ (.tuple #[i_ y201.1, i_ y201.2.1, v204]) (q_ (i_ y201.1) (q_ (i_ y201.2.1) (q_ (v204) (q_ (i_ y201.1) (q_ (i_ y201.2.1) (q_ (v204) (s_nil (k139 _ _ (w_seqk fun _ k211 => g_' ?_)))))))))
 have u212 := ((u140.frS e160 Dj.nil_l).frS e207 Dj.nil_l)
 refine l_' (.agg #[hd_Node, hd_UpFirst, hd_Up, hd_DownFirst, hd_Down]) (aLoad Tryz.prog 25 (pt_ b2 0) H206) (u212.ld (by kernel_rfl)) ?_
 refine q_ (i_ i) ?_
 have u213 := ((u141.fr e160 Dj.nil_l).fr e207 Dj.nil_l)
 have u214 := ((u142.fr e160 Dj.nil_l).fr e207 Dj.nil_l)
 have u215 := ((u143.fr e160 Dj.nil_l).fr e207 Dj.nil_l)
 have u216 := ((u144.fr e160 Dj.nil_l).fr e207 Dj.nil_l)
 have u217 := ((u145.fr e160 Dj.nil_l).fr e207 Dj.nil_l)
 obtain ⟨y218, hy219, r220⟩ := bind_some r203
 refine s_ck 11 #[.agg #[hd_Node, hd_UpFirst, hd_Up, hd_DownFirst, hd_Down], i_ i] (by kernel_rfl) (c_viaductref10_DocEnds e207.wf u213 u214 u215 u216 u217 hy219) ?_
 rintro _ H223 ⟨s221, f222, rfl, e224, m225, i226⟩
 obtain ⟨a228, n229, c230, rfl⟩ := m225.form
 refine q_ (.tuple #[i_ y218.1, i_ y218.2.1, .agg #[i_ y218.2.2.1, .slice a228 n229 c230]]) (q_ (i_ y218.1) (q_ (i_ y218.2.1) (q_ (.agg #[i_ y218.2.2.1, .slice a228 n229 c230]) ?_)))
 refine s_rwk e224.wf [i_ 0, .slice none 0 0] (by kernel_rfl) fun b231 H232 e233 hb234 r235 => ?_
 refine q_ (i_ y218.1) (q_ (i_ y218.2.1) ?_)
 have u241 := (m225.ext e233)
 obtain ⟨H237, q238, e239, r240⟩ := Row.store (P := Tryz.prog) (t := 35) (p := 0) e233.wf r235 (.agg #[i_ y218.2.2.1, .slice a228 n229 c230]) [i_ y218.2.2.1, .slice a228 n229 c230] (by kernel_rfl) (by kernel_rfl) (one_cons (rfl) (one_cons (u241.one1) (one_nil))) (Nat.le_of_ble_eq_true (by kernel_rfl)) [i_ y218.2.2.1, .slice a228 n229 c230] (by kernel_rfl)
 refine s_ek (undef) (by kernel_rfl) (map_ok q238) ?_
 refine s_nil (k211 _ _ (w_seqk fun _ k242 => w_seqk fun _ k243 => ?_))
 obtain ⟨o244, hx245, r246⟩ := bind_some r220
 refine w_mid (fun α H247 => Has α [(2, pt_ b2 0), (10, pt_ b231 0), (56, .bool o244)] ∧ FrS [] H237 H247) (fun _ k249 => ?_) (fun α H247 hM => ?_)
 ·refine g_' (q_ (i_ y201.1) (q_ (i_ y218.1) ?_))
  refine s_bn (y201.1 = y218.1) (by kernel_rfl) (fun h251 => ?_) (fun h251 => ?_)
  ·have r252 := ite_t h251 hx245
   refine q_ (.bool false) (q_ (i_ y201.2.1) (q_ (i_ y218.2.1) ?_))
   refine s_bn (y201.2.1 = y218.2.1) (by kernel_rfl) (fun h253 => ?_) (fun h253 => ?_)
   ·have r254 := ite_t h253 r252
    refine q_ (.bool false) (q_ (.bool false) (q_ (v204) ?_))
    refine l_' (.agg #[i_ y218.2.2.1, .slice a228 n229 c230]) (aLoad Tryz.prog 35 (pt_ b231 0) H237) (r240.ld (by kernel_rfl)) ?_
    have u255 := (((m208.fr e224 Dj.nil_l).ext e233).fr e239 (hb234.djn (m208.lt.le e224.next)))
    have u256 := (u241.fr e239 (hb234.djn m225.lt))
    obtain ⟨y257, hy258, r259⟩ := bind_some r254
    refine s_ck 6 #[v204, .agg #[i_ y218.2.2.1, .slice a228 n229 c230]] (by kernel_rfl) (c_viaductseen_Same e239.wf u255 u256 hy258) ?_
    rintro _ H260 ⟨rfl, e261⟩
    refine q_ (.bool (!y257)) (q_ (.bool (!y257)) (s_nil ?_))
    obtain rfl := Option.some.inj r259
    exact k249 _ _ ⟨ha_, (FrS.step e239.wf (FrS.refl (W := []) e239.wf) e261 Inn.nil)⟩
   have r262 := ite_f h253 r252
   refine q_ (.bool true) (q_ (.bool true) (n_' (n_' (n_' (n_' (q_ (.bool true) (s_nil ?_)))))))
   obtain rfl := Option.some.inj r262
   exact k249 _ _ ⟨ha_, (FrS.refl (W := []) e239.wf)⟩
  have r263 := ite_f h251 hx245
  refine q_ (.bool true) (n_' (n_' (n_' (q_ (.bool true) (q_ (.bool true) (n_' (n_' (n_' (n_' (q_ (.bool true) (s_nil ?_)))))))))))
  obtain rfl := Option.some.inj r263
  exact k249 _ _ ⟨ha_, (FrS.refl (W := []) e239.wf)⟩
 obtain ⟨hh250, e248⟩ := hM
 obtain ⟨β, rfl⟩ := has_ex hh250
 clear hh250
 refine k243 _ _ ?_
 refine w_cond (o244) (by kernel_rfl) rfl (fun h264 => ?_) (fun h264 => ?_)
 ·have r265 := ite_t h264 r246
  refine w_seqk fun _ k266 => g_' (q_ (.bool false) (s_nil (k266 _ _ ?_)))
  refine w_ret (th_ret ?_)
  refine b_ret (fn := Tryz.f3) (vs := [.bool false]) (aRes_tmp (by kernel_rfl) (rfl)) ?_
  obtain rfl := Option.some.inj r265
  exact ⟨rfl, (FrS.step wf (FrS.step wf ((FrS.step wf (FrS.step wf (FrS.step wf (FrS.step wf (FrS.step wf (FrS.step wf (FrS.step wf (FrS.step wf (FrS.step wf ((FrS.refl (W := []) wf).extR e4) e14 Inn.nil) e31 Inn.nil) e58 Inn.nil) e106 Inn.nil) e122 Inn.nil) e134 Inn.nil) e160 Inn.nil) e207 Inn.nil) e224 Inn.nil).extR e233) e239 (hb234.fresh (ntr (ntr (ntr (ntr (ntr (ntr (ntr (ntr (ntr e4.next e14.next) e31.next) e58.next) e106.next) e122.next) e134.next) e160.next) e207.next) e224.next))) e248 Inn.nil)⟩
 have r267 := ite_bf h264 r246
 refine w_skip (k242 _ _ (w_seqk fun _ k268 => g_' ?_))
 have u269 := ((((u212.frS e224 Dj.nil_l).ext e233).frS e239 (hb234.djn (r6.ltF.le (ntr (ntr (ntr (ntr (ntr (ntr (ntr (ntr e14.next e31.next) e58.next) e106.next) e122.next) e134.next) e160.next) e207.next) e224.next)))).frS e248 Dj.nil_l)
 refine l_' (.agg #[hd_Node, hd_UpFirst, hd_Up, hd_DownFirst, hd_Down]) (aLoad Tryz.prog 25 (pt_ b2 0) H247) (u269.ld (by kernel_rfl)) ?_
 have u270 := ((((u213.fr e224 Dj.nil_l).ext e233).fr e239 (hb234.djn (h_Node.lt.le (ntr (ntr (ntr (ntr (ntr (ntr (ntr (ntr (ntr e4.next e14.next) e31.next) e58.next) e106.next) e122.next) e134.next) e160.next) e207.next) e224.next)))).fr e248 Dj.nil_l)
 have u271 := ((((u214.fr e224 Dj.nil_l).ext e233).fr e239 (hb234.djn (h_UpFirst.lt.le (ntr (ntr (ntr (ntr (ntr (ntr (ntr (ntr (ntr e4.next e14.next) e31.next) e58.next) e106.next) e122.next) e134.next) e160.next) e207.next) e224.next)))).fr e248 Dj.nil_l)
 have u272 := ((((u215.fr e224 Dj.nil_l).ext e233).fr e239 (hb234.djn (h_Up.lt.le (ntr (ntr (ntr (ntr (ntr (ntr (ntr (ntr (ntr e4.next e14.next) e31.next) e58.next) e106.next) e122.next) e134.next) e160.next) e207.next) e224.next)))).fr e248 Dj.nil_l)
 have u273 := ((((u216.fr e224 Dj.nil_l).ext e233).fr e239 (hb234.djn (h_DownFirst.lt.le (ntr (ntr (ntr (ntr (ntr (ntr (ntr (ntr (ntr e4.next e14.next) e31.next) e58.next) e106.next) e122.next) e134.next) e160.next) e207.next) e224.next)))).fr e248 Dj.nil_l)
 have u274 := ((((u217.fr e224 Dj.nil_l).ext e233).fr e239 (hb234.djn (h_Down.lt.le (ntr (ntr (ntr (ntr (ntr (ntr (ntr (ntr (ntr e4.next e14.next) e31.next) e58.next) e106.next) e122.next) e134.next) e160.next) e207.next) e224.next)))).fr e248 Dj.nil_l)
 obtain ⟨y275, hy276, r277⟩ := bind_some r267
 refine s_ck 8 #[.agg #[hd_Node, hd_UpFirst, hd_Up, hd_DownFirst, hd_Down]] (by kernel_rfl) (c_viaductref10_Twin e248.wf u270 u271 u272 u273 u274 hy276) ?_
 rintro _ H288 ⟨s278, f279, s280, f281, s282, f283, s284, f285, s286, f287, rfl, e289, m290, m291, m292, m293, m294, i295, i296, i297, i298, i299, d300, d301, d302, d303, d304, d305, d306, d307, d308, d309⟩
 obtain ⟨a315, n316, c317, rfl⟩ := m290.form
 obtain ⟨a318, n319, c320, rfl⟩ := m291.form
 obtain ⟨a321, n322, c323, rfl⟩ := m292.form
 obtain ⟨a324, n325, c326, rfl⟩ := m293.form
 obtain ⟨a327, n328, c329, rfl⟩ := m294.form
 obtain ⟨y330, hy331, r332⟩ := bind_some r277
 refine s_ck 12 #[.agg #[.slice a315 n316 c317, .slice a318 n319 c320, .slice a321 n322 c323, .slice a324 n325 c326, .slice a327 n328 c329]] (by kernel_rfl) (c_hier_Graph e289.wf m290.sq m291.sq m292.sq m293.sq m294.sq hy331) ?_
 rintro _ H337 ⟨s333, f334, v335, f336, rfl, e338, m339, m340, i341, i342, d343⟩
 obtain ⟨a346, n347, c348, rfl⟩ := m339.form
 refine q_ (.tuple #[.agg #[i_ y330.1, .slice a346 n347 c348], v335]) (q_ (.agg #[i_ y330.1, .slice a346 n347 c348]) (q_ (v335) ?_))
 refine s_rwk e338.wf [i_ 0, .slice none 0 0] (by kernel_rfl) fun b349 H350 e351 hb352 r353 => ?_
 have u359 := (m339.ext e351)
 obtain ⟨H355, q356, e357, r358⟩ := Row.store (P := Tryz.prog) (t := 43) (p := 0) e351.wf r353 (.agg #[i_ y330.1, .slice a346 n347 c348]) [i_ y330.1, .slice a346 n347 c348] (by kernel_rfl) (by kernel_rfl) (one_cons (rfl) (one_cons (u359.one1) (one_nil))) (Nat.le_of_ble_eq_true (by kernel_rfl)) [i_ y330.1, .slice a346 n347 c348] (by kernel_rfl)
 refine s_ek (undef) (by kernel_rfl) (map_ok q356) ?_
 refine q_ (v335) (s_nil (k268 _ _ (w_seqk fun _ k360 => g_' ?_)))
 have u361 := ((((u269.frS e289 Dj.nil_l).frS e338 Dj.nil_l).ext e351).frS e357 (hb352.djn (r6.ltF.le (ntr (ntr (ntr (ntr (ntr (ntr (ntr (ntr (ntr (ntr (ntr (ntr (ntr e14.next e31.next) e58.next) e106.next) e122.next) e134.next) e160.next) e207.next) e224.next) e233.next) e239.next) e248.next) e289.next) e338.next))))
 refine l_' (.agg #[hd_Node, hd_UpFirst, hd_Up, hd_DownFirst, hd_Down]) (aLoad Tryz.prog 25 (pt_ b2 0) H355) (u361.ld (by kernel_rfl)) ?_
 have u362 := ((((u270.fr e289 Dj.nil_l).fr e338 Dj.nil_l).ext e351).fr e357 (hb352.djn (h_Node.lt.le (ntr (ntr (ntr (ntr (ntr (ntr (ntr (ntr (ntr (ntr (ntr (ntr (ntr (ntr e4.next e14.next) e31.next) e58.next) e106.next) e122.next) e134.next) e160.next) e207.next) e224.next) e233.next) e239.next) e248.next) e289.next) e338.next))))
 have u363 := ((((u271.fr e289 Dj.nil_l).fr e338 Dj.nil_l).ext e351).fr e357 (hb352.djn (h_UpFirst.lt.le (ntr (ntr (ntr (ntr (ntr (ntr (ntr (ntr (ntr (ntr (ntr (ntr (ntr (ntr e4.next e14.next) e31.next) e58.next) e106.next) e122.next) e134.next) e160.next) e207.next) e224.next) e233.next) e239.next) e248.next) e289.next) e338.next))))
 have u364 := ((((u272.fr e289 Dj.nil_l).fr e338 Dj.nil_l).ext e351).fr e357 (hb352.djn (h_Up.lt.le (ntr (ntr (ntr (ntr (ntr (ntr (ntr (ntr (ntr (ntr (ntr (ntr (ntr (ntr e4.next e14.next) e31.next) e58.next) e106.next) e122.next) e134.next) e160.next) e207.next) e224.next) e233.next) e239.next) e248.next) e289.next) e338.next))))
 have u365 := ((((u273.fr e289 Dj.nil_l).fr e338 Dj.nil_l).ext e351).fr e357 (hb352.djn (h_DownFirst.lt.le (ntr (ntr (ntr (ntr (ntr (ntr (ntr (ntr (ntr (ntr (ntr (ntr (ntr (ntr e4.next e14.next) e31.next) e58.next) e106.next) e122.next) e134.next) e160.next) e207.next) e224.next) e233.next) e239.next) e248.next) e289.next) e338.next))))
 have u366 := ((((u274.fr e289 Dj.nil_l).fr e338 Dj.nil_l).ext e351).fr e357 (hb352.djn (h_Down.lt.le (ntr (ntr (ntr (ntr (ntr (ntr (ntr (ntr (ntr (ntr (ntr (ntr (ntr (ntr e4.next e14.next) e31.next) e58.next) e106.next) e122.next) e134.next) e160.next) e207.next) e224.next) e233.next) e239.next) e248.next) e289.next) e338.next))))
 obtain ⟨y367, hy368, r369⟩ := bind_some r332
 refine s_ck 13 #[.agg #[hd_Node, hd_UpFirst, hd_Up, hd_DownFirst, hd_Down]] (by kernel_rfl) (c_viaductref10_DocGraph e357.wf u362 u363 u364 u365 u366 hy368) ?_
 rintro _ H374 ⟨s370, f371, s372, f373, rfl, e375, m376, m377, i378, i379, d380⟩
 obtain ⟨a383, n384, c385, rfl⟩ := m376.form
 obtain ⟨a386, n387, c388, rfl⟩ := m377.form
 refine q_ (.tuple #[.agg #[i_ y367.1, .slice a383 n384 c385], .agg #[i_ y367.2.2.1, .slice a386 n387 c388]]) (q_ (.agg #[i_ y367.1, .slice a383 n384 c385]) (q_ (.agg #[i_ y367.2.2.1, .slice a386 n387 c388]) ?_))
 refine s_rwk e375.wf [i_ 0, .slice none 0 0] (by kernel_rfl) fun b389 H390 e391 hb392 r393 => ?_
 have u399 := (m376.ext e391)
 obtain ⟨H395, q396, e397, r398⟩ := Row.store (P := Tryz.prog) (t := 43) (p := 0) e391.wf r393 (.agg #[i_ y367.1, .slice a383 n384 c385]) [i_ y367.1, .slice a383 n384 c385] (by kernel_rfl) (by kernel_rfl) (one_cons (rfl) (one_cons (u399.one1) (one_nil))) (Nat.le_of_ble_eq_true (by kernel_rfl)) [i_ y367.1, .slice a383 n384 c385] (by kernel_rfl)
 refine s_ek (undef) (by kernel_rfl) (map_ok q396) ?_
 have u404 := ((((((((r240.frS e248 Dj.nil_l).frS e289 Dj.nil_l).frS e338 Dj.nil_l).ext e351).frS e357 (hb352.djn (r235.ltF.le (ntr (ntr (ntr e239.next e248.next) e289.next) e338.next)))).frS e375 Dj.nil_l).ext e391).frS e397 (hb392.djn (r235.ltF.le (ntr (ntr (ntr (ntr (ntr (ntr e239.next e248.next) e289.next) e338.next) e351.next) e357.next) e375.next))))
 have u405 := ((m377.ext e391).fr e397 (hb392.djn m377.lt))
 obtain ⟨H400, q401, e402, r403⟩ := Row.store (P := Tryz.prog) (t := 35) (p := 0) e397.wf u404 (.agg #[i_ y367.2.2.1, .slice a386 n387 c388]) [i_ y367.2.2.1, .slice a386 n387 c388] (by kernel_rfl) (by kernel_rfl) (one_cons (rfl) (one_cons (u405.one1) (one_nil))) (Nat.le_of_ble_eq_true (by kernel_rfl)) [i_ y367.2.2.1, .slice a386 n387 c388] (by kernel_rfl)
 refine s_ek (undef) (by kernel_rfl) (map_ok q401) ?_
 refine s_nil (k360 _ _ (w_seqk fun _ k406 => w_seqk fun _ k407 => ?_))
 obtain ⟨o408, hx409, r410⟩ := bind_some r369
 refine w_mid (fun α H411 => Has α [(2, pt_ b2 0), (10, pt_ b231 0), (77, .bool o408)] ∧ FrS [] H400 H411) (fun _ k413 => ?_) (fun α H411 hM => ?_)
 ·refine g_' ?_
  have u415 := ((((r358.frS e375 Dj.nil_l).ext e391).frS e397 (hb392.djn (r353.ltF.le (ntr e357.next e375.next)))).frS e402 (Dj.symm (hb352.djn (r235.ltF.le (ntr (ntr (ntr e239.next e248.next) e289.next) e338.next)))))
  refine l_' (.agg #[i_ y330.1, .slice a346 n347 c348]) (aLoad Tryz.prog 43 (pt_ b349 0) H400) (u415.ld (by kernel_rfl)) ?_
  have u416 := (r398.frS e402 (Dj.symm (hb392.djn (r235.ltF.le (ntr (ntr (ntr (ntr (ntr (ntr e239.next e248.next) e289.next) e338.next) e351.next) e357.next) e375.next)))))
  refine l_' (.agg #[i_ y367.1, .slice a383 n384 c385]) (aLoad Tryz.prog 43 (pt_ b389 0) H400) (u416.ld (by kernel_rfl)) ?_
  have u417 := (((((u359.fr e357 (hb352.djn m339.lt)).fr e375 Dj.nil_l).ext e391).fr e397 (hb392.djn (m339.lt.le (ntr (ntr e351.next e357.next) e375.next)))).fr e402 (Dj.symm (i341.djn (r235.ltF.le (ntr (ntr e239.next e248.next) e289.next)))))
  have u418 := ((u399.fr e397 (hb392.djn m376.lt)).fr e402 (Dj.symm (i378.djn (r235.ltF.le (ntr (ntr (ntr (ntr (ntr e239.next e248.next) e289.next) e338.next) e351.next) e357.next)))))
  obtain ⟨y419, hy420, r421⟩ := bind_some hx409
  refine s_ck 14 #[.agg #[i_ y330.1, .slice a346 n347 c348], .agg #[i_ y367.1, .slice a383 n384 c385]] (by kernel_rfl) (c_viaductref03_Same e402.wf u417.sq u418.sq hy420) ?_
  rintro _ H422 ⟨rfl, e423⟩
  by_cases h424 : y419 = true
  ·have r425 := ite_t h424 r421
   rw [h424]
   refine q_ (.bool false) (q_ (.bool false) (q_ (v335) ?_))
   have u427 := (r403.frS e423 Dj.nil_l)
   refine l_' (.agg #[i_ y367.2.2.1, .slice a386 n387 c388]) (aLoad Tryz.prog 35 (pt_ b231 0) H422) (u427.ld (by kernel_rfl)) ?_
   have u428 := (((((((m340.ext e351).fr e357 (hb352.djn m340.lt)).fr e375 Dj.nil_l).ext e391).fr e397 (hb392.djn (m340.lt.le (ntr (ntr e351.next e357.next) e375.next)))).fr e402 (Dj.symm (i342.djn (r235.ltF.le (ntr (ntr e239.next e248.next) e289.next))))).fr e423 Dj.nil_l)
   have u429 := ((u405.fr e402 (Dj.symm (i379.djn (r235.ltF.le (ntr (ntr (ntr (ntr (ntr e239.next e248.next) e289.next) e338.next) e351.next) e357.next))))).fr e423 Dj.nil_l)
   obtain ⟨y430, hy431, r432⟩ := bind_some r425
   refine s_ck 6 #[v335, .agg #[i_ y367.2.2.1, .slice a386 n387 c388]] (by kernel_rfl) (c_viaductseen_Same e423.wf u428 u429 hy431) ?_
   rintro _ H433 ⟨rfl, e434⟩
   refine q_ (.bool (!y430)) (q_ (.bool (!y430)) (s_nil ?_))
   obtain rfl := Option.some.inj r432
   exact k413 _ _ ⟨ha_, (FrS.step e402.wf (FrS.step e402.wf (FrS.refl (W := []) e402.wf) e423 Inn.nil) e434 Inn.nil)⟩
  have r435 := ite_f h424 r421
  rw [nb h424]
  refine q_ (.bool true) (q_ (.bool true) (n_' (n_' (n_' (n_' (q_ (.bool true) (s_nil ?_)))))))
  obtain rfl := Option.some.inj r435
  exact k413 _ _ ⟨ha_, (FrS.step e402.wf (FrS.refl (W := []) e402.wf) e423 Inn.nil)⟩
 obtain ⟨hh414, e412⟩ := hM
 obtain ⟨β, rfl⟩ := has_ex hh414
 clear hh414
 refine k407 _ _ ?_
 refine w_cond (o408) (by kernel_rfl) rfl (fun h437 => ?_) (fun h437 => ?_)
 ·have r438 := ite_t h437 r410
  refine w_seqk fun _ k439 => g_' (q_ (.bool false) (s_nil (k439 _ _ ?_)))
  refine w_ret (th_ret ?_)
  refine b_ret (fn := Tryz.f3) (vs := [.bool false]) (aRes_tmp (by kernel_rfl) (rfl)) ?_
  have n440 := (ntr (ntr (ntr (ntr (ntr (ntr (ntr e4.next e14.next) e31.next) e58.next) e106.next) e122.next) e134.next) e160.next)
  have n441 := (ntr (ntr (ntr (ntr (ntr (ntr (ntr e207.next e224.next) e233.next) e239.next) e248.next) e289.next) e338.next) e351.next)
  obtain rfl := Option.some.inj r438
  exact ⟨rfl, (FrS.step wf (FrS.step wf (FrS.step wf ((FrS.step wf (FrS.step wf ((FrS.step wf (FrS.step wf (FrS.step wf (FrS.step wf ((FrS.step wf (FrS.step wf (FrS.step wf (FrS.step wf (FrS.step wf (FrS.step wf (FrS.step wf (FrS.step wf (FrS.step wf ((FrS.refl (W := []) wf).extR e4) e14 Inn.nil) e31 Inn.nil) e58 Inn.nil) e106 Inn.nil) e122 Inn.nil) e134 Inn.nil) e160 Inn.nil) e207 Inn.nil) e224 Inn.nil).extR e233) e239 (hb234.fresh (ntr (ntr (ntr (ntr (ntr (ntr (ntr (ntr (ntr e4.next e14.next) e31.next) e58.next) e106.next) e122.next) e134.next) e160.next) e207.next) e224.next))) e248 Inn.nil) e289 Inn.nil) e338 Inn.nil).extR e351) e357 (hb352.fresh (ntr (ntr (ntr (ntr (ntr (ntr (ntr (ntr (ntr (ntr (ntr (ntr (ntr (ntr e4.next e14.next) e31.next) e58.next) e106.next) e122.next) e134.next) e160.next) e207.next) e224.next) e233.next) e239.next) e248.next) e289.next) e338.next))) e375 Inn.nil).extR e391) e397 (hb392.fresh (ntr (ntr (ntr n440 n441) e357.next) e375.next))) e402 (hb234.fresh (ntr (ntr (ntr (ntr (ntr (ntr (ntr (ntr (ntr e4.next e14.next) e31.next) e58.next) e106.next) e122.next) e134.next) e160.next) e207.next) e224.next))) e412 Inn.nil)⟩
 have r442 := ite_bf h437 r410
 refine w_skip (k406 _ _ (w_seqk fun _ k443 => g_' ?_))
 have n444 := (ntr (ntr (ntr (ntr (ntr (ntr (ntr e207.next e224.next) e233.next) e239.next) e248.next) e289.next) e338.next) e351.next)
 have u445 := (((((u361.frS e375 Dj.nil_l).ext e391).frS e397 (hb392.djn (r6.ltF.le (ntr (ntr (ntr (ntr (ntr (ntr (ntr (ntr (ntr e14.next e31.next) e58.next) e106.next) e122.next) e134.next) e160.next) n444) e357.next) e375.next)))).frS e402 (hb234.djn (r6.ltF.le (ntr (ntr (ntr (ntr (ntr (ntr (ntr (ntr e14.next e31.next) e58.next) e106.next) e122.next) e134.next) e160.next) e207.next) e224.next)))).frS e412 Dj.nil_l)
 refine l_' (.agg #[hd_Node, hd_UpFirst, hd_Up, hd_DownFirst, hd_Down]) (aLoad Tryz.prog 25 (pt_ b2 0) H411) (u445.ld (by kernel_rfl)) ?_
 have n446 := (ntr (ntr (ntr (ntr (ntr (ntr (ntr e4.next e14.next) e31.next) e58.next) e106.next) e122.next) e134.next) e160.next)
 have u447 := (((((u362.fr e375 Dj.nil_l).ext e391).fr e397 (hb392.djn (h_Node.lt.le (ntr (ntr (ntr n446 n444) e357.next) e375.next)))).fr e402 (hb234.djn (h_Node.lt.le (ntr (ntr (ntr (ntr (ntr (ntr (ntr (ntr (ntr e4.next e14.next) e31.next) e58.next) e106.next) e122.next) e134.next) e160.next) e207.next) e224.next)))).fr e412 Dj.nil_l)
 have u448 := (((((u363.fr e375 Dj.nil_l).ext e391).fr e397 (hb392.djn (h_UpFirst.lt.le (ntr (ntr (ntr n446 n444) e357.next) e375.next)))).fr e402 (hb234.djn (h_UpFirst.lt.le (ntr (ntr (ntr (ntr (ntr (ntr (ntr (ntr (ntr e4.next e14.next) e31.next) e58.next) e106.next) e122.next) e134.next) e160.next) e207.next) e224.next)))).fr e412 Dj.nil_l)
 have u449 := (((((u364.fr e375 Dj.nil_l).ext e391).fr e397 (hb392.djn (h_Up.lt.le (ntr (ntr (ntr n446 n444) e357.next) e375.next)))).fr e402 (hb234.djn (h_Up.lt.le (ntr (ntr (ntr (ntr (ntr (ntr (ntr (ntr (ntr e4.next e14.next) e31.next) e58.next) e106.next) e122.next) e134.next) e160.next) e207.next) e224.next)))).fr e412 Dj.nil_l)
 have u450 := (((((u365.fr e375 Dj.nil_l).ext e391).fr e397 (hb392.djn (h_DownFirst.lt.le (ntr (ntr (ntr n446 n444) e357.next) e375.next)))).fr e402 (hb234.djn (h_DownFirst.lt.le (ntr (ntr (ntr (ntr (ntr (ntr (ntr (ntr (ntr e4.next e14.next) e31.next) e58.next) e106.next) e122.next) e134.next) e160.next) e207.next) e224.next)))).fr e412 Dj.nil_l)
 have u451 := (((((u366.fr e375 Dj.nil_l).ext e391).fr e397 (hb392.djn (h_Down.lt.le (ntr (ntr (ntr n446 n444) e357.next) e375.next)))).fr e402 (hb234.djn (h_Down.lt.le (ntr (ntr (ntr (ntr (ntr (ntr (ntr (ntr (ntr e4.next e14.next) e31.next) e58.next) e106.next) e122.next) e134.next) e160.next) e207.next) e224.next)))).fr e412 Dj.nil_l)
 obtain ⟨y452, hy453, r454⟩ := bind_some r442
 refine s_ck 8 #[.agg #[hd_Node, hd_UpFirst, hd_Up, hd_DownFirst, hd_Down]] (by kernel_rfl) (c_viaductref10_Twin e412.wf u447 u448 u449 u450 u451 hy453) ?_
 rintro _ H465 ⟨s455, f456, s457, f458, s459, f460, s461, f462, s463, f464, rfl, e466, m467, m468, m469, m470, m471, i472, i473, i474, i475, i476, d477, d478, d479, d480, d481, d482, d483, d484, d485, d486⟩
 obtain ⟨a492, n493, c494, rfl⟩ := m467.form
 obtain ⟨a495, n496, c497, rfl⟩ := m468.form
 obtain ⟨a498, n499, c500, rfl⟩ := m469.form
 obtain ⟨a501, n502, c503, rfl⟩ := m470.form
 obtain ⟨a504, n505, c506, rfl⟩ := m471.form
 obtain ⟨y507, hy508, r509⟩ := bind_some r454
 refine s_ck 15 #[.agg #[.slice a492 n493 c494, .slice a495 n496 c497, .slice a498 n499 c500, .slice a501 n502 c503, .slice a504 n505 c506]] (by kernel_rfl) (c_hier_Ranks e466.wf m467.sq m468.sq m469.sq m470.sq m471.sq hy508) ?_
 rintro _ H514 ⟨s510, f511, v512, f513, rfl, e515, m516, m517, i518, i519, d520⟩
 obtain ⟨a523, n524, c525, rfl⟩ := m516.form
 refine q_ (.tuple #[.slice a523 n524 c525, v512]) (q_ (.slice a523 n524 c525) (q_ (v512) (q_ (.slice a523 n524 c525) (q_ (v512) (s_nil (k443 _ _ (w_seqk fun _ k526 => g_' ?_)))))))
 have u527 := ((u445.frS e466 Dj.nil_l).frS e515 Dj.nil_l)
 refine l_' (.agg #[hd_Node, hd_UpFirst, hd_Up, hd_DownFirst, hd_Down]) (aLoad Tryz.prog 25 (pt_ b2 0) H514) (u527.ld (by kernel_rfl)) ?_
 have u528 := ((u447.fr e466 Dj.nil_l).fr e515 Dj.nil_l)
 have u529 := ((u448.fr e466 Dj.nil_l).fr e515 Dj.nil_l)
 have u530 := ((u449.fr e466 Dj.nil_l).fr e515 Dj.nil_l)
 have u531 := ((u450.fr e466 Dj.nil_l).fr e515 Dj.nil_l)
 have u532 := ((u451.fr e466 Dj.nil_l).fr e515 Dj.nil_l)
 obtain ⟨y533, hy534, r535⟩ := bind_some r509
 refine s_ck 16 #[.agg #[hd_Node, hd_UpFirst, hd_Up, hd_DownFirst, hd_Down]] (by kernel_rfl) (c_viaductref10_DocRanks e515.wf u528 u529 u530 u531 u532 hy534) ?_
 rintro _ H540 ⟨s536, f537, s538, f539, rfl, e541, m542, m543, i544, i545, d546⟩
 obtain ⟨a549, n550, c551, rfl⟩ := m542.form
 obtain ⟨a552, n553, c554, rfl⟩ := m543.form
 refine q_ (.tuple #[.slice a549 n550 c551, .agg #[i_ y533.2.1, .slice a552 n553 c554]]) (q_ (.slice a549 n550 c551) (q_ (.agg #[i_ y533.2.1, .slice a552 n553 c554]) (q_ (.slice a549 n550 c551) ?_)))
 have u559 := ((((r403.frS e412 Dj.nil_l).frS e466 Dj.nil_l).frS e515 Dj.nil_l).frS e541 Dj.nil_l)
 obtain ⟨H555, q556, e557, r558⟩ := Row.store (P := Tryz.prog) (t := 35) (p := 0) e541.wf u559 (.agg #[i_ y533.2.1, .slice a552 n553 c554]) [i_ y533.2.1, .slice a552 n553 c554] (by kernel_rfl) (by kernel_rfl) (one_cons (rfl) (one_cons (m543.one1) (one_nil))) (Nat.le_of_ble_eq_true (by kernel_rfl)) [i_ y533.2.1, .slice a552 n553 c554] (by kernel_rfl)
 refine s_ek (undef) (by kernel_rfl) (map_ok q556) ?_
 refine s_nil (k526 _ _ (w_seqk fun _ k560 => w_seqk fun _ k561 => ?_))
 obtain ⟨o562, hx563, r564⟩ := bind_some r535
 refine w_mid (fun α H565 => Has α [(2, pt_ b2 0), (10, pt_ b231 0), (98, .bool o562)] ∧ FrS [] H555 H565) (fun _ k567 => ?_) (fun α H565 hM => ?_)
 ·refine g_' (q_ (.slice a523 n524 c525) (q_ (.slice a549 n550 c551) ?_))
  have u569 := ((m516.fr e541 Dj.nil_l).fr e557 (Dj.symm (i518.djn (r235.ltF.le (ntr (ntr (ntr (ntr (ntr (ntr (ntr (ntr (ntr (ntr (ntr e239.next e248.next) e289.next) e338.next) e351.next) e357.next) e375.next) e391.next) e397.next) e402.next) e412.next) e466.next)))))
  have u570 := (m542.fr e557 (Dj.symm (i544.djn (r235.ltF.le (ntr (ntr (ntr (ntr (ntr (ntr (ntr (ntr (ntr (ntr (ntr (ntr e239.next e248.next) e289.next) e338.next) e351.next) e357.next) e375.next) e391.next) e397.next) e402.next) e412.next) e466.next) e515.next)))))
  obtain ⟨y571, hy572, r573⟩ := bind_some hx563
  refine s_ck 17 #[.slice a523 n524 c525, .slice a549 n550 c551] (by kernel_rfl) (c_viaductref02_SameInts e557.wf u569.sq u570.sq hy572) ?_
  rintro _ _ ⟨rfl, rfl⟩
  by_cases h576 : y571 = true
  ·have r577 := ite_t h576 r573
   rw [h576]
   refine q_ (.bool false) (q_ (.bool false) (q_ (v512) ?_))
   refine l_' (.agg #[i_ y533.2.1, .slice a552 n553 c554]) (aLoad Tryz.prog 35 (pt_ b231 0) H555) (r558.ld (by kernel_rfl)) ?_
   have u579 := ((m517.fr e541 Dj.nil_l).fr e557 (Dj.symm (i519.djn (r235.ltF.le (ntr (ntr (ntr (ntr (ntr (ntr (ntr (ntr (ntr (ntr (ntr e239.next e248.next) e289.next) e338.next) e351.next) e357.next) e375.next) e391.next) e397.next) e402.next) e412.next) e466.next)))))
   have u580 := (m543.fr e557 (Dj.symm (i545.djn (r235.ltF.le (ntr (ntr (ntr (ntr (ntr (ntr (ntr (ntr (ntr (ntr (ntr (ntr e239.next e248.next) e289.next) e338.next) e351.next) e357.next) e375.next) e391.next) e397.next) e402.next) e412.next) e466.next) e515.next)))))
   obtain ⟨y581, hy582, r583⟩ := bind_some r577
   refine s_ck 6 #[v512, .agg #[i_ y533.2.1, .slice a552 n553 c554]] (by kernel_rfl) (c_viaductseen_Same e557.wf u579 u580 hy582) ?_
   rintro _ H584 ⟨rfl, e585⟩
   refine q_ (.bool (!y581)) (q_ (.bool (!y581)) (s_nil ?_))
   obtain rfl := Option.some.inj r583
   exact k567 _ _ ⟨ha_, (FrS.step e557.wf (FrS.refl (W := []) e557.wf) e585 Inn.nil)⟩
  have r586 := ite_f h576 r573
  rw [nb h576]
  refine q_ (.bool true) (q_ (.bool true) (n_' (n_' (n_' (n_' (q_ (.bool true) (s_nil ?_)))))))
  obtain rfl := Option.some.inj r586
  exact k567 _ _ ⟨ha_, (FrS.refl (W := []) e557.wf)⟩
 obtain ⟨hh568, e566⟩ := hM
 obtain ⟨β, rfl⟩ := has_ex hh568
 clear hh568
 refine k561 _ _ ?_
 refine w_cond (o562) (by kernel_rfl) rfl (fun h588 => ?_) (fun h588 => ?_)
 ·have r589 := ite_t h588 r564
  refine w_seqk fun _ k590 => g_' (q_ (.bool false) (s_nil (k590 _ _ ?_)))
  refine w_ret (th_ret ?_)
  refine b_ret (fn := Tryz.f3) (vs := [.bool false]) (aRes_tmp (by kernel_rfl) (rfl)) ?_
  have c591 := (FrS.step wf (FrS.step wf (FrS.step wf (FrS.step wf (FrS.step wf (FrS.step wf (FrS.step wf ((FrS.refl (W := []) wf).extR e4) e14 Inn.nil) e31 Inn.nil) e58 Inn.nil) e106 Inn.nil) e122 Inn.nil) e134 Inn.nil) e160 Inn.nil)
  have c592 := ((FrS.step e160.wf (FrS.step e160.wf (FrS.step e160.wf (FrS.step e160.wf ((FrS.step e160.wf (FrS.step e160.wf (FrS.refl (W := []) e160.wf) e207 Inn.nil) e224 Inn.nil).extR e233) e239 (hb234.fresh (ntr e207.next e224.next))) e248 Inn.nil) e289 Inn.nil) e338 Inn.nil).extR e351)
  obtain rfl := Option.some.inj r589
  exact ⟨rfl, (FrS.step wf (FrS.step wf (FrS.step wf (FrS.step wf (FrS.step wf (FrS.step wf (FrS.step wf (FrS.step wf ((FrS.step wf (FrS.step wf (FrS.step wf (FrS.step wf (FrS.refl (W := []) wf) c591 Inn.nil) c592 Inn.nil) e357 (hb352.fresh (ntr (ntr (ntr (ntr (ntr (ntr (ntr (ntr (ntr (ntr (ntr (ntr (ntr (ntr e4.next e14.next) e31.next) e58.next) e106.next) e122.next) e134.next) e160.next) e207.next) e224.next) e233.next) e239.next) e248.next) e289.next) e338.next))) e375 Inn.nil).extR e391) e397 (hb392.fresh (ntr (ntr (ntr n446 n444) e357.next) e375.next))) e402 (hb234.fresh (ntr (ntr (ntr (ntr (ntr (ntr (ntr (ntr (ntr e4.next e14.next) e31.next) e58.next) e106.next) e122.next) e134.next) e160.next) e207.next) e224.next))) e412 Inn.nil) e466 Inn.nil) e515 Inn.nil) e541 Inn.nil) e557 (hb234.fresh (ntr (ntr (ntr (ntr (ntr (ntr (ntr (ntr (ntr e4.next e14.next) e31.next) e58.next) e106.next) e122.next) e134.next) e160.next) e207.next) e224.next))) e566 Inn.nil)⟩
 have r593 := ite_bf h588 r564
 refine w_skip (k560 _ _ (w_seqk fun _ k594 => g_' ?_))
 have u595 := (((u527.frS e541 Dj.nil_l).frS e557 (hb234.djn (r6.ltF.le (ntr (ntr (ntr (ntr (ntr (ntr (ntr (ntr e14.next e31.next) e58.next) e106.next) e122.next) e134.next) e160.next) e207.next) e224.next)))).frS e566 Dj.nil_l)
 refine l_' (.agg #[hd_Node, hd_UpFirst, hd_Up, hd_DownFirst, hd_Down]) (aLoad Tryz.prog 25 (pt_ b2 0) H565) (u595.ld (by kernel_rfl)) ?_
 have u596 := (((u528.fr e541 Dj.nil_l).fr e557 (hb234.djn (h_Node.lt.le (ntr (ntr (ntr (ntr (ntr (ntr (ntr (ntr (ntr e4.next e14.next) e31.next) e58.next) e106.next) e122.next) e134.next) e160.next) e207.next) e224.next)))).fr e566 Dj.nil_l)
 have u597 := (((u529.fr e541 Dj.nil_l).fr e557 (hb234.djn (h_UpFirst.lt.le (ntr (ntr (ntr (ntr (ntr (ntr (ntr (ntr (ntr e4.next e14.next) e31.next) e58.next) e106.next) e122.next) e134.next) e160.next) e207.next) e224.next)))).fr e566 Dj.nil_l)
 have u598 := (((u530.fr e541 Dj.nil_l).fr e557 (hb234.djn (h_Up.lt.le (ntr (ntr (ntr (ntr (ntr (ntr (ntr (ntr (ntr e4.next e14.next) e31.next) e58.next) e106.next) e122.next) e134.next) e160.next) e207.next) e224.next)))).fr e566 Dj.nil_l)
 have u599 := (((u531.fr e541 Dj.nil_l).fr e557 (hb234.djn (h_DownFirst.lt.le (ntr (ntr (ntr (ntr (ntr (ntr (ntr (ntr (ntr e4.next e14.next) e31.next) e58.next) e106.next) e122.next) e134.next) e160.next) e207.next) e224.next)))).fr e566 Dj.nil_l)
 have u600 := (((u532.fr e541 Dj.nil_l).fr e557 (hb234.djn (h_Down.lt.le (ntr (ntr (ntr (ntr (ntr (ntr (ntr (ntr (ntr e4.next e14.next) e31.next) e58.next) e106.next) e122.next) e134.next) e160.next) e207.next) e224.next)))).fr e566 Dj.nil_l)
 obtain ⟨y601, hy602, r603⟩ := bind_some r593
 refine s_ck 8 #[.agg #[hd_Node, hd_UpFirst, hd_Up, hd_DownFirst, hd_Down]] (by kernel_rfl) (c_viaductref10_Twin e566.wf u596 u597 u598 u599 u600 hy602) ?_
 rintro _ H614 ⟨s604, f605, s606, f607, s608, f609, s610, f611, s612, f613, rfl, e615, m616, m617, m618, m619, m620, i621, i622, i623, i624, i625, d626, d627, d628, d629, d630, d631, d632, d633, d634, d635⟩
 obtain ⟨a641, n642, c643, rfl⟩ := m616.form
 obtain ⟨a644, n645, c646, rfl⟩ := m617.form
 obtain ⟨a647, n648, c649, rfl⟩ := m618.form
 obtain ⟨a650, n651, c652, rfl⟩ := m619.form
 obtain ⟨a653, n654, c655, rfl⟩ := m620.form
 obtain ⟨y656, hy657, r658⟩ := bind_some r603
 refine s_ck 18 #[.agg #[.slice a641 n642 c643, .slice a644 n645 c646, .slice a647 n648 c649, .slice a650 n651 c652, .slice a653 n654 c655]] (by kernel_rfl) (c_hier_Turn e615.wf m616.sq m617.sq m618.sq m619.sq m620.sq hy657) ?_
 rintro _ H671 ⟨s659, f660, s661, f662, s663, f664, s665, f666, s667, f668, v669, f670, rfl, e672, m673, m674, m675, m676, m677, m678, i679, i680, i681, i682, i683, i684, d685, d686, d687, d688, d689, d690, d691, d692, d693, d694, d695, d696, d697, d698, d699⟩
 obtain ⟨a706, n707, c708, rfl⟩ := m673.form
 obtain ⟨a709, n710, c711, rfl⟩ := m674.form
 obtain ⟨a712, n713, c714, rfl⟩ := m675.form
 obtain ⟨a715, n716, c717, rfl⟩ := m676.form
 obtain ⟨a718, n719, c720, rfl⟩ := m677.form
 refine q_ (.tuple #[.agg #[.slice a706 n707 c708, .slice a709 n710 c711, .slice a712 n713 c714, .slice a715 n716 c717, .slice a718 n719 c720], v669]) (q_ (.agg #[.slice a706 n707 c708, .slice a709 n710 c711, .slice a712 n713 c714, .slice a715 n716 c717, .slice a718 n719 c720]) (q_ (v669) ?_))
 refine s_rwk e672.wf [.slice none 0 0, .slice none 0 0, .slice none 0 0, .slice none 0 0, .slice none 0 0] (by kernel_rfl) fun b721 H722 e723 hb724 r725 => ?_
 have u731 := (m677.ext e723)
 have u732 := (m676.ext e723)
 have u733 := (m675.ext e723)
 have u734 := (m674.ext e723)
 have u735 := (m673.ext e723)
 obtain ⟨H727, q728, e729, r730⟩ := Row.store (P := Tryz.prog) (t := 25) (p := 0) e723.wf r725 (.agg #[.slice a706 n707 c708, .slice a709 n710 c711, .slice a712 n713 c714, .slice a715 n716 c717, .slice a718 n719 c720]) [.slice a706 n707 c708, .slice a709 n710 c711, .slice a712 n713 c714, .slice a715 n716 c717, .slice a718 n719 c720] (by kernel_rfl) (by kernel_rfl) (one_cons (u735.one1) (one_cons (u734.one1) (one_cons (u733.one1) (one_cons (u732.one1) (one_cons (u731.one1) (one_nil)))))) (Nat.le_of_ble_eq_true (by kernel_rfl)) [.slice a706 n707 c708, .slice a709 n710 c711, .slice a712 n713 c714, .slice a715 n716 c717, .slice a718 n719 c720] (by kernel_rfl)
 refine s_ek (undef) (by kernel_rfl) (map_ok q728) ?_
 refine q_ (v669) (s_nil (k594 _ _ (w_seqk fun _ k736 => g_' ?_)))
 have n737 := (ntr (ntr (ntr (ntr (ntr (ntr (ntr e357.next e375.next) e391.next) e397.next) e402.next) e412.next) e466.next) e515.next)
 have u738 := ((((u595.frS e615 Dj.nil_l).frS e672 Dj.nil_l).ext e723).frS e729 (hb724.djn (r6.ltF.le (ntr (ntr (ntr (ntr (ntr (ntr (ntr (ntr (ntr (ntr (ntr (ntr (ntr e14.next e31.next) e58.next) e106.next) e122.next) e134.next) e160.next) n444) n737) e541.next) e557.next) e566.next) e615.next) e672.next))))
 refine l_' (.agg #[hd_Node, hd_UpFirst, hd_Up, hd_DownFirst, hd_Down]) (aLoad Tryz.prog 25 (pt_ b2 0) H727) (u738.ld (by kernel_rfl)) ?_
 have u739 := ((((u596.fr e615 Dj.nil_l).fr e672 Dj.nil_l).ext e723).fr e729 (hb724.djn (h_Node.lt.le (ntr (ntr (ntr (ntr (ntr (ntr (ntr n446 n444) n737) e541.next) e557.next) e566.next) e615.next) e672.next))))
 have u740 := ((((u597.fr e615 Dj.nil_l).fr e672 Dj.nil_l).ext e723).fr e729 (hb724.djn (h_UpFirst.lt.le (ntr (ntr (ntr (ntr (ntr (ntr (ntr n446 n444) n737) e541.next) e557.next) e566.next) e615.next) e672.next))))
 have u741 := ((((u598.fr e615 Dj.nil_l).fr e672 Dj.nil_l).ext e723).fr e729 (hb724.djn (h_Up.lt.le (ntr (ntr (ntr (ntr (ntr (ntr (ntr n446 n444) n737) e541.next) e557.next) e566.next) e615.next) e672.next))))
 have u742 := ((((u599.fr e615 Dj.nil_l).fr e672 Dj.nil_l).ext e723).fr e729 (hb724.djn (h_DownFirst.lt.le (ntr (ntr (ntr (ntr (ntr (ntr (ntr n446 n444) n737) e541.next) e557.next) e566.next) e615.next) e672.next))))
 have u743 := ((((u600.fr e615 Dj.nil_l).fr e672 Dj.nil_l).ext e723).fr e729 (hb724.djn (h_Down.lt.le (ntr (ntr (ntr (ntr (ntr (ntr (ntr n446 n444) n737) e541.next) e557.next) e566.next) e615.next) e672.next))))
 obtain ⟨y744, hy745, r746⟩ := bind_some r658
 refine s_ck 19 #[.agg #[hd_Node, hd_UpFirst, hd_Up, hd_DownFirst, hd_Down]] (by kernel_rfl) (c_viaductref10_DocTurn e729.wf u739 u740 u741 u742 u743 hy745) ?_
 rintro _ H759 ⟨s747, f748, s749, f750, s751, f752, s753, f754, s755, f756, s757, f758, rfl, e760, m761, m762, m763, m764, m765, m766, i767, i768, i769, i770, i771, i772, d773, d774, d775, d776, d777, d778, d779, d780, d781, d782, d783, d784, d785, d786, d787⟩
 obtain ⟨a794, n795, c796, rfl⟩ := m761.form
 obtain ⟨a797, n798, c799, rfl⟩ := m762.form
 obtain ⟨a800, n801, c802, rfl⟩ := m763.form
 obtain ⟨a803, n804, c805, rfl⟩ := m764.form
 obtain ⟨a806, n807, c808, rfl⟩ := m765.form
 obtain ⟨a809, n810, c811, rfl⟩ := m766.form
 refine q_ (.tuple #[.agg #[.slice a794 n795 c796, .slice a797 n798 c799, .slice a800 n801 c802, .slice a803 n804 c805, .slice a806 n807 c808], .agg #[i_ y744.2.2.2.2.2.1, .slice a809 n810 c811]]) (q_ (.agg #[.slice a794 n795 c796, .slice a797 n798 c799, .slice a800 n801 c802, .slice a803 n804 c805, .slice a806 n807 c808]) (q_ (.agg #[i_ y744.2.2.2.2.2.1, .slice a809 n810 c811]) ?_))
 refine s_rwk e760.wf [.slice none 0 0, .slice none 0 0, .slice none 0 0, .slice none 0 0, .slice none 0 0] (by kernel_rfl) fun b812 H813 e814 hb815 r816 => ?_
 have u822 := (m765.ext e814)
 have u823 := (m764.ext e814)
 have u824 := (m763.ext e814)
 have u825 := (m762.ext e814)
 have u826 := (m761.ext e814)
 obtain ⟨H818, q819, e820, r821⟩ := Row.store (P := Tryz.prog) (t := 25) (p := 0) e814.wf r816 (.agg #[.slice a794 n795 c796, .slice a797 n798 c799, .slice a800 n801 c802, .slice a803 n804 c805, .slice a806 n807 c808]) [.slice a794 n795 c796, .slice a797 n798 c799, .slice a800 n801 c802, .slice a803 n804 c805, .slice a806 n807 c808] (by kernel_rfl) (by kernel_rfl) (one_cons (u826.one1) (one_cons (u825.one1) (one_cons (u824.one1) (one_cons (u823.one1) (one_cons (u822.one1) (one_nil)))))) (Nat.le_of_ble_eq_true (by kernel_rfl)) [.slice a794 n795 c796, .slice a797 n798 c799, .slice a800 n801 c802, .slice a803 n804 c805, .slice a806 n807 c808] (by kernel_rfl)
 refine s_ek (undef) (by kernel_rfl) (map_ok q819) ?_
 have n831 := (ntr (ntr (ntr (ntr (ntr (ntr (ntr e541.next e557.next) e566.next) e615.next) e672.next) e723.next) e729.next) e760.next)
 have u832 := ((((((((r558.frS e566 Dj.nil_l).frS e615 Dj.nil_l).frS e672 Dj.nil_l).ext e723).frS e729 (hb724.djn (r235.ltF.le (ntr (ntr (ntr (ntr (ntr (ntr (ntr (ntr (ntr (ntr e239.next e248.next) e289.next) e338.next) e351.next) n737) e541.next) e557.next) e566.next) e615.next) e672.next)))).frS e760 Dj.nil_l).ext e814).frS e820 (hb815.djn (r235.ltF.le (ntr (ntr (ntr (ntr (ntr (ntr e239.next e248.next) e289.next) e338.next) e351.next) n737) n831))))
 have u833 := ((m766.ext e814).fr e820 (hb815.djn m766.lt))
 obtain ⟨H827, q828, e829, r830⟩ := Row.store (P := Tryz.prog) (t := 35) (p := 0) e820.wf u832 (.agg #[i_ y744.2.2.2.2.2.1, .slice a809 n810 c811]) [i_ y744.2.2.2.2.2.1, .slice a809 n810 c811] (by kernel_rfl) (by kernel_rfl) (one_cons (rfl) (one_cons (u833.one1) (one_nil))) (Nat.le_of_ble_eq_true (by kernel_rfl)) [i_ y744.2.2.2.2.2.1, .slice a809 n810 c811] (by kernel_rfl)
 refine s_ek (undef) (by kernel_rfl) (map_ok q828) ?_
 refine s_nil (k736 _ _ (w_seqk fun _ k834 => g_' ?_))
 have u835 := ((((r730.frS e760 Dj.nil_l).ext e814).frS e820 (hb815.djn (r725.ltF.le (ntr e729.next e760.next)))).frS e829 (Dj.symm (hb724.djn (r235.ltF.le (ntr (ntr (ntr (ntr (ntr (ntr (ntr (ntr (ntr (ntr e239.next e248.next) e289.next) e338.next) e351.next) n737) e541.next) e557.next) e566.next) e615.next) e672.next)))))
 refine l_' (.agg #[.slice a706 n707 c708, .slice a709 n710 c711, .slice a712 n713 c714, .slice a715 n716 c717, .slice a718 n719 c720]) (aLoad Tryz.prog 25 (pt_ b721 0) H827) (u835.ld (by kernel_rfl)) ?_
 have u836 := (r821.frS e829 (Dj.symm (hb815.djn (r235.ltF.le (ntr (ntr (ntr (ntr (ntr (ntr e239.next e248.next) e289.next) e338.next) e351.next) n737) n831)))))
 refine l_' (.agg #[.slice a794 n795 c796, .slice a797 n798 c799, .slice a800 n801 c802, .slice a803 n804 c805, .slice a806 n807 c808]) (aLoad Tryz.prog 25 (pt_ b812 0) H827) (u836.ld (by kernel_rfl)) ?_
 have u837 := (((((u735.fr e729 (hb724.djn m673.lt)).fr e760 Dj.nil_l).ext e814).fr e820 (hb815.djn (m673.lt.le (ntr (ntr e723.next e729.next) e760.next)))).fr e829 (Dj.symm (i679.djn (r235.ltF.le (ntr (ntr (ntr (ntr (ntr (ntr (ntr (ntr (ntr e239.next e248.next) e289.next) e338.next) e351.next) n737) e541.next) e557.next) e566.next) e615.next)))))
 have u838 := (((((u734.fr e729 (hb724.djn m674.lt)).fr e760 Dj.nil_l).ext e814).fr e820 (hb815.djn (m674.lt.le (ntr (ntr e723.next e729.next) e760.next)))).fr e829 (Dj.symm (i680.djn (r235.ltF.le (ntr (ntr (ntr (ntr (ntr (ntr (ntr (ntr (ntr e239.next e248.next) e289.next) e338.next) e351.next) n737) e541.next) e557.next) e566.next) e615.next)))))
 have u839 := (((((u733.fr e729 (hb724.djn m675.lt)).fr e760 Dj.nil_l).ext e814).fr e820 (hb815.djn (m675.lt.le (ntr (ntr e723.next e729.next) e760.next)))).fr e829 (Dj.symm (i681.djn (r235.ltF.le (ntr (ntr (ntr (ntr (ntr (ntr (ntr (ntr (ntr e239.next e248.next) e289.next) e338.next) e351.next) n737) e541.next) e557.next) e566.next) e615.next)))))
 have u840 := (((((u732.fr e729 (hb724.djn m676.lt)).fr e760 Dj.nil_l).ext e814).fr e820 (hb815.djn (m676.lt.le (ntr (ntr e723.next e729.next) e760.next)))).fr e829 (Dj.symm (i682.djn (r235.ltF.le (ntr (ntr (ntr (ntr (ntr (ntr (ntr (ntr (ntr e239.next e248.next) e289.next) e338.next) e351.next) n737) e541.next) e557.next) e566.next) e615.next)))))
 have u841 := (((((u731.fr e729 (hb724.djn m677.lt)).fr e760 Dj.nil_l).ext e814).fr e820 (hb815.djn (m677.lt.le (ntr (ntr e723.next e729.next) e760.next)))).fr e829 (Dj.symm (i683.djn (r235.ltF.le (ntr (ntr (ntr (ntr (ntr (ntr (ntr (ntr (ntr e239.next e248.next) e289.next) e338.next) e351.next) n737) e541.next) e557.next) e566.next) e615.next)))))
 have u842 := ((u826.fr e820 (hb815.djn m761.lt)).fr e829 (Dj.symm (i767.djn (r235.ltF.le (ntr (ntr (ntr (ntr (ntr (ntr (ntr (ntr (ntr (ntr (ntr (ntr e239.next e248.next) e289.next) e338.next) e351.next) n737) e541.next) e557.next) e566.next) e615.next) e672.next) e723.next) e729.next)))))
 have u843 := ((u825.fr e820 (hb815.djn m762.lt)).fr e829 (Dj.symm (i768.djn (r235.ltF.le (ntr (ntr (ntr (ntr (ntr (ntr (ntr (ntr (ntr (ntr (ntr (ntr e239.next e248.next) e289.next) e338.next) e351.next) n737) e541.next) e557.next) e566.next) e615.next) e672.next) e723.next) e729.next)))))
 have u844 := ((u824.fr e820 (hb815.djn m763.lt)).fr e829 (Dj.symm (i769.djn (r235.ltF.le (ntr (ntr (ntr (ntr (ntr (ntr (ntr (ntr (ntr (ntr (ntr (ntr e239.next e248.next) e289.next) e338.next) e351.next) n737) e541.next) e557.next) e566.next) e615.next) e672.next) e723.next) e729.next)))))
 have u845 := ((u823.fr e820 (hb815.djn m764.lt)).fr e829 (Dj.symm (i770.djn (r235.ltF.le (ntr (ntr (ntr (ntr (ntr (ntr (ntr (ntr (ntr (ntr (ntr (ntr e239.next e248.next) e289.next) e338.next) e351.next) n737) e541.next) e557.next) e566.next) e615.next) e672.next) e723.next) e729.next)))))
 have u846 := ((u822.fr e820 (hb815.djn m765.lt)).fr e829 (Dj.symm (i771.djn (r235.ltF.le (ntr (ntr (ntr (ntr (ntr (ntr (ntr (ntr (ntr (ntr (ntr (ntr e239.next e248.next) e289.next) e338.next) e351.next) n737) e541.next) e557.next) e566.next) e615.next) e672.next) e723.next) e729.next)))))
 obtain ⟨y847, hy848, r849⟩ := bind_some r746
 refine s_ck 20 #[.agg #[.slice a706 n707 c708, .slice a709 n710 c711, .slice a712 n713 c714, .slice a715 n716 c717, .slice a718 n719 c720], .agg #[.slice a794 n795 c796, .slice a797 n798 c799, .slice a800 n801 c802, .slice a803 n804 c805, .slice a806 n807 c808]] (by kernel_rfl) (c_viaductref10_Same e829.wf u837.sq u838.sq u839.sq u840.sq u841.sq u842.sq u843.sq u844.sq u845.sq u846.sq hy848) ?_
 rintro _ H850 ⟨rfl, e851⟩
 by_cases h852 : y847 = true
 ·have r853 := ite_t h852 r849
  rw [h852]
  refine q_ (.bool true) (q_ (v669) ?_)
  have u855 := (r830.frS e851 Dj.nil_l)
  refine l_' (.agg #[i_ y744.2.2.2.2.2.1, .slice a809 n810 c811]) (aLoad Tryz.prog 35 (pt_ b231 0) H850) (u855.ld (by kernel_rfl)) ?_
  have u856 := (((((((m678.ext e723).fr e729 (hb724.djn m678.lt)).fr e760 Dj.nil_l).ext e814).fr e820 (hb815.djn (m678.lt.le (ntr (ntr e723.next e729.next) e760.next)))).fr e829 (Dj.symm (i684.djn (r235.ltF.le (ntr (ntr (ntr (ntr (ntr (ntr (ntr (ntr (ntr e239.next e248.next) e289.next) e338.next) e351.next) n737) e541.next) e557.next) e566.next) e615.next))))).fr e851 Dj.nil_l)
  have u857 := ((u833.fr e829 (Dj.symm (i772.djn (r235.ltF.le (ntr (ntr (ntr (ntr (ntr (ntr (ntr (ntr (ntr (ntr (ntr (ntr e239.next e248.next) e289.next) e338.next) e351.next) n737) e541.next) e557.next) e566.next) e615.next) e672.next) e723.next) e729.next))))).fr e851 Dj.nil_l)
  obtain ⟨y858, hy859, r860⟩ := bind_some r853
  refine s_ck 6 #[v669, .agg #[i_ y744.2.2.2.2.2.1, .slice a809 n810 c811]] (by kernel_rfl) (c_viaductseen_Same e851.wf u856 u857 hy859) ?_
  rintro _ H861 ⟨rfl, e862⟩
  refine q_ (.bool y858) (q_ (.bool y858) (s_nil (k834 _ _ ?_)))
  refine w_ret ?_
  refine b_ret (fn := Tryz.f3) (vs := [.bool y858]) (aRes_tmp (by kernel_rfl) (rfl)) ?_
  have c863 := (FrS.step wf (FrS.step wf (FrS.step wf (FrS.step wf (FrS.step wf (FrS.step wf (FrS.step wf ((FrS.refl (W := []) wf).extR e4) e14 Inn.nil) e31 Inn.nil) e58 Inn.nil) e106 Inn.nil) e122 Inn.nil) e134 Inn.nil) e160 Inn.nil)
  have c864 := ((FrS.step e160.wf (FrS.step e160.wf (FrS.step e160.wf (FrS.step e160.wf ((FrS.step e160.wf (FrS.step e160.wf (FrS.refl (W := []) e160.wf) e207 Inn.nil) e224 Inn.nil).extR e233) e239 (hb234.fresh (ntr e207.next e224.next))) e248 Inn.nil) e289 Inn.nil) e338 Inn.nil).extR e351)
  obtain rfl := Option.some.inj r860
  exact ⟨rfl, (FrS.step wf (FrS.step wf (FrS.step wf (FrS.step wf ((FrS.step wf (FrS.step wf ((FrS.step wf (FrS.step wf (FrS.step wf (FrS.step wf (FrS.step wf (FrS.step wf (FrS.step wf (FrS.step wf (FrS.step wf (FrS.step wf ((FrS.step wf (FrS.step wf (FrS.step wf (FrS.step wf (FrS.refl (W := []) wf) c863 Inn.nil) c864 Inn.nil) e357 (hb352.fresh (ntr (ntr (ntr (ntr (ntr (ntr (ntr (ntr (ntr (ntr (ntr (ntr (ntr (ntr e4.next e14.next) e31.next) e58.next) e106.next) e122.next) e134.next) e160.next) e207.next) e224.next) e233.next) e239.next) e248.next) e289.next) e338.next))) e375 Inn.nil).extR e391) e397 (hb392.fresh (ntr (ntr (ntr n446 n444) e357.next) e375.next))) e402 (hb234.fresh (ntr (ntr (ntr (ntr (ntr (ntr (ntr (ntr (ntr e4.next e14.next) e31.next) e58.next) e106.next) e122.next) e134.next) e160.next) e207.next) e224.next))) e412 Inn.nil) e466 Inn.nil) e515 Inn.nil) e541 Inn.nil) e557 (hb234.fresh (ntr (ntr (ntr (ntr (ntr (ntr (ntr (ntr (ntr e4.next e14.next) e31.next) e58.next) e106.next) e122.next) e134.next) e160.next) e207.next) e224.next))) e566 Inn.nil) e615 Inn.nil) e672 Inn.nil).extR e723) e729 (hb724.fresh (ntr (ntr (ntr (ntr (ntr (ntr (ntr n446 n444) n737) e541.next) e557.next) e566.next) e615.next) e672.next))) e760 Inn.nil).extR e814) e820 (hb815.fresh (ntr (ntr (ntr n446 n444) n737) n831))) e829 (hb234.fresh (ntr (ntr (ntr (ntr (ntr (ntr (ntr (ntr (ntr e4.next e14.next) e31.next) e58.next) e106.next) e122.next) e134.next) e160.next) e207.next) e224.next))) e851 Inn.nil) e862 Inn.nil)⟩
 have r865 := ite_f h852 r849
 rw [nb h852]
 refine q_ (.bool false) (n_' (n_' (n_' (q_ (.bool false) (q_ (.bool false) (s_nil (k834 _ _ ?_)))))))
 refine w_ret ?_
 refine b_ret (fn := Tryz.f3) (vs := [.bool false]) (aRes_tmp (by kernel_rfl) (rfl)) ?_
 have c867 := (FrS.step wf (FrS.step wf (FrS.step wf (FrS.step wf (FrS.step wf (FrS.step wf (FrS.step wf ((FrS.refl (W := []) wf).extR e4) e14 Inn.nil) e31 Inn.nil) e58 Inn.nil) e106 Inn.nil) e122 Inn.nil) e134 Inn.nil) e160 Inn.nil)
 have c868 := ((FrS.step e160.wf (FrS.step e160.wf (FrS.step e160.wf (FrS.step e160.wf ((FrS.step e160.wf (FrS.step e160.wf (FrS.refl (W := []) e160.wf) e207 Inn.nil) e224 Inn.nil).extR e233) e239 (hb234.fresh (ntr e207.next e224.next))) e248 Inn.nil) e289 Inn.nil) e338 Inn.nil).extR e351)
 obtain rfl := Option.some.inj r865
 exact ⟨rfl, (FrS.step wf (FrS.step wf (FrS.step wf ((FrS.step wf (FrS.step wf ((FrS.step wf (FrS.step wf (FrS.step wf (FrS.step wf (FrS.step wf (FrS.step wf (FrS.step wf (FrS.step wf (FrS.step wf (FrS.step wf ((FrS.step wf (FrS.step wf (FrS.step wf (FrS.step wf (FrS.refl (W := []) wf) c867 Inn.nil) c868 Inn.nil) e357 (hb352.fresh (ntr (ntr (ntr (ntr (ntr (ntr (ntr (ntr (ntr (ntr (ntr (ntr (ntr (ntr e4.next e14.next) e31.next) e58.next) e106.next) e122.next) e134.next) e160.next) e207.next) e224.next) e233.next) e239.next) e248.next) e289.next) e338.next))) e375 Inn.nil).extR e391) e397 (hb392.fresh (ntr (ntr (ntr n446 n444) e357.next) e375.next))) e402 (hb234.fresh (ntr (ntr (ntr (ntr (ntr (ntr (ntr (ntr (ntr e4.next e14.next) e31.next) e58.next) e106.next) e122.next) e134.next) e160.next) e207.next) e224.next))) e412 Inn.nil) e466 Inn.nil) e515 Inn.nil) e541 Inn.nil) e557 (hb234.fresh (ntr (ntr (ntr (ntr (ntr (ntr (ntr (ntr (ntr e4.next e14.next) e31.next) e58.next) e106.next) e122.next) e134.next) e160.next) e207.next) e224.next))) e566 Inn.nil) e615 Inn.nil) e672 Inn.nil).extR e723) e729 (hb724.fresh (ntr (ntr (ntr (ntr (ntr (ntr (ntr n446 n444) n737) e541.next) e557.next) e566.next) e615.next) e672.next))) e760 Inn.nil).extR e814) e820 (hb815.fresh (ntr (ntr (ntr n446 n444) n737) n831))) e829 (hb234.fresh (ntr (ntr (ntr (ntr (ntr (ntr (ntr (ntr (ntr e4.next e14.next) e31.next) e58.next) e106.next) e122.next) e134.next) e160.next) e207.next) e224.next))) e851 Inn.nil)⟩
end Go.Vd
