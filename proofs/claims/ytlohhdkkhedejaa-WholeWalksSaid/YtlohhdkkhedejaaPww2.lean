/- The walks of the functions (printed by a program of ours). -/
import Derived.Test.YtlohhdkkhedejaaPww1
import Derived.Test.YtlohhdkkhedejaaPwwVeC
import Derived.Test.YtlohhdkkhedejaaPwwIWw
import Derived.Test.YtlohhdkkhedejaaPwwVeN
import Derived.Test.YtlohhdkkhedejaaPwwSoA
import Derived.Test.YtlohhdkkhedejaaPwwVeV
set_option linter.unusedVariables false
set_option linter.unusedSimpArgs false
set_option linter.unusedSectionVars false
/-! (KWw4) -/

set_option maxRecDepth 100000
set_option maxHeartbeats 4000000
set_option linter.unusedVariables false
namespace Go.Vd
open Go.Proofs
attribute [local irreducible] wpSeq wpOrd aWp
theorem c_heap_Heap_Remove {H : AH} {b_h : Nat} {hd_h_ : Value} {fp_h_ : Fp} {hd_h_2 : Value} {fp_h_2 : Fp} {h_ : List (Int × Int)} {h_2 : List (Int)} {id_ : Int} {r : Bool × List (Int) × List (Int × Int)}
    (wf : WF H) (h_h_ : Ow enc_u64_u32 2 H hd_h_ h_ fp_h_) (h_h_2 : Ow (encI .i64) 1 H hd_h_2 h_2 fp_h_2) (h_h : Row H b_h [hd_h_, hd_h_2]) (dj_b_h_fp_h_2 : Dj [b_h] fp_h_2) (dj_b_h_fp_h_ : Dj [b_h] fp_h_) (dj_fp_h_2_fp_h_ : Dj fp_h_2 fp_h_) (hr : z_heap_Heap_Remove h_ h_2 id_ = some r) :
    ACalls Try.prog 119 #[pt_ b_h 0, .int .u32 id_] H fun v H' => ∃ (s5 : Value), v = .bool r.1 ∧ FrS ([b_h] ++ (fp_h_ ++ fp_h_2)) H H' ∧ Ow (encI .i64) 1 H' hd_h_2 r.2.1 fp_h_2 ∧ Ow enc_u64_u32 2 H' s5 r.2.2 fp_h_ ∧ Row H' b_h [s5, hd_h_2] := by
 refine acalls_of_body mixed Try.func119 rfl (Nat.le_of_ble_eq_true rfl) ?_
 unfold z_heap_Heap_Remove at hr
 refine w_seqk fun _ k8 => ?_
 refine g_' ?_
 refine q_ (.bool false) ?_
 refine s_nil (k8 _ _ ?_)
 refine w_seqk fun _ k9 => ?_
 refine w_seqk fun _ k10 => ?_
 refine g_' ?_
 refine q_ (pt_ b_h 0) ?_
 refine q_ (.int .u32 id_) ?_
 obtain ⟨y11, hy12, r13⟩ := bind_some hr
 refine s_ck 136 #[pt_ b_h 0, .int .u32 id_] (by kernel_rfl) (c_heap_Heap_Key wf h_h_.sq h_h_2.sq h_h hy12) ?_
 rintro _ _ ⟨rfl, rfl⟩
 refine q_ (.tuple #[.int .u64 y11.1, .bool y11.2]) ?_
 refine q_ (.int .u64 y11.1) ?_
 refine q_ (.bool y11.2) ?_
 refine q_ (.int .u64 y11.1) ?_
 refine q_ (.bool y11.2) ?_
 refine s_nil (k10 _ _ ?_)
 refine w_seqk fun _ k16 => ?_
 refine g_' ?_
 refine q_ (.bool y11.2) ?_
 refine q_ (.bool (!y11.2)) ?_
 refine s_nil (k16 _ _ ?_)
 refine w_cond ((!y11.2)) (by kernel_rfl) rfl (fun h17 => ?_) (fun h17 => ?_)
 ·have r18 := ite_t h17 r13
  refine w_seqk fun _ k19 => ?_
  refine g_' ?_
  refine q_ (.bool false) ?_
  refine s_nil (k19 _ _ ?_)
  refine w_ret (th_ret ?_)
  refine b_ret (fn := Try.f119) (vs := [.bool false]) (aRes_tmp (by kernel_rfl) (rfl)) ?_
  obtain rfl := Option.some.inj r18
  exact ⟨(hd_h_), rfl, (FrS.refl (W := ([b_h] ++ (fp_h_ ++ fp_h_2))) wf), h_h_2, h_h_, h_h⟩
 have r20 := ite_bf h17 r13
 refine w_skip ?_
 refine k9 _ _ ?_
 refine w_seqk fun _ k21 => ?_
 refine w_draw [0, 1, 2, 3, 4, 5, 6, 7, 8, 9, 10, 11, 12, 13, 14, 15] (by kernel_rfl) ?_
 refine e_' (pt_ b_h 0) ?_
 refine e_' (pt_ b_h 0) ?_
 refine e_' (pt_ b_h 1) ?_
 refine m_' (hd_h_2) (aLoad Try.prog 25 (pt_ b_h 1) H) (h_h.ld (by kernel_rfl)) ?_
 refine e_' (.int .u32 id_) ?_
 obtain ⟨g22, r23⟩ := G_some r20
 refine m_' (elp hd_h_2 1 id_.toNat 0) (aIndexAddr Try.prog 25 hd_h_2 (.int .u32 id_)) (h_h_2.sq.idxb (by kernel_rfl) g22.1 g22.2) ?_
 refine m_' (i_ (gt h_2 id_)) (aLoad Try.prog 3 (elp hd_h_2 1 id_.toNat 0) H) (h_h_2.sq.ld g22.1 g22.2 (by kernel_rfl)) ?_
 obtain ⟨g24, r25⟩ := G_some r23
 refine d_w (((gt h_2 id_) - 1)) (k := .i64) (x := ((gt h_2 id_) - 1)) (by kernel_rfl) (wrap64 g24) ?_
 refine e_' (pt_ b_h 0) ?_
 refine e_' (pt_ b_h 0) ?_
 refine e_' (pt_ b_h 0) ?_
 refine m_' (hd_h_) (aLoad Try.prog 189 (pt_ b_h 0) H) (h_h.ld (by kernel_rfl)) ?_
 refine m_' (i_ (h_.length : Int)) (aLen Try.prog 189 hd_h_ H) (h_h_.sq.lenb (by kernel_rfl)) ?_
 obtain ⟨g26, r27⟩ := G_some r25
 refine d_w (((h_.length : Int) - 1)) (k := .i64) (x := ((h_.length : Int) - 1)) (by kernel_rfl) (wrap64 g26) ?_
 refine e_' (i_ ((gt h_2 id_) - 1)) ?_
 refine e_' (i_ ((h_.length : Int) - 1)) ?_
 refine d_nil ?_
 refine k21 _ _ ?_
 refine w_seqk fun _ k28 => ?_
 refine g_' ?_
 refine q_ (pt_ b_h 0) ?_
 refine q_ (pt_ b_h 0) ?_
 refine q_ (pt_ b_h 0) ?_
 refine l_' (hd_h_) (aLoad Try.prog 189 (pt_ b_h 0) H) (h_h.ld (by kernel_rfl)) ?_
 refine q_ (i_ ((h_.length : Int) - 1)) ?_
 obtain ⟨g29, r30⟩ := G_some r27
 refine l_' (elp hd_h_ 2 ((h_.length : Int) - 1).toNat 0) (aIndexAddr Try.prog 189 hd_h_ (i_ ((h_.length : Int) - 1))) (h_h_.sq.idxb (by kernel_rfl) g29.1 g29.2) ?_
 refine l_' (.agg #[.int .u64 ((gt h_ ((h_.length : Int) - 1)).1), .int .u32 ((gt h_ ((h_.length : Int) - 1)).2)]) (aLoad Try.prog 195 (elp hd_h_ 2 ((h_.length : Int) - 1).toNat 0) H) (h_h_.sq.ld g29.1 g29.2 (by kernel_rfl)) ?_
 refine s_rwk wf [.int .u64 0, .int .u32 0] (by kernel_rfl) fun b31 H32 e33 hb34 r35 => ?_
 obtain ⟨H37, q38, e39, r40⟩ := Row.store (P := Try.prog) (t := 195) (p := 0) e33.wf r35 (.agg #[.int .u64 ((gt h_ ((h_.length : Int) - 1)).1), .int .u32 ((gt h_ ((h_.length : Int) - 1)).2)]) [.int .u64 ((gt h_ ((h_.length : Int) - 1)).1), .int .u32 ((gt h_ ((h_.length : Int) - 1)).2)] (by kernel_rfl) (by kernel_rfl) (one_cons (rfl) (one_cons (rfl) (one_nil))) (Nat.le_of_ble_eq_true (by kernel_rfl)) [.int .u64 ((gt h_ ((h_.length : Int) - 1)).1), .int .u32 ((gt h_ ((h_.length : Int) - 1)).2)] (by kernel_rfl)
 refine s_ek (undef) (by kernel_rfl) (map_ok q38) ?_
 refine s_nil (k28 _ _ ?_)
 refine w_seqk fun _ k41 => ?_
 refine g_' ?_
 refine q_ (pt_ b_h 0) ?_
 refine q_ (pt_ b_h 0) ?_
 refine q_ (pt_ b_h 0) ?_
 refine q_ (pt_ b_h 0) ?_
 have u42 := ((h_h.ext e33).frS e39 (hb34.djn h_h.ltF))
 refine l_' (hd_h_) (aLoad Try.prog 189 (pt_ b_h 0) H37) (u42.ld (by kernel_rfl)) ?_
 refine q_ (i_ ((h_.length : Int) - 1)) ?_
 obtain ⟨g43, r44⟩ := G_some r30
 have u48 := ((h_h_.ext e33).fr e39 (hb34.djn h_h_.lt))
 obtain ⟨s45, q46, hs47⟩ := Ow.head (P := Try.prog) u48 (t := 189) (by kernel_rfl) (hi := (some (i_ ((h_.length : Int) - 1)))) (r := ((h_.length : Int) - 1).toNat) (aBound_int _ (by have := g43; omega)) (by have := g43; omega)
 obtain ⟨a49, n50, c51, rfl⟩ := hs47.form
 refine s_ql (.slice a49 n50 c51) (by kernel_rfl) q46 ?_
 refine q_ (pt_ b_h 0) ?_
 refine q_ (pt_ b_h 0) ?_
 obtain ⟨H53, q54, e55, r56⟩ := Row.store (P := Try.prog) (t := 189) (p := 0) e39.wf u42 (.slice a49 n50 c51) [.slice a49 n50 c51] (by kernel_rfl) (by kernel_rfl) (one_cons (hs47.one1) (one_nil)) (Nat.le_of_ble_eq_true (by kernel_rfl)) [.slice a49 n50 c51, hd_h_2] (by kernel_rfl)
 refine s_ek (undef) (by kernel_rfl) (map_ok q54) ?_
 refine s_nil (k41 _ _ ?_)
 refine w_seqk fun _ k57 => ?_
 refine g_' ?_
 refine q_ (pt_ b_h 0) ?_
 refine q_ (pt_ b_h 0) ?_
 refine q_ (pt_ b_h 1) ?_
 refine l_' (hd_h_2) (aLoad Try.prog 25 (pt_ b_h 1) H53) (r56.ld (by kernel_rfl)) ?_
 refine q_ (.int .u32 id_) ?_
 have u58 := (((h_h_2.ext e33).fr e39 (hb34.djn h_h_2.lt)).fr e55 dj_b_h_fp_h_2)
 refine l_' (elp hd_h_2 1 id_.toNat 0) (aIndexAddr Try.prog 25 hd_h_2 (.int .u32 id_)) (u58.sq.idxb (by kernel_rfl) g22.1 g22.2) ?_
 obtain ⟨H59, q60, e61, hm62⟩ := Ow.store (P := Try.prog) (t := 3) (off := 0) e55.wf u58 g22.1 g22.2 (i_ 0) [i_ 0] (by kernel_rfl) (by kernel_rfl) rfl 0 (Nat.le_of_ble_eq_true rfl) (by kernel_rfl)
 refine s_ek (undef) (by kernel_rfl) (map_ok q60) ?_
 refine s_nil (k57 _ _ ?_)
 refine w_seqk fun _ k63 => ?_
 refine w_seqk fun _ k64 => ?_
 refine g_' ?_
 refine q_ (i_ ((gt h_2 id_) - 1)) ?_
 refine q_ (i_ ((h_.length : Int) - 1)) ?_
 refine q_ (.bool (decide (((gt h_2 id_) - 1) < ((h_.length : Int) - 1)))) ?_
 refine s_nil (k64 _ _ ?_)
 refine w_condp (((gt h_2 id_) - 1) < ((h_.length : Int) - 1)) (by kernel_rfl) rfl (fun h65 => ?_) (fun h65 => ?_)
 ·have r66 := ite_t h65 r44
  refine w_seqk fun _ k67 => ?_
  refine g_' ?_
  refine q_ (pt_ b_h 0) ?_
  refine q_ (i_ ((gt h_2 id_) - 1)) ?_
  have u68 := ((r40.frS e55 (Dj.symm (hb34.djn h_h.ltF))).frS e61 (Dj.symm (hb34.djn h_h_2.lt)))
  refine l_' (.agg #[.int .u64 ((gt h_ ((h_.length : Int) - 1)).1), .int .u32 ((gt h_ ((h_.length : Int) - 1)).2)]) (aLoad Try.prog 195 (pt_ b31 0) H59) (u68.ld (by kernel_rfl)) ?_
  have u69 := ((hs47.fr e55 dj_b_h_fp_h_).fr e61 dj_fp_h_2_fp_h_)
  have u70 := (r56.frS e61 (Dj.symm dj_b_h_fp_h_2))
  obtain ⟨y71, hy72, r73⟩ := bind_some r66
  refine s_ck 133 #[pt_ b_h 0, i_ ((gt h_2 id_) - 1), .agg #[.int .u64 ((gt h_ ((h_.length : Int) - 1)).1), .int .u32 ((gt h_ ((h_.length : Int) - 1)).2)]] (by kernel_rfl) (c_heap_Heap_put e61.wf u69 hm62 u70 (Dj.symm dj_b_h_fp_h_) (Dj.symm dj_fp_h_2_fp_h_) hy72) ?_
  rintro _ H74 ⟨rfl, e75, m76, m77⟩
  refine s_nil (k67 _ _ ?_)
  refine w_seqk fun _ k78 => ?_
  refine g_' ?_
  refine q_ (pt_ b_h 0) ?_
  refine q_ (i_ ((gt h_2 id_) - 1)) ?_
  have u79 := (u70.frS e75 (Dj.app (Dj.symm dj_b_h_fp_h_) (Dj.symm dj_b_h_fp_h_2)))
  obtain ⟨y80, hy81, r82⟩ := bind_some r73
  refine s_ck 134 #[pt_ b_h 0, i_ ((gt h_2 id_) - 1)] (by kernel_rfl) (c_heap_Heap_up e75.wf m76 m77 u79 (Dj.symm dj_b_h_fp_h_) (Dj.symm dj_fp_h_2_fp_h_) (Dj.symm dj_b_h_fp_h_2) hy81) ?_
  rintro _ H83 ⟨rfl, e84, m85, m86⟩
  refine s_nil (k78 _ _ ?_)
  refine w_draw [0, 1, 2, 3, 4, 5, 6, 7, 8, 9, 10] (by kernel_rfl) ?_
  refine e_' (pt_ b_h 0) ?_
  refine e_' (pt_ b_h 0) ?_
  refine e_' (pt_ b_h 0) ?_
  refine e_' (pt_ b_h 1) ?_
  have u87 := (u79.frS e84 (Dj.app (Dj.symm dj_b_h_fp_h_) (Dj.symm dj_b_h_fp_h_2)))
  refine m_' (hd_h_2) (aLoad Try.prog 25 (pt_ b_h 1) H83) (u87.ld (by kernel_rfl)) ?_
  refine e_' (pt_ b31 1) ?_
  have u88 := ((u68.frS e75 (Dj.app (Dj.symm (hb34.djn h_h_.lt)) (Dj.symm (hb34.djn h_h_2.lt)))).frS e84 (Dj.app (Dj.symm (hb34.djn h_h_.lt)) (Dj.symm (hb34.djn h_h_2.lt))))
  refine m_' (.int .u32 ((gt h_ ((h_.length : Int) - 1)).2)) (aLoad Try.prog 163 (pt_ b31 1) H83) (u88.ld (by kernel_rfl)) ?_
  obtain ⟨g89, r90⟩ := G_some r82
  refine m_' (elp hd_h_2 1 ((gt h_ ((h_.length : Int) - 1)).2).toNat 0) (aIndexAddr Try.prog 25 hd_h_2 (.int .u32 ((gt h_ ((h_.length : Int) - 1)).2))) (m86.sq.idxb (by kernel_rfl) g89.1 g89.2) ?_
  refine m_' (i_ (gt y80.2 ((gt h_ ((h_.length : Int) - 1)).2))) (aLoad Try.prog 3 (elp hd_h_2 1 ((gt h_ ((h_.length : Int) - 1)).2).toNat 0) H83) (m86.sq.ld g89.1 g89.2 (by kernel_rfl)) ?_
  obtain ⟨g91, r92⟩ := G_some r90
  refine d_w (((gt y80.2 ((gt h_ ((h_.length : Int) - 1)).2)) - 1)) (k := .i64) (x := ((gt y80.2 ((gt h_ ((h_.length : Int) - 1)).2)) - 1)) (by kernel_rfl) (wrap64 g91) ?_
  obtain ⟨y93, hy94, r95⟩ := bind_some r92
  refine d_ck 135 #[pt_ b_h 0, i_ ((gt y80.2 ((gt h_ ((h_.length : Int) - 1)).2)) - 1)] (by kernel_rfl) (c_heap_Heap_down e84.wf m85 m86 u87 (Dj.symm dj_b_h_fp_h_) (Dj.symm dj_fp_h_2_fp_h_) (Dj.symm dj_b_h_fp_h_2) hy94) ?_
  rintro _ H96 ⟨rfl, e97, m98, m99⟩
  refine ⟨st_nil, ?_⟩
  refine d_nil ?_
  refine k63 _ _ ?_
  refine w_seqk fun _ k100 => ?_
  refine g_' ?_
  refine q_ (.bool true) ?_
  refine s_nil (k100 _ _ ?_)
  refine w_ret ?_
  refine b_ret (fn := Try.f119) (vs := [.bool true]) (aRes_tmp (by kernel_rfl) (rfl)) ?_
  have u101 := (u87.frS e97 (Dj.app (Dj.symm dj_b_h_fp_h_) (Dj.symm dj_b_h_fp_h_2)))
  obtain rfl := Option.some.inj r95
  exact ⟨(.slice a49 n50 c51), rfl, (FrS.step wf (FrS.step wf (FrS.step wf (FrS.step wf (FrS.step wf (FrS.step wf ((FrS.refl (W := ([b_h] ++ (fp_h_ ++ fp_h_2))) wf).extR e33) e39 (hb34.fresh (Nat.le_refl _))) e55 Inn.left) e61 (Inn.right (Inn.right Inn.refl'))) e75 (Inn.app (Inn.right Inn.left) (Inn.right (Inn.right Inn.refl')))) e84 (Inn.app (Inn.right Inn.left) (Inn.right (Inn.right Inn.refl')))) e97 (Inn.app (Inn.right Inn.left) (Inn.right (Inn.right Inn.refl')))), m99, m98, u101⟩
 have r102 := ite_f h65 r44
 refine w_skip ?_
 refine k63 _ _ ?_
 refine w_seqk fun _ k103 => ?_
 refine g_' ?_
 refine q_ (.bool true) ?_
 refine s_nil (k103 _ _ ?_)
 refine w_ret ?_
 refine b_ret (fn := Try.f119) (vs := [.bool true]) (aRes_tmp (by kernel_rfl) (rfl)) ?_
 have u104 := ((hs47.fr e55 dj_b_h_fp_h_).fr e61 dj_fp_h_2_fp_h_)
 have u105 := (r56.frS e61 (Dj.symm dj_b_h_fp_h_2))
 obtain rfl := Option.some.inj r102
 exact ⟨(.slice a49 n50 c51), rfl, (FrS.step wf (FrS.step wf (FrS.step wf ((FrS.refl (W := ([b_h] ++ (fp_h_ ++ fp_h_2))) wf).extR e33) e39 (hb34.fresh (Nat.le_refl _))) e55 Inn.left) e61 (Inn.right (Inn.right Inn.refl'))), hm62, u104, u105⟩

theorem c_heap_Heap_Pop {H : AH} {b_h : Nat} {hd_h_ : Value} {fp_h_ : Fp} {hd_h_2 : Value} {fp_h_2 : Fp} {h_ : List (Int × Int)} {h_2 : List (Int)} {r : Int × Int × Bool × List (Int) × List (Int × Int)}
    (wf : WF H) (h_h_ : Ow enc_u64_u32 2 H hd_h_ h_ fp_h_) (h_h_2 : Ow (encI .i64) 1 H hd_h_2 h_2 fp_h_2) (h_h : Row H b_h [hd_h_, hd_h_2]) (dj_b_h_fp_h_2 : Dj [b_h] fp_h_2) (dj_b_h_fp_h_ : Dj [b_h] fp_h_) (dj_fp_h_2_fp_h_ : Dj fp_h_2 fp_h_) (hr : z_heap_Heap_Pop h_ h_2 = some r) :
    ACalls Try.prog 101 #[pt_ b_h 0] H fun v H' => ∃ (s5 : Value), v = .tuple #[.int .u32 r.1, .int .u64 r.2.1, .bool r.2.2.1] ∧ FrS ([b_h] ++ (fp_h_ ++ fp_h_2)) H H' ∧ Ow (encI .i64) 1 H' hd_h_2 r.2.2.2.1 fp_h_2 ∧ Ow enc_u64_u32 2 H' s5 r.2.2.2.2 fp_h_ ∧ Row H' b_h [s5, hd_h_2] := by
 refine acalls_of_body mixed Try.func101 rfl (Nat.le_of_ble_eq_true rfl) ?_
 unfold z_heap_Heap_Pop at hr
 refine w_seqk fun _ k8 => ?_
 refine g_' ?_
 refine q_ (.int .u32 0) ?_
 refine q_ (.int .u64 0) ?_
 refine q_ (.bool false) ?_
 refine s_nil (k8 _ _ ?_)
 refine w_seqk fun _ k9 => ?_
 refine g_' ?_
 refine q_ (pt_ b_h 0) ?_
 obtain ⟨y10, hy11, r12⟩ := bind_some hr
 refine s_ck 100 #[pt_ b_h 0] (by kernel_rfl) (c_heap_Heap_Top wf h_h_.sq h_h_2.sq h_h hy11) ?_
 rintro _ _ ⟨rfl, rfl⟩
 refine q_ (.tuple #[.int .u32 y10.1, .int .u64 y10.2.1, .bool y10.2.2]) ?_
 refine q_ (.int .u32 y10.1) ?_
 refine q_ (.int .u64 y10.2.1) ?_
 refine q_ (.bool y10.2.2) ?_
 refine q_ (.int .u32 y10.1) ?_
 refine q_ (.int .u64 y10.2.1) ?_
 refine q_ (.bool y10.2.2) ?_
 refine s_nil (k9 _ _ ?_)
 refine w_seqk fun _ k15 => ?_
 refine w_seqk fun _ k16 => ?_
 refine g_' ?_
 refine q_ (.bool y10.2.2) ?_
 refine s_nil (k16 _ _ ?_)
 refine w_cond (y10.2.2) (by kernel_rfl) rfl (fun h17 => ?_) (fun h17 => ?_)
 ·have r18 := ite_t h17 r12
  refine g_' ?_
  refine q_ (pt_ b_h 0) ?_
  refine q_ (.int .u32 y10.1) ?_
  obtain ⟨y19, hy20, r21⟩ := bind_some r18
  refine s_ck 119 #[pt_ b_h 0, .int .u32 y10.1] (by kernel_rfl) (c_heap_Heap_Remove wf h_h_ h_h_2 h_h dj_b_h_fp_h_2 dj_b_h_fp_h_ dj_fp_h_2_fp_h_ hy20) ?_
  rintro _ H23 ⟨s22, rfl, e24, m25, m26, m27⟩
  obtain ⟨a29, n30, c31, rfl⟩ := m26.form
  refine s_nil (k15 _ _ ?_)
  refine w_seqk fun _ k32 => ?_
  refine g_' ?_
  refine q_ (.int .u32 y10.1) ?_
  refine q_ (.int .u64 y10.2.1) ?_
  refine q_ (.bool y10.2.2) ?_
  refine q_ (.int .u32 y10.1) ?_
  refine q_ (.int .u64 y10.2.1) ?_
  refine q_ (.bool y10.2.2) ?_
  refine s_nil (k32 _ _ ?_)
  refine w_ret ?_
  refine b_ret (fn := Try.f101) (vs := [.int .u32 y10.1, .int .u64 y10.2.1, .bool y10.2.2]) (aRes_tmp (by kernel_rfl) (aRes_tmp (by kernel_rfl) (aRes_tmp (by kernel_rfl) (rfl)))) ?_
  obtain rfl := Option.some.inj r21
  exact ⟨(.slice a29 n30 c31), rfl, (FrS.step wf (FrS.refl (W := ([b_h] ++ (fp_h_ ++ fp_h_2))) wf) e24 (Inn.app Inn.left (Inn.app (Inn.right Inn.left) (Inn.right (Inn.right Inn.refl'))))), m25, m26, m27⟩
 have r33 := ite_bf h17 r12
 refine w_skip ?_
 refine k15 _ _ ?_
 refine w_seqk fun _ k34 => ?_
 refine g_' ?_
 refine q_ (.int .u32 y10.1) ?_
 refine q_ (.int .u64 y10.2.1) ?_
 refine q_ (.bool y10.2.2) ?_
 refine q_ (.int .u32 y10.1) ?_
 refine q_ (.int .u64 y10.2.1) ?_
 refine q_ (.bool y10.2.2) ?_
 refine s_nil (k34 _ _ ?_)
 refine w_ret ?_
 refine b_ret (fn := Try.f101) (vs := [.int .u32 y10.1, .int .u64 y10.2.1, .bool y10.2.2]) (aRes_tmp (by kernel_rfl) (aRes_tmp (by kernel_rfl) (aRes_tmp (by kernel_rfl) (rfl)))) ?_
 obtain rfl := Option.some.inj r33
 exact ⟨(hd_h_), rfl, (FrS.refl (W := ([b_h] ++ (fp_h_ ++ fp_h_2))) wf), h_h_2, h_h_, h_h⟩

theorem c_stamp_Stamp_Get {H : AH} {b_s : Nat} {hd_s_ : Value} {fp_s_ : Fp} {s_ : List (Int × Int)} {s_2 : Int} {s_3 : Int} {i : Int} {r : Int × Bool}
    (wf : WF H) (h_s_ : Sq enc_u64_u32 2 H hd_s_ s_ fp_s_) (h_s : Row H b_s [hd_s_, .int .u32 s_2, i_ s_3]) (hr : z_stamp_Stamp_Get s_ s_2 s_3 i = some r) :
    ACalls Try.prog 90 #[pt_ b_s 0, i_ i] H fun v H' => v = .tuple #[.int .u64 r.1, .bool r.2] ∧ H = H' := by
 refine acalls_of_body mixed Try.func90 rfl (Nat.le_of_ble_eq_true rfl) ?_
 unfold z_stamp_Stamp_Get at hr
 refine w_seqk fun _ k1 => ?_
 refine g_' ?_
 refine q_ (.int .u64 0) ?_
 refine q_ (.bool false) ?_
 refine s_nil (k1 _ _ ?_)
 refine w_seqk fun _ k2 => ?_
 refine w_seqk fun _ k3 => ?_
 obtain ⟨o4, hx5, r6⟩ := bind_some hr
 refine w_mid (fun α H7 => Has α [(0, pt_ b_s 0), (1, i_ i), (35, .bool o4)] ∧ H = H7) (fun _ k9 => ?_) (fun α H7 hM => ?_)
 ·refine w_draw [0, 1, 2, 3, 4, 5, 6, 7, 8, 9, 10, 11, 12, 13, 14, 15, 16, 17, 18, 19, 20, 21, 22, 23, 24, 25, 26, 27, 28, 29] (by kernel_rfl) ?_
  refine e_' (pt_ b_s 0) ?_
  refine e_' (.bool false) ?_
  refine e_' (.bool false) ?_
  refine e_' (i_ i) ?_
  refine d_b (i < 0) (by kernel_rfl) (fun h11 => ?_) (fun h11 => ?_)
  ·have r12 := ite_t h11 hx5
   refine e_' (.bool true) ?_
   refine e_' (.bool true) ?_
   refine j_' ?_
   refine j_' ?_
   refine j_' ?_
   refine j_' ?_
   refine j_' ?_
   refine j_' ?_
   refine j_' ?_
   refine e_' (.bool true) ?_
   refine e_' (.bool true) ?_
   refine j_' ?_
   refine j_' ?_
   refine j_' ?_
   refine j_' ?_
   refine j_' ?_
   refine j_' ?_
   refine j_' ?_
   refine j_' ?_
   refine j_' ?_
   refine j_' ?_
   refine j_' ?_
   refine j_' ?_
   refine j_' ?_
   refine e_' (.bool true) ?_
   refine d_nil ?_
   obtain rfl := Option.some.inj r12
   exact k9 _ _ ⟨ha_, rfl⟩
  have r13 := ite_f h11 hx5
  refine e_' (.bool false) ?_
  refine e_' (.bool false) ?_
  refine e_' (i_ i) ?_
  refine e_' (pt_ b_s 0) ?_
  refine e_' (pt_ b_s 0) ?_
  refine e_' (pt_ b_s 0) ?_
  refine m_' (hd_s_) (aLoad Try.prog 180 (pt_ b_s 0) H) (h_s.ld (by kernel_rfl)) ?_
  refine m_' (i_ (s_.length : Int)) (aLen Try.prog 180 hd_s_ H) (h_s_.lenb (by kernel_rfl)) ?_
  refine d_b (i ≥ (s_.length : Int)) (by kernel_rfl) (fun h14 => ?_) (fun h14 => ?_)
  ·have r15 := ite_t h14 r13
   refine e_' (.bool true) ?_
   refine e_' (.bool true) ?_
   refine j_' ?_
   refine j_' ?_
   refine j_' ?_
   refine j_' ?_
   refine j_' ?_
   refine j_' ?_
   refine j_' ?_
   refine j_' ?_
   refine j_' ?_
   refine j_' ?_
   refine j_' ?_
   refine j_' ?_
   refine j_' ?_
   refine e_' (.bool true) ?_
   refine d_nil ?_
   obtain rfl := Option.some.inj r15
   exact k9 _ _ ⟨ha_, rfl⟩
  have r16 := ite_f h14 r13
  refine e_' (.bool false) ?_
  refine e_' (.bool false) ?_
  refine e_' (pt_ b_s 0) ?_
  refine e_' (pt_ b_s 0) ?_
  refine e_' (pt_ b_s 0) ?_
  refine m_' (hd_s_) (aLoad Try.prog 180 (pt_ b_s 0) H) (h_s.ld (by kernel_rfl)) ?_
  refine e_' (i_ i) ?_
  obtain ⟨g17, r18⟩ := G_some r16
  refine m_' (elp hd_s_ 2 i.toNat 0) (aIndexAddr Try.prog 180 hd_s_ (i_ i)) (h_s_.idxb (by kernel_rfl) g17.1 g17.2) ?_
  refine m_' (elp hd_s_ 2 i.toNat 1) (aFieldAddr Try.prog 184 (elp hd_s_ 2 i.toNat 0) 1) (Sq.fldq (d := 1) h_s_ g17.1 g17.2 (by kernel_rfl)) ?_
  refine m_' (.int .u32 ((gt s_ i).2)) (aLoad Try.prog 163 (elp hd_s_ 2 i.toNat 1) H) (h_s_.ld g17.1 g17.2 (by kernel_rfl)) ?_
  refine e_' (pt_ b_s 0) ?_
  refine e_' (pt_ b_s 0) ?_
  refine e_' (pt_ b_s 1) ?_
  refine m_' (.int .u32 s_2) (aLoad Try.prog 163 (pt_ b_s 1) H) (h_s.ld (by kernel_rfl)) ?_
  refine e_' (.bool (!decide (((gt s_ i).2) = s_2))) ?_
  refine e_' (.bool (!decide (((gt s_ i).2) = s_2))) ?_
  refine d_nil ?_
  obtain rfl := Option.some.inj r18
  exact k9 _ _ ⟨ha_, rfl⟩
 obtain ⟨hh10, rfl⟩ := hM
 obtain ⟨β, rfl⟩ := has_ex hh10
 clear hh10
 refine k3 _ _ ?_
 refine w_cond (o4) (by kernel_rfl) rfl (fun h19 => ?_) (fun h19 => ?_)
 ·have r20 := ite_t h19 r6
  refine w_seqk fun _ k21 => ?_
  refine g_' ?_
  refine q_ (.int .u64 0) ?_
  refine q_ (.bool false) ?_
  refine s_nil (k21 _ _ ?_)
  refine w_ret (th_ret ?_)
  refine b_ret (fn := Try.f90) (vs := [.int .u64 0, .bool false]) (aRes_tmp (by kernel_rfl) (aRes_tmp (by kernel_rfl) (rfl))) ?_
  obtain rfl := Option.some.inj r20
  exact ⟨rfl, rfl⟩
 have r22 := ite_bf h19 r6
 refine w_skip ?_
 refine k2 _ _ ?_
 refine w_seqk fun _ k23 => ?_
 refine g_' ?_
 refine q_ (pt_ b_s 0) ?_
 refine q_ (pt_ b_s 0) ?_
 refine q_ (pt_ b_s 0) ?_
 refine l_' (hd_s_) (aLoad Try.prog 180 (pt_ b_s 0) H) (h_s.ld (by kernel_rfl)) ?_
 refine q_ (i_ i) ?_
 obtain ⟨g24, r25⟩ := G_some r22
 refine l_' (elp hd_s_ 2 i.toNat 0) (aIndexAddr Try.prog 180 hd_s_ (i_ i)) (h_s_.idxb (by kernel_rfl) g24.1 g24.2) ?_
 refine l_' (elp hd_s_ 2 i.toNat 0) (aFieldAddr Try.prog 184 (elp hd_s_ 2 i.toNat 0) 0) (Sq.fldq (d := 0) h_s_ g24.1 g24.2 (by kernel_rfl)) ?_
 refine l_' (.int .u64 ((gt s_ i).1)) (aLoad Try.prog 34 (elp hd_s_ 2 i.toNat 0) H) (h_s_.ld g24.1 g24.2 (by kernel_rfl)) ?_
 refine q_ (.int .u64 ((gt s_ i).1)) ?_
 refine q_ (.bool true) ?_
 refine s_nil (k23 _ _ ?_)
 refine w_ret ?_
 refine b_ret (fn := Try.f90) (vs := [.int .u64 ((gt s_ i).1), .bool true]) (aRes_tmp (by kernel_rfl) (aRes_tmp (by kernel_rfl) (rfl))) ?_
 obtain rfl := Option.some.inj r25
 exact ⟨rfl, rfl⟩

theorem c_search_state_settle {H : AH} {b_st : Nat} {hd_st_ : Value} {fp_st_ : Fp} {hd_st_2 : Value} {fp_st_2 : Fp} {hd_st_3 : Value} {fp_st_3 : Fp} {b_st_4 : Nat} {hd_st_5 : Value} {fp_st_5 : Fp} {hd_st_6 : Value} {fp_st_6 : Fp} {b_st_7 : Nat} {hd_st_8 : Value} {fp_st_8 : Fp} {hd_st_11 : Value} {fp_st_11 : Fp} {hd_st_12 : Value} {fp_st_12 : Fp} {st_ : List (Int)} {st_2 : List (Int)} {st_3 : List (Int)} {st_5 : List (Int × Int)} {st_6 : List (Int)} {st_8 : List (Int × Int)} {st_9 : Int} {st_10 : Int} {st_11 : List (Int)} {st_12 : List (Bool)} {v_ : Int} {d : Int} {hops : Int} {r : List (Int) × List (Int × Int) × List (Int × Int) × Int × List (Int) × List (Bool)}
    (wf : WF H) (h_st_ : Sq (encI .i64) 1 H hd_st_ st_ fp_st_) (h_st_2 : Sq (encI .i64) 1 H hd_st_2 st_2 fp_st_2) (h_st_3 : Sq (encI .i64) 1 H hd_st_3 st_3 fp_st_3) (h_st_5 : Ow enc_u64_u32 2 H hd_st_5 st_5 fp_st_5) (h_st_6 : Ow (encI .i64) 1 H hd_st_6 st_6 fp_st_6) (h_st_4 : Row H b_st_4 [hd_st_5, hd_st_6]) (h_st_8 : Ow enc_u64_u32 2 H hd_st_8 st_8 fp_st_8) (h_st_7 : Row H b_st_7 [hd_st_8, .int .u32 st_9, i_ st_10]) (h_st_11 : Ow (encI .i64) 1 H hd_st_11 st_11 fp_st_11) (h_st_12 : Ow encB 1 H hd_st_12 st_12 fp_st_12) (h_st : Row H b_st [hd_st_, hd_st_2, hd_st_3, pt_ b_st_4 0, pt_ b_st_7 0, hd_st_11, hd_st_12]) (dj_fp_st_12_b_st : Dj fp_st_12 [b_st]) (dj_fp_st_12_fp_st_11 : Dj fp_st_12 fp_st_11) (dj_fp_st_12_fp_st_6 : Dj fp_st_12 fp_st_6) (dj_fp_st_12_fp_st_5 : Dj fp_st_12 fp_st_5) (dj_fp_st_12_b_st_4 : Dj fp_st_12 [b_st_4]) (dj_fp_st_12_fp_st_8 : Dj fp_st_12 fp_st_8) (dj_fp_st_12_b_st_7 : Dj fp_st_12 [b_st_7]) (dj_fp_st_12_fp_st_ : Dj fp_st_12 fp_st_) (dj_fp_st_12_fp_st_2 : Dj fp_st_12 fp_st_2) (dj_fp_st_12_fp_st_3 : Dj fp_st_12 fp_st_3) (dj_b_st_7_fp_st_8 : Dj [b_st_7] fp_st_8) (dj_fp_st_8_b_st : Dj fp_st_8 [b_st]) (dj_b_st_7_b_st : Dj [b_st_7] [b_st]) (dj_fp_st_8_fp_st_11 : Dj fp_st_8 fp_st_11) (dj_b_st_7_fp_st_11 : Dj [b_st_7] fp_st_11) (dj_fp_st_11_b_st : Dj fp_st_11 [b_st]) (dj_fp_st_8_fp_st_5 : Dj fp_st_8 fp_st_5) (dj_b_st_7_fp_st_5 : Dj [b_st_7] fp_st_5) (dj_fp_st_11_fp_st_5 : Dj fp_st_11 fp_st_5) (dj_fp_st_8_fp_st_6 : Dj fp_st_8 fp_st_6) (dj_b_st_7_fp_st_6 : Dj [b_st_7] fp_st_6) (dj_fp_st_11_fp_st_6 : Dj fp_st_11 fp_st_6) (dj_fp_st_8_b_st_4 : Dj fp_st_8 [b_st_4]) (dj_b_st_7_b_st_4 : Dj [b_st_7] [b_st_4]) (dj_fp_st_11_b_st_4 : Dj fp_st_11 [b_st_4]) (dj_fp_st_5_b_st_4 : Dj fp_st_5 [b_st_4]) (dj_fp_st_5_fp_st_6 : Dj fp_st_5 fp_st_6) (dj_b_st_4_fp_st_6 : Dj [b_st_4] fp_st_6) (dj_fp_st_6_b_st : Dj fp_st_6 [b_st]) (dj_fp_st_5_b_st : Dj fp_st_5 [b_st]) (dj_b_st_4_b_st : Dj [b_st_4] [b_st]) (dj_fp_st_8_fp_st_ : Dj fp_st_8 fp_st_) (dj_fp_st_6_fp_st_ : Dj fp_st_6 fp_st_) (dj_fp_st_5_fp_st_ : Dj fp_st_5 fp_st_) (dj_fp_st_11_fp_st_ : Dj fp_st_11 fp_st_) (dj_b_st_7_fp_st_ : Dj [b_st_7] fp_st_) (dj_b_st_4_fp_st_ : Dj [b_st_4] fp_st_) (dj_fp_st_8_fp_st_2 : Dj fp_st_8 fp_st_2) (dj_fp_st_6_fp_st_2 : Dj fp_st_6 fp_st_2) (dj_fp_st_5_fp_st_2 : Dj fp_st_5 fp_st_2) (dj_fp_st_11_fp_st_2 : Dj fp_st_11 fp_st_2) (dj_b_st_7_fp_st_2 : Dj [b_st_7] fp_st_2) (dj_b_st_4_fp_st_2 : Dj [b_st_4] fp_st_2) (dj_fp_st_8_fp_st_3 : Dj fp_st_8 fp_st_3) (dj_fp_st_6_fp_st_3 : Dj fp_st_6 fp_st_3) (dj_fp_st_5_fp_st_3 : Dj fp_st_5 fp_st_3) (dj_fp_st_11_fp_st_3 : Dj fp_st_11 fp_st_3) (dj_b_st_7_fp_st_3 : Dj [b_st_7] fp_st_3) (dj_b_st_4_fp_st_3 : Dj [b_st_4] fp_st_3) (dj_fp_st_8_fp_st_12 : Dj fp_st_8 fp_st_12) (dj_fp_st_6_fp_st_12 : Dj fp_st_6 fp_st_12) (dj_fp_st_5_fp_st_12 : Dj fp_st_5 fp_st_12) (dj_b_st_7_fp_st_12 : Dj [b_st_7] fp_st_12) (dj_b_st_4_fp_st_12 : Dj [b_st_4] fp_st_12) (dj_fp_st_5_fp_st_8 : Dj fp_st_5 fp_st_8) (dj_fp_st_5_b_st_7 : Dj fp_st_5 [b_st_7]) (dj_fp_st_5_fp_st_11 : Dj fp_st_5 fp_st_11) (hr : z_search_state_settle st_ st_2 st_3 st_5 st_6 st_8 st_9 st_10 st_11 st_12 v_ d hops = some r) :
    ACalls Try.prog 102 #[pt_ b_st 0, i_ v_, .int .u64 d, i_ hops] H fun v H' => ∃ (s5 : Value) (f6 : Fp), v = .tuple #[] ∧ FrS ([b_st_4] ++ ([b_st_7] ++ (fp_st_11 ++ (fp_st_12 ++ (fp_st_5 ++ (fp_st_6 ++ fp_st_8)))))) H H' ∧ Ow (encI .i64) 1 H' hd_st_6 r.1 fp_st_6 ∧ Ow enc_u64_u32 2 H' s5 r.2.1 f6 ∧ Row H' b_st_4 [s5, hd_st_6] ∧ Ow enc_u64_u32 2 H' hd_st_8 r.2.2.1 fp_st_8 ∧ Row H' b_st_7 [hd_st_8, .int .u32 st_9, i_ r.2.2.2.1] ∧ Ow (encI .i64) 1 H' hd_st_11 r.2.2.2.2.1 fp_st_11 ∧ Ow encB 1 H' hd_st_12 r.2.2.2.2.2 fp_st_12 ∧ Inn fp_st_5 H f6 := by
 refine acalls_of_body mixed Try.func102 rfl (Nat.le_of_ble_eq_true rfl) ?_
 unfold z_search_state_settle at hr
 refine w_seqk fun _ k18 => ?_
 refine g_' ?_
 refine q_ (pt_ b_st 0) ?_
 refine q_ (pt_ b_st 0) ?_
 refine q_ (pt_ b_st 6) ?_
 refine l_' (hd_st_12) (aLoad Try.prog 116 (pt_ b_st 6) H) (h_st.ld (by kernel_rfl)) ?_
 refine q_ (i_ v_) ?_
 obtain ⟨g19, r20⟩ := G_some hr
 refine l_' (elp hd_st_12 1 v_.toNat 0) (aIndexAddr Try.prog 116 hd_st_12 (i_ v_)) (h_st_12.sq.idxb (by kernel_rfl) g19.1 g19.2) ?_
 obtain ⟨H21, q22, e23, hm24⟩ := Ow.store (P := Try.prog) (t := 4) (off := 0) wf h_st_12 g19.1 g19.2 (.bool true) [.bool true] (by kernel_rfl) (by kernel_rfl) rfl true (Nat.le_of_ble_eq_true rfl) (by kernel_rfl)
 refine s_ek (undef) (by kernel_rfl) (map_ok q22) ?_
 refine s_nil (k18 _ _ ?_)
 refine w_seqk fun _ k25 => ?_
 refine w_seqk fun _ k26 => ?_
 refine g_' ?_
 refine q_ (pt_ b_st 0) ?_
 refine q_ (pt_ b_st 0) ?_
 refine q_ (pt_ b_st 5) ?_
 have u27 := (h_st.frS e23 dj_fp_st_12_b_st)
 refine l_' (hd_st_11) (aLoad Try.prog 25 (pt_ b_st 5) H21) (u27.ld (by kernel_rfl)) ?_
 refine q_ (i_ v_) ?_
 obtain ⟨g28, r29⟩ := G_some r20
 have u30 := (h_st_11.fr e23 dj_fp_st_12_fp_st_11)
 refine l_' (elp hd_st_11 1 v_.toNat 0) (aIndexAddr Try.prog 25 hd_st_11 (i_ v_)) (u30.sq.idxb (by kernel_rfl) g19.1 g28) ?_
 refine l_' (i_ (gt st_11 v_)) (aLoad Try.prog 3 (elp hd_st_11 1 v_.toNat 0) H21) (u30.sq.ld g19.1 g28 (by kernel_rfl)) ?_
 refine q_ (i_ hops) ?_
 refine q_ (.bool (decide ((gt st_11 v_) ≥ hops))) ?_
 refine s_nil (k26 _ _ ?_)
 refine w_condp ((gt st_11 v_) ≥ hops) (by kernel_rfl) rfl (fun h31 => ?_) (fun h31 => ?_)
 ·have r32 := ite_t h31 r29
  refine w_ret (th_ret ?_)
  refine b_ret (fn := Try.f102) (vs := []) (rfl) ?_
  have u33 := (h_st_6.fr e23 dj_fp_st_12_fp_st_6)
  have u34 := (h_st_5.fr e23 dj_fp_st_12_fp_st_5)
  have u35 := (h_st_4.frS e23 dj_fp_st_12_b_st_4)
  have u36 := (h_st_8.fr e23 dj_fp_st_12_fp_st_8)
  have u37 := (h_st_7.frS e23 dj_fp_st_12_b_st_7)
  obtain rfl := Option.some.inj r32
  exact ⟨(hd_st_5), fp_st_5, rfl, (FrS.step wf (FrS.refl (W := ([b_st_4] ++ ([b_st_7] ++ (fp_st_11 ++ (fp_st_12 ++ (fp_st_5 ++ (fp_st_6 ++ fp_st_8))))))) wf) e23 (Inn.right (Inn.right (Inn.right Inn.left)))), u33, u34, u35, u36, u37, u30, hm24, Inn.refl'⟩
 have r38 := ite_f h31 r29
 refine w_skip ?_
 refine k25 _ _ ?_
 refine w_seqk fun _ k39 => ?_
 refine g_' ?_
 refine q_ (pt_ b_st 0) ?_
 refine q_ (pt_ b_st 0) ?_
 refine q_ (pt_ b_st 0) ?_
 refine q_ (pt_ b_st 0) ?_
 refine l_' (hd_st_) (aLoad Try.prog 25 (pt_ b_st 0) H21) (u27.ld (by kernel_rfl)) ?_
 refine q_ (i_ v_) ?_
 obtain ⟨g40, r41⟩ := G_some r38
 have u42 := (h_st_.fr e23 dj_fp_st_12_fp_st_)
 refine l_' (elp hd_st_ 1 v_.toNat 0) (aIndexAddr Try.prog 25 hd_st_ (i_ v_)) (u42.idxb (by kernel_rfl) g19.1 g40) ?_
 refine l_' (i_ (gt st_ v_)) (aLoad Try.prog 3 (elp hd_st_ 1 v_.toNat 0) H21) (u42.ld g19.1 g40 (by kernel_rfl)) ?_
 refine q_ (i_ (gt st_ v_)) ?_
 refine s_nil (k39 _ _ ?_)
 obtain ⟨o43, hx44, r45⟩ := bind_some r41
 refine w_mid (fun α H46 => ∃ (s52 : Value) (f53 : Fp), Has α [] ∧ FrS ([b_st_4] ++ ([b_st_7] ++ (fp_st_11 ++ (fp_st_5 ++ (fp_st_6 ++ fp_st_8))))) H21 H46 ∧ Ow (encI .i64) 1 H46 hd_st_6 o43.1 fp_st_6 ∧ Ow enc_u64_u32 2 H46 s52 o43.2.1 f53 ∧ Row H46 b_st_4 [s52, hd_st_6] ∧ Ow enc_u64_u32 2 H46 hd_st_8 o43.2.2.1 fp_st_8 ∧ Row H46 b_st_7 [hd_st_8, .int .u32 st_9, i_ o43.2.2.2.1] ∧ Ow (encI .i64) 1 H46 hd_st_11 o43.2.2.2.2 fp_st_11 ∧ Inn fp_st_5 H21 f53) (fun _ k63 => ?_) (fun α H46 hM => ?_)
 ·refine w_block ?_
  obtain ⟨n65, hn66⟩ := loopO_iff.1 hx44
  have u90 := (h_st_5.fr e23 dj_fp_st_12_fp_st_5)
  have u91 := (h_st_6.fr e23 dj_fp_st_12_fp_st_6)
  have u92 := (h_st_4.frS e23 dj_fp_st_12_b_st_4)
  have u93 := (h_st_8.fr e23 dj_fp_st_12_fp_st_8)
  have u94 := (h_st_7.frS e23 dj_fp_st_12_b_st_7)
  refine w_loopn (fun n α H67 => ∃ (st0 : List (Int × Int)), ∃ (st1 : List (Int)), ∃ (st2 : List (Int × Int)), ∃ (st3 : Int), ∃ (st4 : List (Int)), ∃ (i5 : Int), ∃ (s71 : Value), ∃ (f72 : Fp), iterO (fun zz_ => z_search_state_settle_l0 st_ st_2 st_3 st_9 st_12 v_ d zz_.1 zz_.2.1 zz_.2.2.1 zz_.2.2.2.1 zz_.2.2.2.2.1 zz_.2.2.2.2.2) n (st0, st1, st2, st3, st4, i5) = some o43 ∧ Has α [(0, pt_ b_st 0), (1, i_ v_), (2, .int .u64 d), (8, i_ i5)] ∧ FrS ([b_st_4] ++ ([b_st_7] ++ (fp_st_11 ++ (fp_st_5 ++ (fp_st_6 ++ fp_st_8))))) H21 H67 ∧ Ow enc_u64_u32 2 H67 s71 st0 f72 ∧ Ow (encI .i64) 1 H67 hd_st_6 st1 fp_st_6 ∧ Row H67 b_st_4 [s71, hd_st_6] ∧ Ow enc_u64_u32 2 H67 hd_st_8 st2 fp_st_8 ∧ Row H67 b_st_7 [hd_st_8, .int .u32 st_9, i_ st3] ∧ Ow (encI .i64) 1 H67 hd_st_11 st4 fp_st_11 ∧ Inn fp_st_5 H21 f72) n65 ⟨st_5, st_6, st_8, st_10, st_11, (gt st_ v_), (hd_st_5), fp_st_5, hn66, ha_, (FrS.refl (W := ([b_st_4] ++ ([b_st_7] ++ (fp_st_11 ++ (fp_st_5 ++ (fp_st_6 ++ fp_st_8)))))) e23.wf), u90, u91, u92, u93, u94, u30, Inn.refl'⟩ ?_
  rintro n65 α H67 ⟨st0, st1, st2, st3, st4, i5, s71, f72, hi85, hh84, e68, m70, m74, m76, m78, m80, m82, i83⟩ K95 k95
  obtain ⟨n86, z87, rfl, hz88, hn89⟩ := iter_succ hi85
  obtain ⟨β, rfl⟩ := has_ex hh84
  clear hh84
  replace hz88 : z_search_state_settle_l0 st_ st_2 st_3 st_9 st_12 v_ d st0 st1 st2 st3 st4 i5 = some z87 := hz88
  unfold z_search_state_settle_l0 at hz88
  obtain ⟨a96, n97, c98, rfl⟩ := m70.form
  refine w_seqk fun _ k99 => ?_
  refine w_seqk fun _ k100 => ?_
  refine g_' ?_
  refine q_ (i_ i5) ?_
  refine q_ (pt_ b_st 0) ?_
  refine q_ (pt_ b_st 0) ?_
  refine q_ (pt_ b_st 0) ?_
  refine q_ (pt_ b_st 0) ?_
  have u101 := (u27.frS e68 (Dj.app dj_b_st_4_b_st (Dj.app dj_b_st_7_b_st (Dj.app dj_fp_st_11_b_st (Dj.app dj_fp_st_5_b_st (Dj.app dj_fp_st_6_b_st dj_fp_st_8_b_st))))))
  refine l_' (hd_st_) (aLoad Try.prog 25 (pt_ b_st 0) H67) (u101.ld (by kernel_rfl)) ?_
  refine q_ (i_ v_) ?_
  obtain ⟨g102, r103⟩ := G_some hz88
  refine s_w ((v_ + 1)) (k := .i64) (x := (v_ + 1)) (by kernel_rfl) (wrap64 (by have := g102; omega)) ?_
  obtain ⟨g104, r105⟩ := G_some r103
  have u106 := (u42.fr e68 (Dj.app dj_b_st_4_fp_st_ (Dj.app dj_b_st_7_fp_st_ (Dj.app dj_fp_st_11_fp_st_ (Dj.app dj_fp_st_5_fp_st_ (Dj.app dj_fp_st_6_fp_st_ dj_fp_st_8_fp_st_))))))
  refine l_' (elp hd_st_ 1 (v_ + 1).toNat 0) (aIndexAddr Try.prog 25 hd_st_ (i_ (v_ + 1))) (u106.idxb (by kernel_rfl) g104.1 g104.2) ?_
  refine l_' (i_ (gt st_ (v_ + 1))) (aLoad Try.prog 3 (elp hd_st_ 1 (v_ + 1).toNat 0) H67) (u106.ld g104.1 g104.2 (by kernel_rfl)) ?_
  refine q_ (.bool (decide (i5 < (gt st_ (v_ + 1))))) ?_
  refine s_nil (k100 _ _ ?_)
  refine w_condp (i5 < (gt st_ (v_ + 1))) (by kernel_rfl) rfl (fun h107 => ?_) (fun h107 => ?_)
  ·have r108 := ite_t h107 r105
   refine w_skip ?_
   refine k99 _ _ ?_
   refine w_seqk fun _ k109 => ?_
   refine w_block ?_
   refine w_seqk fun _ k110 => ?_
   refine w_draw [0, 1, 2, 3, 4, 5, 6, 7, 8, 9, 10, 11, 12, 13, 14, 15, 16, 17, 18, 19, 20] (by kernel_rfl) ?_
   refine e_' (pt_ b_st 0) ?_
   refine e_' (pt_ b_st 0) ?_
   refine e_' (pt_ b_st 0) ?_
   refine e_' (pt_ b_st 1) ?_
   refine m_' (hd_st_2) (aLoad Try.prog 25 (pt_ b_st 1) H67) (u101.ld (by kernel_rfl)) ?_
   refine e_' (i_ i5) ?_
   obtain ⟨g111, r112⟩ := G_some r108
   have u113 := ((h_st_2.fr e23 dj_fp_st_12_fp_st_2).fr e68 (Dj.app dj_b_st_4_fp_st_2 (Dj.app dj_b_st_7_fp_st_2 (Dj.app dj_fp_st_11_fp_st_2 (Dj.app dj_fp_st_5_fp_st_2 (Dj.app dj_fp_st_6_fp_st_2 dj_fp_st_8_fp_st_2))))))
   refine m_' (elp hd_st_2 1 i5.toNat 0) (aIndexAddr Try.prog 25 hd_st_2 (i_ i5)) (u113.idxb (by kernel_rfl) g111.1 g111.2) ?_
   refine m_' (i_ (gt st_2 i5)) (aLoad Try.prog 3 (elp hd_st_2 1 i5.toNat 0) H67) (u113.ld g111.1 g111.2 (by kernel_rfl)) ?_
   refine e_' (.int .u64 d) ?_
   refine e_' (pt_ b_st 0) ?_
   refine e_' (pt_ b_st 0) ?_
   refine e_' (pt_ b_st 0) ?_
   refine e_' (pt_ b_st 2) ?_
   refine m_' (hd_st_3) (aLoad Try.prog 25 (pt_ b_st 2) H67) (u101.ld (by kernel_rfl)) ?_
   refine e_' (i_ i5) ?_
   obtain ⟨g114, r115⟩ := G_some r112
   have u116 := ((h_st_3.fr e23 dj_fp_st_12_fp_st_3).fr e68 (Dj.app dj_b_st_4_fp_st_3 (Dj.app dj_b_st_7_fp_st_3 (Dj.app dj_fp_st_11_fp_st_3 (Dj.app dj_fp_st_5_fp_st_3 (Dj.app dj_fp_st_6_fp_st_3 dj_fp_st_8_fp_st_3))))))
   refine m_' (elp hd_st_3 1 i5.toNat 0) (aIndexAddr Try.prog 25 hd_st_3 (i_ i5)) (u116.idxb (by kernel_rfl) g111.1 g114) ?_
   refine m_' (i_ (gt st_3 i5)) (aLoad Try.prog 3 (elp hd_st_3 1 i5.toNat 0) H67) (u116.ld g111.1 g114 (by kernel_rfl)) ?_
   obtain ⟨g117, r118⟩ := G_some r115
   refine d_w ((gt st_3 i5)) (k := .u64) (x := (gt st_3 i5)) (by kernel_rfl) (wrapu64 g117) ?_
   obtain ⟨g119, r120⟩ := G_some r118
   refine d_w ((d + (gt st_3 i5))) (k := .u64) (x := (d + (gt st_3 i5))) (by kernel_rfl) (wrapu64 g119) ?_
   refine e_' (i_ (gt st_2 i5)) ?_
   refine e_' (.int .u64 (d + (gt st_3 i5))) ?_
   refine d_nil ?_
   refine k110 _ _ ?_
   refine w_seqk fun _ k121 => ?_
   refine g_' ?_
   refine q_ (pt_ b_st 0) ?_
   refine q_ (pt_ b_st 0) ?_
   refine q_ (pt_ b_st 4) ?_
   refine l_' (pt_ b_st_7 0) (aLoad Try.prog 115 (pt_ b_st 4) H67) (u101.ld (by kernel_rfl)) ?_
   refine q_ (i_ (gt st_2 i5)) ?_
   obtain ⟨y122, hy123, r124⟩ := bind_some r120
   refine s_ck 90 #[pt_ b_st_7 0, i_ (gt st_2 i5)] (by kernel_rfl) (c_stamp_Stamp_Get e68.wf m78.sq m80 hy123) ?_
   rintro _ _ ⟨rfl, rfl⟩
   refine q_ (.tuple #[.int .u64 y122.1, .bool y122.2]) ?_
   refine q_ (.int .u64 y122.1) ?_
   refine q_ (.bool y122.2) ?_
   refine q_ (.int .u64 y122.1) ?_
   refine q_ (.bool y122.2) ?_
   refine s_nil (k121 _ _ ?_)
   refine w_seqk fun _ k127 => ?_
   obtain ⟨o128, hx129, r130⟩ := bind_some r124
   refine w_mid (fun α H131 => Has α [(0, pt_ b_st 0), (1, i_ v_), (2, .int .u64 d), (8, i_ i5), (9, i_ (gt st_2 i5)), (10, .int .u64 (d + (gt st_3 i5))), (93, .bool o128)] ∧ H67 = H131) (fun _ k133 => ?_) (fun α H131 hM => ?_)
   ·refine g_' ?_
    refine q_ (pt_ b_st 0) ?_
    refine q_ (pt_ b_st 0) ?_
    refine q_ (pt_ b_st 6) ?_
    refine l_' (hd_st_12) (aLoad Try.prog 116 (pt_ b_st 6) H67) (u101.ld (by kernel_rfl)) ?_
    refine q_ (i_ (gt st_2 i5)) ?_
    obtain ⟨g135, r136⟩ := G_some hx129
    have u137 := (hm24.fr e68 (Dj.app dj_b_st_4_fp_st_12 (Dj.app dj_b_st_7_fp_st_12 (Dj.app (Dj.symm dj_fp_st_12_fp_st_11) (Dj.app dj_fp_st_5_fp_st_12 (Dj.app dj_fp_st_6_fp_st_12 dj_fp_st_8_fp_st_12))))))
    refine l_' (elp hd_st_12 1 (gt st_2 i5).toNat 0) (aIndexAddr Try.prog 116 hd_st_12 (i_ (gt st_2 i5))) (u137.sq.idxb (by kernel_rfl) g135.1 g135.2) ?_
    refine l_' (.bool (gt (st_12.set v_.toNat true) (gt st_2 i5))) (aLoad Try.prog 4 (elp hd_st_12 1 (gt st_2 i5).toNat 0) H67) (u137.sq.ld g135.1 g135.2 (by kernel_rfl)) ?_
    refine q_ (.bool (!(gt (st_12.set v_.toNat true) (gt st_2 i5)))) ?_
    refine q_ (.bool (!(gt (st_12.set v_.toNat true) (gt st_2 i5)))) ?_
    by_cases h138 : (!(gt (st_12.set v_.toNat true) (gt st_2 i5))) = true
    ·have r139 := ite_t h138 r136
     rw [h138]
     refine q_ (.bool y122.2) ?_
     refine q_ (.bool (!y122.2)) ?_
     refine q_ (.bool (!y122.2)) ?_
     by_cases h140 : (!y122.2) = true
     ·have r141 := ite_t h140 r139
      rw [h140]
      refine n_' ?_
      refine n_' ?_
      refine n_' ?_
      refine q_ (.bool true) ?_
      refine q_ (.bool true) ?_
      refine s_nil ?_
      obtain rfl := Option.some.inj r141
      exact k133 _ _ ⟨ha_, rfl⟩
     have r142 := ite_f h140 r139
     rw [nb h140]
     refine q_ (.int .u64 (d + (gt st_3 i5))) ?_
     refine q_ (.int .u64 y122.1) ?_
     refine q_ (.bool (decide ((d + (gt st_3 i5)) < y122.1))) ?_
     refine q_ (.bool (decide ((d + (gt st_3 i5)) < y122.1))) ?_
     refine q_ (.bool (decide ((d + (gt st_3 i5)) < y122.1))) ?_
     refine s_nil ?_
     obtain rfl := Option.some.inj r142
     exact k133 _ _ ⟨ha_, rfl⟩
    have r143 := ite_f h138 r136
    rw [nb h138]
    refine n_' ?_
    refine n_' ?_
    refine n_' ?_
    refine n_' ?_
    refine n_' ?_
    refine n_' ?_
    refine n_' ?_
    refine q_ (.bool false) ?_
    refine s_nil ?_
    obtain rfl := Option.some.inj r143
    exact k133 _ _ ⟨ha_, rfl⟩
   obtain ⟨hh134, rfl⟩ := hM
   obtain ⟨β, rfl⟩ := has_ex hh134
   clear hh134
   refine k127 _ _ ?_
   refine w_cond (o128) (by kernel_rfl) rfl (fun h144 => ?_) (fun h144 => ?_)
   ·have r145 := ite_t h144 r130
    refine g_' ?_
    refine q_ (pt_ b_st 0) ?_
    refine q_ (i_ (gt st_2 i5)) ?_
    refine q_ (.int .u64 (d + (gt st_3 i5))) ?_
    refine q_ (pt_ b_st 0) ?_
    refine q_ (pt_ b_st 0) ?_
    refine q_ (pt_ b_st 5) ?_
    refine l_' (hd_st_11) (aLoad Try.prog 25 (pt_ b_st 5) H67) (u101.ld (by kernel_rfl)) ?_
    refine q_ (i_ v_) ?_
    obtain ⟨g146, r147⟩ := G_some r145
    refine l_' (elp hd_st_11 1 v_.toNat 0) (aIndexAddr Try.prog 25 hd_st_11 (i_ v_)) (m82.sq.idxb (by kernel_rfl) g19.1 g146) ?_
    refine l_' (i_ (gt st4 v_)) (aLoad Try.prog 3 (elp hd_st_11 1 v_.toNat 0) H67) (m82.sq.ld g19.1 g146 (by kernel_rfl)) ?_
    obtain ⟨g148, r149⟩ := G_some r147
    refine s_w (((gt st4 v_) + 1)) (k := .i64) (x := ((gt st4 v_) + 1)) (by kernel_rfl) (wrap64 g148) ?_
    have u150 := (hm24.fr e68 (Dj.app dj_b_st_4_fp_st_12 (Dj.app dj_b_st_7_fp_st_12 (Dj.app (Dj.symm dj_fp_st_12_fp_st_11) (Dj.app dj_fp_st_5_fp_st_12 (Dj.app dj_fp_st_6_fp_st_12 dj_fp_st_8_fp_st_12))))))
    obtain ⟨y151, hy152, r153⟩ := bind_some r149
    refine s_ck 99 #[pt_ b_st 0, i_ (gt st_2 i5), .int .u64 (d + (gt st_3 i5)), i_ ((gt st4 v_) + 1)] (by kernel_rfl) (c_search_state_label e68.wf u106 u113 u116 m70 m74 m76 m78 m80 m82 u150.sq u101 dj_b_st_7_fp_st_8 dj_fp_st_8_b_st dj_b_st_7_b_st dj_fp_st_8_fp_st_11 dj_b_st_7_fp_st_11 dj_fp_st_11_b_st (Dj.symm (i83.dj dj_fp_st_5_fp_st_8 (h_st_8.lt.le e23.next))) (Dj.symm (i83.dj dj_fp_st_5_b_st_7 (h_st_7.ltF.le e23.next))) (Dj.symm (i83.dj dj_fp_st_5_fp_st_11 (h_st_11.lt.le e23.next))) dj_fp_st_8_fp_st_6 dj_b_st_7_fp_st_6 dj_fp_st_11_fp_st_6 dj_fp_st_8_b_st_4 dj_b_st_7_b_st_4 dj_fp_st_11_b_st_4 (i83.dj dj_fp_st_5_b_st_4 (h_st_4.ltF.le e23.next)) (i83.dj dj_fp_st_5_fp_st_6 (h_st_6.lt.le e23.next)) dj_b_st_4_fp_st_6 hy152) ?_
    rintro _ H156 ⟨s154, f155, rfl, e157, m158, m159, m160, m161, m162, m163, i164⟩
    obtain ⟨a166, n167, c168, rfl⟩ := m159.form
    refine s_nil (k109 _ _ ?_)
    refine g_' ?_
    refine q_ (i_ i5) ?_
    obtain ⟨g169, r170⟩ := G_some r153
    refine s_w ((i5 + 1)) (k := .i64) (x := (i5 + 1)) (by kernel_rfl) (wrap64 (by have := g169; omega)) ?_
    refine q_ (i_ (i5 + 1)) ?_
    refine s_nil ?_
    obtain rfl := Option.some.inj r170
    exact k95 n86 _ _ (Nat.lt_succ_self _) ⟨y151.2.1, y151.1, y151.2.2.1, y151.2.2.2.1, y151.2.2.2.2, (i5 + 1), (.slice a166 n167 c168), f155, hn89, ha_, (FrS.step e23.wf (FrS.step e23.wf (FrS.refl (W := ([b_st_4] ++ ([b_st_7] ++ (fp_st_11 ++ (fp_st_5 ++ (fp_st_6 ++ fp_st_8)))))) e23.wf) e68 (Inn.app Inn.left (Inn.app (Inn.right Inn.left) (Inn.app (Inn.right (Inn.right Inn.left)) (Inn.app (Inn.right (Inn.right (Inn.right Inn.left))) (Inn.app (Inn.right (Inn.right (Inn.right (Inn.right Inn.left)))) (Inn.right (Inn.right (Inn.right (Inn.right (Inn.right Inn.refl'))))))))))) e157 (Inn.app Inn.left (Inn.app (Inn.right Inn.left) (Inn.app (Inn.right (Inn.right Inn.left)) (Inn.app (Inn.trans (Inn.right (Inn.right (Inn.right Inn.left))) (Nat.le_refl _) i83) (Inn.app (Inn.right (Inn.right (Inn.right (Inn.right Inn.left)))) (Inn.right (Inn.right (Inn.right (Inn.right (Inn.right Inn.refl'))))))))))), m159, m158, m160, m161, m162, m163, (Inn.trans (Inn.trans Inn.refl' (Nat.le_refl _) i83) e68.next i164)⟩
   have r171 := ite_bf h144 r130
   refine w_skip ?_
   refine k109 _ _ ?_
   refine g_' ?_
   refine q_ (i_ i5) ?_
   obtain ⟨g172, r173⟩ := G_some r171
   refine s_w ((i5 + 1)) (k := .i64) (x := (i5 + 1)) (by kernel_rfl) (wrap64 (by have := g172; omega)) ?_
   refine q_ (i_ (i5 + 1)) ?_
   refine s_nil ?_
   obtain rfl := Option.some.inj r173
   exact k95 n86 _ _ (Nat.lt_succ_self _) ⟨st0, st1, st2, st3, st4, (i5 + 1), (.slice a96 n97 c98), f72, hn89, ha_, (FrS.step e23.wf (FrS.refl (W := ([b_st_4] ++ ([b_st_7] ++ (fp_st_11 ++ (fp_st_5 ++ (fp_st_6 ++ fp_st_8)))))) e23.wf) e68 (Inn.app Inn.left (Inn.app (Inn.right Inn.left) (Inn.app (Inn.right (Inn.right Inn.left)) (Inn.app (Inn.right (Inn.right (Inn.right Inn.left))) (Inn.app (Inn.right (Inn.right (Inn.right (Inn.right Inn.left)))) (Inn.right (Inn.right (Inn.right (Inn.right (Inn.right Inn.refl'))))))))))), m70, m74, m76, m78, m80, m82, (Inn.trans Inn.refl' (Nat.le_refl _) i83)⟩
  have r174 := ite_f h107 r105
  refine w_exit (th_exit (th_exit (bl_eq ?_)))
  obtain rfl := Option.some.inj r174
  obtain rfl := it_inr hn89
  exact k63 _ _ ⟨(.slice a96 n97 c98), f72, trivial, (FrS.step e23.wf (FrS.refl (W := ([b_st_4] ++ ([b_st_7] ++ (fp_st_11 ++ (fp_st_5 ++ (fp_st_6 ++ fp_st_8)))))) e23.wf) e68 (Inn.app Inn.left (Inn.app (Inn.right Inn.left) (Inn.app (Inn.right (Inn.right Inn.left)) (Inn.app (Inn.right (Inn.right (Inn.right Inn.left))) (Inn.app (Inn.right (Inn.right (Inn.right (Inn.right Inn.left)))) (Inn.right (Inn.right (Inn.right (Inn.right (Inn.right Inn.refl'))))))))))), m74, m70, m76, m78, m80, m82, (Inn.trans Inn.refl' (Nat.le_refl _) i83)⟩
 obtain ⟨s52, f53, hh64, e47, m49, m51, m55, m57, m59, m61, i62⟩ := hM
 obtain ⟨β, rfl⟩ := has_ex hh64
 clear hh64
 obtain ⟨a175, n176, c177, rfl⟩ := m51.form
 refine b_nrm (fn := Try.f102) (vs := []) (rfl) ?_
 have u178 := (hm24.fr e47 (Dj.app dj_b_st_4_fp_st_12 (Dj.app dj_b_st_7_fp_st_12 (Dj.app (Dj.symm dj_fp_st_12_fp_st_11) (Dj.app dj_fp_st_5_fp_st_12 (Dj.app dj_fp_st_6_fp_st_12 dj_fp_st_8_fp_st_12))))))
 obtain rfl := Option.some.inj r45
 exact ⟨(.slice a175 n176 c177), f53, rfl, (FrS.step wf (FrS.step wf (FrS.refl (W := ([b_st_4] ++ ([b_st_7] ++ (fp_st_11 ++ (fp_st_12 ++ (fp_st_5 ++ (fp_st_6 ++ fp_st_8))))))) wf) e23 (Inn.right (Inn.right (Inn.right Inn.left)))) e47 (Inn.app Inn.left (Inn.app (Inn.right Inn.left) (Inn.app (Inn.right (Inn.right Inn.left)) (Inn.app (Inn.right (Inn.right (Inn.right (Inn.right Inn.left)))) (Inn.app (Inn.right (Inn.right (Inn.right (Inn.right (Inn.right Inn.left))))) (Inn.right (Inn.right (Inn.right (Inn.right (Inn.right (Inn.right Inn.refl')))))))))))), m49, m51, m55, m57, m59, m61, u178, (Inn.trans Inn.refl' e23.next i62)⟩


end Go.Vd

/-! (KWw5) -/

set_option maxRecDepth 100000
set_option maxHeartbeats 4000000
set_option linter.unusedVariables false
namespace Go.Vd
open Go.Proofs
attribute [local irreducible] wpSeq wpOrd aWp
theorem c_search_run {H : AH} {hd_First : Value} {fp_First : Fp} {hd_To : Value} {fp_To : Fp} {hd_Weight : Value} {fp_Weight : Fp} {First : List (Int)} {To : List (Int)} {Weight : List (Int)} {s : Int} {hops : Int} {settles : Int} {most : Int} {r : List (Int × Int) × List (Int) × List (Int × Int) × Int × Int × List (Int) × List (Bool)}
    (wf : WF H) (h_First : Sq (encI .i64) 1 H hd_First First fp_First) (h_To : Sq (encI .i64) 1 H hd_To To fp_To) (h_Weight : Sq (encI .i64) 1 H hd_Weight Weight fp_Weight) (hr : z_search_run First To Weight s hops settles most = some r) :
    ACalls Try.prog 59 #[.agg #[hd_First, hd_To, hd_Weight], i_ s, .agg #[i_ hops, i_ settles, .int .u64 most]] H fun v H' => ∃ (s3 : Value) (f4 : Fp) (s7 : Value) (f8 : Fp) (b11 : Nat) (s14 : Value) (f15 : Fp) (b18 : Nat) (s21 : Value) (f22 : Fp) (s25 : Value) (f26 : Fp) (b29 : Nat), v = pt_ b29 0 ∧ FrS [] H H' ∧ Ow enc_u64_u32 2 H' s3 r.1 f4 ∧ Ow (encI .i64) 1 H' s7 r.2.1 f8 ∧ Row H' b11 [s3, s7] ∧ Ow enc_u64_u32 2 H' s14 r.2.2.1 f15 ∧ Row H' b18 [s14, .int .u32 r.2.2.2.1, i_ r.2.2.2.2.1] ∧ Ow (encI .i64) 1 H' s21 r.2.2.2.2.2.1 f22 ∧ Ow encB 1 H' s25 r.2.2.2.2.2.2 f26 ∧ Row H' b29 [hd_First, hd_To, hd_Weight, pt_ b11 0, pt_ b18 0, s21, s25] ∧ Inn [] H f4 ∧ Inn [] H f8 ∧ Inn [] H [b11] ∧ Inn [] H f15 ∧ Inn [] H [b18] ∧ Inn [] H f22 ∧ Inn [] H f26 ∧ Inn [] H [b29] ∧ Dj f4 f8 ∧ Dj f4 [b11] ∧ Dj f8 [b11] ∧ Dj f4 f15 ∧ Dj f8 f15 ∧ Dj [b11] f15 ∧ Dj f4 [b18] ∧ Dj f8 [b18] ∧ Dj [b11] [b18] ∧ Dj f15 [b18] ∧ Dj f4 f22 ∧ Dj f8 f22 ∧ Dj [b11] f22 ∧ Dj f15 f22 ∧ Dj [b18] f22 ∧ Dj f4 f26 ∧ Dj f8 f26 ∧ Dj [b11] f26 ∧ Dj f15 f26 ∧ Dj [b18] f26 ∧ Dj f22 f26 ∧ Dj f4 [b29] ∧ Dj f8 [b29] ∧ Dj [b11] [b29] ∧ Dj f15 [b29] ∧ Dj [b18] [b29] ∧ Dj f22 [b29] ∧ Dj f26 [b29] := by
 refine acalls_of_body mixed Try.func59 rfl (Nat.le_of_ble_eq_true rfl) ?_
 unfold z_search_run at hr
 refine w_seqk fun _ k66 => ?_
 refine g_' ?_
 refine s_rwl wf [hd_First, hd_To, hd_Weight] (one_cons (h_First.one1) (one_cons (h_To.one1) (one_cons (h_Weight.one1) (one_nil)))) (by kernel_rfl) fun b67 H68 e69 hb70 r71 => ?_
 refine s_rwl e69.wf [i_ hops, i_ settles, .int .u64 most] (one_cons (rfl) (one_cons (rfl) (one_cons (rfl) (one_nil)))) (by kernel_rfl) fun b73 H74 e75 hb76 r77 => ?_
 refine q_ (.pointer none) ?_
 refine s_nil (k66 _ _ ?_)
 refine w_seqk fun _ k79 => ?_
 refine g_' ?_
 have u80 := (r71.ext e75)
 refine l_' (.agg #[hd_First, hd_To, hd_Weight]) (aLoad Try.prog 27 (pt_ b67 0) H74) (u80.ld (by kernel_rfl)) ?_
 have u81 := ((h_First.ext e69).ext e75)
 have u82 := ((h_To.ext e69).ext e75)
 have u83 := ((h_Weight.ext e69).ext e75)
 obtain ⟨y84, hy85, r86⟩ := bind_some hr
 refine s_ck 58 #[.agg #[hd_First, hd_To, hd_Weight]] (by kernel_rfl) (c_search_nodes e75.wf u81 u82 u83 hy85) ?_
 rintro _ H87 ⟨rfl, e88⟩
 refine q_ (i_ y84) ?_
 refine s_nil (k79 _ _ ?_)
 refine w_seqk fun _ k89 => ?_
 refine w_draw [0, 1, 2, 3, 4, 5, 6, 7] (by kernel_rfl) ?_
 have u90 := (u80.frS e88 Dj.nil_l)
 refine m_' (.agg #[hd_First, hd_To, hd_Weight]) (aLoad Try.prog 27 (pt_ b67 0) H87) (u90.ld (by kernel_rfl)) ?_
 refine e_' (i_ y84) ?_
 obtain ⟨g91, r92⟩ := G_some r86
 refine d_mks (t := 25) (m := 8) (l := y84) (c := y84) (enc := (encI .i64)) (sz := 1) e88.wf (0 : Int) (by kernel_rfl) (by decide) g91.1 (Int.le_refl _) (by omega) (by have := g91; omega) (by kernel_rfl) fun s93 f94 H95 e96 hf97 hm98 => ?_
 obtain ⟨a99, n100, c101, rfl⟩ := hm98.form
 have hm98 : Ow (encI .i64) 1 H95 (.slice a99 n100 c101) (List.replicate y84.toNat (0 : Int)) f94 := hm98
 refine e_' (i_ y84) ?_
 obtain ⟨g103, r104⟩ := G_some r92
 refine d_mks (t := 116) (m := 1) (l := y84) (c := y84) (enc := encB) (sz := 1) e96.wf (false : Bool) (by kernel_rfl) (by decide) g103.1 (Int.le_refl _) (by omega) (by have := g103; omega) (by kernel_rfl) fun s105 f106 H107 e108 hf109 hm110 => ?_
 obtain ⟨a111, n112, c113, rfl⟩ := hm110.form
 have hm110 : Ow encB 1 H107 (.slice a111 n112 c113) (List.replicate y84.toNat (false : Bool)) f106 := hm110
 have u115 := (((u81.fr e88 Dj.nil_l).ext e96).ext e108)
 obtain ⟨a116, n117, c118, rfl⟩ := u115.form
 have u119 := (((u82.fr e88 Dj.nil_l).ext e96).ext e108)
 obtain ⟨a120, n121, c122, rfl⟩ := u119.form
 have u123 := (((u83.fr e88 Dj.nil_l).ext e96).ext e108)
 obtain ⟨a124, n125, c126, rfl⟩ := u123.form
 refine e_' (.agg #[.slice a116 n117 c118, .slice a120 n121 c122, .slice a124 n125 c126, .pointer none, .pointer none, .slice a99 n100 c101, .slice a111 n112 c113]) ?_
 have u132 := (hm98.ext e108)
 refine d_rwl e108.wf [.slice a116 n117 c118, .slice a120 n121 c122, .slice a124 n125 c126, .pointer none, .pointer none, .slice a99 n100 c101, .slice a111 n112 c113] (one_cons (u115.one1) (one_cons (u119.one1) (one_cons (u123.one1) (one_cons (rfl) (one_cons (rfl) (one_cons (u132.one1) (one_cons (hm110.one1) (one_nil)))))))) (by kernel_rfl) fun b127 H128 e129 hb130 r131 => ?_
 refine e_' (pt_ b127 0) ?_
 refine d_nil ?_
 refine k89 _ _ ?_
 refine w_seqk fun _ k134 => ?_
 refine g_' ?_
 refine q_ (pt_ b127 0) ?_
 refine q_ (i_ y84) ?_
 obtain ⟨y135, hy136, r137⟩ := bind_some r104
 rcases y135 with y138 | y139
 ·exact (no_none (elim_l r137)).elim
 have r140 := elim_r r137
 refine s_ck 97 #[i_ y84] (by kernel_rfl) (c_heap_New e129.wf hy136) ?_
 rintro _ H144 ⟨s141, f142, b143, rfl, e145, m146, m147, i148, i149, d150⟩
 obtain ⟨a153, n154, c155, rfl⟩ := m146.form
 refine q_ (.tuple #[pt_ b143 0, .nilIface]) ?_
 refine q_ (pt_ b143 0) ?_
 refine q_ (.nilIface) ?_
 refine q_ (pt_ b127 0) ?_
 refine q_ (pt_ b127 3) ?_
 have u160 := (r131.frS e145 Dj.nil_l)
 obtain ⟨H156, q157, e158, r159⟩ := Row.store (P := Try.prog) (t := 114) (p := 3) e145.wf u160 (pt_ b143 0) [pt_ b143 0] (by kernel_rfl) (by kernel_rfl) (one_cons (rfl) (one_nil)) (Nat.le_of_ble_eq_true (by kernel_rfl)) [.slice a116 n117 c118, .slice a120 n121 c122, .slice a124 n125 c126, pt_ b143 0, .pointer none, .slice a99 n100 c101, .slice a111 n112 c113] (by kernel_rfl)
 refine s_ek (undef) (by kernel_rfl) (map_ok q157) ?_
 refine s_nil (k134 _ _ ?_)
 refine w_seqk fun _ k161 => ?_
 refine g_' ?_
 refine q_ (pt_ b127 0) ?_
 refine q_ (i_ y84) ?_
 obtain ⟨y162, hy163, r164⟩ := bind_some r140
 rcases y162 with y165 | y166
 ·exact (no_none (elim_l r164)).elim
 have r167 := elim_r r164
 refine s_ck 98 #[i_ y84, .int .u32 1] (by kernel_rfl) (c_stamp_New e158.wf hy163) ?_
 rintro _ H171 ⟨s168, f169, b170, rfl, e172, m173, m174, i175, i176, d177⟩
 obtain ⟨a180, n181, c182, rfl⟩ := m173.form
 refine q_ (.tuple #[pt_ b170 0, .nilIface]) ?_
 refine q_ (pt_ b170 0) ?_
 refine q_ (.nilIface) ?_
 refine q_ (pt_ b127 0) ?_
 refine q_ (pt_ b127 4) ?_
 have u187 := (r159.frS e172 Dj.nil_l)
 obtain ⟨H183, q184, e185, r186⟩ := Row.store (P := Try.prog) (t := 115) (p := 4) e172.wf u187 (pt_ b170 0) [pt_ b170 0] (by kernel_rfl) (by kernel_rfl) (one_cons (rfl) (one_nil)) (Nat.le_of_ble_eq_true (by kernel_rfl)) [.slice a116 n117 c118, .slice a120 n121 c122, .slice a124 n125 c126, pt_ b143 0, pt_ b170 0, .slice a99 n100 c101, .slice a111 n112 c113] (by kernel_rfl)
 refine s_ek (undef) (by kernel_rfl) (map_ok q184) ?_
 refine s_nil (k161 _ _ ?_)
 refine w_seqk fun _ k188 => ?_
 refine g_' ?_
 refine q_ (pt_ b127 0) ?_
 refine q_ (i_ s) ?_
 have u189 := (((((u115.ext e129).fr e145 Dj.nil_l).fr e158 (hb130.djn (h_First.lt.le (ntr (ntr (ntr (ntr e69.next e75.next) e88.next) e96.next) e108.next)))).fr e172 Dj.nil_l).fr e185 (hb130.djn (h_First.lt.le (ntr (ntr (ntr (ntr e69.next e75.next) e88.next) e96.next) e108.next))))
 have u190 := (((((u119.ext e129).fr e145 Dj.nil_l).fr e158 (hb130.djn (h_To.lt.le (ntr (ntr (ntr (ntr e69.next e75.next) e88.next) e96.next) e108.next)))).fr e172 Dj.nil_l).fr e185 (hb130.djn (h_To.lt.le (ntr (ntr (ntr (ntr e69.next e75.next) e88.next) e96.next) e108.next))))
 have u191 := (((((u123.ext e129).fr e145 Dj.nil_l).fr e158 (hb130.djn (h_Weight.lt.le (ntr (ntr (ntr (ntr e69.next e75.next) e88.next) e96.next) e108.next)))).fr e172 Dj.nil_l).fr e185 (hb130.djn (h_Weight.lt.le (ntr (ntr (ntr (ntr e69.next e75.next) e88.next) e96.next) e108.next))))
 have u192 := (((m146.fr e158 (Dj.symm (i148.djn r131.ltF))).fr e172 Dj.nil_l).fr e185 (Dj.symm (i148.djn r131.ltF)))
 have u193 := (((m147.frS e158 (Dj.symm (i149.djn r131.ltF))).frS e172 Dj.nil_l).frS e185 (Dj.symm (i149.djn r131.ltF)))
 have u194 := (m173.fr e185 (Dj.symm (i175.djn (r131.ltF.le (ntr e145.next e158.next)))))
 have u195 := (m174.frS e185 (Dj.symm (i176.djn (r131.ltF.le (ntr e145.next e158.next)))))
 have u196 := (((((u132.ext e129).fr e145 Dj.nil_l).fr e158 (hb130.djn (hm98.lt.le e108.next))).fr e172 Dj.nil_l).fr e185 (hb130.djn (hm98.lt.le e108.next)))
 have u197 := (((((hm110.ext e129).fr e145 Dj.nil_l).fr e158 (hb130.djn hm110.lt)).fr e172 Dj.nil_l).fr e185 (hb130.djn hm110.lt))
 obtain ⟨y198, hy199, r200⟩ := bind_some r167
 refine s_ck 99 #[pt_ b127 0, i_ s, .int .u64 0, i_ 0] (by kernel_rfl) (c_search_state_label e185.wf u189 u190 u191 (Ow.nil (enc := enc_u64_u32) (sz := 2) (by decide)) u192 u193 u194 u195 u196 u197.sq r186 (Dj.symm d177) (i175.djn (r131.ltF.le (ntr e145.next e158.next))) (i176.djn (r131.ltF.le (ntr e145.next e158.next))) (i175.djn (hm98.lt.le (ntr (ntr (ntr e108.next e129.next) e145.next) e158.next))) (i176.djn (hm98.lt.le (ntr (ntr (ntr e108.next e129.next) e145.next) e158.next))) (Dj.symm (hb130.djn (hm98.lt.le e108.next))) Dj.nil_r Dj.nil_r Dj.nil_r (i175.djn (m146.lt.le e158.next)) (i176.djn (m146.lt.le e158.next)) (Dj.symm (i148.djn (hm98.lt.le (ntr e108.next e129.next)))) (i175.djn (m147.ltF.le e158.next)) (i176.djn (m147.ltF.le e158.next)) (Dj.symm (i149.djn (hm98.lt.le (ntr e108.next e129.next)))) Dj.nil_l Dj.nil_l (Dj.symm d150) hy199) ?_
 rintro _ H203 ⟨s201, f202, rfl, e204, m205, m206, m207, m208, m209, m210, i211⟩
 obtain ⟨a213, n214, c215, rfl⟩ := m206.form
 refine s_nil (k188 _ _ ?_)
 refine w_seqk fun _ k216 => ?_
 refine w_seqk fun _ k217 => ?_
 refine g_' ?_
 refine q_ (i_ 0) ?_
 refine s_nil (k217 _ _ ?_)
 obtain ⟨o218, hx219, r220⟩ := bind_some r200
 refine w_mid (fun α H221 => ∃ (s225 : Value) (f226 : Fp), Has α [(8, pt_ b127 0)] ∧ FrS ([b143] ++ ([b170] ++ (f106 ++ (f142 ++ (f169 ++ (f202 ++ f94)))))) H203 H221 ∧ Ow enc_u64_u32 2 H221 s225 o218.1 f226 ∧ Ow (encI .i64) 1 H221 (.slice a153 n154 c155) o218.2.1 f142 ∧ Row H221 b143 [s225, .slice a153 n154 c155] ∧ Ow enc_u64_u32 2 H221 (.slice a180 n181 c182) o218.2.2.1 f169 ∧ Row H221 b170 [.slice a180 n181 c182, .int .u32 y166.2, i_ o218.2.2.2.1] ∧ Ow (encI .i64) 1 H221 (.slice a99 n100 c101) o218.2.2.2.2.1 f94 ∧ Ow encB 1 H221 (.slice a111 n112 c113) o218.2.2.2.2.2 f106 ∧ Inn f202 H203 f226) (fun _ k240 => ?_) (fun α H221 hM => ?_)
 ·refine w_block ?_
  obtain ⟨n242, hn243⟩ := loopO_iff.1 hx219
  have u269 := (u197.fr e204 (Dj.app (i149.djn (hm110.lt.le e129.next)) (Dj.app (i176.djn (hm110.lt.le (ntr (ntr e129.next e145.next) e158.next))) (Dj.app (Dj.symm (hf109.djn hm98.lt)) (Dj.app Dj.nil_l (Dj.app (i148.djn (hm110.lt.le e129.next)) (i175.djn (hm110.lt.le (ntr (ntr e129.next e145.next) e158.next)))))))))
  refine w_loopn (fun n α H244 => ∃ (st0 : List (Int × Int)), ∃ (st1 : List (Int)), ∃ (st2 : List (Int × Int)), ∃ (st3 : Int), ∃ (st4 : List (Int)), ∃ (st5 : List (Bool)), ∃ (count6 : Int), ∃ (s248 : Value), ∃ (f249 : Fp), iterO (fun zz_ => z_search_run_l0 First To Weight hops settles most y166 zz_.1 zz_.2.1 zz_.2.2.1 zz_.2.2.2.1 zz_.2.2.2.2.1 zz_.2.2.2.2.2.1 zz_.2.2.2.2.2.2) n (st0, st1, st2, st3, st4, st5, count6) = some o218 ∧ Has α [(5, pt_ b73 0), (8, pt_ b127 0), (9, i_ count6)] ∧ FrS ([b143] ++ ([b170] ++ (f106 ++ (f142 ++ (f169 ++ (f202 ++ f94)))))) H203 H244 ∧ Ow enc_u64_u32 2 H244 s248 st0 f249 ∧ Ow (encI .i64) 1 H244 (.slice a153 n154 c155) st1 f142 ∧ Row H244 b143 [s248, .slice a153 n154 c155] ∧ Ow enc_u64_u32 2 H244 (.slice a180 n181 c182) st2 f169 ∧ Row H244 b170 [.slice a180 n181 c182, .int .u32 y166.2, i_ st3] ∧ Ow (encI .i64) 1 H244 (.slice a99 n100 c101) st4 f94 ∧ Ow encB 1 H244 (.slice a111 n112 c113) st5 f106 ∧ Inn f202 H203 f249) n242 ⟨y198.2.1, y198.1, y198.2.2.1, y198.2.2.2.1, y198.2.2.2.2, (List.replicate y84.toNat (false : Bool)), 0, (.slice a213 n214 c215), f202, hn243, ha_, (FrS.refl (W := ([b143] ++ ([b170] ++ (f106 ++ (f142 ++ (f169 ++ (f202 ++ f94))))))) e204.wf), m206, m205, m207, m208, m209, m210, u269, Inn.refl'⟩ ?_
  rintro n242 α H244 ⟨st0, st1, st2, st3, st4, st5, count6, s248, f249, hi264, hh263, e245, m247, m251, m253, m255, m257, m259, m261, i262⟩ K270 k270
  obtain ⟨n265, z266, rfl, hz267, hn268⟩ := iter_succ hi264
  obtain ⟨β, rfl⟩ := has_ex hh263
  clear hh263
  replace hz267 : z_search_run_l0 First To Weight hops settles most y166 st0 st1 st2 st3 st4 st5 count6 = some z266 := hz267
  unfold z_search_run_l0 at hz267
  obtain ⟨a271, n272, c273, rfl⟩ := m247.form
  refine w_seqk fun _ k274 => ?_
  refine w_seqk fun _ k275 => ?_
  refine g_' ?_
  refine q_ (i_ count6) ?_
  refine q_ (pt_ b73 1) ?_
  have u276 := ((((((((((r77.frS e88 Dj.nil_l).ext e96).ext e108).ext e129).frS e145 Dj.nil_l).frS e158 (hb130.djn (r77.ltF.le (ntr (ntr e88.next e96.next) e108.next)))).frS e172 Dj.nil_l).frS e185 (hb130.djn (r77.ltF.le (ntr (ntr e88.next e96.next) e108.next)))).frS e204 (Dj.app (i149.djn (r77.ltF.le (ntr (ntr (ntr e88.next e96.next) e108.next) e129.next))) (Dj.app (i176.djn (r77.ltF.le (ntr (ntr (ntr (ntr (ntr e88.next e96.next) e108.next) e129.next) e145.next) e158.next))) (Dj.app (hf97.djn (r77.ltF.le e88.next)) (Dj.app Dj.nil_l (Dj.app (i148.djn (r77.ltF.le (ntr (ntr (ntr e88.next e96.next) e108.next) e129.next))) (i175.djn (r77.ltF.le (ntr (ntr (ntr (ntr (ntr e88.next e96.next) e108.next) e129.next) e145.next) e158.next))))))))).frS e245 (Dj.app (i149.djn (r77.ltF.le (ntr (ntr (ntr e88.next e96.next) e108.next) e129.next))) (Dj.app (i176.djn (r77.ltF.le (ntr (ntr (ntr (ntr (ntr e88.next e96.next) e108.next) e129.next) e145.next) e158.next))) (Dj.app (hf109.djn (r77.ltF.le (ntr e88.next e96.next))) (Dj.app (i148.djn (r77.ltF.le (ntr (ntr (ntr e88.next e96.next) e108.next) e129.next))) (Dj.app (i175.djn (r77.ltF.le (ntr (ntr (ntr (ntr (ntr e88.next e96.next) e108.next) e129.next) e145.next) e158.next))) (Dj.app (i211.djn (r77.ltF.le (ntr (ntr (ntr (ntr (ntr (ntr (ntr e88.next e96.next) e108.next) e129.next) e145.next) e158.next) e172.next) e185.next))) (hf97.djn (r77.ltF.le e88.next)))))))))
  refine l_' (i_ settles) (aLoad Try.prog 3 (pt_ b73 1) H244) (u276.ld (by kernel_rfl)) ?_
  refine q_ (.bool (decide (count6 < settles))) ?_
  refine s_nil (k275 _ _ ?_)
  refine w_condp (count6 < settles) (by kernel_rfl) rfl (fun h277 => ?_) (fun h277 => ?_)
  ·have r278 := ite_t h277 hz267
   refine w_skip ?_
   refine k274 _ _ ?_
   refine w_seqk fun _ k279 => ?_
   refine w_block ?_
   refine w_seqk fun _ k280 => ?_
   refine g_' ?_
   refine q_ (pt_ b127 0) ?_
   refine q_ (pt_ b127 0) ?_
   refine q_ (pt_ b127 3) ?_
   have u281 := ((r186.frS e204 (Dj.app (i149.djn r131.ltF) (Dj.app (i176.djn (r131.ltF.le (ntr e145.next e158.next))) (Dj.app (Dj.symm (hb130.djn (hm98.lt.le e108.next))) (Dj.app Dj.nil_l (Dj.app (i148.djn r131.ltF) (i175.djn (r131.ltF.le (ntr e145.next e158.next))))))))).frS e245 (Dj.app (i149.djn r131.ltF) (Dj.app (i176.djn (r131.ltF.le (ntr e145.next e158.next))) (Dj.app (Dj.symm (hb130.djn hm110.lt)) (Dj.app (i148.djn r131.ltF) (Dj.app (i175.djn (r131.ltF.le (ntr e145.next e158.next))) (Dj.app (i211.djn (r131.ltF.le (ntr (ntr (ntr e145.next e158.next) e172.next) e185.next))) (Dj.symm (hb130.djn (hm98.lt.le e108.next))))))))))
   refine l_' (pt_ b143 0) (aLoad Try.prog 114 (pt_ b127 3) H244) (u281.ld (by kernel_rfl)) ?_
   obtain ⟨y282, hy283, r284⟩ := bind_some r278
   refine s_ck 100 #[pt_ b143 0] (by kernel_rfl) (c_heap_Heap_Top e245.wf m247.sq m251.sq m253 hy283) ?_
   rintro _ _ ⟨rfl, rfl⟩
   refine q_ (.tuple #[.int .u32 y282.1, .int .u64 y282.2.1, .bool y282.2.2]) ?_
   refine q_ (.int .u32 y282.1) ?_
   refine q_ (.int .u64 y282.2.1) ?_
   refine q_ (.bool y282.2.2) ?_
   refine q_ (.int .u32 y282.1) ?_
   refine q_ (.int .u64 y282.2.1) ?_
   refine q_ (.bool y282.2.2) ?_
   refine s_nil (k280 _ _ ?_)
   refine w_seqk fun _ k287 => ?_
   refine w_seqk fun _ k288 => ?_
   obtain ⟨o289, hx290, r291⟩ := bind_some r284
   refine w_mid (fun α H292 => Has α [(5, pt_ b73 0), (8, pt_ b127 0), (9, i_ count6), (10, .int .u32 y282.1), (11, .int .u64 y282.2.1), (63, .bool o289)] ∧ H244 = H292) (fun _ k294 => ?_) (fun α H292 hM => ?_)
   ·refine g_' ?_
    refine q_ (.bool y282.2.2) ?_
    refine q_ (.bool (!y282.2.2)) ?_
    refine q_ (.bool (!y282.2.2)) ?_
    by_cases h296 : (!y282.2.2) = true
    ·have r297 := ite_t h296 hx290
     rw [h296]
     refine n_' ?_
     refine n_' ?_
     refine n_' ?_
     refine n_' ?_
     refine q_ (.bool true) ?_
     refine s_nil ?_
     obtain rfl := Option.some.inj r297
     exact k294 _ _ ⟨ha_, rfl⟩
    have r298 := ite_f h296 hx290
    rw [nb h296]
    refine q_ (.int .u64 y282.2.1) ?_
    refine q_ (pt_ b73 2) ?_
    refine l_' (.int .u64 most) (aLoad Try.prog 34 (pt_ b73 2) H244) (u276.ld (by kernel_rfl)) ?_
    refine q_ (.bool (decide (y282.2.1 > most))) ?_
    refine q_ (.bool (decide (y282.2.1 > most))) ?_
    refine s_nil ?_
    obtain rfl := Option.some.inj r298
    exact k294 _ _ ⟨ha_, rfl⟩
   obtain ⟨hh295, rfl⟩ := hM
   obtain ⟨β, rfl⟩ := has_ex hh295
   clear hh295
   refine k288 _ _ ?_
   refine w_cond (o289) (by kernel_rfl) rfl (fun h299 => ?_) (fun h299 => ?_)
   ·have r300 := ite_t h299 r291
    refine w_exit (th_exit (bl_ne (by decide) (th_exit (th_exit (bl_eq ?_)))))
    obtain rfl := Option.some.inj r300
    obtain rfl := it_inr hn268
    exact k240 _ _ ⟨(.slice a271 n272 c273), f249, ha_, (FrS.step e204.wf (FrS.refl (W := ([b143] ++ ([b170] ++ (f106 ++ (f142 ++ (f169 ++ (f202 ++ f94))))))) e204.wf) e245 (Inn.app Inn.left (Inn.app (Inn.right Inn.left) (Inn.app (Inn.right (Inn.right Inn.left)) (Inn.app (Inn.right (Inn.right (Inn.right Inn.left))) (Inn.app (Inn.right (Inn.right (Inn.right (Inn.right Inn.left)))) (Inn.app (Inn.right (Inn.right (Inn.right (Inn.right (Inn.right Inn.left))))) (Inn.right (Inn.right (Inn.right (Inn.right (Inn.right (Inn.right Inn.refl'))))))))))))), m247, m251, m253, m255, m257, m259, m261, (Inn.trans Inn.refl' (Nat.le_refl _) i262)⟩
   have r301 := ite_bf h299 r291
   refine w_skip ?_
   refine k287 _ _ ?_
   refine w_seqk fun _ k302 => ?_
   refine g_' ?_
   refine q_ (pt_ b127 0) ?_
   refine q_ (pt_ b127 0) ?_
   refine q_ (pt_ b127 3) ?_
   refine l_' (pt_ b143 0) (aLoad Try.prog 114 (pt_ b127 3) H244) (u281.ld (by kernel_rfl)) ?_
   obtain ⟨y303, hy304, r305⟩ := bind_some r301
   refine s_ck 101 #[pt_ b143 0] (by kernel_rfl) (c_heap_Heap_Pop e245.wf m247 m251 m253 (Dj.symm d150) (Dj.symm (i262.dj (i211.djn (m147.ltF.le (ntr (ntr e158.next e172.next) e185.next))) (m147.ltF.le (ntr (ntr (ntr e158.next e172.next) e185.next) e204.next)))) (Dj.symm (i262.dj (i211.djn (m146.lt.le (ntr (ntr e158.next e172.next) e185.next))) (m146.lt.le (ntr (ntr (ntr e158.next e172.next) e185.next) e204.next)))) hy304) ?_
   rintro _ H307 ⟨s306, rfl, e308, m309, m310, m311⟩
   obtain ⟨a313, n314, c315, rfl⟩ := m310.form
   refine s_nil (k302 _ _ ?_)
   refine g_' ?_
   refine q_ (pt_ b127 0) ?_
   refine q_ (.int .u32 y282.1) ?_
   obtain ⟨g316, r317⟩ := G_some r305
   refine s_w (y282.1) (k := .i64) (x := y282.1) (by kernel_rfl) (wrap64 g316) ?_
   refine q_ (.int .u64 y282.2.1) ?_
   refine q_ (pt_ b73 0) ?_
   have u318 := (u276.frS e308 (Dj.app (i149.djn (r77.ltF.le (ntr (ntr (ntr e88.next e96.next) e108.next) e129.next))) (Dj.app (i262.dj (i211.djn (r77.ltF.le (ntr (ntr (ntr (ntr (ntr (ntr (ntr e88.next e96.next) e108.next) e129.next) e145.next) e158.next) e172.next) e185.next))) (r77.ltF.le (ntr (ntr (ntr (ntr (ntr (ntr (ntr (ntr e88.next e96.next) e108.next) e129.next) e145.next) e158.next) e172.next) e185.next) e204.next))) (i148.djn (r77.ltF.le (ntr (ntr (ntr e88.next e96.next) e108.next) e129.next))))))
   refine l_' (i_ hops) (aLoad Try.prog 3 (pt_ b73 0) H307) (u318.ld (by kernel_rfl)) ?_
   have u319 := (((u189.fr e204 (Dj.app (i149.djn (h_First.lt.le (ntr (ntr (ntr (ntr (ntr e69.next e75.next) e88.next) e96.next) e108.next) e129.next))) (Dj.app (i176.djn (h_First.lt.le (ntr (ntr (ntr (ntr (ntr (ntr (ntr e69.next e75.next) e88.next) e96.next) e108.next) e129.next) e145.next) e158.next))) (Dj.app (hf97.djn (h_First.lt.le (ntr (ntr e69.next e75.next) e88.next))) (Dj.app Dj.nil_l (Dj.app (i148.djn (h_First.lt.le (ntr (ntr (ntr (ntr (ntr e69.next e75.next) e88.next) e96.next) e108.next) e129.next))) (i175.djn (h_First.lt.le (ntr (ntr (ntr (ntr (ntr (ntr (ntr e69.next e75.next) e88.next) e96.next) e108.next) e129.next) e145.next) e158.next))))))))).fr e245 (Dj.app (i149.djn (h_First.lt.le (ntr (ntr (ntr (ntr (ntr e69.next e75.next) e88.next) e96.next) e108.next) e129.next))) (Dj.app (i176.djn (h_First.lt.le (ntr (ntr (ntr (ntr (ntr (ntr (ntr e69.next e75.next) e88.next) e96.next) e108.next) e129.next) e145.next) e158.next))) (Dj.app (hf109.djn (h_First.lt.le (ntr (ntr (ntr e69.next e75.next) e88.next) e96.next))) (Dj.app (i148.djn (h_First.lt.le (ntr (ntr (ntr (ntr (ntr e69.next e75.next) e88.next) e96.next) e108.next) e129.next))) (Dj.app (i175.djn (h_First.lt.le (ntr (ntr (ntr (ntr (ntr (ntr (ntr e69.next e75.next) e88.next) e96.next) e108.next) e129.next) e145.next) e158.next))) (Dj.app (i211.djn (h_First.lt.le (ntr (ntr (ntr (ntr (ntr (ntr (ntr (ntr (ntr e69.next e75.next) e88.next) e96.next) e108.next) e129.next) e145.next) e158.next) e172.next) e185.next))) (hf97.djn (h_First.lt.le (ntr (ntr e69.next e75.next) e88.next)))))))))).fr e308 (Dj.app (i149.djn (h_First.lt.le (ntr (ntr (ntr (ntr (ntr e69.next e75.next) e88.next) e96.next) e108.next) e129.next))) (Dj.app (i262.dj (i211.djn (h_First.lt.le (ntr (ntr (ntr (ntr (ntr (ntr (ntr (ntr (ntr e69.next e75.next) e88.next) e96.next) e108.next) e129.next) e145.next) e158.next) e172.next) e185.next))) (h_First.lt.le (ntr (ntr (ntr (ntr (ntr (ntr (ntr (ntr (ntr (ntr e69.next e75.next) e88.next) e96.next) e108.next) e129.next) e145.next) e158.next) e172.next) e185.next) e204.next))) (i148.djn (h_First.lt.le (ntr (ntr (ntr (ntr (ntr e69.next e75.next) e88.next) e96.next) e108.next) e129.next))))))
   have u320 := (((u190.fr e204 (Dj.app (i149.djn (h_To.lt.le (ntr (ntr (ntr (ntr (ntr e69.next e75.next) e88.next) e96.next) e108.next) e129.next))) (Dj.app (i176.djn (h_To.lt.le (ntr (ntr (ntr (ntr (ntr (ntr (ntr e69.next e75.next) e88.next) e96.next) e108.next) e129.next) e145.next) e158.next))) (Dj.app (hf97.djn (h_To.lt.le (ntr (ntr e69.next e75.next) e88.next))) (Dj.app Dj.nil_l (Dj.app (i148.djn (h_To.lt.le (ntr (ntr (ntr (ntr (ntr e69.next e75.next) e88.next) e96.next) e108.next) e129.next))) (i175.djn (h_To.lt.le (ntr (ntr (ntr (ntr (ntr (ntr (ntr e69.next e75.next) e88.next) e96.next) e108.next) e129.next) e145.next) e158.next))))))))).fr e245 (Dj.app (i149.djn (h_To.lt.le (ntr (ntr (ntr (ntr (ntr e69.next e75.next) e88.next) e96.next) e108.next) e129.next))) (Dj.app (i176.djn (h_To.lt.le (ntr (ntr (ntr (ntr (ntr (ntr (ntr e69.next e75.next) e88.next) e96.next) e108.next) e129.next) e145.next) e158.next))) (Dj.app (hf109.djn (h_To.lt.le (ntr (ntr (ntr e69.next e75.next) e88.next) e96.next))) (Dj.app (i148.djn (h_To.lt.le (ntr (ntr (ntr (ntr (ntr e69.next e75.next) e88.next) e96.next) e108.next) e129.next))) (Dj.app (i175.djn (h_To.lt.le (ntr (ntr (ntr (ntr (ntr (ntr (ntr e69.next e75.next) e88.next) e96.next) e108.next) e129.next) e145.next) e158.next))) (Dj.app (i211.djn (h_To.lt.le (ntr (ntr (ntr (ntr (ntr (ntr (ntr (ntr (ntr e69.next e75.next) e88.next) e96.next) e108.next) e129.next) e145.next) e158.next) e172.next) e185.next))) (hf97.djn (h_To.lt.le (ntr (ntr e69.next e75.next) e88.next)))))))))).fr e308 (Dj.app (i149.djn (h_To.lt.le (ntr (ntr (ntr (ntr (ntr e69.next e75.next) e88.next) e96.next) e108.next) e129.next))) (Dj.app (i262.dj (i211.djn (h_To.lt.le (ntr (ntr (ntr (ntr (ntr (ntr (ntr (ntr (ntr e69.next e75.next) e88.next) e96.next) e108.next) e129.next) e145.next) e158.next) e172.next) e185.next))) (h_To.lt.le (ntr (ntr (ntr (ntr (ntr (ntr (ntr (ntr (ntr (ntr e69.next e75.next) e88.next) e96.next) e108.next) e129.next) e145.next) e158.next) e172.next) e185.next) e204.next))) (i148.djn (h_To.lt.le (ntr (ntr (ntr (ntr (ntr e69.next e75.next) e88.next) e96.next) e108.next) e129.next))))))
   have u321 := (((u191.fr e204 (Dj.app (i149.djn (h_Weight.lt.le (ntr (ntr (ntr (ntr (ntr e69.next e75.next) e88.next) e96.next) e108.next) e129.next))) (Dj.app (i176.djn (h_Weight.lt.le (ntr (ntr (ntr (ntr (ntr (ntr (ntr e69.next e75.next) e88.next) e96.next) e108.next) e129.next) e145.next) e158.next))) (Dj.app (hf97.djn (h_Weight.lt.le (ntr (ntr e69.next e75.next) e88.next))) (Dj.app Dj.nil_l (Dj.app (i148.djn (h_Weight.lt.le (ntr (ntr (ntr (ntr (ntr e69.next e75.next) e88.next) e96.next) e108.next) e129.next))) (i175.djn (h_Weight.lt.le (ntr (ntr (ntr (ntr (ntr (ntr (ntr e69.next e75.next) e88.next) e96.next) e108.next) e129.next) e145.next) e158.next))))))))).fr e245 (Dj.app (i149.djn (h_Weight.lt.le (ntr (ntr (ntr (ntr (ntr e69.next e75.next) e88.next) e96.next) e108.next) e129.next))) (Dj.app (i176.djn (h_Weight.lt.le (ntr (ntr (ntr (ntr (ntr (ntr (ntr e69.next e75.next) e88.next) e96.next) e108.next) e129.next) e145.next) e158.next))) (Dj.app (hf109.djn (h_Weight.lt.le (ntr (ntr (ntr e69.next e75.next) e88.next) e96.next))) (Dj.app (i148.djn (h_Weight.lt.le (ntr (ntr (ntr (ntr (ntr e69.next e75.next) e88.next) e96.next) e108.next) e129.next))) (Dj.app (i175.djn (h_Weight.lt.le (ntr (ntr (ntr (ntr (ntr (ntr (ntr e69.next e75.next) e88.next) e96.next) e108.next) e129.next) e145.next) e158.next))) (Dj.app (i211.djn (h_Weight.lt.le (ntr (ntr (ntr (ntr (ntr (ntr (ntr (ntr (ntr e69.next e75.next) e88.next) e96.next) e108.next) e129.next) e145.next) e158.next) e172.next) e185.next))) (hf97.djn (h_Weight.lt.le (ntr (ntr e69.next e75.next) e88.next)))))))))).fr e308 (Dj.app (i149.djn (h_Weight.lt.le (ntr (ntr (ntr (ntr (ntr e69.next e75.next) e88.next) e96.next) e108.next) e129.next))) (Dj.app (i262.dj (i211.djn (h_Weight.lt.le (ntr (ntr (ntr (ntr (ntr (ntr (ntr (ntr (ntr e69.next e75.next) e88.next) e96.next) e108.next) e129.next) e145.next) e158.next) e172.next) e185.next))) (h_Weight.lt.le (ntr (ntr (ntr (ntr (ntr (ntr (ntr (ntr (ntr (ntr e69.next e75.next) e88.next) e96.next) e108.next) e129.next) e145.next) e158.next) e172.next) e185.next) e204.next))) (i148.djn (h_Weight.lt.le (ntr (ntr (ntr (ntr (ntr e69.next e75.next) e88.next) e96.next) e108.next) e129.next))))))
   have u322 := (m255.fr e308 (Dj.app (Dj.symm (i175.djn (m147.ltF.le e158.next))) (Dj.app (i262.dj (i211.djn (m173.lt.le e185.next)) (m173.lt.le (ntr e185.next e204.next))) (Dj.symm (i175.djn (m146.lt.le e158.next))))))
   have u323 := (m257.frS e308 (Dj.app (Dj.symm (i176.djn (m147.ltF.le e158.next))) (Dj.app (i262.dj (i211.djn (m174.ltF.le e185.next)) (m174.ltF.le (ntr e185.next e204.next))) (Dj.symm (i176.djn (m146.lt.le e158.next))))))
   have u324 := (m259.fr e308 (Dj.app (i149.djn (hm98.lt.le (ntr e108.next e129.next))) (Dj.app (i262.dj (i211.djn (hm98.lt.le (ntr (ntr (ntr (ntr (ntr e108.next e129.next) e145.next) e158.next) e172.next) e185.next))) (hm98.lt.le (ntr (ntr (ntr (ntr (ntr (ntr e108.next e129.next) e145.next) e158.next) e172.next) e185.next) e204.next))) (i148.djn (hm98.lt.le (ntr e108.next e129.next))))))
   have u325 := (m261.fr e308 (Dj.app (i149.djn (hm110.lt.le e129.next)) (Dj.app (i262.dj (i211.djn (hm110.lt.le (ntr (ntr (ntr (ntr e129.next e145.next) e158.next) e172.next) e185.next))) (hm110.lt.le (ntr (ntr (ntr (ntr (ntr e129.next e145.next) e158.next) e172.next) e185.next) e204.next))) (i148.djn (hm110.lt.le e129.next)))))
   have u326 := (u281.frS e308 (Dj.app (i149.djn r131.ltF) (Dj.app (i262.dj (i211.djn (r131.ltF.le (ntr (ntr (ntr e145.next e158.next) e172.next) e185.next))) (r131.ltF.le (ntr (ntr (ntr (ntr e145.next e158.next) e172.next) e185.next) e204.next))) (i148.djn r131.ltF))))
   obtain ⟨y327, hy328, r329⟩ := bind_some r317
   refine s_ck 102 #[pt_ b127 0, i_ y282.1, .int .u64 y282.2.1, i_ hops] (by kernel_rfl) (c_search_state_settle e308.wf u319 u320 u321 m310 m309 m311 u322 u323 u324 u325 u326 (Dj.symm (hb130.djn hm110.lt)) (hf109.djn hm98.lt) (Dj.symm (i148.djn (hm110.lt.le e129.next))) (Dj.symm (i262.dj (i211.djn (hm110.lt.le (ntr (ntr (ntr (ntr e129.next e145.next) e158.next) e172.next) e185.next))) (hm110.lt.le (ntr (ntr (ntr (ntr (ntr e129.next e145.next) e158.next) e172.next) e185.next) e204.next)))) (Dj.symm (i149.djn (hm110.lt.le e129.next))) (Dj.symm (i175.djn (hm110.lt.le (ntr (ntr e129.next e145.next) e158.next)))) (Dj.symm (i176.djn (hm110.lt.le (ntr (ntr e129.next e145.next) e158.next)))) (hf109.djn (h_First.lt.le (ntr (ntr (ntr e69.next e75.next) e88.next) e96.next))) (hf109.djn (h_To.lt.le (ntr (ntr (ntr e69.next e75.next) e88.next) e96.next))) (hf109.djn (h_Weight.lt.le (ntr (ntr (ntr e69.next e75.next) e88.next) e96.next))) (Dj.symm d177) (i175.djn (r131.ltF.le (ntr e145.next e158.next))) (i176.djn (r131.ltF.le (ntr e145.next e158.next))) (i175.djn (hm98.lt.le (ntr (ntr (ntr e108.next e129.next) e145.next) e158.next))) (i176.djn (hm98.lt.le (ntr (ntr (ntr e108.next e129.next) e145.next) e158.next))) (Dj.symm (hb130.djn (hm98.lt.le e108.next))) (Dj.symm (i262.dj (i211.djn (m173.lt.le e185.next)) (m173.lt.le (ntr e185.next e204.next)))) (Dj.symm (i262.dj (i211.djn (m174.ltF.le e185.next)) (m174.ltF.le (ntr e185.next e204.next)))) (Dj.symm (i262.dj (i211.djn (hm98.lt.le (ntr (ntr (ntr (ntr (ntr e108.next e129.next) e145.next) e158.next) e172.next) e185.next))) (hm98.lt.le (ntr (ntr (ntr (ntr (ntr (ntr e108.next e129.next) e145.next) e158.next) e172.next) e185.next) e204.next)))) (i175.djn (m146.lt.le e158.next)) (i176.djn (m146.lt.le e158.next)) (Dj.symm (i148.djn (hm98.lt.le (ntr e108.next e129.next)))) (i175.djn (m147.ltF.le e158.next)) (i176.djn (m147.ltF.le e158.next)) (Dj.symm (i149.djn (hm98.lt.le (ntr e108.next e129.next)))) (i262.dj (i211.djn (m147.ltF.le (ntr (ntr e158.next e172.next) e185.next))) (m147.ltF.le (ntr (ntr (ntr e158.next e172.next) e185.next) e204.next))) (i262.dj (i211.djn (m146.lt.le (ntr (ntr e158.next e172.next) e185.next))) (m146.lt.le (ntr (ntr (ntr e158.next e172.next) e185.next) e204.next))) (Dj.symm d150) (i148.djn r131.ltF) (i262.dj (i211.djn (r131.ltF.le (ntr (ntr (ntr e145.next e158.next) e172.next) e185.next))) (r131.ltF.le (ntr (ntr (ntr (ntr e145.next e158.next) e172.next) e185.next) e204.next))) (i149.djn r131.ltF) (i175.djn (h_First.lt.le (ntr (ntr (ntr (ntr (ntr (ntr (ntr e69.next e75.next) e88.next) e96.next) e108.next) e129.next) e145.next) e158.next))) (i148.djn (h_First.lt.le (ntr (ntr (ntr (ntr (ntr e69.next e75.next) e88.next) e96.next) e108.next) e129.next))) (i262.dj (i211.djn (h_First.lt.le (ntr (ntr (ntr (ntr (ntr (ntr (ntr (ntr (ntr e69.next e75.next) e88.next) e96.next) e108.next) e129.next) e145.next) e158.next) e172.next) e185.next))) (h_First.lt.le (ntr (ntr (ntr (ntr (ntr (ntr (ntr (ntr (ntr (ntr e69.next e75.next) e88.next) e96.next) e108.next) e129.next) e145.next) e158.next) e172.next) e185.next) e204.next))) (hf97.djn (h_First.lt.le (ntr (ntr e69.next e75.next) e88.next))) (i176.djn (h_First.lt.le (ntr (ntr (ntr (ntr (ntr (ntr (ntr e69.next e75.next) e88.next) e96.next) e108.next) e129.next) e145.next) e158.next))) (i149.djn (h_First.lt.le (ntr (ntr (ntr (ntr (ntr e69.next e75.next) e88.next) e96.next) e108.next) e129.next))) (i175.djn (h_To.lt.le (ntr (ntr (ntr (ntr (ntr (ntr (ntr e69.next e75.next) e88.next) e96.next) e108.next) e129.next) e145.next) e158.next))) (i148.djn (h_To.lt.le (ntr (ntr (ntr (ntr (ntr e69.next e75.next) e88.next) e96.next) e108.next) e129.next))) (i262.dj (i211.djn (h_To.lt.le (ntr (ntr (ntr (ntr (ntr (ntr (ntr (ntr (ntr e69.next e75.next) e88.next) e96.next) e108.next) e129.next) e145.next) e158.next) e172.next) e185.next))) (h_To.lt.le (ntr (ntr (ntr (ntr (ntr (ntr (ntr (ntr (ntr (ntr e69.next e75.next) e88.next) e96.next) e108.next) e129.next) e145.next) e158.next) e172.next) e185.next) e204.next))) (hf97.djn (h_To.lt.le (ntr (ntr e69.next e75.next) e88.next))) (i176.djn (h_To.lt.le (ntr (ntr (ntr (ntr (ntr (ntr (ntr e69.next e75.next) e88.next) e96.next) e108.next) e129.next) e145.next) e158.next))) (i149.djn (h_To.lt.le (ntr (ntr (ntr (ntr (ntr e69.next e75.next) e88.next) e96.next) e108.next) e129.next))) (i175.djn (h_Weight.lt.le (ntr (ntr (ntr (ntr (ntr (ntr (ntr e69.next e75.next) e88.next) e96.next) e108.next) e129.next) e145.next) e158.next))) (i148.djn (h_Weight.lt.le (ntr (ntr (ntr (ntr (ntr e69.next e75.next) e88.next) e96.next) e108.next) e129.next))) (i262.dj (i211.djn (h_Weight.lt.le (ntr (ntr (ntr (ntr (ntr (ntr (ntr (ntr (ntr e69.next e75.next) e88.next) e96.next) e108.next) e129.next) e145.next) e158.next) e172.next) e185.next))) (h_Weight.lt.le (ntr (ntr (ntr (ntr (ntr (ntr (ntr (ntr (ntr (ntr e69.next e75.next) e88.next) e96.next) e108.next) e129.next) e145.next) e158.next) e172.next) e185.next) e204.next))) (hf97.djn (h_Weight.lt.le (ntr (ntr e69.next e75.next) e88.next))) (i176.djn (h_Weight.lt.le (ntr (ntr (ntr (ntr (ntr (ntr (ntr e69.next e75.next) e88.next) e96.next) e108.next) e129.next) e145.next) e158.next))) (i149.djn (h_Weight.lt.le (ntr (ntr (ntr (ntr (ntr e69.next e75.next) e88.next) e96.next) e108.next) e129.next))) (i175.djn (hm110.lt.le (ntr (ntr e129.next e145.next) e158.next))) (i148.djn (hm110.lt.le e129.next)) (i262.dj (i211.djn (hm110.lt.le (ntr (ntr (ntr (ntr e129.next e145.next) e158.next) e172.next) e185.next))) (hm110.lt.le (ntr (ntr (ntr (ntr (ntr e129.next e145.next) e158.next) e172.next) e185.next) e204.next))) (i176.djn (hm110.lt.le (ntr (ntr e129.next e145.next) e158.next))) (i149.djn (hm110.lt.le e129.next)) (i262.dj (i211.djn (m173.lt.le e185.next)) (m173.lt.le (ntr e185.next e204.next))) (i262.dj (i211.djn (m174.ltF.le e185.next)) (m174.ltF.le (ntr e185.next e204.next))) (i262.dj (i211.djn (hm98.lt.le (ntr (ntr (ntr (ntr (ntr e108.next e129.next) e145.next) e158.next) e172.next) e185.next))) (hm98.lt.le (ntr (ntr (ntr (ntr (ntr (ntr e108.next e129.next) e145.next) e158.next) e172.next) e185.next) e204.next))) hy328) ?_
   rintro _ H332 ⟨s330, f331, rfl, e333, m334, m335, m336, m337, m338, m339, m340, i341⟩
   obtain ⟨a343, n344, c345, rfl⟩ := m335.form
   refine s_nil (k279 _ _ ?_)
   refine g_' ?_
   refine q_ (i_ count6) ?_
   obtain ⟨g346, r347⟩ := G_some r329
   refine s_w ((count6 + 1)) (k := .i64) (x := (count6 + 1)) (by kernel_rfl) (wrap64 g346) ?_
   refine q_ (i_ (count6 + 1)) ?_
   refine s_nil ?_
   obtain rfl := Option.some.inj r347
   exact k270 n265 _ _ (Nat.lt_succ_self _) ⟨y327.2.1, y327.1, y327.2.2.1, y327.2.2.2.1, y327.2.2.2.2.1, y327.2.2.2.2.2, (count6 + 1), (.slice a343 n344 c345), f331, hn268, ha_, (FrS.step e204.wf (FrS.step e204.wf (FrS.step e204.wf (FrS.refl (W := ([b143] ++ ([b170] ++ (f106 ++ (f142 ++ (f169 ++ (f202 ++ f94))))))) e204.wf) e245 (Inn.app Inn.left (Inn.app (Inn.right Inn.left) (Inn.app (Inn.right (Inn.right Inn.left)) (Inn.app (Inn.right (Inn.right (Inn.right Inn.left))) (Inn.app (Inn.right (Inn.right (Inn.right (Inn.right Inn.left)))) (Inn.app (Inn.right (Inn.right (Inn.right (Inn.right (Inn.right Inn.left))))) (Inn.right (Inn.right (Inn.right (Inn.right (Inn.right (Inn.right Inn.refl'))))))))))))) e308 (Inn.app Inn.left (Inn.app (Inn.trans (Inn.right (Inn.right (Inn.right (Inn.right (Inn.right Inn.left))))) (Nat.le_refl _) i262) (Inn.right (Inn.right (Inn.right Inn.left)))))) e333 (Inn.app Inn.left (Inn.app (Inn.right Inn.left) (Inn.app (Inn.right (Inn.right (Inn.right (Inn.right (Inn.right (Inn.right Inn.refl')))))) (Inn.app (Inn.right (Inn.right Inn.left)) (Inn.app (Inn.trans (Inn.right (Inn.right (Inn.right (Inn.right (Inn.right Inn.left))))) (Nat.le_refl _) i262) (Inn.app (Inn.right (Inn.right (Inn.right Inn.left))) (Inn.right (Inn.right (Inn.right (Inn.right Inn.left))))))))))), m335, m334, m336, m337, m338, m339, m340, (Inn.trans (Inn.trans Inn.refl' (Nat.le_refl _) i262) (ntr e245.next e308.next) i341)⟩
  have r348 := ite_f h277 hz267
  refine w_exit (th_exit (th_exit (bl_eq ?_)))
  obtain rfl := Option.some.inj r348
  obtain rfl := it_inr hn268
  exact k240 _ _ ⟨(.slice a271 n272 c273), f249, ha_, (FrS.step e204.wf (FrS.refl (W := ([b143] ++ ([b170] ++ (f106 ++ (f142 ++ (f169 ++ (f202 ++ f94))))))) e204.wf) e245 (Inn.app Inn.left (Inn.app (Inn.right Inn.left) (Inn.app (Inn.right (Inn.right Inn.left)) (Inn.app (Inn.right (Inn.right (Inn.right Inn.left))) (Inn.app (Inn.right (Inn.right (Inn.right (Inn.right Inn.left)))) (Inn.app (Inn.right (Inn.right (Inn.right (Inn.right (Inn.right Inn.left))))) (Inn.right (Inn.right (Inn.right (Inn.right (Inn.right (Inn.right Inn.refl'))))))))))))), m247, m251, m253, m255, m257, m259, m261, (Inn.trans Inn.refl' (Nat.le_refl _) i262)⟩
 obtain ⟨s225, f226, hh241, e222, m224, m228, m230, m232, m234, m236, m238, i239⟩ := hM
 obtain ⟨β, rfl⟩ := has_ex hh241
 clear hh241
 obtain ⟨a349, n350, c351, rfl⟩ := m224.form
 refine k216 _ _ ?_
 refine w_seqk fun _ k352 => ?_
 refine g_' ?_
 refine q_ (pt_ b127 0) ?_
 refine q_ (pt_ b127 0) ?_
 refine s_nil (k352 _ _ ?_)
 refine w_ret ?_
 refine b_ret (fn := Try.f59) (vs := [pt_ b127 0]) (aRes_tmp (by kernel_rfl) (rfl)) ?_
 have u353 := ((r186.frS e204 (Dj.app (i149.djn r131.ltF) (Dj.app (i176.djn (r131.ltF.le (ntr e145.next e158.next))) (Dj.app (Dj.symm (hb130.djn (hm98.lt.le e108.next))) (Dj.app Dj.nil_l (Dj.app (i148.djn r131.ltF) (i175.djn (r131.ltF.le (ntr e145.next e158.next))))))))).frS e222 (Dj.app (i149.djn r131.ltF) (Dj.app (i176.djn (r131.ltF.le (ntr e145.next e158.next))) (Dj.app (Dj.symm (hb130.djn hm110.lt)) (Dj.app (i148.djn r131.ltF) (Dj.app (i175.djn (r131.ltF.le (ntr e145.next e158.next))) (Dj.app (i211.djn (r131.ltF.le (ntr (ntr (ntr e145.next e158.next) e172.next) e185.next))) (Dj.symm (hb130.djn (hm98.lt.le e108.next))))))))))
 obtain rfl := Option.some.inj r220
 exact ⟨(.slice a349 n350 c351), f226, (.slice a153 n154 c155), f142, b143, (.slice a180 n181 c182), f169, b170, (.slice a99 n100 c101), f94, (.slice a111 n112 c113), f106, b127, rfl, (FrS.step wf (FrS.step wf (FrS.step wf (FrS.step wf (FrS.step wf (FrS.step wf ((((FrS.step wf (((FrS.refl (W := []) wf).extR e69).extR e75) e88 Inn.nil).extR e96).extR e108).extR e129) e145 Inn.nil) e158 (hb130.fresh (ntr (ntr (ntr (ntr e69.next e75.next) e88.next) e96.next) e108.next))) e172 Inn.nil) e185 (hb130.fresh (ntr (ntr (ntr (ntr e69.next e75.next) e88.next) e96.next) e108.next))) e204 (Inn.app (i149.fresh (ntr (ntr (ntr (ntr (ntr e69.next e75.next) e88.next) e96.next) e108.next) e129.next)) (Inn.app (i176.fresh (ntr (ntr (ntr (ntr (ntr (ntr (ntr e69.next e75.next) e88.next) e96.next) e108.next) e129.next) e145.next) e158.next)) (Inn.app (hf97.fresh (ntr (ntr e69.next e75.next) e88.next)) (Inn.app Inn.nil (Inn.app (i148.fresh (ntr (ntr (ntr (ntr (ntr e69.next e75.next) e88.next) e96.next) e108.next) e129.next)) (i175.fresh (ntr (ntr (ntr (ntr (ntr (ntr (ntr e69.next e75.next) e88.next) e96.next) e108.next) e129.next) e145.next) e158.next)))))))) e222 (Inn.app (i149.fresh (ntr (ntr (ntr (ntr (ntr e69.next e75.next) e88.next) e96.next) e108.next) e129.next)) (Inn.app (i176.fresh (ntr (ntr (ntr (ntr (ntr (ntr (ntr e69.next e75.next) e88.next) e96.next) e108.next) e129.next) e145.next) e158.next)) (Inn.app (hf109.fresh (ntr (ntr (ntr e69.next e75.next) e88.next) e96.next)) (Inn.app (i148.fresh (ntr (ntr (ntr (ntr (ntr e69.next e75.next) e88.next) e96.next) e108.next) e129.next)) (Inn.app (i175.fresh (ntr (ntr (ntr (ntr (ntr (ntr (ntr e69.next e75.next) e88.next) e96.next) e108.next) e129.next) e145.next) e158.next)) (Inn.app (i211.fresh (ntr (ntr (ntr (ntr (ntr (ntr (ntr (ntr (ntr e69.next e75.next) e88.next) e96.next) e108.next) e129.next) e145.next) e158.next) e172.next) e185.next)) (hf97.fresh (ntr (ntr e69.next e75.next) e88.next))))))))), m224, m228, m230, m232, m234, m236, m238, u353, (Inn.trans (i211.fresh (ntr (ntr (ntr (ntr (ntr (ntr (ntr (ntr (ntr e69.next e75.next) e88.next) e96.next) e108.next) e129.next) e145.next) e158.next) e172.next) e185.next)) (ntr (ntr (ntr (ntr (ntr (ntr (ntr (ntr (ntr (ntr e69.next e75.next) e88.next) e96.next) e108.next) e129.next) e145.next) e158.next) e172.next) e185.next) e204.next) i239), (i148.fresh (ntr (ntr (ntr (ntr (ntr e69.next e75.next) e88.next) e96.next) e108.next) e129.next)), (i149.fresh (ntr (ntr (ntr (ntr (ntr e69.next e75.next) e88.next) e96.next) e108.next) e129.next)), (i175.fresh (ntr (ntr (ntr (ntr (ntr (ntr (ntr e69.next e75.next) e88.next) e96.next) e108.next) e129.next) e145.next) e158.next)), (i176.fresh (ntr (ntr (ntr (ntr (ntr (ntr (ntr e69.next e75.next) e88.next) e96.next) e108.next) e129.next) e145.next) e158.next)), (hf97.fresh (ntr (ntr e69.next e75.next) e88.next)), (hf109.fresh (ntr (ntr (ntr e69.next e75.next) e88.next) e96.next)), (hb130.fresh (ntr (ntr (ntr (ntr e69.next e75.next) e88.next) e96.next) e108.next)), (i239.dj (i211.djn (m146.lt.le (ntr (ntr e158.next e172.next) e185.next))) (m146.lt.le (ntr (ntr (ntr e158.next e172.next) e185.next) e204.next))), (i239.dj (i211.djn (m147.ltF.le (ntr (ntr e158.next e172.next) e185.next))) (m147.ltF.le (ntr (ntr (ntr e158.next e172.next) e185.next) e204.next))), d150, (i239.dj (i211.djn (m173.lt.le e185.next)) (m173.lt.le (ntr e185.next e204.next))), (Dj.symm (i175.djn (m146.lt.le e158.next))), (Dj.symm (i175.djn (m147.ltF.le e158.next))), (i239.dj (i211.djn (m174.ltF.le e185.next)) (m174.ltF.le (ntr e185.next e204.next))), (Dj.symm (i176.djn (m146.lt.le e158.next))), (Dj.symm (i176.djn (m147.ltF.le e158.next))), d177, (i239.dj (i211.djn (hm98.lt.le (ntr (ntr (ntr (ntr (ntr e108.next e129.next) e145.next) e158.next) e172.next) e185.next))) (hm98.lt.le (ntr (ntr (ntr (ntr (ntr (ntr e108.next e129.next) e145.next) e158.next) e172.next) e185.next) e204.next))), (i148.djn (hm98.lt.le (ntr e108.next e129.next))), (i149.djn (hm98.lt.le (ntr e108.next e129.next))), (i175.djn (hm98.lt.le (ntr (ntr (ntr e108.next e129.next) e145.next) e158.next))), (i176.djn (hm98.lt.le (ntr (ntr (ntr e108.next e129.next) e145.next) e158.next))), (i239.dj (i211.djn (hm110.lt.le (ntr (ntr (ntr (ntr e129.next e145.next) e158.next) e172.next) e185.next))) (hm110.lt.le (ntr (ntr (ntr (ntr (ntr e129.next e145.next) e158.next) e172.next) e185.next) e204.next))), (i148.djn (hm110.lt.le e129.next)), (i149.djn (hm110.lt.le e129.next)), (i175.djn (hm110.lt.le (ntr (ntr e129.next e145.next) e158.next))), (i176.djn (hm110.lt.le (ntr (ntr e129.next e145.next) e158.next))), (Dj.symm (hf109.djn hm98.lt)), (i239.dj (i211.djn (r131.ltF.le (ntr (ntr (ntr e145.next e158.next) e172.next) e185.next))) (r131.ltF.le (ntr (ntr (ntr (ntr e145.next e158.next) e172.next) e185.next) e204.next))), (i148.djn r131.ltF), (i149.djn r131.ltF), (i175.djn (r131.ltF.le (ntr e145.next e158.next))), (i176.djn (r131.ltF.le (ntr e145.next e158.next))), (Dj.symm (hb130.djn (hm98.lt.le e108.next))), (Dj.symm (hb130.djn hm110.lt))⟩

theorem c_search_state_all {H : AH} {b_st : Nat} {hd_st_ : Value} {fp_st_ : Fp} {hd_st_2 : Value} {fp_st_2 : Fp} {hd_st_3 : Value} {fp_st_3 : Fp} {b_st_4 : Nat} {hd_st_5 : Value} {fp_st_5 : Fp} {hd_st_6 : Value} {fp_st_6 : Fp} {b_st_7 : Nat} {hd_st_8 : Value} {fp_st_8 : Fp} {hd_st_11 : Value} {fp_st_11 : Fp} {hd_st_12 : Value} {fp_st_12 : Fp} {st_ : List (Int)} {st_2 : List (Int)} {st_3 : List (Int)} {st_5 : List (Int × Int)} {st_6 : List (Int)} {st_8 : List (Int × Int)} {st_9 : Int} {st_10 : Int} {st_11 : List (Int)} {st_12 : List (Bool)} {r : List (Int)}
    (wf : WF H) (h_st_ : Sq (encI .i64) 1 H hd_st_ st_ fp_st_) (h_st_2 : Sq (encI .i64) 1 H hd_st_2 st_2 fp_st_2) (h_st_3 : Sq (encI .i64) 1 H hd_st_3 st_3 fp_st_3) (h_st_5 : Sq enc_u64_u32 2 H hd_st_5 st_5 fp_st_5) (h_st_6 : Sq (encI .i64) 1 H hd_st_6 st_6 fp_st_6) (h_st_4 : Row H b_st_4 [hd_st_5, hd_st_6]) (h_st_8 : Sq enc_u64_u32 2 H hd_st_8 st_8 fp_st_8) (h_st_7 : Row H b_st_7 [hd_st_8, .int .u32 st_9, i_ st_10]) (h_st_11 : Sq (encI .i64) 1 H hd_st_11 st_11 fp_st_11) (h_st_12 : Sq encB 1 H hd_st_12 st_12 fp_st_12) (h_st : Row H b_st [hd_st_, hd_st_2, hd_st_3, pt_ b_st_4 0, pt_ b_st_7 0, hd_st_11, hd_st_12]) (hr : z_search_state_all st_ st_2 st_3 st_5 st_6 st_8 st_9 st_10 st_11 st_12 = some r) :
    ACalls Try.prog 61 #[pt_ b_st 0] H fun v H' => ∃ (s3 : Value) (f4 : Fp), v = s3 ∧ FrS [] H H' ∧ Ow (encI .u64) 1 H' s3 r f4 ∧ Inn [] H f4 := by
 refine acalls_of_body mixed Try.func61 rfl (Nat.le_of_ble_eq_true rfl) ?_
 unfold z_search_state_all at hr
 refine w_seqk fun _ k6 => ?_
 refine g_' ?_
 refine q_ (.slice none 0 0) ?_
 refine s_nil (k6 _ _ ?_)
 refine w_seqk fun _ k7 => ?_
 refine g_' ?_
 refine q_ (pt_ b_st 0) ?_
 refine q_ (pt_ b_st 0) ?_
 refine q_ (pt_ b_st 0) ?_
 refine l_' (.agg #[hd_st_, hd_st_2, hd_st_3]) (aLoad Try.prog 27 (pt_ b_st 0) H) (h_st.ld (by kernel_rfl)) ?_
 obtain ⟨y8, hy9, r10⟩ := bind_some hr
 refine s_ck 58 #[.agg #[hd_st_, hd_st_2, hd_st_3]] (by kernel_rfl) (c_search_nodes wf h_st_ h_st_2 h_st_3 hy9) ?_
 rintro _ H11 ⟨rfl, e12⟩
 obtain ⟨g13, r14⟩ := G_some r10
 refine s_mks (t := 44) (m := 8) (l := y8) (c := y8) (enc := (encI .u64)) (sz := 1) e12.wf (0 : Int) (by kernel_rfl) (by decide) g13.1 (Int.le_refl _) (by omega) (by have := g13; omega) (by kernel_rfl) fun s15 f16 H17 e18 hf19 hm20 => ?_
 obtain ⟨a21, n22, c23, rfl⟩ := hm20.form
 have hm20 : Ow (encI .u64) 1 H17 (.slice a21 n22 c23) (List.replicate y8.toNat (0 : Int)) f16 := hm20
 refine q_ (.slice a21 n22 c23) ?_
 refine s_nil (k7 _ _ ?_)
 refine w_seqk fun _ k25 => ?_
 refine w_seqk fun _ k26 => ?_
 refine g_' ?_
 refine q_ (.slice a21 n22 c23) ?_
 refine l_' (i_ ((List.replicate y8.toNat (0 : Int)).length : Int)) (aLen Try.prog 44 (.slice a21 n22 c23) H17) (hm20.sq.lenb (by kernel_rfl)) ?_
 refine q_ (i_ 0) ?_
 refine s_nil (k26 _ _ ?_)
 obtain ⟨o27, hx28, r29⟩ := bind_some r14
 refine w_mid (fun α H30 => Has α [(3, .slice a21 n22 c23)] ∧ FrS f16 H17 H30 ∧ Ow (encI .u64) 1 H30 (.slice a21 n22 c23) o27 f16) (fun _ k34 => ?_) (fun α H30 hM => ?_)
 ·refine w_block ?_
  obtain ⟨n36, hn37⟩ := loopO_iff.1 hx28
  refine w_loopn (fun n α H38 => ∃ (i0 : Int), ∃ (l1 : List (Int)), iterO (fun zz_ => z_search_state_all_l0 st_8 st_9 st_10 y8 zz_.1 zz_.2) n (i0, l1) = some o27 ∧ Has α [(0, pt_ b_st 0), (3, .slice a21 n22 c23), (14, i_ ((List.replicate y8.toNat (0 : Int)).length : Int)), (15, i_ i0)] ∧ FrS f16 H17 H38 ∧ Ow (encI .u64) 1 H38 (.slice a21 n22 c23) l1 f16) n36 ⟨0, (List.replicate y8.toNat (0 : Int)), hn37, ha_, (FrS.refl (W := f16) e18.wf), hm20⟩ ?_
  rintro n36 α H38 ⟨i0, l1, hi43, hh42, e39, m41⟩ K48 k48
  obtain ⟨n44, z45, rfl, hz46, hn47⟩ := iter_succ hi43
  obtain ⟨β, rfl⟩ := has_ex hh42
  clear hh42
  replace hz46 : z_search_state_all_l0 st_8 st_9 st_10 y8 i0 l1 = some z45 := hz46
  unfold z_search_state_all_l0 at hz46
  refine w_seqk fun _ k49 => ?_
  refine g_' ?_
  refine q_ (.bool (decide (i0 < ((List.replicate y8.toNat (0 : Int)).length : Int)))) ?_
  refine s_nil (k49 _ _ ?_)
  refine w_seqk fun _ k50 => ?_
  refine w_condp (i0 < ((List.replicate y8.toNat (0 : Int)).length : Int)) (by kernel_rfl) rfl (fun h51 => ?_) (fun h51 => ?_)
  ·have r52 := ite_t h51 hz46
   refine w_skip ?_
   refine k50 _ _ ?_
   refine w_seqk fun _ k53 => ?_
   refine w_block ?_
   refine w_seqk fun _ k54 => ?_
   refine g_' ?_
   refine q_ (i_ i0) ?_
   refine q_ (i_ i0) ?_
   refine s_nil (k54 _ _ ?_)
   refine w_seqk fun _ k55 => ?_
   refine g_' ?_
   refine q_ (pt_ b_st 0) ?_
   refine q_ (pt_ b_st 0) ?_
   refine q_ (pt_ b_st 4) ?_
   have u56 := (((h_st.frS e12 Dj.nil_l).ext e18).frS e39 (hf19.djn (h_st.ltF.le e12.next)))
   refine l_' (pt_ b_st_7 0) (aLoad Try.prog 115 (pt_ b_st 4) H38) (u56.ld (by kernel_rfl)) ?_
   refine q_ (i_ i0) ?_
   have u57 := (((h_st_8.fr e12 Dj.nil_l).ext e18).fr e39 (hf19.djn (h_st_8.lt.le e12.next)))
   have u58 := (((h_st_7.frS e12 Dj.nil_l).ext e18).frS e39 (hf19.djn (h_st_7.ltF.le e12.next)))
   obtain ⟨y59, hy60, r61⟩ := bind_some r52
   refine s_ck 90 #[pt_ b_st_7 0, i_ i0] (by kernel_rfl) (c_stamp_Stamp_Get e39.wf u57 u58 hy60) ?_
   rintro _ _ ⟨rfl, rfl⟩
   refine q_ (.tuple #[.int .u64 y59.1, .bool y59.2]) ?_
   refine q_ (.int .u64 y59.1) ?_
   refine q_ (.bool y59.2) ?_
   refine q_ (.int .u64 y59.1) ?_
   refine q_ (.bool y59.2) ?_
   refine s_nil (k55 _ _ ?_)
   refine w_seqk fun _ k64 => ?_
   refine w_seqk fun _ k65 => ?_
   refine g_' ?_
   refine q_ (.bool y59.2) ?_
   refine q_ (.bool (!y59.2)) ?_
   refine s_nil (k65 _ _ ?_)
   refine w_cond ((!y59.2)) (by kernel_rfl) rfl (fun h66 => ?_) (fun h66 => ?_)
   ·have r67 := ite_t h66 r61
    refine g_' ?_
    refine q_ (.int .u64 18446744073709551615) ?_
    refine s_nil (k64 _ _ ?_)
    refine g_' ?_
    refine q_ (.slice a21 n22 c23) ?_
    refine q_ (i_ i0) ?_
    refine q_ (.int .u64 18446744073709551615) ?_
    obtain ⟨g68, r69⟩ := G_some r67
    refine l_' (elp (.slice a21 n22 c23) 1 i0.toNat 0) (aIndexAddr Try.prog 44 (.slice a21 n22 c23) (i_ i0)) (m41.sq.idxb (by kernel_rfl) g68.1 g68.2) ?_
    obtain ⟨H70, q71, e72, hm73⟩ := Ow.store (P := Try.prog) (t := 34) (off := 0) e39.wf m41 g68.1 g68.2 (.int .u64 18446744073709551615) [.int .u64 18446744073709551615] (by kernel_rfl) (by kernel_rfl) rfl 18446744073709551615 (Nat.le_of_ble_eq_true rfl) (by kernel_rfl)
    refine s_ek (undef) (by kernel_rfl) (map_ok q71) ?_
    refine s_nil (k53 _ _ ?_)
    refine g_' ?_
    obtain ⟨g74, r75⟩ := G_some r69
    refine s_w ((i0 + 1)) (k := .i64) (x := (i0 + 1)) (by kernel_rfl) (wrap64 (by have := g74; omega)) ?_
    refine q_ (i_ (i0 + 1)) ?_
    refine s_nil ?_
    obtain rfl := Option.some.inj r75
    exact k48 n44 _ _ (Nat.lt_succ_self _) ⟨(i0 + 1), (l1.set i0.toNat 18446744073709551615), hn47, ha_, (FrS.step e18.wf (FrS.step e18.wf (FrS.refl (W := f16) e18.wf) e39 Inn.refl') e72 Inn.refl'), hm73⟩
   have r76 := ite_bf h66 r61
   refine w_skip ?_
   refine k64 _ _ ?_
   refine g_' ?_
   refine q_ (.slice a21 n22 c23) ?_
   refine q_ (i_ i0) ?_
   refine q_ (.int .u64 y59.1) ?_
   obtain ⟨g77, r78⟩ := G_some r76
   refine l_' (elp (.slice a21 n22 c23) 1 i0.toNat 0) (aIndexAddr Try.prog 44 (.slice a21 n22 c23) (i_ i0)) (m41.sq.idxb (by kernel_rfl) g77.1 g77.2) ?_
   obtain ⟨H79, q80, e81, hm82⟩ := Ow.store (P := Try.prog) (t := 34) (off := 0) e39.wf m41 g77.1 g77.2 (.int .u64 y59.1) [.int .u64 y59.1] (by kernel_rfl) (by kernel_rfl) rfl y59.1 (Nat.le_of_ble_eq_true rfl) (by kernel_rfl)
   refine s_ek (undef) (by kernel_rfl) (map_ok q80) ?_
   refine s_nil (k53 _ _ ?_)
   refine g_' ?_
   obtain ⟨g83, r84⟩ := G_some r78
   refine s_w ((i0 + 1)) (k := .i64) (x := (i0 + 1)) (by kernel_rfl) (wrap64 (by have := g83; omega)) ?_
   refine q_ (i_ (i0 + 1)) ?_
   refine s_nil ?_
   obtain rfl := Option.some.inj r84
   exact k48 n44 _ _ (Nat.lt_succ_self _) ⟨(i0 + 1), (l1.set i0.toNat y59.1), hn47, ha_, (FrS.step e18.wf (FrS.step e18.wf (FrS.refl (W := f16) e18.wf) e39 Inn.refl') e81 Inn.refl'), hm82⟩
  have r85 := ite_f h51 hz46
  refine w_exit (th_exit (th_exit (bl_eq ?_)))
  obtain rfl := Option.some.inj r85
  obtain rfl := it_inr hn47
  exact k34 _ _ ⟨ha_, (FrS.step e18.wf (FrS.refl (W := f16) e18.wf) e39 Inn.refl'), m41⟩
 obtain ⟨hh35, e31, m33⟩ := hM
 obtain ⟨β, rfl⟩ := has_ex hh35
 clear hh35
 refine k25 _ _ ?_
 refine w_seqk fun _ k86 => ?_
 refine g_' ?_
 refine q_ (.slice a21 n22 c23) ?_
 refine q_ (.slice a21 n22 c23) ?_
 refine s_nil (k86 _ _ ?_)
 refine w_ret ?_
 refine b_ret (fn := Try.f61) (vs := [.slice a21 n22 c23]) (aRes_tmp (by kernel_rfl) (rfl)) ?_
 obtain rfl := Option.some.inj r29
 exact ⟨(.slice a21 n22 c23), f16, rfl, (FrS.step wf ((FrS.step wf (FrS.refl (W := []) wf) e12 Inn.nil).extR e18) e31 (hf19.fresh e12.next)), m33, (hf19.fresh e12.next)⟩

theorem c_search_Matrix {H : AH} {hd_First : Value} {fp_First : Fp} {hd_To : Value} {fp_To : Fp} {hd_Weight : Value} {fp_Weight : Fp} {First : List (Int)} {To : List (Int)} {Weight : List (Int)} {r : List (List (Int)) × Er}
    (wf : WF H) (h_First : Sq (encI .i64) 1 H hd_First First fp_First) (h_To : Sq (encI .i64) 1 H hd_To To fp_To) (h_Weight : Sq (encI .i64) 1 H hd_Weight Weight fp_Weight) (hr : z_search_Matrix First To Weight = some r) :
    ACalls Try.prog 11 #[.agg #[hd_First, hd_To, hd_Weight]] H fun v H' => ∃ (s3 : Value) (f4 : Fp) (v7 : Value) (f8 : Fp), v = .tuple #[s3, v7] ∧ FrS [] H H' ∧ Nst (CR.sl (encI .u64) 1) H' s3 r.1 f4 ∧ Ev 101 152 H' v7 r.2 f8 ∧ Inn [] H f4 ∧ Inn [] H f8 ∧ Dj f4 f8 := by
 refine acalls_of_body mixed Try.func11 rfl (Nat.le_of_ble_eq_true rfl) ?_
 unfold z_search_Matrix at hr
 refine w_seqk fun _ k12 => ?_
 refine g_' ?_
 refine s_rwl wf [hd_First, hd_To, hd_Weight] (one_cons (h_First.one1) (one_cons (h_To.one1) (one_cons (h_Weight.one1) (one_nil)))) (by kernel_rfl) fun b13 H14 e15 hb16 r17 => ?_
 refine q_ (.slice none 0 0) ?_
 refine q_ (.nilIface) ?_
 refine s_nil (k12 _ _ ?_)
 refine w_seqk fun _ k19 => ?_
 refine w_seqk fun _ k20 => ?_
 refine g_' ?_
 refine l_' (.agg #[hd_First, hd_To, hd_Weight]) (aLoad Try.prog 27 (pt_ b13 0) H14) (r17.ld (by kernel_rfl)) ?_
 have u21 := (h_First.ext e15)
 have u22 := (h_To.ext e15)
 have u23 := (h_Weight.ext e15)
 obtain ⟨y24, hy25, r26⟩ := bind_some hr
 refine s_ck 55 #[.agg #[hd_First, hd_To, hd_Weight]] (by kernel_rfl) (c_csr_Check e15.wf u21 u22 u23 hy25) ?_
 rintro v27 H29 ⟨_, f28, rfl, e30, m31, i32⟩
 refine q_ (v27) ?_
 refine s_nil (k20 _ _ ?_)
 refine w_seqk fun _ k34 => ?_
 refine g_' ?_
 refine q_ (v27) ?_
 rcases (m31).cases with ⟨h35, rfl⟩ | ⟨h35, t36, x37, rfl⟩
 ·have r38 := ite_t h35 r26
  refine q_ (.bool false) ?_
  refine s_nil (k34 _ _ ?_)
  refine w_cond false (by kernel_rfl) rfl (fun h => by cases h) (fun _ => ?_)
  refine w_skip ?_
  refine k19 _ _ ?_
  refine w_seqk fun _ k39 => ?_
  refine g_' ?_
  have u40 := (r17.frS e30 Dj.nil_l)
  refine l_' (.agg #[hd_First, hd_To, hd_Weight]) (aLoad Try.prog 27 (pt_ b13 0) H29) (u40.ld (by kernel_rfl)) ?_
  have u41 := (u21.fr e30 Dj.nil_l)
  have u42 := (u22.fr e30 Dj.nil_l)
  have u43 := (u23.fr e30 Dj.nil_l)
  obtain ⟨y44, hy45, r46⟩ := bind_some r38
  refine s_ck 58 #[.agg #[hd_First, hd_To, hd_Weight]] (by kernel_rfl) (c_search_nodes e30.wf u41 u42 u43 hy45) ?_
  rintro _ H47 ⟨rfl, e48⟩
  refine q_ (i_ y44) ?_
  refine s_nil (k39 _ _ ?_)
  refine w_seqk fun _ k49 => ?_
  refine w_seqk fun _ k50 => ?_
  refine g_' ?_
  refine q_ (i_ y44) ?_
  refine q_ (i_ y44) ?_
  obtain ⟨g51, r52⟩ := G_some r46
  refine s_w ((y44 * y44)) (k := .i64) (x := (y44 * y44)) (by kernel_rfl) (wrap64 g51) ?_
  refine q_ (.bool (decide ((y44 * y44) > 1048576))) ?_
  refine s_nil (k50 _ _ ?_)
  refine w_condp ((y44 * y44) > 1048576) (by kernel_rfl) rfl (fun h53 => ?_) (fun h53 => ?_)
  ·have r54 := ite_t h53 r52
   refine w_seqk fun _ k55 => ?_
   refine g_' ?_
   refine q_ (.iface 101 (i_ 9)) ?_
   refine q_ (.slice none 0 0) ?_
   refine q_ (.iface 101 (i_ 9)) ?_
   refine s_nil (k55 _ _ ?_)
   refine w_ret (th_ret ?_)
   refine b_ret (fn := Try.f11) (vs := [.slice none 0 0, .iface 101 (i_ 9)]) (aRes_tmp (by kernel_rfl) (aRes_tmp (by kernel_rfl) (rfl))) ?_
   obtain rfl := Option.some.inj r54
   exact ⟨(.slice none 0 0), [], (.iface 101 (i_ 9)), [], rfl, (FrS.step wf (FrS.step wf ((FrS.refl (W := []) wf).extR e15) e30 Inn.nil) e48 Inn.nil), Nst.nil, Ev.no, Inn.nil, Inn.nil, Dj.nil_l⟩
  have r56 := ite_f h53 r52
  refine w_skip ?_
  refine k49 _ _ ?_
  refine w_seqk fun _ k57 => ?_
  refine g_' ?_
  refine q_ (.slice none 0 0) ?_
  refine s_nil (k57 _ _ ?_)
  refine w_seqk fun _ k58 => ?_
  refine w_seqk fun _ k59 => ?_
  refine g_' ?_
  refine q_ (i_ y44) ?_
  refine q_ (i_ 0) ?_
  refine s_nil (k59 _ _ ?_)
  obtain ⟨o60, hx61, r62⟩ := bind_some r56
  refine w_mid (fun α H63 => ∃ (s67 : Value) (f68 : Fp), Has α [(6, s67)] ∧ FrS [] H47 H63 ∧ Nst (CR.sl (encI .u64) 1) H63 s67 o60 f68 ∧ Inn [] H47 f68) (fun _ k70 => ?_) (fun α H63 hM => ?_)
  ·refine w_block ?_
   obtain ⟨n72, hn73⟩ := loopO_iff.1 hx61
   refine w_loopn (fun n α H74 => ∃ (i0 : Int), ∃ (l1 : List (List (Int))), ∃ (s78 : Value), ∃ (f79 : Fp), iterO (fun zz_ => z_search_Matrix_l0 First To Weight y44 zz_.1 zz_.2) n (i0, l1) = some o60 ∧ Has α [(1, pt_ b13 0), (6, s78), (20, i_ y44), (21, i_ i0)] ∧ FrS [] H47 H74 ∧ Nst (CR.sl (encI .u64) 1) H74 s78 l1 f79 ∧ Inn [] H47 f79) n72 ⟨0, [], (.slice none 0 0), [], hn73, ha_, (FrS.refl (W := []) e48.wf), Nst.nil, Inn.nil⟩ ?_
   rintro n72 α H74 ⟨i0, l1, s78, f79, hi82, hh81, e75, m77, i80⟩ K87 k87
   obtain ⟨n83, z84, rfl, hz85, hn86⟩ := iter_succ hi82
   obtain ⟨β, rfl⟩ := has_ex hh81
   clear hh81
   replace hz85 : z_search_Matrix_l0 First To Weight y44 i0 l1 = some z84 := hz85
   unfold z_search_Matrix_l0 at hz85
   obtain ⟨a88, n89, c90, rfl⟩ := m77.form
   refine w_seqk fun _ k91 => ?_
   refine g_' ?_
   refine q_ (.bool (decide (i0 < y44))) ?_
   refine s_nil (k91 _ _ ?_)
   refine w_seqk fun _ k92 => ?_
   refine w_condp (i0 < y44) (by kernel_rfl) rfl (fun h93 => ?_) (fun h93 => ?_)
   ·have r94 := ite_t h93 hz85
    refine w_skip ?_
    refine k92 _ _ ?_
    refine w_seqk fun _ k95 => ?_
    refine w_block ?_
    refine w_seqk fun _ k96 => ?_
    refine g_' ?_
    refine q_ (i_ i0) ?_
    refine q_ (i_ i0) ?_
    refine s_nil (k96 _ _ ?_)
    refine w_draw [0, 1, 2, 3, 4, 5, 6, 7, 8] (by kernel_rfl) ?_
    refine e_' (.slice a88 n89 c90) ?_
    have u97 := ((u40.frS e48 Dj.nil_l).frS e75 Dj.nil_l)
    refine d_fl (.agg #[hd_First, hd_To, hd_Weight]) (x := aLoad Try.prog 27 (pt_ b13 0) H74) (by kernel_rfl) (u97.ld (by kernel_rfl)) ?_
    refine e_' (i_ i0) ?_
    obtain ⟨y98, hy99, r100⟩ := bind_some r94
    refine d_ck 60 #[] (by kernel_rfl) (c_search_free e75.wf hy99) ?_
    rintro _ H101 ⟨rfl, e102⟩
    have u103 := (u97.frS e102 Dj.nil_l)
    refine ⟨st_ql (y := aLoad Try.prog 27 (pt_ b13 0) H101) (by kernel_rfl) (u103.ld (by kernel_rfl)) (st_nil), ?_⟩
    have u104 := (((u41.fr e48 Dj.nil_l).fr e75 Dj.nil_l).fr e102 Dj.nil_l)
    have u105 := (((u42.fr e48 Dj.nil_l).fr e75 Dj.nil_l).fr e102 Dj.nil_l)
    have u106 := (((u43.fr e48 Dj.nil_l).fr e75 Dj.nil_l).fr e102 Dj.nil_l)
    obtain ⟨y107, hy108, r109⟩ := bind_some r100
    refine d_ck 59 #[.agg #[hd_First, hd_To, hd_Weight], i_ i0, .agg #[i_ 4611686018427387904, i_ 4611686018427387904, .int .u64 18446744073709551615]] (by kernel_rfl) (c_search_run e102.wf u104 u105 u106 hy108) ?_
    rintro _ H123 ⟨s110, f111, s112, f113, b114, s115, f116, b117, s118, f119, s120, f121, b122, rfl, e124, m125, m126, m127, m128, m129, m130, m131, m132, i133, i134, i135, i136, i137, i138, i139, i140, d141, d142, d143, d144, d145, d146, d147, d148, d149, d150, d151, d152, d153, d154, d155, d156, d157, d158, d159, d160, d161, d162, d163, d164, d165, d166, d167, d168⟩
    obtain ⟨a177, n178, c179, rfl⟩ := m125.form
    obtain ⟨a180, n181, c182, rfl⟩ := m126.form
    obtain ⟨a183, n184, c185, rfl⟩ := m128.form
    obtain ⟨a186, n187, c188, rfl⟩ := m130.form
    obtain ⟨a189, n190, c191, rfl⟩ := m131.form
    refine ⟨st_anc (by kernel_rfl) (st_nil), ?_⟩
    have u192 := (u104.fr e124 Dj.nil_l)
    have u193 := (u105.fr e124 Dj.nil_l)
    have u194 := (u106.fr e124 Dj.nil_l)
    obtain ⟨y195, hy196, r197⟩ := bind_some r109
    refine d_ck 61 #[pt_ b122 0] (by kernel_rfl) (c_search_state_all e124.wf u192 u193 u194 m125.sq m126.sq m127 m128.sq m129 m130.sq m131.sq m132 hy196) ?_
    rintro s198 H200 ⟨_, f199, rfl, e201, m202, i203⟩
    obtain ⟨a205, n206, c207, rfl⟩ := m202.form
    refine ⟨st_anc (by kernel_rfl) (st_nil), ?_⟩
    refine d_lsl e201.wf [.slice a205 n206 c207] 1 (one_cons (m202.one1) (one_nil)) (by kernel_rfl) fun b208 H209 e210 hb211 r212 => ?_
    have u214 := ((((m77.fr e102 Dj.nil_l).fr e124 Dj.nil_l).fr e201 Dj.nil_l).ext e210)
    have u215 := (m202.ext e210)
    obtain ⟨g216, r217⟩ := G_some r197
    obtain ⟨s218, H219, f220, q224, e221, hm222, hf223⟩ := Nst.append1 (P := Try.prog) (C := (CR.sl (encI .u64) 1)) 24 e210.wf u214 r212 (cr_sl_mk u215) (Dj.symm (i203.djn (m77.lt.le (ntr e102.next e124.next)))) (at_ := #[38, 38]) rfl rfl (by kernel_rfl) (by kernel_rfl) (by decide) (by have := g216; first | omega | (simp at this ⊢; omega))
    obtain ⟨a225, n226, c227, rfl⟩ := hm222.form
    have w229 := hf223.grow2 (i203.fresh (Nat.le_refl _)) (ntr e201.next e210.next)
    refine d_ek (.slice a225 n226 c227) (by kernel_rfl) (q224) (st_anc (by kernel_rfl) (st_nil)) ?_
    refine e_' (.slice a225 n226 c227) ?_
    refine d_nil ?_
    refine k95 _ _ ?_
    refine g_' ?_
    obtain ⟨g230, r231⟩ := G_some r217
    refine s_w ((i0 + 1)) (k := .i64) (x := (i0 + 1)) (by kernel_rfl) (wrap64 g230) ?_
    refine q_ (i_ (i0 + 1)) ?_
    refine s_nil ?_
    obtain rfl := Option.some.inj r231
    exact k87 n83 _ _ (Nat.lt_succ_self _) ⟨(i0 + 1), (l1 ++ [y195]), (.slice a225 n226 c227), f220, hn86, ha_, (FrS.step e48.wf ((FrS.step e48.wf (FrS.step e48.wf (FrS.step e48.wf (FrS.step e48.wf (FrS.refl (W := []) e48.wf) e75 Inn.nil) e102 Inn.nil) e124 Inn.nil) e201 Inn.nil).extR e210) e221 (i80.fresh (Nat.le_refl _))), hm222, (Inn.trans (i80.fresh (Nat.le_refl _)) (ntr (ntr e75.next e102.next) e124.next) w229)⟩
   have r232 := ite_f h93 hz85
   refine w_exit (th_exit (th_exit (bl_eq ?_)))
   obtain rfl := Option.some.inj r232
   obtain rfl := it_inr hn86
   exact k70 _ _ ⟨(.slice a88 n89 c90), f79, ha_, (FrS.step e48.wf (FrS.refl (W := []) e48.wf) e75 Inn.nil), m77, (i80.fresh (Nat.le_refl _))⟩
  obtain ⟨s67, f68, hh71, e64, m66, i69⟩ := hM
  obtain ⟨β, rfl⟩ := has_ex hh71
  clear hh71
  obtain ⟨a233, n234, c235, rfl⟩ := m66.form
  refine k58 _ _ ?_
  refine w_seqk fun _ k236 => ?_
  refine g_' ?_
  refine q_ (.slice a233 n234 c235) ?_
  refine q_ (.slice a233 n234 c235) ?_
  refine q_ (.nilIface) ?_
  refine s_nil (k236 _ _ ?_)
  refine w_ret ?_
  refine b_ret (fn := Try.f11) (vs := [.slice a233 n234 c235, .nilIface]) (aRes_tmp (by kernel_rfl) (aRes_tmp (by kernel_rfl) (rfl))) ?_
  obtain rfl := Option.some.inj r62
  exact ⟨(.slice a233 n234 c235), f68, (.nilIface), [], rfl, (FrS.step wf (FrS.step wf (FrS.step wf ((FrS.refl (W := []) wf).extR e15) e30 Inn.nil) e48 Inn.nil) e64 Inn.nil), m66, Ev.nil, (i69.fresh (ntr (ntr e15.next e30.next) e48.next)), Inn.nil, Dj.nil_r⟩
 have r237 := ite_f h35 r26
 refine l_' (.bool true) (aBin Try.prog .neq 29 (.tmp 10) (.const .nilIface) (.iface t36 x37) .nilIface) (aBin_nnil (by kernel_rfl)) ?_
 refine s_nil (k34 _ _ ?_)
 refine w_cond true (by kernel_rfl) rfl (fun _ => ?_) (fun h => by cases h)
 refine w_seqk fun _ k238 => ?_
 refine g_' ?_
 refine q_ (.iface t36 x37) ?_
 refine q_ (.slice none 0 0) ?_
 refine q_ (.iface t36 x37) ?_
 refine s_nil (k238 _ _ ?_)
 refine w_ret (th_ret ?_)
 refine b_ret (fn := Try.f11) (vs := [.slice none 0 0, .iface t36 x37]) (aRes_tmp (by kernel_rfl) (aRes_tmp (by kernel_rfl) (rfl))) ?_
 obtain rfl := Option.some.inj r237
 exact ⟨(.slice none 0 0), [], (.iface t36 x37), f28, rfl, (FrS.step wf ((FrS.refl (W := []) wf).extR e15) e30 Inn.nil), Nst.nil, m31, Inn.nil, (i32.fresh e15.next), Dj.nil_l⟩


end Go.Vd

/-! (KWw6) -/

set_option maxRecDepth 100000
set_option maxHeartbeats 4000000
set_option linter.unusedVariables false
namespace Go.Vd
open Go.Proofs
attribute [local irreducible] wpSeq wpOrd aWp
theorem c_viaductref04_Distances {H : AH} {hd_Arcs : Value} {fp_Arcs : Fp} {N_ : Int} {Arcs : List (Int × Int × Int)} {r : List (List (Int))}
    (wf : WF H) (h_Arcs : Sq enc_i64_i64_i64 3 H hd_Arcs Arcs fp_Arcs) (hr : z_viaductref04_Distances N_ Arcs = some r) :
    ACalls Try.prog 13 #[.agg #[i_ N_, hd_Arcs]] H fun v H' => ∃ (s3 : Value) (f4 : Fp), v = s3 ∧ FrS [] H H' ∧ Nst (CR.sl (encI .u64) 1) H' s3 r f4 ∧ Inn [] H f4 := by
 refine acalls_of_body mixed Try.func13 rfl (Nat.le_of_ble_eq_true rfl) ?_
 unfold z_viaductref04_Distances at hr
 refine w_seqk fun _ k6 => ?_
 refine g_' ?_
 refine s_rwl wf [i_ N_, hd_Arcs] (one_cons (rfl) (one_cons (h_Arcs.one1) (one_nil))) (by kernel_rfl) fun b7 H8 e9 hb10 r11 => ?_
 refine q_ (.slice none 0 0) ?_
 refine s_nil (k6 _ _ ?_)
 refine w_seqk fun _ k13 => ?_
 refine g_' ?_
 refine q_ (pt_ b7 0) ?_
 refine l_' (i_ N_) (aLoad Try.prog 3 (pt_ b7 0) H8) (r11.ld (by kernel_rfl)) ?_
 obtain ⟨g14, r15⟩ := G_some hr
 refine s_mks (t := 38) (m := 24) (l := N_) (c := N_) (enc := id) (sz := 1) e9.wf [.slice none 0 0] (by kernel_rfl) (by decide) g14.1 (Int.le_refl _) (by omega) (by have := g14; omega) (by kernel_rfl) fun s16 f17 H18 e19 hf20 hm21 => ?_
 replace hm21 := Nst.zeros (C := (CR.sl (encI .u64) 1)) (x0 := ([] : List (Int))) hm21 (fun _ => cr_sl_mk (Ow.nil (by decide)))
 obtain ⟨a22, n23, c24, rfl⟩ := hm21.form
 have hm21 : Nst (CR.sl (encI .u64) 1) H18 (.slice a22 n23 c24) (List.replicate N_.toNat ([] : List (Int))) f17 := hm21
 refine q_ (.slice a22 n23 c24) ?_
 refine s_nil (k13 _ _ ?_)
 refine w_seqk fun _ k26 => ?_
 refine w_seqk fun _ k27 => ?_
 refine g_' ?_
 refine q_ (.slice a22 n23 c24) ?_
 refine l_' (i_ ((List.replicate N_.toNat ([] : List (Int))).length : Int)) (aLen Try.prog 38 (.slice a22 n23 c24) H18) (hm21.lenb (by kernel_rfl)) ?_
 refine q_ (i_ 0) ?_
 refine s_nil (k27 _ _ ?_)
 obtain ⟨o28, hx29, r30⟩ := bind_some r15
 refine w_mid (fun α H31 => ∃ (f35 : Fp), Has α [(1, pt_ b7 0), (3, .slice a22 n23 c24)] ∧ FrS f17 H18 H31 ∧ Nst (CR.sl (encI .u64) 1) H31 (.slice a22 n23 c24) o28 f35 ∧ Inn f17 H18 f35) (fun _ k37 => ?_) (fun α H31 hM => ?_)
 ·refine w_block ?_
  obtain ⟨n39, hn40⟩ := loopO_iff.1 hx29
  refine w_loopn (fun n α H41 => ∃ (i2 : Int), ∃ (d3 : List (List (Int))), ∃ (f45 : Fp), iterO (fun zz_ => z_viaductref04_Distances_l1 N_ zz_.1 zz_.2) n (i2, d3) = some o28 ∧ Has α [(1, pt_ b7 0), (3, .slice a22 n23 c24), (15, i_ ((List.replicate N_.toNat ([] : List (Int))).length : Int)), (16, i_ i2)] ∧ FrS f17 H18 H41 ∧ Nst (CR.sl (encI .u64) 1) H41 (.slice a22 n23 c24) d3 f45 ∧ Inn f17 H18 f45) n39 ⟨0, (List.replicate N_.toNat ([] : List (Int))), f17, hn40, ha_, (FrS.refl (W := f17) e19.wf), hm21, Inn.refl'⟩ ?_
  rintro n39 α H41 ⟨i2, d3, f45, hi48, hh47, e42, m44, i46⟩ K53 k53
  obtain ⟨n49, z50, rfl, hz51, hn52⟩ := iter_succ hi48
  obtain ⟨β, rfl⟩ := has_ex hh47
  clear hh47
  replace hz51 : z_viaductref04_Distances_l1 N_ i2 d3 = some z50 := hz51
  unfold z_viaductref04_Distances_l1 at hz51
  refine w_seqk fun _ k54 => ?_
  refine g_' ?_
  refine q_ (.bool (decide (i2 < ((List.replicate N_.toNat ([] : List (Int))).length : Int)))) ?_
  refine s_nil (k54 _ _ ?_)
  refine w_seqk fun _ k55 => ?_
  refine w_condp (i2 < ((List.replicate N_.toNat ([] : List (Int))).length : Int)) (by kernel_rfl) rfl (fun h56 => ?_) (fun h56 => ?_)
  ·have r57 := ite_t h56 hz51
   refine w_skip ?_
   refine k55 _ _ ?_
   refine w_seqk fun _ k58 => ?_
   refine w_block ?_
   refine w_seqk fun _ k59 => ?_
   refine g_' ?_
   refine q_ (i_ i2) ?_
   refine q_ (i_ i2) ?_
   refine s_nil (k59 _ _ ?_)
   refine w_seqk fun _ k60 => ?_
   refine g_' ?_
   refine q_ (.slice a22 n23 c24) ?_
   refine q_ (i_ i2) ?_
   refine q_ (pt_ b7 0) ?_
   have u61 := ((r11.ext e19).frS e42 (hf20.djn r11.ltF))
   refine l_' (i_ N_) (aLoad Try.prog 3 (pt_ b7 0) H41) (u61.ld (by kernel_rfl)) ?_
   obtain ⟨g62, r63⟩ := G_some r57
   refine s_mks (t := 44) (m := 8) (l := N_) (c := N_) (enc := (encI .u64)) (sz := 1) e42.wf (0 : Int) (by kernel_rfl) (by decide) g62.1 (Int.le_refl _) (by omega) (by have := g62; omega) (by kernel_rfl) fun s64 f65 H66 e67 hf68 hm69 => ?_
   obtain ⟨a70, n71, c72, rfl⟩ := hm69.form
   have hm69 : Ow (encI .u64) 1 H66 (.slice a70 n71 c72) (List.replicate N_.toNat (0 : Int)) f65 := hm69
   obtain ⟨g74, r75⟩ := G_some r63
   have u76 := (m44.ext e67)
   refine l_' (elp (.slice a22 n23 c24) 1 i2.toNat 0) (aIndexAddr Try.prog 38 (.slice a22 n23 c24) (i_ i2)) (u76.idxb (by kernel_rfl) g74.1 g74.2) ?_
   obtain ⟨H77, f81, q78, e79, hm80, hf82⟩ := Nst.store (P := Try.prog) (t := 44) (off := 0) e67.wf u76 g74.1 g74.2 (.slice a70 n71 c72) [.slice a70 n71 c72] (by kernel_rfl) (by kernel_rfl) rfl (List.replicate N_.toNat (0 : Int)) (Nat.le_of_ble_eq_true rfl) (Dj.symm (hf68.djn m44.lt)) hm69.lt (fun cs_ f_ hr_ _ => by obtain ⟨_, rfl, _⟩ := cr_sl_open hr_; exact ⟨_, cr_sl_mk hm69, fun _ h => .inr h⟩)
   have w83 := hf82.grow2 (hf68.fresh (Nat.le_refl _)) e67.next
   refine s_ek (undef) (by kernel_rfl) (map_ok q78) ?_
   refine s_nil (k60 _ _ ?_)
   refine w_seqk fun _ k84 => ?_
   refine g_' ?_
   refine q_ (.slice a22 n23 c24) ?_
   refine q_ (i_ i2) ?_
   obtain ⟨g85, r86⟩ := G_some r75
   refine l_' (elp (.slice a22 n23 c24) 1 i2.toNat 0) (aIndexAddr Try.prog 38 (.slice a22 n23 c24) (i_ i2)) (hm80.idxb (by kernel_rfl) g74.1 g85) ?_
   obtain ⟨cs87, f88, hk89, hs90, hl91, hq92⟩ := hm80.kid g74.1 g85
   obtain ⟨s93, rfl, ho95⟩ := cr_sl_open hk89
   have kd96 : KdS (encI .u64) 1 H77 s93 (gt (d3.set i2.toNat (List.replicate N_.toNat (0 : Int))) i2) f81 (.slice a22 n23 c24) 1 i2.toNat 0 := ⟨ho95.sq.up hs90 hm80.lt, hq92 0 _ rfl (by decide)⟩
   obtain ⟨a97, n98, c99, rfl⟩ := kd96.sq.form
   refine l_' (.slice a97 n98 c99) (aLoad Try.prog 44 (elp (.slice a22 n23 c24) 1 i2.toNat 0) H77) (hl91 _ _ _ _ (by kernel_rfl)) ?_
   refine l_' (i_ ((gt (d3.set i2.toNat (List.replicate N_.toNat (0 : Int))) i2).length : Int)) (aLen Try.prog 44 (.slice a97 n98 c99) H77) (kd96.sq.lenb (by kernel_rfl)) ?_
   refine q_ (i_ 0) ?_
   refine s_nil (k84 _ _ ?_)
   obtain ⟨o101, hx102, r103⟩ := bind_some r86
   refine w_mid (fun α H104 => Has α [(1, pt_ b7 0), (3, .slice a22 n23 c24), (15, i_ ((List.replicate N_.toNat ([] : List (Int))).length : Int)), (16, i_ i2)] ∧ FrS f81 H77 H104 ∧ Nst (CR.sl (encI .u64) 1) H104 (.slice a22 n23 c24) o101 f81) (fun _ k108 => ?_) (fun α H104 hM => ?_)
   ·refine w_block ?_
    obtain ⟨n110, hn111⟩ := loopO_iff.1 hx102
    refine w_loopn (fun n α H112 => ∃ (d0 : List (List (Int))), ∃ (i1 : Int), iterO (fun zz_ => z_viaductref04_Distances_l0 N_ i2 d3 zz_.1 zz_.2) n (d0, i1) = some o101 ∧ Has α [(1, pt_ b7 0), (3, .slice a22 n23 c24), (4, i_ i2), (15, i_ ((List.replicate N_.toNat ([] : List (Int))).length : Int)), (16, i_ i2), (29, i_ ((gt (d3.set i2.toNat (List.replicate N_.toNat (0 : Int))) i2).length : Int)), (30, i_ i1)] ∧ FrS f81 H77 H112 ∧ Nst (CR.sl (encI .u64) 1) H112 (.slice a22 n23 c24) d0 f81) n110 ⟨(d3.set i2.toNat (List.replicate N_.toNat (0 : Int))), 0, hn111, ha_, (FrS.refl (W := f81) e79.wf), hm80⟩ ?_
    rintro n110 α H112 ⟨d0, i1, hi117, hh116, e113, m115⟩ K122 k122
    obtain ⟨n118, z119, rfl, hz120, hn121⟩ := iter_succ hi117
    obtain ⟨β, rfl⟩ := has_ex hh116
    clear hh116
    replace hz120 : z_viaductref04_Distances_l0 N_ i2 d3 d0 i1 = some z119 := hz120
    unfold z_viaductref04_Distances_l0 at hz120
    refine w_seqk fun _ k123 => ?_
    refine g_' ?_
    refine q_ (.bool (decide (i1 < ((gt (d3.set i2.toNat (List.replicate N_.toNat (0 : Int))) i2).length : Int)))) ?_
    refine s_nil (k123 _ _ ?_)
    refine w_seqk fun _ k124 => ?_
    refine w_condp (i1 < ((gt (d3.set i2.toNat (List.replicate N_.toNat (0 : Int))) i2).length : Int)) (by kernel_rfl) rfl (fun h125 => ?_) (fun h125 => ?_)
    ·have r126 := ite_t h125 hz120
     refine w_skip ?_
     refine k124 _ _ ?_
     refine w_seqk fun _ k127 => ?_
     refine w_block ?_
     refine w_seqk fun _ k128 => ?_
     refine g_' ?_
     refine q_ (i_ i1) ?_
     refine q_ (i_ i1) ?_
     refine s_nil (k128 _ _ ?_)
     refine w_seqk fun _ k129 => ?_
     refine g_' ?_
     refine q_ (i_ i2) ?_
     refine q_ (i_ i1) ?_
     refine q_ (.bool (!decide (i2 = i1))) ?_
     refine s_nil (k129 _ _ ?_)
     refine w_condn (i2 = i1) (by kernel_rfl) rfl (fun h130 => ?_) (fun h130 => ?_)
     ·have r131 := ite_f h130 r126
      refine g_' ?_
      refine q_ (.slice a22 n23 c24) ?_
      refine q_ (i_ i2) ?_
      obtain ⟨g132, r133⟩ := G_some r131
      refine l_' (elp (.slice a22 n23 c24) 1 i2.toNat 0) (aIndexAddr Try.prog 38 (.slice a22 n23 c24) (i_ i2)) (m115.idxb (by kernel_rfl) g74.1 g132) ?_
      obtain ⟨cs134, f135, hk136, hs137, hl138, hq139⟩ := m115.kid g74.1 g132
      obtain ⟨s140, rfl, ho142⟩ := cr_sl_open hk136
      have kd143 : KdS (encI .u64) 1 H112 s140 (gt d0 i2) f81 (.slice a22 n23 c24) 1 i2.toNat 0 := ⟨ho142.sq.up hs137 m115.lt, hq139 0 _ rfl (by decide)⟩
      obtain ⟨a144, n145, c146, rfl⟩ := kd143.sq.form
      refine l_' (.slice a144 n145 c146) (aLoad Try.prog 44 (elp (.slice a22 n23 c24) 1 i2.toNat 0) H112) (hl138 _ _ _ _ (by kernel_rfl)) ?_
      refine q_ (i_ i1) ?_
      obtain ⟨g148, r149⟩ := G_some r133
      refine l_' (elp (.slice a144 n145 c146) 1 i1.toNat 0) (aIndexAddr Try.prog 44 (.slice a144 n145 c146) (i_ i1)) (kd143.sq.idxb (by kernel_rfl) g148.1 g148.2) ?_
      obtain ⟨H150, q151, e152, hm153, kd154⟩ := Nst.inner cr_sl_lens (P := Try.prog) (t := 34) (o2 := 0) e113.wf m115 g74.1 g132 kd143 rfl g148.1 g148.2 (.int .u64 18446744073709551615) [.int .u64 18446744073709551615] (by kernel_rfl) (by kernel_rfl) rfl 18446744073709551615 (Nat.le_of_ble_eq_true rfl) (by kernel_rfl)
      have h1155 : i2 < ((d0.set i2.toNat ((gt d0 i2).set i1.toNat 18446744073709551615)).length : Int) := by rw [List.length_set]; exact g132
      have eq156 : ((gt d0 i2).set i1.toNat 18446744073709551615) = (gt (d0.set i2.toNat ((gt d0 i2).set i1.toNat 18446744073709551615)) i2) := (gt_set_self g74.1 g132 _).symm
      refine s_ek (undef) (by kernel_rfl) (map_ok q151) ?_
      refine s_nil (k127 _ _ ?_)
      refine g_' ?_
      obtain ⟨g157, r158⟩ := G_some r149
      refine s_w ((i1 + 1)) (k := .i64) (x := (i1 + 1)) (by kernel_rfl) (wrap64 (by have := g157; omega)) ?_
      refine q_ (i_ (i1 + 1)) ?_
      refine s_nil ?_
      obtain rfl := Option.some.inj r158
      exact k122 n118 _ _ (Nat.lt_succ_self _) ⟨(d0.set i2.toNat ((gt d0 i2).set i1.toNat 18446744073709551615)), (i1 + 1), hn121, ha_, (FrS.step e79.wf (FrS.step e79.wf (FrS.refl (W := f81) e79.wf) e113 Inn.refl') e152 Inn.refl'), hm153⟩
     have r159 := ite_t h130 r126
     refine w_skip ?_
     refine k127 _ _ ?_
     refine g_' ?_
     obtain ⟨g160, r161⟩ := G_some r159
     refine s_w ((i1 + 1)) (k := .i64) (x := (i1 + 1)) (by kernel_rfl) (wrap64 g160) ?_
     refine q_ (i_ (i1 + 1)) ?_
     refine s_nil ?_
     obtain rfl := Option.some.inj r161
     exact k122 n118 _ _ (Nat.lt_succ_self _) ⟨d0, (i1 + 1), hn121, ha_, (FrS.step e79.wf (FrS.refl (W := f81) e79.wf) e113 Inn.refl'), m115⟩
    have r162 := ite_f h125 hz120
    refine w_exit (th_exit (th_exit (bl_eq ?_)))
    obtain rfl := Option.some.inj r162
    obtain rfl := it_inr hn121
    exact k108 _ _ ⟨ha_, (FrS.step e79.wf (FrS.refl (W := f81) e79.wf) e113 Inn.refl'), m115⟩
   obtain ⟨hh109, e105, m107⟩ := hM
   obtain ⟨β, rfl⟩ := has_ex hh109
   clear hh109
   refine k58 _ _ ?_
   refine g_' ?_
   obtain ⟨g163, r164⟩ := G_some r103
   refine s_w ((i2 + 1)) (k := .i64) (x := (i2 + 1)) (by kernel_rfl) (wrap64 (by have := g163; omega)) ?_
   refine q_ (i_ (i2 + 1)) ?_
   refine s_nil ?_
   obtain rfl := Option.some.inj r164
   exact k53 n49 _ _ (Nat.lt_succ_self _) ⟨(i2 + 1), o101, f81, hn52, ha_, (FrS.step e19.wf (FrS.step e19.wf ((FrS.step e19.wf (FrS.refl (W := f17) e19.wf) e42 Inn.refl').extR e67) e79 (Inn.trans Inn.refl' (Nat.le_refl _) i46)) e105 (Inn.trans (Inn.trans Inn.refl' (Nat.le_refl _) i46) e42.next w83)), m107, (Inn.trans (Inn.trans Inn.refl' (Nat.le_refl _) i46) e42.next w83)⟩
  have r165 := ite_f h56 hz51
  refine w_exit (th_exit (th_exit (bl_eq ?_)))
  obtain rfl := Option.some.inj r165
  obtain rfl := it_inr hn52
  exact k37 _ _ ⟨f45, ha_, (FrS.step e19.wf (FrS.refl (W := f17) e19.wf) e42 Inn.refl'), m44, (Inn.trans Inn.refl' (Nat.le_refl _) i46)⟩
 obtain ⟨f35, hh38, e32, m34, i36⟩ := hM
 obtain ⟨β, rfl⟩ := has_ex hh38
 clear hh38
 refine k26 _ _ ?_
 refine w_seqk fun _ k166 => ?_
 refine w_seqk fun _ k167 => ?_
 refine g_' ?_
 refine q_ (pt_ b7 1) ?_
 have u168 := ((r11.ext e19).frS e32 (hf20.djn r11.ltF))
 refine l_' (hd_Arcs) (aLoad Try.prog 22 (pt_ b7 1) H31) (u168.ld (by kernel_rfl)) ?_
 have u169 := (((h_Arcs.ext e9).ext e19).fr e32 (hf20.djn (h_Arcs.lt.le e9.next)))
 refine l_' (i_ (Arcs.length : Int)) (aLen Try.prog 22 hd_Arcs H31) (u169.lenb (by kernel_rfl)) ?_
 refine q_ (i_ 0) ?_
 refine s_nil (k167 _ _ ?_)
 obtain ⟨o170, hx171, r172⟩ := bind_some r30
 refine w_mid (fun α H173 => Has α [(3, .slice a22 n23 c24)] ∧ FrS f35 H31 H173 ∧ Nst (CR.sl (encI .u64) 1) H173 (.slice a22 n23 c24) o170 f35) (fun _ k177 => ?_) (fun α H173 hM => ?_)
 ·refine w_block ?_
  obtain ⟨n179, hn180⟩ := loopO_iff.1 hx171
  refine w_loopn (fun n α H181 => ∃ (d4 : List (List (Int))), ∃ (i5 : Int), iterO (fun zz_ => z_viaductref04_Distances_l2 Arcs zz_.1 zz_.2) n (d4, i5) = some o170 ∧ Has α [(3, .slice a22 n23 c24), (45, hd_Arcs), (46, i_ (Arcs.length : Int)), (47, i_ i5)] ∧ FrS f35 H31 H181 ∧ Nst (CR.sl (encI .u64) 1) H181 (.slice a22 n23 c24) d4 f35) n179 ⟨o28, 0, hn180, ha_, (FrS.refl (W := f35) e32.wf), m34⟩ ?_
  rintro n179 α H181 ⟨d4, i5, hi186, hh185, e182, m184⟩ K191 k191
  obtain ⟨n187, z188, rfl, hz189, hn190⟩ := iter_succ hi186
  obtain ⟨β, rfl⟩ := has_ex hh185
  clear hh185
  replace hz189 : z_viaductref04_Distances_l2 Arcs d4 i5 = some z188 := hz189
  unfold z_viaductref04_Distances_l2 at hz189
  refine w_seqk fun _ k192 => ?_
  refine g_' ?_
  refine q_ (.bool (decide (i5 < (Arcs.length : Int)))) ?_
  refine s_nil (k192 _ _ ?_)
  refine w_seqk fun _ k193 => ?_
  refine w_condp (i5 < (Arcs.length : Int)) (by kernel_rfl) rfl (fun h194 => ?_) (fun h194 => ?_)
  ·have r195 := ite_t h194 hz189
   refine w_skip ?_
   refine k193 _ _ ?_
   refine w_seqk fun _ k196 => ?_
   refine w_block ?_
   refine w_seqk fun _ k197 => ?_
   refine g_' ?_
   obtain ⟨g198, r199⟩ := G_some r195
   have u200 := (u169.fr e182 (i36.dj (hf20.djn (h_Arcs.lt.le e9.next)) (h_Arcs.lt.le (ntr e9.next e19.next))))
   refine l_' (elp hd_Arcs 3 i5.toNat 0) (aIndexAddr Try.prog 22 hd_Arcs (i_ i5)) (u200.idxb (by kernel_rfl) g198 h194) ?_
   refine l_' (.agg #[i_ ((gt Arcs i5).1), i_ ((gt Arcs i5).2.1), i_ ((gt Arcs i5).2.2)]) (aLoad Try.prog 33 (elp hd_Arcs 3 i5.toNat 0) H181) (u200.ld g198 h194 (by kernel_rfl)) ?_
   refine s_rwk e182.wf [i_ 0, i_ 0, i_ 0] (by kernel_rfl) fun b201 H202 e203 hb204 r205 => ?_
   obtain ⟨H207, q208, e209, r210⟩ := Row.store (P := Try.prog) (t := 33) (p := 0) e203.wf r205 (.agg #[i_ ((gt Arcs i5).1), i_ ((gt Arcs i5).2.1), i_ ((gt Arcs i5).2.2)]) [i_ ((gt Arcs i5).1), i_ ((gt Arcs i5).2.1), i_ ((gt Arcs i5).2.2)] (by kernel_rfl) (by kernel_rfl) (one_cons (rfl) (one_cons (rfl) (one_cons (rfl) (one_nil)))) (Nat.le_of_ble_eq_true (by kernel_rfl)) [i_ ((gt Arcs i5).1), i_ ((gt Arcs i5).2.1), i_ ((gt Arcs i5).2.2)] (by kernel_rfl)
   refine s_ek (undef) (by kernel_rfl) (map_ok q208) ?_
   refine s_nil (k197 _ _ ?_)
   refine w_draw [0, 1, 2, 3, 4, 5, 6, 7, 8, 9, 10, 11, 12, 13, 14, 15, 16, 17, 18, 19, 20, 21] (by kernel_rfl) ?_
   refine e_' (.slice a22 n23 c24) ?_
   refine e_' (pt_ b201 0) ?_
   refine m_' (i_ ((gt Arcs i5).1)) (aLoad Try.prog 3 (pt_ b201 0) H207) (r210.ld (by kernel_rfl)) ?_
   obtain ⟨g211, r212⟩ := G_some r199
   have u213 := ((m184.ext e203).fr e209 (hb204.djn (m34.lt.le e182.next)))
   refine m_' (elp (.slice a22 n23 c24) 1 ((gt Arcs i5).1).toNat 0) (aIndexAddr Try.prog 38 (.slice a22 n23 c24) (i_ ((gt Arcs i5).1))) (u213.idxb (by kernel_rfl) g211.1 g211.2) ?_
   obtain ⟨cs214, f215, hk216, hs217, hl218, hq219⟩ := u213.kid g211.1 g211.2
   obtain ⟨s220, rfl, ho222⟩ := cr_sl_open hk216
   have kd223 : KdS (encI .u64) 1 H207 s220 (gt d4 ((gt Arcs i5).1)) f35 (.slice a22 n23 c24) 1 ((gt Arcs i5).1).toNat 0 := ⟨ho222.sq.up hs217 u213.lt, hq219 0 _ rfl (by decide)⟩
   obtain ⟨a224, n225, c226, rfl⟩ := kd223.sq.form
   refine m_' (.slice a224 n225 c226) (aLoad Try.prog 44 (elp (.slice a22 n23 c24) 1 ((gt Arcs i5).1).toNat 0) H207) (hl218 _ _ _ _ (by kernel_rfl)) ?_
   refine e_' (pt_ b201 1) ?_
   refine m_' (i_ ((gt Arcs i5).2.1)) (aLoad Try.prog 3 (pt_ b201 1) H207) (r210.ld (by kernel_rfl)) ?_
   refine e_' (.slice a22 n23 c24) ?_
   refine e_' (pt_ b201 0) ?_
   refine m_' (i_ ((gt Arcs i5).1)) (aLoad Try.prog 3 (pt_ b201 0) H207) (r210.ld (by kernel_rfl)) ?_
   refine m_' (elp (.slice a22 n23 c24) 1 ((gt Arcs i5).1).toNat 0) (aIndexAddr Try.prog 38 (.slice a22 n23 c24) (i_ ((gt Arcs i5).1))) (u213.idxb (by kernel_rfl) g211.1 g211.2) ?_
   obtain ⟨cs228, f229, hk230, hs231, hl232, hq233⟩ := u213.kid g211.1 g211.2
   obtain ⟨s234, rfl, ho236⟩ := cr_sl_open hk230
   have kd237 : KdS (encI .u64) 1 H207 s234 (gt d4 ((gt Arcs i5).1)) f35 (.slice a22 n23 c24) 1 ((gt Arcs i5).1).toNat 0 := ⟨ho236.sq.up hs231 u213.lt, hq233 0 _ rfl (by decide)⟩
   obtain ⟨a238, n239, c240, rfl⟩ := kd237.sq.form
   refine m_' (.slice a238 n239 c240) (aLoad Try.prog 44 (elp (.slice a22 n23 c24) 1 ((gt Arcs i5).1).toNat 0) H207) (hl232 _ _ _ _ (by kernel_rfl)) ?_
   refine e_' (pt_ b201 1) ?_
   refine m_' (i_ ((gt Arcs i5).2.1)) (aLoad Try.prog 3 (pt_ b201 1) H207) (r210.ld (by kernel_rfl)) ?_
   obtain ⟨g242, r243⟩ := G_some r212
   refine m_' (elp (.slice a238 n239 c240) 1 ((gt Arcs i5).2.1).toNat 0) (aIndexAddr Try.prog 44 (.slice a238 n239 c240) (i_ ((gt Arcs i5).2.1))) (kd237.sq.idxb (by kernel_rfl) g242.1 g242.2) ?_
   refine m_' (.int .u64 (gt (gt d4 ((gt Arcs i5).1)) ((gt Arcs i5).2.1))) (aLoad Try.prog 34 (elp (.slice a238 n239 c240) 1 ((gt Arcs i5).2.1).toNat 0) H207) (kd237.sq.ld g242.1 g242.2 (by kernel_rfl)) ?_
   refine e_' (pt_ b201 2) ?_
   refine m_' (i_ ((gt Arcs i5).2.2)) (aLoad Try.prog 3 (pt_ b201 2) H207) (r210.ld (by kernel_rfl)) ?_
   obtain ⟨g244, r245⟩ := G_some r243
   refine d_w ((gt Arcs i5).2.2) (k := .u64) (x := (gt Arcs i5).2.2) (by kernel_rfl) (wrapu64 g244) ?_
   refine m_' (.int .u64 (min (gt (gt d4 ((gt Arcs i5).1)) ((gt Arcs i5).2.1)) ((gt Arcs i5).2.2))) (aMin Try.prog [.int .u64 (gt (gt d4 ((gt Arcs i5).1)) ((gt Arcs i5).2.1)), .int .u64 ((gt Arcs i5).2.2)]) (aMin_two _ _) ?_
   refine m_' (elp (.slice a224 n225 c226) 1 ((gt Arcs i5).2.1).toNat 0) (aIndexAddr Try.prog 44 (.slice a224 n225 c226) (i_ ((gt Arcs i5).2.1))) (kd223.sq.idxb (by kernel_rfl) g242.1 g242.2) ?_
   obtain ⟨H246, q247, e248, hm249, kd250⟩ := Nst.inner cr_sl_lens (P := Try.prog) (t := 34) (o2 := 0) e209.wf u213 g211.1 g211.2 kd223 rfl g242.1 g242.2 (.int .u64 (min (gt (gt d4 ((gt Arcs i5).1)) ((gt Arcs i5).2.1)) ((gt Arcs i5).2.2))) [.int .u64 (min (gt (gt d4 ((gt Arcs i5).1)) ((gt Arcs i5).2.1)) ((gt Arcs i5).2.2))] (by kernel_rfl) (by kernel_rfl) rfl (min (gt (gt d4 ((gt Arcs i5).1)) ((gt Arcs i5).2.1)) ((gt Arcs i5).2.2)) (Nat.le_of_ble_eq_true rfl) (by kernel_rfl)
   have h1251 : (gt Arcs i5).1 < ((d4.set ((gt Arcs i5).1).toNat ((gt d4 ((gt Arcs i5).1)).set ((gt Arcs i5).2.1).toNat (min (gt (gt d4 ((gt Arcs i5).1)) ((gt Arcs i5).2.1)) ((gt Arcs i5).2.2)))).length : Int) := by rw [List.length_set]; exact g211.2
   have eq252 : ((gt d4 ((gt Arcs i5).1)).set ((gt Arcs i5).2.1).toNat (min (gt (gt d4 ((gt Arcs i5).1)) ((gt Arcs i5).2.1)) ((gt Arcs i5).2.2))) = (gt (d4.set ((gt Arcs i5).1).toNat ((gt d4 ((gt Arcs i5).1)).set ((gt Arcs i5).2.1).toNat (min (gt (gt d4 ((gt Arcs i5).1)) ((gt Arcs i5).2.1)) ((gt Arcs i5).2.2)))) ((gt Arcs i5).1)) := (gt_set_self g211.1 g211.2 _).symm
   refine d_ek (undef) (by kernel_rfl) (map_ok q247) (st_nil) ?_
   refine d_nil ?_
   refine k196 _ _ ?_
   refine g_' ?_
   obtain ⟨g253, r254⟩ := G_some r245
   refine s_w ((i5 + 1)) (k := .i64) (x := (i5 + 1)) (by kernel_rfl) (wrap64 (by have := g253; omega)) ?_
   refine q_ (i_ (i5 + 1)) ?_
   refine s_nil ?_
   obtain rfl := Option.some.inj r254
   exact k191 n187 _ _ (Nat.lt_succ_self _) ⟨(d4.set ((gt Arcs i5).1).toNat ((gt d4 ((gt Arcs i5).1)).set ((gt Arcs i5).2.1).toNat (min (gt (gt d4 ((gt Arcs i5).1)) ((gt Arcs i5).2.1)) ((gt Arcs i5).2.2)))), (i5 + 1), hn190, ha_, (FrS.step e32.wf (FrS.step e32.wf ((FrS.step e32.wf (FrS.refl (W := f35) e32.wf) e182 Inn.refl').extR e203) e209 (hb204.fresh e182.next)) e248 Inn.refl'), hm249⟩
  have r255 := ite_f h194 hz189
  refine w_exit (th_exit (th_exit (bl_eq ?_)))
  obtain rfl := Option.some.inj r255
  obtain rfl := it_inr hn190
  exact k177 _ _ ⟨ha_, (FrS.step e32.wf (FrS.refl (W := f35) e32.wf) e182 Inn.refl'), m184⟩
 obtain ⟨hh178, e174, m176⟩ := hM
 obtain ⟨β, rfl⟩ := has_ex hh178
 clear hh178
 refine k166 _ _ ?_
 refine w_seqk fun _ k256 => ?_
 refine w_seqk fun _ k257 => ?_
 refine g_' ?_
 refine q_ (.slice a22 n23 c24) ?_
 refine l_' (i_ (o170.length : Int)) (aLen Try.prog 38 (.slice a22 n23 c24) H173) (m176.lenb (by kernel_rfl)) ?_
 refine q_ (i_ 0) ?_
 refine s_nil (k257 _ _ ?_)
 obtain ⟨o258, hx259, r260⟩ := bind_some r172
 refine w_mid (fun α H261 => Has α [(3, .slice a22 n23 c24)] ∧ FrS f35 H173 H261 ∧ Nst (CR.sl (encI .u64) 1) H261 (.slice a22 n23 c24) o258 f35) (fun _ k265 => ?_) (fun α H261 hM => ?_)
 ·refine w_block ?_
  obtain ⟨n267, hn268⟩ := loopO_iff.1 hx259
  refine w_loopn (fun n α H269 => ∃ (d10 : List (List (Int))), ∃ (i11 : Int), iterO (fun zz_ => z_viaductref04_Distances_l5 o170 zz_.1 zz_.2) n (d10, i11) = some o258 ∧ Has α [(3, .slice a22 n23 c24), (74, i_ (o170.length : Int)), (75, i_ i11)] ∧ FrS f35 H173 H269 ∧ Nst (CR.sl (encI .u64) 1) H269 (.slice a22 n23 c24) d10 f35) n267 ⟨o170, 0, hn268, ha_, (FrS.refl (W := f35) e174.wf), m176⟩ ?_
  rintro n267 α H269 ⟨d10, i11, hi274, hh273, e270, m272⟩ K279 k279
  obtain ⟨n275, z276, rfl, hz277, hn278⟩ := iter_succ hi274
  obtain ⟨β, rfl⟩ := has_ex hh273
  clear hh273
  replace hz277 : z_viaductref04_Distances_l5 o170 d10 i11 = some z276 := hz277
  unfold z_viaductref04_Distances_l5 at hz277
  refine w_seqk fun _ k280 => ?_
  refine g_' ?_
  refine q_ (.bool (decide (i11 < (o170.length : Int)))) ?_
  refine s_nil (k280 _ _ ?_)
  refine w_seqk fun _ k281 => ?_
  refine w_condp (i11 < (o170.length : Int)) (by kernel_rfl) rfl (fun h282 => ?_) (fun h282 => ?_)
  ·have r283 := ite_t h282 hz277
   refine w_skip ?_
   refine k281 _ _ ?_
   refine w_seqk fun _ k284 => ?_
   refine w_block ?_
   refine w_seqk fun _ k285 => ?_
   refine g_' ?_
   refine q_ (i_ i11) ?_
   refine q_ (i_ i11) ?_
   refine s_nil (k285 _ _ ?_)
   refine w_seqk fun _ k286 => ?_
   refine g_' ?_
   refine q_ (.slice a22 n23 c24) ?_
   refine l_' (i_ (d10.length : Int)) (aLen Try.prog 38 (.slice a22 n23 c24) H269) (m272.lenb (by kernel_rfl)) ?_
   refine q_ (i_ 0) ?_
   refine s_nil (k286 _ _ ?_)
   obtain ⟨o287, hx288, r289⟩ := bind_some r283
   refine w_mid (fun α H290 => Has α [(3, .slice a22 n23 c24), (74, i_ (o170.length : Int)), (75, i_ i11)] ∧ FrS f35 H269 H290 ∧ Nst (CR.sl (encI .u64) 1) H290 (.slice a22 n23 c24) o287 f35) (fun _ k294 => ?_) (fun α H290 hM => ?_)
   ·refine w_block ?_
    obtain ⟨n296, hn297⟩ := loopO_iff.1 hx288
    refine w_loopn (fun n α H298 => ∃ (d8 : List (List (Int))), ∃ (i9 : Int), iterO (fun zz_ => z_viaductref04_Distances_l4 d10 i11 zz_.1 zz_.2) n (d8, i9) = some o287 ∧ Has α [(3, .slice a22 n23 c24), (8, i_ i11), (74, i_ (o170.length : Int)), (75, i_ i11), (79, i_ (d10.length : Int)), (80, i_ i9)] ∧ FrS f35 H269 H298 ∧ Nst (CR.sl (encI .u64) 1) H298 (.slice a22 n23 c24) d8 f35) n296 ⟨d10, 0, hn297, ha_, (FrS.refl (W := f35) e270.wf), m272⟩ ?_
    rintro n296 α H298 ⟨d8, i9, hi303, hh302, e299, m301⟩ K308 k308
    obtain ⟨n304, z305, rfl, hz306, hn307⟩ := iter_succ hi303
    obtain ⟨β, rfl⟩ := has_ex hh302
    clear hh302
    replace hz306 : z_viaductref04_Distances_l4 d10 i11 d8 i9 = some z305 := hz306
    unfold z_viaductref04_Distances_l4 at hz306
    refine w_seqk fun _ k309 => ?_
    refine g_' ?_
    refine q_ (.bool (decide (i9 < (d10.length : Int)))) ?_
    refine s_nil (k309 _ _ ?_)
    refine w_seqk fun _ k310 => ?_
    refine w_condp (i9 < (d10.length : Int)) (by kernel_rfl) rfl (fun h311 => ?_) (fun h311 => ?_)
    ·have r312 := ite_t h311 hz306
     refine w_skip ?_
     refine k310 _ _ ?_
     refine w_seqk fun _ k313 => ?_
     refine w_block ?_
     refine w_seqk fun _ k314 => ?_
     refine g_' ?_
     refine q_ (i_ i9) ?_
     refine q_ (i_ i9) ?_
     refine s_nil (k314 _ _ ?_)
     refine w_seqk fun _ k315 => ?_
     refine g_' ?_
     refine q_ (.slice a22 n23 c24) ?_
     refine l_' (i_ (d8.length : Int)) (aLen Try.prog 38 (.slice a22 n23 c24) H298) (m301.lenb (by kernel_rfl)) ?_
     refine q_ (i_ 0) ?_
     refine s_nil (k315 _ _ ?_)
     obtain ⟨o316, hx317, r318⟩ := bind_some r312
     refine w_mid (fun α H319 => Has α [(3, .slice a22 n23 c24), (8, i_ i11), (74, i_ (o170.length : Int)), (75, i_ i11), (79, i_ (d10.length : Int)), (80, i_ i9)] ∧ FrS f35 H298 H319 ∧ Nst (CR.sl (encI .u64) 1) H319 (.slice a22 n23 c24) o316 f35) (fun _ k323 => ?_) (fun α H319 hM => ?_)
     ·refine w_block ?_
      obtain ⟨n325, hn326⟩ := loopO_iff.1 hx317
      refine w_loopn (fun n α H327 => ∃ (d6 : List (List (Int))), ∃ (i7 : Int), iterO (fun zz_ => z_viaductref04_Distances_l3 i11 d8 i9 zz_.1 zz_.2) n (d6, i7) = some o316 ∧ Has α [(3, .slice a22 n23 c24), (8, i_ i11), (9, i_ i9), (74, i_ (o170.length : Int)), (75, i_ i11), (79, i_ (d10.length : Int)), (80, i_ i9), (84, i_ (d8.length : Int)), (85, i_ i7)] ∧ FrS f35 H298 H327 ∧ Nst (CR.sl (encI .u64) 1) H327 (.slice a22 n23 c24) d6 f35) n325 ⟨d8, 0, hn326, ha_, (FrS.refl (W := f35) e299.wf), m301⟩ ?_
      rintro n325 α H327 ⟨d6, i7, hi332, hh331, e328, m330⟩ K337 k337
      obtain ⟨n333, z334, rfl, hz335, hn336⟩ := iter_succ hi332
      obtain ⟨β, rfl⟩ := has_ex hh331
      clear hh331
      replace hz335 : z_viaductref04_Distances_l3 i11 d8 i9 d6 i7 = some z334 := hz335
      unfold z_viaductref04_Distances_l3 at hz335
      refine w_seqk fun _ k338 => ?_
      refine g_' ?_
      refine q_ (.bool (decide (i7 < (d8.length : Int)))) ?_
      refine s_nil (k338 _ _ ?_)
      refine w_seqk fun _ k339 => ?_
      refine w_condp (i7 < (d8.length : Int)) (by kernel_rfl) rfl (fun h340 => ?_) (fun h340 => ?_)
      ·have r341 := ite_t h340 hz335
       refine w_skip ?_
       refine k339 _ _ ?_
       refine w_seqk fun _ k342 => ?_
       refine w_block ?_
       refine w_seqk fun _ k343 => ?_
       refine g_' ?_
       refine q_ (i_ i7) ?_
       refine q_ (i_ i7) ?_
       refine s_nil (k343 _ _ ?_)
       refine w_seqk fun _ k344 => ?_
       obtain ⟨o345, hx346, r347⟩ := bind_some r341
       refine w_mid (fun α H348 => Has α [(3, .slice a22 n23 c24), (8, i_ i11), (9, i_ i9), (10, i_ i7), (74, i_ (o170.length : Int)), (75, i_ i11), (79, i_ (d10.length : Int)), (80, i_ i9), (84, i_ (d8.length : Int)), (85, i_ i7), (105, .bool o345)] ∧ H327 = H348) (fun _ k350 => ?_) (fun α H348 hM => ?_)
       ·refine g_' ?_
        refine q_ (.slice a22 n23 c24) ?_
        refine q_ (i_ i9) ?_
        obtain ⟨g352, r353⟩ := G_some hx346
        refine l_' (elp (.slice a22 n23 c24) 1 i9.toNat 0) (aIndexAddr Try.prog 38 (.slice a22 n23 c24) (i_ i9)) (m330.idxb (by kernel_rfl) g352.1 g352.2) ?_
        obtain ⟨cs354, f355, hk356, hs357, hl358, hq359⟩ := m330.kid g352.1 g352.2
        obtain ⟨s360, rfl, ho362⟩ := cr_sl_open hk356
        have kd363 : KdS (encI .u64) 1 H327 s360 (gt d6 i9) f35 (.slice a22 n23 c24) 1 i9.toNat 0 := ⟨ho362.sq.up hs357 m330.lt, hq359 0 _ rfl (by decide)⟩
        obtain ⟨a364, n365, c366, rfl⟩ := kd363.sq.form
        refine l_' (.slice a364 n365 c366) (aLoad Try.prog 44 (elp (.slice a22 n23 c24) 1 i9.toNat 0) H327) (hl358 _ _ _ _ (by kernel_rfl)) ?_
        refine q_ (i_ i11) ?_
        obtain ⟨g368, r369⟩ := G_some r353
        refine l_' (elp (.slice a364 n365 c366) 1 i11.toNat 0) (aIndexAddr Try.prog 44 (.slice a364 n365 c366) (i_ i11)) (kd363.sq.idxb (by kernel_rfl) g368.1 g368.2) ?_
        refine l_' (.int .u64 (gt (gt d6 i9) i11)) (aLoad Try.prog 34 (elp (.slice a364 n365 c366) 1 i11.toNat 0) H327) (kd363.sq.ld g368.1 g368.2 (by kernel_rfl)) ?_
        refine s_bn ((gt (gt d6 i9) i11) = 18446744073709551615) (by kernel_rfl) (fun h370 => ?_) (fun h370 => ?_)
        ·have r371 := ite_t h370 r369
         refine q_ (.bool false) ?_
         refine n_' ?_
         refine n_' ?_
         refine n_' ?_
         refine n_' ?_
         refine n_' ?_
         refine n_' ?_
         refine n_' ?_
         refine n_' ?_
         refine q_ (.bool false) ?_
         refine s_nil ?_
         obtain rfl := Option.some.inj r371
         exact k350 _ _ ⟨ha_, rfl⟩
        have r372 := ite_f h370 r369
        refine q_ (.bool true) ?_
        refine q_ (.slice a22 n23 c24) ?_
        refine q_ (i_ i11) ?_
        obtain ⟨g373, r374⟩ := G_some r372
        refine l_' (elp (.slice a22 n23 c24) 1 i11.toNat 0) (aIndexAddr Try.prog 38 (.slice a22 n23 c24) (i_ i11)) (m330.idxb (by kernel_rfl) g368.1 g373) ?_
        obtain ⟨cs375, f376, hk377, hs378, hl379, hq380⟩ := m330.kid g368.1 g373
        obtain ⟨s381, rfl, ho383⟩ := cr_sl_open hk377
        have kd384 : KdS (encI .u64) 1 H327 s381 (gt d6 i11) f35 (.slice a22 n23 c24) 1 i11.toNat 0 := ⟨ho383.sq.up hs378 m330.lt, hq380 0 _ rfl (by decide)⟩
        obtain ⟨a385, n386, c387, rfl⟩ := kd384.sq.form
        refine l_' (.slice a385 n386 c387) (aLoad Try.prog 44 (elp (.slice a22 n23 c24) 1 i11.toNat 0) H327) (hl379 _ _ _ _ (by kernel_rfl)) ?_
        refine q_ (i_ i7) ?_
        obtain ⟨g389, r390⟩ := G_some r374
        refine l_' (elp (.slice a385 n386 c387) 1 i7.toNat 0) (aIndexAddr Try.prog 44 (.slice a385 n386 c387) (i_ i7)) (kd384.sq.idxb (by kernel_rfl) g389.1 g389.2) ?_
        refine l_' (.int .u64 (gt (gt d6 i11) i7)) (aLoad Try.prog 34 (elp (.slice a385 n386 c387) 1 i7.toNat 0) H327) (kd384.sq.ld g389.1 g389.2 (by kernel_rfl)) ?_
        refine q_ (.bool (!decide ((gt (gt d6 i11) i7) = 18446744073709551615))) ?_
        refine q_ (.bool (!decide ((gt (gt d6 i11) i7) = 18446744073709551615))) ?_
        refine s_nil ?_
        obtain rfl := Option.some.inj r390
        exact k350 _ _ ⟨ha_, rfl⟩
       obtain ⟨hh351, rfl⟩ := hM
       obtain ⟨β, rfl⟩ := has_ex hh351
       clear hh351
       refine k344 _ _ ?_
       refine w_cond (o345) (by kernel_rfl) rfl (fun h391 => ?_) (fun h391 => ?_)
       ·have r392 := ite_t h391 r347
        refine w_draw [0, 1, 2, 3, 4, 5, 6, 7, 8, 9, 10, 11, 12, 13, 14, 15, 16, 17, 18, 19, 20, 21, 22, 23, 24, 25, 26, 27, 28, 29] (by kernel_rfl) ?_
        refine e_' (.slice a22 n23 c24) ?_
        refine e_' (i_ i9) ?_
        obtain ⟨g393, r394⟩ := G_some r392
        refine m_' (elp (.slice a22 n23 c24) 1 i9.toNat 0) (aIndexAddr Try.prog 38 (.slice a22 n23 c24) (i_ i9)) (m330.idxb (by kernel_rfl) g393.1 g393.2) ?_
        obtain ⟨cs395, f396, hk397, hs398, hl399, hq400⟩ := m330.kid g393.1 g393.2
        obtain ⟨s401, rfl, ho403⟩ := cr_sl_open hk397
        have kd404 : KdS (encI .u64) 1 H327 s401 (gt d6 i9) f35 (.slice a22 n23 c24) 1 i9.toNat 0 := ⟨ho403.sq.up hs398 m330.lt, hq400 0 _ rfl (by decide)⟩
        obtain ⟨a405, n406, c407, rfl⟩ := kd404.sq.form
        refine m_' (.slice a405 n406 c407) (aLoad Try.prog 44 (elp (.slice a22 n23 c24) 1 i9.toNat 0) H327) (hl399 _ _ _ _ (by kernel_rfl)) ?_
        refine e_' (i_ i7) ?_
        refine e_' (.slice a22 n23 c24) ?_
        refine e_' (i_ i9) ?_
        refine m_' (elp (.slice a22 n23 c24) 1 i9.toNat 0) (aIndexAddr Try.prog 38 (.slice a22 n23 c24) (i_ i9)) (m330.idxb (by kernel_rfl) g393.1 g393.2) ?_
        obtain ⟨cs409, f410, hk411, hs412, hl413, hq414⟩ := m330.kid g393.1 g393.2
        obtain ⟨s415, rfl, ho417⟩ := cr_sl_open hk411
        have kd418 : KdS (encI .u64) 1 H327 s415 (gt d6 i9) f35 (.slice a22 n23 c24) 1 i9.toNat 0 := ⟨ho417.sq.up hs412 m330.lt, hq414 0 _ rfl (by decide)⟩
        obtain ⟨a419, n420, c421, rfl⟩ := kd418.sq.form
        refine m_' (.slice a419 n420 c421) (aLoad Try.prog 44 (elp (.slice a22 n23 c24) 1 i9.toNat 0) H327) (hl413 _ _ _ _ (by kernel_rfl)) ?_
        refine e_' (i_ i7) ?_
        obtain ⟨g423, r424⟩ := G_some r394
        refine m_' (elp (.slice a419 n420 c421) 1 i7.toNat 0) (aIndexAddr Try.prog 44 (.slice a419 n420 c421) (i_ i7)) (kd418.sq.idxb (by kernel_rfl) g423.1 g423.2) ?_
        refine m_' (.int .u64 (gt (gt d6 i9) i7)) (aLoad Try.prog 34 (elp (.slice a419 n420 c421) 1 i7.toNat 0) H327) (kd418.sq.ld g423.1 g423.2 (by kernel_rfl)) ?_
        refine e_' (.slice a22 n23 c24) ?_
        refine e_' (i_ i9) ?_
        refine m_' (elp (.slice a22 n23 c24) 1 i9.toNat 0) (aIndexAddr Try.prog 38 (.slice a22 n23 c24) (i_ i9)) (m330.idxb (by kernel_rfl) g393.1 g393.2) ?_
        obtain ⟨cs425, f426, hk427, hs428, hl429, hq430⟩ := m330.kid g393.1 g393.2
        obtain ⟨s431, rfl, ho433⟩ := cr_sl_open hk427
        have kd434 : KdS (encI .u64) 1 H327 s431 (gt d6 i9) f35 (.slice a22 n23 c24) 1 i9.toNat 0 := ⟨ho433.sq.up hs428 m330.lt, hq430 0 _ rfl (by decide)⟩
        obtain ⟨a435, n436, c437, rfl⟩ := kd434.sq.form
        refine m_' (.slice a435 n436 c437) (aLoad Try.prog 44 (elp (.slice a22 n23 c24) 1 i9.toNat 0) H327) (hl429 _ _ _ _ (by kernel_rfl)) ?_
        refine e_' (i_ i11) ?_
        obtain ⟨g439, r440⟩ := G_some r424
        refine m_' (elp (.slice a435 n436 c437) 1 i11.toNat 0) (aIndexAddr Try.prog 44 (.slice a435 n436 c437) (i_ i11)) (kd434.sq.idxb (by kernel_rfl) g439.1 g439.2) ?_
        refine m_' (.int .u64 (gt (gt d6 i9) i11)) (aLoad Try.prog 34 (elp (.slice a435 n436 c437) 1 i11.toNat 0) H327) (kd434.sq.ld g439.1 g439.2 (by kernel_rfl)) ?_
        refine e_' (.slice a22 n23 c24) ?_
        refine e_' (i_ i11) ?_
        obtain ⟨g441, r442⟩ := G_some r440
        refine m_' (elp (.slice a22 n23 c24) 1 i11.toNat 0) (aIndexAddr Try.prog 38 (.slice a22 n23 c24) (i_ i11)) (m330.idxb (by kernel_rfl) g439.1 g441) ?_
        obtain ⟨cs443, f444, hk445, hs446, hl447, hq448⟩ := m330.kid g439.1 g441
        obtain ⟨s449, rfl, ho451⟩ := cr_sl_open hk445
        have kd452 : KdS (encI .u64) 1 H327 s449 (gt d6 i11) f35 (.slice a22 n23 c24) 1 i11.toNat 0 := ⟨ho451.sq.up hs446 m330.lt, hq448 0 _ rfl (by decide)⟩
        obtain ⟨a453, n454, c455, rfl⟩ := kd452.sq.form
        refine m_' (.slice a453 n454 c455) (aLoad Try.prog 44 (elp (.slice a22 n23 c24) 1 i11.toNat 0) H327) (hl447 _ _ _ _ (by kernel_rfl)) ?_
        refine e_' (i_ i7) ?_
        obtain ⟨g457, r458⟩ := G_some r442
        refine m_' (elp (.slice a453 n454 c455) 1 i7.toNat 0) (aIndexAddr Try.prog 44 (.slice a453 n454 c455) (i_ i7)) (kd452.sq.idxb (by kernel_rfl) g423.1 g457) ?_
        refine m_' (.int .u64 (gt (gt d6 i11) i7)) (aLoad Try.prog 34 (elp (.slice a453 n454 c455) 1 i7.toNat 0) H327) (kd452.sq.ld g423.1 g457 (by kernel_rfl)) ?_
        obtain ⟨g459, r460⟩ := G_some r458
        refine d_w (((gt (gt d6 i9) i11) + (gt (gt d6 i11) i7))) (k := .u64) (x := ((gt (gt d6 i9) i11) + (gt (gt d6 i11) i7))) (by kernel_rfl) (wrapu64 g459) ?_
        refine m_' (.int .u64 (min (gt (gt d6 i9) i7) ((gt (gt d6 i9) i11) + (gt (gt d6 i11) i7)))) (aMin Try.prog [.int .u64 (gt (gt d6 i9) i7), .int .u64 ((gt (gt d6 i9) i11) + (gt (gt d6 i11) i7))]) (aMin_two _ _) ?_
        refine m_' (elp (.slice a405 n406 c407) 1 i7.toNat 0) (aIndexAddr Try.prog 44 (.slice a405 n406 c407) (i_ i7)) (kd404.sq.idxb (by kernel_rfl) g423.1 g423.2) ?_
        obtain ⟨H461, q462, e463, hm464, kd465⟩ := Nst.inner cr_sl_lens (P := Try.prog) (t := 34) (o2 := 0) e328.wf m330 g393.1 g393.2 kd404 rfl g423.1 g423.2 (.int .u64 (min (gt (gt d6 i9) i7) ((gt (gt d6 i9) i11) + (gt (gt d6 i11) i7)))) [.int .u64 (min (gt (gt d6 i9) i7) ((gt (gt d6 i9) i11) + (gt (gt d6 i11) i7)))] (by kernel_rfl) (by kernel_rfl) rfl (min (gt (gt d6 i9) i7) ((gt (gt d6 i9) i11) + (gt (gt d6 i11) i7))) (Nat.le_of_ble_eq_true rfl) (by kernel_rfl)
        have h1466 : i9 < ((d6.set i9.toNat ((gt d6 i9).set i7.toNat (min (gt (gt d6 i9) i7) ((gt (gt d6 i9) i11) + (gt (gt d6 i11) i7))))).length : Int) := by rw [List.length_set]; exact g393.2
        have eq467 : ((gt d6 i9).set i7.toNat (min (gt (gt d6 i9) i7) ((gt (gt d6 i9) i11) + (gt (gt d6 i11) i7)))) = (gt (d6.set i9.toNat ((gt d6 i9).set i7.toNat (min (gt (gt d6 i9) i7) ((gt (gt d6 i9) i11) + (gt (gt d6 i11) i7))))) i9) := (gt_set_self g393.1 g393.2 _).symm
        refine d_ek (undef) (by kernel_rfl) (map_ok q462) (st_nil) ?_
        refine d_nil ?_
        refine k342 _ _ ?_
        refine g_' ?_
        obtain ⟨g468, r469⟩ := G_some r460
        refine s_w ((i7 + 1)) (k := .i64) (x := (i7 + 1)) (by kernel_rfl) (wrap64 (by have := g468; omega)) ?_
        refine q_ (i_ (i7 + 1)) ?_
        refine s_nil ?_
        obtain rfl := Option.some.inj r469
        exact k337 n333 _ _ (Nat.lt_succ_self _) ⟨(d6.set i9.toNat ((gt d6 i9).set i7.toNat (min (gt (gt d6 i9) i7) ((gt (gt d6 i9) i11) + (gt (gt d6 i11) i7))))), (i7 + 1), hn336, ha_, (FrS.step e299.wf (FrS.step e299.wf (FrS.refl (W := f35) e299.wf) e328 Inn.refl') e463 Inn.refl'), hm464⟩
       have r470 := ite_bf h391 r347
       refine w_skip ?_
       refine k342 _ _ ?_
       refine g_' ?_
       obtain ⟨g471, r472⟩ := G_some r470
       refine s_w ((i7 + 1)) (k := .i64) (x := (i7 + 1)) (by kernel_rfl) (wrap64 g471) ?_
       refine q_ (i_ (i7 + 1)) ?_
       refine s_nil ?_
       obtain rfl := Option.some.inj r472
       exact k337 n333 _ _ (Nat.lt_succ_self _) ⟨d6, (i7 + 1), hn336, ha_, (FrS.step e299.wf (FrS.refl (W := f35) e299.wf) e328 Inn.refl'), m330⟩
      have r473 := ite_f h340 hz335
      refine w_exit (th_exit (th_exit (bl_eq ?_)))
      obtain rfl := Option.some.inj r473
      obtain rfl := it_inr hn336
      exact k323 _ _ ⟨ha_, (FrS.step e299.wf (FrS.refl (W := f35) e299.wf) e328 Inn.refl'), m330⟩
     obtain ⟨hh324, e320, m322⟩ := hM
     obtain ⟨β, rfl⟩ := has_ex hh324
     clear hh324
     refine k313 _ _ ?_
     refine g_' ?_
     obtain ⟨g474, r475⟩ := G_some r318
     refine s_w ((i9 + 1)) (k := .i64) (x := (i9 + 1)) (by kernel_rfl) (wrap64 g474) ?_
     refine q_ (i_ (i9 + 1)) ?_
     refine s_nil ?_
     obtain rfl := Option.some.inj r475
     exact k308 n304 _ _ (Nat.lt_succ_self _) ⟨o316, (i9 + 1), hn307, ha_, (FrS.step e270.wf (FrS.step e270.wf (FrS.refl (W := f35) e270.wf) e299 Inn.refl') e320 Inn.refl'), m322⟩
    have r476 := ite_f h311 hz306
    refine w_exit (th_exit (th_exit (bl_eq ?_)))
    obtain rfl := Option.some.inj r476
    obtain rfl := it_inr hn307
    exact k294 _ _ ⟨ha_, (FrS.step e270.wf (FrS.refl (W := f35) e270.wf) e299 Inn.refl'), m301⟩
   obtain ⟨hh295, e291, m293⟩ := hM
   obtain ⟨β, rfl⟩ := has_ex hh295
   clear hh295
   refine k284 _ _ ?_
   refine g_' ?_
   obtain ⟨g477, r478⟩ := G_some r289
   refine s_w ((i11 + 1)) (k := .i64) (x := (i11 + 1)) (by kernel_rfl) (wrap64 g477) ?_
   refine q_ (i_ (i11 + 1)) ?_
   refine s_nil ?_
   obtain rfl := Option.some.inj r478
   exact k279 n275 _ _ (Nat.lt_succ_self _) ⟨o287, (i11 + 1), hn278, ha_, (FrS.step e174.wf (FrS.step e174.wf (FrS.refl (W := f35) e174.wf) e270 Inn.refl') e291 Inn.refl'), m293⟩
  have r479 := ite_f h282 hz277
  refine w_exit (th_exit (th_exit (bl_eq ?_)))
  obtain rfl := Option.some.inj r479
  obtain rfl := it_inr hn278
  exact k265 _ _ ⟨ha_, (FrS.step e174.wf (FrS.refl (W := f35) e174.wf) e270 Inn.refl'), m272⟩
 obtain ⟨hh266, e262, m264⟩ := hM
 obtain ⟨β, rfl⟩ := has_ex hh266
 clear hh266
 refine k256 _ _ ?_
 refine w_seqk fun _ k480 => ?_
 refine g_' ?_
 refine q_ (.slice a22 n23 c24) ?_
 refine q_ (.slice a22 n23 c24) ?_
 refine s_nil (k480 _ _ ?_)
 refine w_ret ?_
 refine b_ret (fn := Try.f13) (vs := [.slice a22 n23 c24]) (aRes_tmp (by kernel_rfl) (rfl)) ?_
 obtain rfl := Option.some.inj r260
 exact ⟨(.slice a22 n23 c24), f35, rfl, (FrS.step wf (FrS.step wf (FrS.step wf (((FrS.refl (W := []) wf).extR e9).extR e19) e32 (hf20.fresh e9.next)) e174 (Inn.trans (hf20.fresh e9.next) (ntr e9.next e19.next) i36)) e262 (Inn.trans (hf20.fresh e9.next) (ntr e9.next e19.next) i36)), m264, (Inn.trans (hf20.fresh e9.next) (ntr e9.next e19.next) i36)⟩

theorem c_viaductref04_SameRow {H : AH} {hd_a : Value} {fp_a : Fp} {hd_b : Value} {fp_b : Fp} {a : List (Int)} {b : List (Int)} {r : Bool}
    (wf : WF H) (h_a : Sq (encI .u64) 1 H hd_a a fp_a) (h_b : Sq (encI .u64) 1 H hd_b b fp_b) (hr : z_viaductref04_SameRow a b = some r) :
    ACalls Try.prog 52 #[hd_a, hd_b] H fun v H' => v = .bool r ∧ H = H' := by
 refine acalls_of_body mixed Try.func52 rfl (Nat.le_of_ble_eq_true rfl) ?_
 unfold z_viaductref04_SameRow at hr
 refine w_seqk fun _ k1 => ?_
 refine g_' ?_
 refine q_ (.bool false) ?_
 refine s_nil (k1 _ _ ?_)
 refine w_seqk fun _ k2 => ?_
 refine w_seqk fun _ k3 => ?_
 refine g_' ?_
 refine q_ (hd_a) ?_
 refine l_' (i_ (a.length : Int)) (aLen Try.prog 44 hd_a H) (h_a.lenb (by kernel_rfl)) ?_
 refine q_ (hd_b) ?_
 refine l_' (i_ (b.length : Int)) (aLen Try.prog 44 hd_b H) (h_b.lenb (by kernel_rfl)) ?_
 refine q_ (.bool (!decide ((a.length : Int) = (b.length : Int)))) ?_
 refine s_nil (k3 _ _ ?_)
 refine w_condn ((a.length : Int) = (b.length : Int)) (by kernel_rfl) rfl (fun h4 => ?_) (fun h4 => ?_)
 ·have r5 := ite_f h4 hr
  refine w_seqk fun _ k6 => ?_
  refine g_' ?_
  refine q_ (.bool false) ?_
  refine s_nil (k6 _ _ ?_)
  refine w_ret (th_ret ?_)
  refine b_ret (fn := Try.f52) (vs := [.bool false]) (aRes_tmp (by kernel_rfl) (rfl)) ?_
  obtain rfl := Option.some.inj r5
  exact ⟨rfl, rfl⟩
 have r7 := ite_t h4 hr
 refine w_skip ?_
 refine k2 _ _ ?_
 refine w_seqk fun _ k8 => ?_
 refine w_seqk fun _ k9 => ?_
 refine g_' ?_
 refine q_ (hd_a) ?_
 refine l_' (i_ (a.length : Int)) (aLen Try.prog 44 hd_a H) (h_a.lenb (by kernel_rfl)) ?_
 refine q_ (i_ 0) ?_
 refine s_nil (k9 _ _ ?_)
 obtain ⟨z13, hx11, r12⟩ := bind_some r7
 refine w_mid (fun α H14 => ∃ o10, z13 = Sum.inr o10 ∧ Has α [] ∧ H = H14) (fun _ k16 => ?_) (fun α H14 hM => ?_)
 ·refine w_block ?_
  obtain ⟨n18, hn19⟩ := loopO_iff.1 hx11
  refine w_loopn (fun n α H20 => ∃ (i0 : Int), iterO (fun zz_ => z_viaductref04_SameRow_l0 a b zz_) n i0 = some z13 ∧ Has α [(0, hd_a), (1, hd_b), (12, i_ (a.length : Int)), (13, i_ i0)] ∧ H = H20) n18 ⟨0, hn19, ha_, rfl⟩ ?_
  rintro n18 α H20 ⟨i0, hi23, hh22, rfl⟩ K28 k28
  obtain ⟨n24, z25, rfl, hz26, hn27⟩ := iter_succ hi23
  obtain ⟨β, rfl⟩ := has_ex hh22
  clear hh22
  replace hz26 : z_viaductref04_SameRow_l0 a b i0 = some z25 := hz26
  unfold z_viaductref04_SameRow_l0 at hz26
  refine w_seqk fun _ k29 => ?_
  refine g_' ?_
  refine q_ (.bool (decide (i0 < (a.length : Int)))) ?_
  refine s_nil (k29 _ _ ?_)
  refine w_seqk fun _ k30 => ?_
  refine w_condp (i0 < (a.length : Int)) (by kernel_rfl) rfl (fun h31 => ?_) (fun h31 => ?_)
  ·have r32 := ite_t h31 hz26
   refine w_skip ?_
   refine k30 _ _ ?_
   refine w_seqk fun _ k33 => ?_
   refine w_block ?_
   refine w_seqk fun _ k34 => ?_
   refine g_' ?_
   refine q_ (i_ i0) ?_
   refine q_ (i_ i0) ?_
   refine s_nil (k34 _ _ ?_)
   refine w_seqk fun _ k35 => ?_
   refine w_draw [0, 1, 2, 3, 4, 5, 6, 7, 8] (by kernel_rfl) ?_
   refine e_' (hd_a) ?_
   refine e_' (i_ i0) ?_
   obtain ⟨g36, r37⟩ := G_some r32
   refine m_' (elp hd_a 1 i0.toNat 0) (aIndexAddr Try.prog 44 hd_a (i_ i0)) (h_a.idxb (by kernel_rfl) g36 h31) ?_
   refine m_' (.int .u64 (gt a i0)) (aLoad Try.prog 34 (elp hd_a 1 i0.toNat 0) H) (h_a.ld g36 h31 (by kernel_rfl)) ?_
   refine e_' (hd_b) ?_
   refine e_' (i_ i0) ?_
   obtain ⟨g38, r39⟩ := G_some r37
   refine m_' (elp hd_b 1 i0.toNat 0) (aIndexAddr Try.prog 44 hd_b (i_ i0)) (h_b.idxb (by kernel_rfl) g36 g38) ?_
   refine m_' (.int .u64 (gt b i0)) (aLoad Try.prog 34 (elp hd_b 1 i0.toNat 0) H) (h_b.ld g36 g38 (by kernel_rfl)) ?_
   refine e_' (.bool (!decide ((gt a i0) = (gt b i0)))) ?_
   refine d_nil ?_
   refine k35 _ _ ?_
   refine w_condn ((gt a i0) = (gt b i0)) (by kernel_rfl) rfl (fun h40 => ?_) (fun h40 => ?_)
   ·have r41 := ite_f h40 r39
    refine w_seqk fun _ k42 => ?_
    refine g_' ?_
    refine q_ (.bool false) ?_
    refine s_nil (k42 _ _ ?_)
    refine w_ret (bl_ret (th_ret (th_ret (bl_ret (th_ret (th_ret ?_))))))
    obtain ⟨v43, hv44, hz45⟩ := map_some r41
    subst hz45
    obtain rfl := it_inr hn27
    have hq46 := elim_inl r12
    rw [hq46] at hv44
    refine b_ret (fn := Try.f52) (vs := [.bool false]) (aRes_tmp (by kernel_rfl) (rfl)) ?_
    obtain rfl := Option.some.inj hv44
    exact ⟨rfl, rfl⟩
   have r47 := ite_t h40 r39
   refine w_skip ?_
   refine k33 _ _ ?_
   refine g_' ?_
   obtain ⟨g48, r49⟩ := G_some r47
   refine s_w ((i0 + 1)) (k := .i64) (x := (i0 + 1)) (by kernel_rfl) (wrap64 (by have := g48; omega)) ?_
   refine q_ (i_ (i0 + 1)) ?_
   refine s_nil ?_
   obtain rfl := Option.some.inj r49
   exact k28 n24 _ _ (Nat.lt_succ_self _) ⟨(i0 + 1), hn27, ha_, rfl⟩
  have r50 := ite_f h31 hz26
  refine w_exit (th_exit (th_exit (bl_eq ?_)))
  obtain rfl := Option.some.inj r50
  obtain rfl := it_inr hn27
  exact k16 _ _ ⟨_, rfl, trivial, rfl⟩
 obtain ⟨o10, rfl, hh17, rfl⟩ := hM
 have r51 := elim_inr r12
 obtain ⟨β, rfl⟩ := has_ex hh17
 clear hh17
 refine k8 _ _ ?_
 refine w_seqk fun _ k52 => ?_
 refine g_' ?_
 refine q_ (.bool true) ?_
 refine s_nil (k52 _ _ ?_)
 refine w_ret ?_
 refine b_ret (fn := Try.f52) (vs := [.bool true]) (aRes_tmp (by kernel_rfl) (rfl)) ?_
 obtain rfl := Option.some.inj r51
 exact ⟨rfl, rfl⟩

theorem c_viaductref04_SameMatrix {H : AH} {hd_a : Value} {fp_a : Fp} {hd_b : Value} {fp_b : Fp} {a : List (List (Int))} {b : List (List (Int))} {r : Bool}
    (wf : WF H) (h_a : Nst (CR.sl (encI .u64) 1) H hd_a a fp_a) (h_b : Nst (CR.sl (encI .u64) 1) H hd_b b fp_b) (hr : z_viaductref04_SameMatrix a b = some r) :
    ACalls Try.prog 12 #[hd_a, hd_b] H fun v H' => v = .bool r ∧ H = H' := by
 refine acalls_of_body mixed Try.func12 rfl (Nat.le_of_ble_eq_true rfl) ?_
 unfold z_viaductref04_SameMatrix at hr
 refine w_seqk fun _ k1 => ?_
 refine g_' ?_
 refine q_ (.bool false) ?_
 refine s_nil (k1 _ _ ?_)
 refine w_seqk fun _ k2 => ?_
 refine w_seqk fun _ k3 => ?_
 refine g_' ?_
 refine q_ (hd_a) ?_
 refine l_' (i_ (a.length : Int)) (aLen Try.prog 38 hd_a H) (h_a.lenb (by kernel_rfl)) ?_
 refine q_ (hd_b) ?_
 refine l_' (i_ (b.length : Int)) (aLen Try.prog 38 hd_b H) (h_b.lenb (by kernel_rfl)) ?_
 refine q_ (.bool (!decide ((a.length : Int) = (b.length : Int)))) ?_
 refine s_nil (k3 _ _ ?_)
 refine w_condn ((a.length : Int) = (b.length : Int)) (by kernel_rfl) rfl (fun h4 => ?_) (fun h4 => ?_)
 ·have r5 := ite_f h4 hr
  refine w_seqk fun _ k6 => ?_
  refine g_' ?_
  refine q_ (.bool false) ?_
  refine s_nil (k6 _ _ ?_)
  refine w_ret (th_ret ?_)
  refine b_ret (fn := Try.f12) (vs := [.bool false]) (aRes_tmp (by kernel_rfl) (rfl)) ?_
  obtain rfl := Option.some.inj r5
  exact ⟨rfl, rfl⟩
 have r7 := ite_t h4 hr
 refine w_skip ?_
 refine k2 _ _ ?_
 refine w_seqk fun _ k8 => ?_
 refine w_seqk fun _ k9 => ?_
 refine g_' ?_
 refine q_ (hd_a) ?_
 refine l_' (i_ (a.length : Int)) (aLen Try.prog 38 hd_a H) (h_a.lenb (by kernel_rfl)) ?_
 refine q_ (i_ 0) ?_
 refine s_nil (k9 _ _ ?_)
 obtain ⟨z13, hx11, r12⟩ := bind_some r7
 refine w_mid (fun α H14 => ∃ o10, z13 = Sum.inr o10 ∧ Has α [] ∧ H = H14) (fun _ k16 => ?_) (fun α H14 hM => ?_)
 ·refine w_block ?_
  obtain ⟨n18, hn19⟩ := loopO_iff.1 hx11
  refine w_loopn (fun n α H20 => ∃ (i0 : Int), iterO (fun zz_ => z_viaductref04_SameMatrix_l0 a b zz_) n i0 = some z13 ∧ Has α [(0, hd_a), (1, hd_b), (12, i_ (a.length : Int)), (13, i_ i0)] ∧ H = H20) n18 ⟨0, hn19, ha_, rfl⟩ ?_
  rintro n18 α H20 ⟨i0, hi23, hh22, rfl⟩ K28 k28
  obtain ⟨n24, z25, rfl, hz26, hn27⟩ := iter_succ hi23
  obtain ⟨β, rfl⟩ := has_ex hh22
  clear hh22
  replace hz26 : z_viaductref04_SameMatrix_l0 a b i0 = some z25 := hz26
  unfold z_viaductref04_SameMatrix_l0 at hz26
  refine w_seqk fun _ k29 => ?_
  refine g_' ?_
  refine q_ (.bool (decide (i0 < (a.length : Int)))) ?_
  refine s_nil (k29 _ _ ?_)
  refine w_seqk fun _ k30 => ?_
  refine w_condp (i0 < (a.length : Int)) (by kernel_rfl) rfl (fun h31 => ?_) (fun h31 => ?_)
  ·have r32 := ite_t h31 hz26
   refine w_skip ?_
   refine k30 _ _ ?_
   refine w_seqk fun _ k33 => ?_
   refine w_block ?_
   refine w_seqk fun _ k34 => ?_
   refine g_' ?_
   refine q_ (i_ i0) ?_
   refine q_ (i_ i0) ?_
   refine s_nil (k34 _ _ ?_)
   refine w_seqk fun _ k35 => ?_
   refine w_draw [0, 1, 2, 3, 4, 5, 6, 7, 8, 9] (by kernel_rfl) ?_
   refine e_' (hd_a) ?_
   refine e_' (i_ i0) ?_
   obtain ⟨g36, r37⟩ := G_some r32
   refine m_' (elp hd_a 1 i0.toNat 0) (aIndexAddr Try.prog 38 hd_a (i_ i0)) (h_a.idxb (by kernel_rfl) g36 h31) ?_
   obtain ⟨cs38, f39, hk40, hs41, hl42, hq43⟩ := h_a.kid g36 h31
   obtain ⟨s44, rfl, ho46⟩ := cr_sl_open hk40
   have kd47 : KdS (encI .u64) 1 H s44 (gt a i0) fp_a hd_a 1 i0.toNat 0 := ⟨ho46.sq.up hs41 h_a.lt, hq43 0 _ rfl (by decide)⟩
   obtain ⟨a48, n49, c50, rfl⟩ := kd47.sq.form
   refine m_' (.slice a48 n49 c50) (aLoad Try.prog 44 (elp hd_a 1 i0.toNat 0) H) (hl42 _ _ _ _ (by kernel_rfl)) ?_
   refine e_' (hd_b) ?_
   refine e_' (i_ i0) ?_
   obtain ⟨g52, r53⟩ := G_some r37
   refine m_' (elp hd_b 1 i0.toNat 0) (aIndexAddr Try.prog 38 hd_b (i_ i0)) (h_b.idxb (by kernel_rfl) g36 g52) ?_
   obtain ⟨cs54, f55, hk56, hs57, hl58, hq59⟩ := h_b.kid g36 g52
   obtain ⟨s60, rfl, ho62⟩ := cr_sl_open hk56
   have kd63 : KdS (encI .u64) 1 H s60 (gt b i0) fp_b hd_b 1 i0.toNat 0 := ⟨ho62.sq.up hs57 h_b.lt, hq59 0 _ rfl (by decide)⟩
   obtain ⟨a64, n65, c66, rfl⟩ := kd63.sq.form
   refine m_' (.slice a64 n65 c66) (aLoad Try.prog 44 (elp hd_b 1 i0.toNat 0) H) (hl58 _ _ _ _ (by kernel_rfl)) ?_
   obtain ⟨y68, hy69, r70⟩ := bind_some r53
   refine d_ck 52 #[.slice a48 n49 c50, .slice a64 n65 c66] (by kernel_rfl) (c_viaductref04_SameRow wf kd47.sq kd63.sq hy69) ?_
   rintro _ _ ⟨rfl, rfl⟩
   refine ⟨st_nil, ?_⟩
   refine e_' (.bool (!y68)) ?_
   refine d_nil ?_
   refine k35 _ _ ?_
   refine w_cond ((!y68)) (by kernel_rfl) rfl (fun h73 => ?_) (fun h73 => ?_)
   ·have r74 := ite_t h73 r70
    refine w_seqk fun _ k75 => ?_
    refine g_' ?_
    refine q_ (.bool false) ?_
    refine s_nil (k75 _ _ ?_)
    refine w_ret (bl_ret (th_ret (th_ret (bl_ret (th_ret (th_ret ?_))))))
    obtain ⟨v76, hv77, hz78⟩ := map_some r74
    subst hz78
    obtain rfl := it_inr hn27
    have hq79 := elim_inl r12
    rw [hq79] at hv77
    refine b_ret (fn := Try.f12) (vs := [.bool false]) (aRes_tmp (by kernel_rfl) (rfl)) ?_
    obtain rfl := Option.some.inj hv77
    exact ⟨rfl, rfl⟩
   have r80 := ite_bf h73 r70
   refine w_skip ?_
   refine k33 _ _ ?_
   refine g_' ?_
   obtain ⟨g81, r82⟩ := G_some r80
   refine s_w ((i0 + 1)) (k := .i64) (x := (i0 + 1)) (by kernel_rfl) (wrap64 (by have := g81; omega)) ?_
   refine q_ (i_ (i0 + 1)) ?_
   refine s_nil ?_
   obtain rfl := Option.some.inj r82
   exact k28 n24 _ _ (Nat.lt_succ_self _) ⟨(i0 + 1), hn27, ha_, rfl⟩
  have r83 := ite_f h31 hz26
  refine w_exit (th_exit (th_exit (bl_eq ?_)))
  obtain rfl := Option.some.inj r83
  obtain rfl := it_inr hn27
  exact k16 _ _ ⟨_, rfl, trivial, rfl⟩
 obtain ⟨o10, rfl, hh17, rfl⟩ := hM
 have r84 := elim_inr r12
 obtain ⟨β, rfl⟩ := has_ex hh17
 clear hh17
 refine k8 _ _ ?_
 refine w_seqk fun _ k85 => ?_
 refine g_' ?_
 refine q_ (.bool true) ?_
 refine s_nil (k85 _ _ ?_)
 refine w_ret ?_
 refine b_ret (fn := Try.f12) (vs := [.bool true]) (aRes_tmp (by kernel_rfl) (rfl)) ?_
 obtain rfl := Option.some.inj r84
 exact ⟨rfl, rfl⟩

theorem c_viaductref02_TwinInts {H : AH} {hd_l : Value} {fp_l : Fp} {l : List (Int)} {r : List (Int)}
    (wf : WF H) (h_l : Sq (encI .i64) 1 H hd_l l fp_l) (hr : z_viaductref02_TwinInts l = some r) :
    ACalls Try.prog 14 #[hd_l] H fun v H' => ∃ (s3 : Value) (f4 : Fp), v = s3 ∧ FrS [] H H' ∧ Ow (encI .i64) 1 H' s3 r f4 ∧ Inn [] H f4 := by
 refine acalls_of_body mixed Try.func14 rfl (Nat.le_of_ble_eq_true rfl) ?_
 unfold z_viaductref02_TwinInts at hr
 refine w_seqk fun _ k6 => ?_
 refine g_' ?_
 refine q_ (.slice none 0 0) ?_
 refine s_nil (k6 _ _ ?_)
 refine w_seqk fun _ k7 => ?_
 refine g_' ?_
 refine q_ (.slice none 0 0) ?_
 refine s_nil (k7 _ _ ?_)
 refine w_seqk fun _ k8 => ?_
 refine w_seqk fun _ k9 => ?_
 refine g_' ?_
 refine q_ (hd_l) ?_
 refine l_' (i_ (l.length : Int)) (aLen Try.prog 25 hd_l H) (h_l.lenb (by kernel_rfl)) ?_
 refine q_ (i_ 0) ?_
 refine s_nil (k9 _ _ ?_)
 obtain ⟨o10, hx11, r12⟩ := bind_some hr
 refine w_mid (fun α H13 => ∃ (s17 : Value) (f18 : Fp), Has α [(3, s17)] ∧ FrS [] H H13 ∧ Ow (encI .i64) 1 H13 s17 o10 f18 ∧ Inn [] H f18) (fun _ k20 => ?_) (fun α H13 hM => ?_)
 ·refine w_block ?_
  obtain ⟨n22, hn23⟩ := loopO_iff.1 hx11
  refine w_loopn (fun n α H24 => ∃ (m0 : List (Int)), ∃ (i1 : Int), ∃ (s28 : Value), ∃ (f29 : Fp), iterO (fun zz_ => z_viaductref02_TwinInts_l0 l zz_.1 zz_.2) n (m0, i1) = some o10 ∧ Has α [(3, s28), (6, hd_l), (7, i_ (l.length : Int)), (8, i_ i1)] ∧ FrS [] H H24 ∧ Ow (encI .i64) 1 H24 s28 m0 f29 ∧ Inn [] H f29) n22 ⟨[], 0, (.slice none 0 0), [], hn23, ha_, (FrS.refl (W := []) wf), (Ow.nil (by decide)), Inn.nil⟩ ?_
  rintro n22 α H24 ⟨m0, i1, s28, f29, hi32, hh31, e25, m27, i30⟩ K37 k37
  obtain ⟨n33, z34, rfl, hz35, hn36⟩ := iter_succ hi32
  obtain ⟨β, rfl⟩ := has_ex hh31
  clear hh31
  replace hz35 : z_viaductref02_TwinInts_l0 l m0 i1 = some z34 := hz35
  unfold z_viaductref02_TwinInts_l0 at hz35
  obtain ⟨a38, n39, c40, rfl⟩ := m27.form
  refine w_seqk fun _ k41 => ?_
  refine g_' ?_
  refine q_ (.bool (decide (i1 < (l.length : Int)))) ?_
  refine s_nil (k41 _ _ ?_)
  refine w_seqk fun _ k42 => ?_
  refine w_condp (i1 < (l.length : Int)) (by kernel_rfl) rfl (fun h43 => ?_) (fun h43 => ?_)
  ·have r44 := ite_t h43 hz35
   refine w_skip ?_
   refine k42 _ _ ?_
   refine w_seqk fun _ k45 => ?_
   refine w_block ?_
   refine w_seqk fun _ k46 => ?_
   refine g_' ?_
   obtain ⟨g47, r48⟩ := G_some r44
   have u49 := (h_l.fr e25 Dj.nil_l)
   refine l_' (elp hd_l 1 i1.toNat 0) (aIndexAddr Try.prog 25 hd_l (i_ i1)) (u49.idxb (by kernel_rfl) g47 h43) ?_
   refine l_' (i_ (gt l i1)) (aLoad Try.prog 3 (elp hd_l 1 i1.toNat 0) H24) (u49.ld g47 h43 (by kernel_rfl)) ?_
   refine q_ (i_ (gt l i1)) ?_
   refine s_nil (k46 _ _ ?_)
   refine g_' ?_
   refine q_ (.slice a38 n39 c40) ?_
   refine q_ (i_ (gt l i1)) ?_
   refine s_owk (enc := (encI .i64)) (sz := 1) e25.wf [(gt l i1)] 1 (by decide) (fun _ _ => rfl) (fun _ _ => rfl) rfl (by kernel_rfl) fun s50 f51 H52 e53 hf54 hm55 => ?_
   obtain ⟨a56, n57, c58, rfl⟩ := hm55.form
   have u60 := (m27.ext e53)
   obtain ⟨g61, r62⟩ := G_some r48
   obtain ⟨s63, H64, f65, q69, e66, hm67, hf68⟩ := Ow.append (P := Try.prog) 8 e53.wf u60 hm55.sq (fun _ _ => rfl) (at_ := #[25, 25]) rfl rfl (by kernel_rfl) (by kernel_rfl) (by decide) (by have := g61; first | omega | (simp only [List.length_cons, List.length_nil] at this ⊢; omega) | (simp at this ⊢; omega))
   obtain ⟨a70, n71, c72, rfl⟩ := hm67.form
   refine s_ek (.slice a70 n71 c72) (by kernel_rfl) (q69) ?_
   refine q_ (.slice a70 n71 c72) ?_
   refine s_nil (k45 _ _ ?_)
   refine g_' ?_
   obtain ⟨g74, r75⟩ := G_some r62
   refine s_w ((i1 + 1)) (k := .i64) (x := (i1 + 1)) (by kernel_rfl) (wrap64 (by have := g74; omega)) ?_
   refine q_ (i_ (i1 + 1)) ?_
   refine s_nil ?_
   obtain rfl := Option.some.inj r75
   exact k37 n33 _ _ (Nat.lt_succ_self _) ⟨(m0 ++ [(gt l i1)]), (i1 + 1), (.slice a70 n71 c72), f65, hn36, ha_, (FrS.step wf ((FrS.step wf (FrS.refl (W := []) wf) e25 Inn.nil).extR e53) e66 (i30.fresh (Nat.le_refl _))), hm67, (Inn.trans (i30.fresh (Nat.le_refl _)) (ntr e25.next e53.next) hf68)⟩
  have r76 := ite_f h43 hz35
  refine w_exit (th_exit (th_exit (bl_eq ?_)))
  obtain rfl := Option.some.inj r76
  obtain rfl := it_inr hn36
  exact k20 _ _ ⟨(.slice a38 n39 c40), f29, ha_, (FrS.step wf (FrS.refl (W := []) wf) e25 Inn.nil), m27, (i30.fresh (Nat.le_refl _))⟩
 obtain ⟨s17, f18, hh21, e14, m16, i19⟩ := hM
 obtain ⟨β, rfl⟩ := has_ex hh21
 clear hh21
 obtain ⟨a77, n78, c79, rfl⟩ := m16.form
 refine k8 _ _ ?_
 refine w_seqk fun _ k80 => ?_
 refine g_' ?_
 refine q_ (.slice a77 n78 c79) ?_
 refine q_ (.slice a77 n78 c79) ?_
 refine s_nil (k80 _ _ ?_)
 refine w_ret ?_
 refine b_ret (fn := Try.f14) (vs := [.slice a77 n78 c79]) (aRes_tmp (by kernel_rfl) (rfl)) ?_
 obtain rfl := Option.some.inj r12
 exact ⟨(.slice a77 n78 c79), f18, rfl, (FrS.step wf (FrS.refl (W := []) wf) e14 Inn.nil), m16, (i19.fresh (Nat.le_refl _))⟩

theorem c_search_node {H : AH} {hd_First : Value} {fp_First : Fp} {hd_To : Value} {fp_To : Fp} {hd_Weight : Value} {fp_Weight : Fp} {hd_list : Value} {fp_list : Fp} {First : List (Int)} {To : List (Int)} {Weight : List (Int)} {list : List (Int)} {r : Er}
    (wf : WF H) (h_First : Sq (encI .i64) 1 H hd_First First fp_First) (h_To : Sq (encI .i64) 1 H hd_To To fp_To) (h_Weight : Sq (encI .i64) 1 H hd_Weight Weight fp_Weight) (h_list : Sq (encI .i64) 1 H hd_list list fp_list) (hr : z_search_node First To Weight list = some r) :
    ACalls Try.prog 62 #[.agg #[hd_First, hd_To, hd_Weight], hd_list] H fun v H' => ∃ (v3 : Value) (f4 : Fp), v = v3 ∧ FrS [] H H' ∧ Ev 101 152 H' v3 r f4 ∧ Inn [] H f4 := by
 refine acalls_of_body mixed Try.func62 rfl (Nat.le_of_ble_eq_true rfl) ?_
 unfold z_search_node at hr
 refine w_seqk fun _ k6 => ?_
 refine g_' ?_
 refine s_rwl wf [hd_First, hd_To, hd_Weight] (one_cons (h_First.one1) (one_cons (h_To.one1) (one_cons (h_Weight.one1) (one_nil)))) (by kernel_rfl) fun b7 H8 e9 hb10 r11 => ?_
 refine q_ (.nilIface) ?_
 refine s_nil (k6 _ _ ?_)
 refine w_seqk fun _ k13 => ?_
 refine w_seqk fun _ k14 => ?_
 refine g_' ?_
 refine l_' (.agg #[hd_First, hd_To, hd_Weight]) (aLoad Try.prog 27 (pt_ b7 0) H8) (r11.ld (by kernel_rfl)) ?_
 have u15 := (h_First.ext e9)
 have u16 := (h_To.ext e9)
 have u17 := (h_Weight.ext e9)
 obtain ⟨y18, hy19, r20⟩ := bind_some hr
 refine s_ck 55 #[.agg #[hd_First, hd_To, hd_Weight]] (by kernel_rfl) (c_csr_Check e9.wf u15 u16 u17 hy19) ?_
 rintro v21 H23 ⟨_, f22, rfl, e24, m25, i26⟩
 refine q_ (v21) ?_
 refine s_nil (k14 _ _ ?_)
 refine w_seqk fun _ k28 => ?_
 refine g_' ?_
 refine q_ (v21) ?_
 rcases (m25).cases with ⟨h29, rfl⟩ | ⟨h29, t30, x31, rfl⟩
 ·have r32 := ite_t h29 r20
  refine q_ (.bool false) ?_
  refine s_nil (k28 _ _ ?_)
  refine w_cond false (by kernel_rfl) rfl (fun h => by cases h) (fun _ => ?_)
  refine w_skip ?_
  refine k13 _ _ ?_
  refine w_seqk fun _ k33 => ?_
  refine w_seqk fun _ k34 => ?_
  refine g_' ?_
  refine q_ (hd_list) ?_
  have u35 := ((h_list.ext e9).fr e24 Dj.nil_l)
  refine l_' (i_ (list.length : Int)) (aLen Try.prog 25 hd_list H23) (u35.lenb (by kernel_rfl)) ?_
  refine q_ (i_ 0) ?_
  refine s_nil (k34 _ _ ?_)
  obtain ⟨z39, hx37, r38⟩ := bind_some r32
  refine w_mid (fun α H40 => ∃ o36, z39 = Sum.inr o36 ∧ Has α [] ∧ FrS [] H23 H40) (fun _ k42 => ?_) (fun α H40 hM => ?_)
  ·refine w_block ?_
   obtain ⟨n44, hn45⟩ := loopO_iff.1 hx37
   refine w_loopn (fun n α H46 => ∃ (i0 : Int), iterO (fun zz_ => z_search_node_l0 First To Weight list zz_) n i0 = some z39 ∧ Has α [(2, pt_ b7 0), (13, hd_list), (14, i_ (list.length : Int)), (15, i_ i0)] ∧ FrS [] H23 H46) n44 ⟨0, hn45, ha_, (FrS.refl (W := []) e24.wf)⟩ ?_
   rintro n44 α H46 ⟨i0, hi49, hh48, e47⟩ K54 k54
   obtain ⟨n50, z51, rfl, hz52, hn53⟩ := iter_succ hi49
   obtain ⟨β, rfl⟩ := has_ex hh48
   clear hh48
   replace hz52 : z_search_node_l0 First To Weight list i0 = some z51 := hz52
   unfold z_search_node_l0 at hz52
   refine w_seqk fun _ k55 => ?_
   refine g_' ?_
   refine q_ (.bool (decide (i0 < (list.length : Int)))) ?_
   refine s_nil (k55 _ _ ?_)
   refine w_seqk fun _ k56 => ?_
   refine w_condp (i0 < (list.length : Int)) (by kernel_rfl) rfl (fun h57 => ?_) (fun h57 => ?_)
   ·have r58 := ite_t h57 hz52
    refine w_skip ?_
    refine k56 _ _ ?_
    refine w_seqk fun _ k59 => ?_
    refine w_block ?_
    refine w_seqk fun _ k60 => ?_
    refine g_' ?_
    obtain ⟨g61, r62⟩ := G_some r58
    have u63 := (u35.fr e47 Dj.nil_l)
    refine l_' (elp hd_list 1 i0.toNat 0) (aIndexAddr Try.prog 25 hd_list (i_ i0)) (u63.idxb (by kernel_rfl) g61 h57) ?_
    refine l_' (i_ (gt list i0)) (aLoad Try.prog 3 (elp hd_list 1 i0.toNat 0) H46) (u63.ld g61 h57 (by kernel_rfl)) ?_
    refine q_ (i_ (gt list i0)) ?_
    refine s_nil (k60 _ _ ?_)
    refine w_seqk fun _ k64 => ?_
    refine g_' ?_
    refine q_ (i_ (gt list i0)) ?_
    refine s_b ((gt list i0) < 0) (by kernel_rfl) (fun h65 => ?_) (fun h65 => ?_)
    ·have r66 := ite_t h65 r62
     refine q_ (.bool true) ?_
     refine n_' ?_
     refine n_' ?_
     refine n_' ?_
     refine n_' ?_
     refine q_ (.bool true) ?_
     refine s_nil (k64 _ _ ?_)
     refine w_cond true (by kernel_rfl) rfl (fun _ => ?_) (fun h => by cases h)
     refine w_seqk fun _ k67 => ?_
     refine g_' ?_
     refine q_ (.iface 101 (i_ 7)) ?_
     refine q_ (.iface 101 (i_ 7)) ?_
     refine s_nil (k67 _ _ ?_)
     refine w_ret (bl_ret (th_ret (th_ret (bl_ret (th_ret (th_ret ?_))))))
     obtain ⟨v68, hv69, hz70⟩ := map_some r66
     subst hz70
     obtain rfl := it_inr hn53
     have hq71 := elim_inl r38
     rw [hq71] at hv69
     refine b_ret (fn := Try.f62) (vs := [.iface 101 (i_ 7)]) (aRes_tmp (by kernel_rfl) (rfl)) ?_
     obtain rfl := Option.some.inj hv69
     exact ⟨(.iface 101 (i_ 7)), [], rfl, (FrS.step wf (FrS.step wf ((FrS.refl (W := []) wf).extR e9) e24 Inn.nil) e47 Inn.nil), Ev.no, Inn.nil⟩
    have r72 := ite_f h65 r62
    refine q_ (.bool false) ?_
    refine q_ (i_ (gt list i0)) ?_
    have u73 := ((r11.frS e24 Dj.nil_l).frS e47 Dj.nil_l)
    refine l_' (.agg #[hd_First, hd_To, hd_Weight]) (aLoad Try.prog 27 (pt_ b7 0) H46) (u73.ld (by kernel_rfl)) ?_
    have u74 := ((u15.fr e24 Dj.nil_l).fr e47 Dj.nil_l)
    have u75 := ((u16.fr e24 Dj.nil_l).fr e47 Dj.nil_l)
    have u76 := ((u17.fr e24 Dj.nil_l).fr e47 Dj.nil_l)
    obtain ⟨y77, hy78, r79⟩ := bind_some r72
    refine s_ck 58 #[.agg #[hd_First, hd_To, hd_Weight]] (by kernel_rfl) (c_search_nodes e47.wf u74 u75 u76 hy78) ?_
    rintro _ H80 ⟨rfl, e81⟩
    refine q_ (.bool (decide ((gt list i0) ≥ y77))) ?_
    refine q_ (.bool (decide ((gt list i0) ≥ y77))) ?_
    refine s_nil (k64 _ _ ?_)
    refine w_condp ((gt list i0) ≥ y77) (by kernel_rfl) rfl (fun h82 => ?_) (fun h82 => ?_)
    ·have r83 := ite_t h82 r79
     refine w_seqk fun _ k84 => ?_
     refine g_' ?_
     refine q_ (.iface 101 (i_ 7)) ?_
     refine q_ (.iface 101 (i_ 7)) ?_
     refine s_nil (k84 _ _ ?_)
     refine w_ret (bl_ret (th_ret (th_ret (bl_ret (th_ret (th_ret ?_))))))
     obtain ⟨v85, hv86, hz87⟩ := map_some r83
     subst hz87
     obtain rfl := it_inr hn53
     have hq88 := elim_inl r38
     rw [hq88] at hv86
     refine b_ret (fn := Try.f62) (vs := [.iface 101 (i_ 7)]) (aRes_tmp (by kernel_rfl) (rfl)) ?_
     obtain rfl := Option.some.inj hv86
     exact ⟨(.iface 101 (i_ 7)), [], rfl, (FrS.step wf (FrS.step wf (FrS.step wf ((FrS.refl (W := []) wf).extR e9) e24 Inn.nil) e47 Inn.nil) e81 Inn.nil), Ev.no, Inn.nil⟩
    have r89 := ite_f h82 r79
    refine w_skip ?_
    refine k59 _ _ ?_
    refine g_' ?_
    obtain ⟨g90, r91⟩ := G_some r89
    refine s_w ((i0 + 1)) (k := .i64) (x := (i0 + 1)) (by kernel_rfl) (wrap64 (by have := g90; omega)) ?_
    refine q_ (i_ (i0 + 1)) ?_
    refine s_nil ?_
    obtain rfl := Option.some.inj r91
    exact k54 n50 _ _ (Nat.lt_succ_self _) ⟨(i0 + 1), hn53, ha_, (FrS.step e24.wf (FrS.step e24.wf (FrS.refl (W := []) e24.wf) e47 Inn.nil) e81 Inn.nil)⟩
   have r92 := ite_f h57 hz52
   refine w_exit (th_exit (th_exit (bl_eq ?_)))
   obtain rfl := Option.some.inj r92
   obtain rfl := it_inr hn53
   exact k42 _ _ ⟨_, rfl, trivial, (FrS.step e24.wf (FrS.refl (W := []) e24.wf) e47 Inn.nil)⟩
  obtain ⟨o36, rfl, hh43, e41⟩ := hM
  have r93 := elim_inr r38
  obtain ⟨β, rfl⟩ := has_ex hh43
  clear hh43
  refine k33 _ _ ?_
  refine w_seqk fun _ k94 => ?_
  refine g_' ?_
  refine q_ (.nilIface) ?_
  refine s_nil (k94 _ _ ?_)
  refine w_ret ?_
  refine b_ret (fn := Try.f62) (vs := [.nilIface]) (aRes_tmp (by kernel_rfl) (rfl)) ?_
  obtain rfl := Option.some.inj r93
  exact ⟨(.nilIface), [], rfl, (FrS.step wf (FrS.step wf ((FrS.refl (W := []) wf).extR e9) e24 Inn.nil) e41 Inn.nil), Ev.nil, Inn.nil⟩
 have r95 := ite_f h29 r20
 refine l_' (.bool true) (aBin Try.prog .neq 29 (.tmp 10) (.const .nilIface) (.iface t30 x31) .nilIface) (aBin_nnil (by kernel_rfl)) ?_
 refine s_nil (k28 _ _ ?_)
 refine w_cond true (by kernel_rfl) rfl (fun _ => ?_) (fun h => by cases h)
 refine w_seqk fun _ k96 => ?_
 refine g_' ?_
 refine q_ (.iface t30 x31) ?_
 refine q_ (.iface t30 x31) ?_
 refine s_nil (k96 _ _ ?_)
 refine w_ret (th_ret ?_)
 refine b_ret (fn := Try.f62) (vs := [.iface t30 x31]) (aRes_tmp (by kernel_rfl) (rfl)) ?_
 obtain rfl := Option.some.inj r95
 exact ⟨(.iface t30 x31), f22, rfl, (FrS.step wf ((FrS.refl (W := []) wf).extR e9) e24 Inn.nil), m25, (i26.fresh e9.next)⟩


end Go.Vd

/-! (KWw7) -/

set_option maxRecDepth 100000
set_option maxHeartbeats 4000000
set_option linter.unusedVariables false
namespace Go.Vd
open Go.Proofs
attribute [local irreducible] wpSeq wpOrd aWp
theorem c_search_state_parents {H : AH} {b_st : Nat} {hd_st_ : Value} {fp_st_ : Fp} {hd_st_2 : Value} {fp_st_2 : Fp} {hd_st_3 : Value} {fp_st_3 : Fp} {b_st_4 : Nat} {hd_st_5 : Value} {fp_st_5 : Fp} {hd_st_6 : Value} {fp_st_6 : Fp} {b_st_7 : Nat} {hd_st_8 : Value} {fp_st_8 : Fp} {hd_st_11 : Value} {fp_st_11 : Fp} {hd_st_12 : Value} {fp_st_12 : Fp} {st_ : List (Int)} {st_2 : List (Int)} {st_3 : List (Int)} {st_5 : List (Int × Int)} {st_6 : List (Int)} {st_8 : List (Int × Int)} {st_9 : Int} {st_10 : Int} {st_11 : List (Int)} {st_12 : List (Bool)} {s : Int} {r : List (Int)}
    (wf : WF H) (h_st_ : Sq (encI .i64) 1 H hd_st_ st_ fp_st_) (h_st_2 : Sq (encI .i64) 1 H hd_st_2 st_2 fp_st_2) (h_st_3 : Sq (encI .i64) 1 H hd_st_3 st_3 fp_st_3) (h_st_5 : Sq enc_u64_u32 2 H hd_st_5 st_5 fp_st_5) (h_st_6 : Sq (encI .i64) 1 H hd_st_6 st_6 fp_st_6) (h_st_4 : Row H b_st_4 [hd_st_5, hd_st_6]) (h_st_8 : Sq enc_u64_u32 2 H hd_st_8 st_8 fp_st_8) (h_st_7 : Row H b_st_7 [hd_st_8, .int .u32 st_9, i_ st_10]) (h_st_11 : Sq (encI .i64) 1 H hd_st_11 st_11 fp_st_11) (h_st_12 : Sq encB 1 H hd_st_12 st_12 fp_st_12) (h_st : Row H b_st [hd_st_, hd_st_2, hd_st_3, pt_ b_st_4 0, pt_ b_st_7 0, hd_st_11, hd_st_12]) (hr : z_search_state_parents st_ st_2 st_3 st_5 st_6 st_8 st_9 st_10 st_11 st_12 s = some r) :
    ACalls Try.prog 63 #[pt_ b_st 0, i_ s] H fun v H' => ∃ (s3 : Value) (f4 : Fp), v = s3 ∧ FrS [] H H' ∧ Ow (encI .i64) 1 H' s3 r f4 ∧ Inn [] H f4 := by
 refine acalls_of_body mixed Try.func63 rfl (Nat.le_of_ble_eq_true rfl) ?_
 unfold z_search_state_parents at hr
 refine w_seqk fun _ k6 => ?_
 refine g_' ?_
 refine q_ (.slice none 0 0) ?_
 refine s_nil (k6 _ _ ?_)
 refine w_seqk fun _ k7 => ?_
 refine g_' ?_
 refine q_ (pt_ b_st 0) ?_
 refine q_ (pt_ b_st 0) ?_
 refine q_ (pt_ b_st 0) ?_
 refine l_' (.agg #[hd_st_, hd_st_2, hd_st_3]) (aLoad Try.prog 27 (pt_ b_st 0) H) (h_st.ld (by kernel_rfl)) ?_
 obtain ⟨y8, hy9, r10⟩ := bind_some hr
 refine s_ck 58 #[.agg #[hd_st_, hd_st_2, hd_st_3]] (by kernel_rfl) (c_search_nodes wf h_st_ h_st_2 h_st_3 hy9) ?_
 rintro _ H11 ⟨rfl, e12⟩
 obtain ⟨g13, r14⟩ := G_some r10
 refine s_mks (t := 25) (m := 8) (l := y8) (c := y8) (enc := (encI .i64)) (sz := 1) e12.wf (0 : Int) (by kernel_rfl) (by decide) g13.1 (Int.le_refl _) (by omega) (by have := g13; omega) (by kernel_rfl) fun s15 f16 H17 e18 hf19 hm20 => ?_
 obtain ⟨a21, n22, c23, rfl⟩ := hm20.form
 have hm20 : Ow (encI .i64) 1 H17 (.slice a21 n22 c23) (List.replicate y8.toNat (0 : Int)) f16 := hm20
 refine q_ (.slice a21 n22 c23) ?_
 refine s_nil (k7 _ _ ?_)
 refine w_seqk fun _ k25 => ?_
 refine g_' ?_
 refine q_ (pt_ b_st 0) ?_
 refine q_ (pt_ b_st 0) ?_
 refine q_ (pt_ b_st 0) ?_
 have u26 := ((h_st.frS e12 Dj.nil_l).ext e18)
 refine l_' (.agg #[hd_st_, hd_st_2, hd_st_3]) (aLoad Try.prog 27 (pt_ b_st 0) H17) (u26.ld (by kernel_rfl)) ?_
 have u27 := ((h_st_.fr e12 Dj.nil_l).ext e18)
 have u28 := ((h_st_2.fr e12 Dj.nil_l).ext e18)
 have u29 := ((h_st_3.fr e12 Dj.nil_l).ext e18)
 obtain ⟨y30, hy31, r32⟩ := bind_some r14
 refine s_ck 58 #[.agg #[hd_st_, hd_st_2, hd_st_3]] (by kernel_rfl) (c_search_nodes e18.wf u27 u28 u29 hy31) ?_
 rintro _ H33 ⟨rfl, e34⟩
 obtain ⟨g35, r36⟩ := G_some r32
 refine s_mks (t := 25) (m := 8) (l := y30) (c := y30) (enc := (encI .i64)) (sz := 1) e34.wf (0 : Int) (by kernel_rfl) (by decide) g35.1 (Int.le_refl _) (by omega) (by have := g35; omega) (by kernel_rfl) fun s37 f38 H39 e40 hf41 hm42 => ?_
 obtain ⟨a43, n44, c45, rfl⟩ := hm42.form
 have hm42 : Ow (encI .i64) 1 H39 (.slice a43 n44 c45) (List.replicate y30.toNat (0 : Int)) f38 := hm42
 refine q_ (.slice a43 n44 c45) ?_
 refine s_nil (k25 _ _ ?_)
 refine w_seqk fun _ k47 => ?_
 refine g_' ?_
 refine q_ (.slice a43 n44 c45) ?_
 refine q_ (i_ s) ?_
 obtain ⟨g48, r49⟩ := G_some r36
 refine l_' (elp (.slice a43 n44 c45) 1 s.toNat 0) (aIndexAddr Try.prog 25 (.slice a43 n44 c45) (i_ s)) (hm42.sq.idxb (by kernel_rfl) g48.1 g48.2) ?_
 obtain ⟨H50, q51, e52, hm53⟩ := Ow.store (P := Try.prog) (t := 3) (off := 0) e40.wf hm42 g48.1 g48.2 (i_ 1) [i_ 1] (by kernel_rfl) (by kernel_rfl) rfl 1 (Nat.le_of_ble_eq_true rfl) (by kernel_rfl)
 refine s_ek (undef) (by kernel_rfl) (map_ok q51) ?_
 refine s_nil (k47 _ _ ?_)
 refine w_seqk fun _ k54 => ?_
 refine g_' ?_
 refine q_ (i_ s) ?_
 refine s_owk (enc := (encI .i64)) (sz := 1) e52.wf [s] 1 (by decide) (fun _ _ => rfl) (fun _ _ => rfl) rfl (by kernel_rfl) fun s55 f56 H57 e58 hf59 hm60 => ?_
 obtain ⟨a61, n62, c63, rfl⟩ := hm60.form
 refine q_ (.slice a61 n62 c63) ?_
 refine s_nil (k54 _ _ ?_)
 refine w_seqk fun _ k65 => ?_
 refine w_seqk fun _ k66 => ?_
 refine g_' ?_
 refine q_ (i_ 0) ?_
 refine s_nil (k66 _ _ ?_)
 obtain ⟨o67, hx68, r69⟩ := bind_some r49
 refine w_mid (fun α H70 => Has α [(5, .slice a21 n22 c23)] ∧ FrS (f16 ++ (f38 ++ f56)) H57 H70 ∧ Ow (encI .i64) 1 H70 (.slice a21 n22 c23) o67 f16) (fun _ k74 => ?_) (fun α H70 hM => ?_)
 ·refine w_block ?_
  obtain ⟨n76, hn77⟩ := loopO_iff.1 hx68
  have u95 := ((((hm20.fr e34 Dj.nil_l).ext e40).fr e52 (hf41.djn (hm20.lt.le e34.next))).ext e58)
  have u96 := (hm53.ext e58)
  refine w_loopn (fun n α H78 => ∃ (from4 : List (Int)), ∃ (seen5 : List (Int)), ∃ (list6 : List (Int)), ∃ (i7 : Int), ∃ (s86 : Value), ∃ (f87 : Fp), iterO (fun zz_ => z_search_state_parents_l1 st_ st_2 st_3 st_8 st_9 st_10 zz_.1 zz_.2.1 zz_.2.2.1 zz_.2.2.2) n (from4, seen5, list6, i7) = some o67 ∧ Has α [(0, pt_ b_st 0), (5, .slice a21 n22 c23), (6, .slice a43 n44 c45), (7, s86), (8, i_ i7)] ∧ FrS (f16 ++ (f38 ++ f56)) H57 H78 ∧ Ow (encI .i64) 1 H78 (.slice a21 n22 c23) from4 f16 ∧ Ow (encI .i64) 1 H78 (.slice a43 n44 c45) seen5 f38 ∧ Ow (encI .i64) 1 H78 s86 list6 f87 ∧ Inn f56 H57 f87) n76 ⟨(List.replicate y8.toNat (0 : Int)), ((List.replicate y30.toNat (0 : Int)).set s.toNat 1), [s], 0, (.slice a61 n62 c63), f56, hn77, ha_, (FrS.refl (W := (f16 ++ (f38 ++ f56))) e58.wf), u95, u96, hm60, Inn.refl'⟩ ?_
  rintro n76 α H78 ⟨from4, seen5, list6, i7, s86, f87, hi90, hh89, e79, m81, m83, m85, i88⟩ K97 k97
  obtain ⟨n91, z92, rfl, hz93, hn94⟩ := iter_succ hi90
  obtain ⟨β, rfl⟩ := has_ex hh89
  clear hh89
  replace hz93 : z_search_state_parents_l1 st_ st_2 st_3 st_8 st_9 st_10 from4 seen5 list6 i7 = some z92 := hz93
  unfold z_search_state_parents_l1 at hz93
  obtain ⟨a98, n99, c100, rfl⟩ := m85.form
  refine w_seqk fun _ k101 => ?_
  refine w_seqk fun _ k102 => ?_
  refine g_' ?_
  refine q_ (i_ i7) ?_
  refine q_ (.slice a98 n99 c100) ?_
  refine l_' (i_ (list6.length : Int)) (aLen Try.prog 25 (.slice a98 n99 c100) H78) (m85.sq.lenb (by kernel_rfl)) ?_
  refine q_ (.bool (decide (i7 < (list6.length : Int)))) ?_
  refine s_nil (k102 _ _ ?_)
  refine w_condp (i7 < (list6.length : Int)) (by kernel_rfl) rfl (fun h103 => ?_) (fun h103 => ?_)
  ·have r104 := ite_t h103 hz93
   refine w_skip ?_
   refine k101 _ _ ?_
   refine w_seqk fun _ k105 => ?_
   refine w_block ?_
   refine w_seqk fun _ k106 => ?_
   refine g_' ?_
   refine q_ (.slice a98 n99 c100) ?_
   refine q_ (i_ i7) ?_
   obtain ⟨g107, r108⟩ := G_some r104
   refine l_' (elp (.slice a98 n99 c100) 1 i7.toNat 0) (aIndexAddr Try.prog 25 (.slice a98 n99 c100) (i_ i7)) (m85.sq.idxb (by kernel_rfl) g107 h103) ?_
   refine l_' (i_ (gt list6 i7)) (aLoad Try.prog 3 (elp (.slice a98 n99 c100) 1 i7.toNat 0) H78) (m85.sq.ld g107 h103 (by kernel_rfl)) ?_
   refine q_ (i_ (gt list6 i7)) ?_
   refine s_nil (k106 _ _ ?_)
   refine w_seqk fun _ k109 => ?_
   refine g_' ?_
   refine q_ (pt_ b_st 0) ?_
   refine q_ (pt_ b_st 0) ?_
   refine q_ (pt_ b_st 4) ?_
   have u110 := (((((u26.frS e34 Dj.nil_l).ext e40).frS e52 (hf41.djn (h_st.ltF.le (ntr (ntr e12.next e18.next) e34.next)))).ext e58).frS e79 (Dj.app (hf19.djn (h_st.ltF.le e12.next)) (Dj.app (hf41.djn (h_st.ltF.le (ntr (ntr e12.next e18.next) e34.next))) (hf59.djn (h_st.ltF.le (ntr (ntr (ntr (ntr e12.next e18.next) e34.next) e40.next) e52.next))))))
   refine l_' (pt_ b_st_7 0) (aLoad Try.prog 115 (pt_ b_st 4) H78) (u110.ld (by kernel_rfl)) ?_
   refine q_ (i_ (gt list6 i7)) ?_
   have u111 := (((((((h_st_8.fr e12 Dj.nil_l).ext e18).fr e34 Dj.nil_l).ext e40).fr e52 (hf41.djn (h_st_8.lt.le (ntr (ntr e12.next e18.next) e34.next)))).ext e58).fr e79 (Dj.app (hf19.djn (h_st_8.lt.le e12.next)) (Dj.app (hf41.djn (h_st_8.lt.le (ntr (ntr e12.next e18.next) e34.next))) (hf59.djn (h_st_8.lt.le (ntr (ntr (ntr (ntr e12.next e18.next) e34.next) e40.next) e52.next))))))
   have u112 := (((((((h_st_7.frS e12 Dj.nil_l).ext e18).frS e34 Dj.nil_l).ext e40).frS e52 (hf41.djn (h_st_7.ltF.le (ntr (ntr e12.next e18.next) e34.next)))).ext e58).frS e79 (Dj.app (hf19.djn (h_st_7.ltF.le e12.next)) (Dj.app (hf41.djn (h_st_7.ltF.le (ntr (ntr e12.next e18.next) e34.next))) (hf59.djn (h_st_7.ltF.le (ntr (ntr (ntr (ntr e12.next e18.next) e34.next) e40.next) e52.next))))))
   obtain ⟨y113, hy114, r115⟩ := bind_some r108
   refine s_ck 90 #[pt_ b_st_7 0, i_ (gt list6 i7)] (by kernel_rfl) (c_stamp_Stamp_Get e79.wf u111 u112 hy114) ?_
   rintro _ _ ⟨rfl, rfl⟩
   refine q_ (.tuple #[.int .u64 y113.1, .bool y113.2]) ?_
   refine q_ (.int .u64 y113.1) ?_
   refine q_ (.bool y113.2) ?_
   refine q_ (.int .u64 y113.1) ?_
   refine q_ (.bool y113.2) ?_
   refine s_nil (k109 _ _ ?_)
   refine w_seqk fun _ k118 => ?_
   refine g_' ?_
   refine q_ (pt_ b_st 0) ?_
   refine q_ (pt_ b_st 0) ?_
   refine q_ (pt_ b_st 0) ?_
   refine q_ (pt_ b_st 0) ?_
   refine l_' (hd_st_) (aLoad Try.prog 25 (pt_ b_st 0) H78) (u110.ld (by kernel_rfl)) ?_
   refine q_ (i_ (gt list6 i7)) ?_
   obtain ⟨g119, r120⟩ := G_some r115
   have u121 := (((((u27.fr e34 Dj.nil_l).ext e40).fr e52 (hf41.djn (h_st_.lt.le (ntr (ntr e12.next e18.next) e34.next)))).ext e58).fr e79 (Dj.app (hf19.djn (h_st_.lt.le e12.next)) (Dj.app (hf41.djn (h_st_.lt.le (ntr (ntr e12.next e18.next) e34.next))) (hf59.djn (h_st_.lt.le (ntr (ntr (ntr (ntr e12.next e18.next) e34.next) e40.next) e52.next))))))
   refine l_' (elp hd_st_ 1 (gt list6 i7).toNat 0) (aIndexAddr Try.prog 25 hd_st_ (i_ (gt list6 i7))) (u121.idxb (by kernel_rfl) g119.1 g119.2) ?_
   refine l_' (i_ (gt st_ (gt list6 i7))) (aLoad Try.prog 3 (elp hd_st_ 1 (gt list6 i7).toNat 0) H78) (u121.ld g119.1 g119.2 (by kernel_rfl)) ?_
   refine q_ (i_ (gt st_ (gt list6 i7))) ?_
   refine s_nil (k118 _ _ ?_)
   obtain ⟨o122, hx123, r124⟩ := bind_some r120
   refine w_mid (fun α H125 => ∃ (s133 : Value) (f134 : Fp), Has α [(0, pt_ b_st 0), (5, .slice a21 n22 c23), (6, .slice a43 n44 c45), (7, s133), (8, i_ i7)] ∧ FrS (f16 ++ (f38 ++ f87)) H78 H125 ∧ Ow (encI .i64) 1 H125 (.slice a21 n22 c23) o122.1 f16 ∧ Ow (encI .i64) 1 H125 (.slice a43 n44 c45) o122.2.1 f38 ∧ Ow (encI .i64) 1 H125 s133 o122.2.2 f134 ∧ Inn f87 H78 f134) (fun _ k136 => ?_) (fun α H125 hM => ?_)
   ·refine w_block ?_
    obtain ⟨n138, hn139⟩ := loopO_iff.1 hx123
    refine w_loopn (fun n α H140 => ∃ (j0 : Int), ∃ (from1 : List (Int)), ∃ (seen2 : List (Int)), ∃ (list3 : List (Int)), ∃ (s148 : Value), ∃ (f149 : Fp), iterO (fun zz_ => z_search_state_parents_l0 st_ st_2 st_3 st_8 st_9 st_10 list6 i7 y113 zz_.1 zz_.2.1 zz_.2.2.1 zz_.2.2.2) n (j0, from1, seen2, list3) = some o122 ∧ Has α [(0, pt_ b_st 0), (5, .slice a21 n22 c23), (6, .slice a43 n44 c45), (7, s148), (8, i_ i7), (9, i_ (gt list6 i7)), (10, .int .u64 y113.1), (12, i_ j0)] ∧ FrS (f16 ++ (f38 ++ f87)) H78 H140 ∧ Ow (encI .i64) 1 H140 (.slice a21 n22 c23) from1 f16 ∧ Ow (encI .i64) 1 H140 (.slice a43 n44 c45) seen2 f38 ∧ Ow (encI .i64) 1 H140 s148 list3 f149 ∧ Inn f87 H78 f149) n138 ⟨(gt st_ (gt list6 i7)), from4, seen5, list6, (.slice a98 n99 c100), f87, hn139, ha_, (FrS.refl (W := (f16 ++ (f38 ++ f87))) e79.wf), m81, m83, m85, Inn.refl'⟩ ?_
    rintro n138 α H140 ⟨j0, from1, seen2, list3, s148, f149, hi152, hh151, e141, m143, m145, m147, i150⟩ K157 k157
    obtain ⟨n153, z154, rfl, hz155, hn156⟩ := iter_succ hi152
    obtain ⟨β, rfl⟩ := has_ex hh151
    clear hh151
    replace hz155 : z_search_state_parents_l0 st_ st_2 st_3 st_8 st_9 st_10 list6 i7 y113 j0 from1 seen2 list3 = some z154 := hz155
    unfold z_search_state_parents_l0 at hz155
    obtain ⟨a158, n159, c160, rfl⟩ := m147.form
    refine w_seqk fun _ k161 => ?_
    refine w_seqk fun _ k162 => ?_
    refine g_' ?_
    refine q_ (i_ j0) ?_
    refine q_ (pt_ b_st 0) ?_
    refine q_ (pt_ b_st 0) ?_
    refine q_ (pt_ b_st 0) ?_
    refine q_ (pt_ b_st 0) ?_
    have u163 := (u110.frS e141 (Dj.app (hf19.djn (h_st.ltF.le e12.next)) (Dj.app (hf41.djn (h_st.ltF.le (ntr (ntr e12.next e18.next) e34.next))) (i88.dj (hf59.djn (h_st.ltF.le (ntr (ntr (ntr (ntr e12.next e18.next) e34.next) e40.next) e52.next))) (h_st.ltF.le (ntr (ntr (ntr (ntr (ntr e12.next e18.next) e34.next) e40.next) e52.next) e58.next))))))
    refine l_' (hd_st_) (aLoad Try.prog 25 (pt_ b_st 0) H140) (u163.ld (by kernel_rfl)) ?_
    refine q_ (i_ (gt list6 i7)) ?_
    obtain ⟨g164, r165⟩ := G_some hz155
    refine s_w (((gt list6 i7) + 1)) (k := .i64) (x := ((gt list6 i7) + 1)) (by kernel_rfl) (wrap64 (by have := g164; omega)) ?_
    obtain ⟨g166, r167⟩ := G_some r165
    have u168 := (u121.fr e141 (Dj.app (hf19.djn (h_st_.lt.le e12.next)) (Dj.app (hf41.djn (h_st_.lt.le (ntr (ntr e12.next e18.next) e34.next))) (i88.dj (hf59.djn (h_st_.lt.le (ntr (ntr (ntr (ntr e12.next e18.next) e34.next) e40.next) e52.next))) (h_st_.lt.le (ntr (ntr (ntr (ntr (ntr e12.next e18.next) e34.next) e40.next) e52.next) e58.next))))))
    refine l_' (elp hd_st_ 1 ((gt list6 i7) + 1).toNat 0) (aIndexAddr Try.prog 25 hd_st_ (i_ ((gt list6 i7) + 1))) (u168.idxb (by kernel_rfl) g166.1 g166.2) ?_
    refine l_' (i_ (gt st_ ((gt list6 i7) + 1))) (aLoad Try.prog 3 (elp hd_st_ 1 ((gt list6 i7) + 1).toNat 0) H140) (u168.ld g166.1 g166.2 (by kernel_rfl)) ?_
    refine q_ (.bool (decide (j0 < (gt st_ ((gt list6 i7) + 1))))) ?_
    refine s_nil (k162 _ _ ?_)
    refine w_condp (j0 < (gt st_ ((gt list6 i7) + 1))) (by kernel_rfl) rfl (fun h169 => ?_) (fun h169 => ?_)
    ·have r170 := ite_t h169 r167
     refine w_skip ?_
     refine k161 _ _ ?_
     refine w_seqk fun _ k171 => ?_
     refine w_block ?_
     refine w_seqk fun _ k172 => ?_
     refine g_' ?_
     refine q_ (pt_ b_st 0) ?_
     refine q_ (pt_ b_st 0) ?_
     refine q_ (pt_ b_st 0) ?_
     refine q_ (pt_ b_st 1) ?_
     refine l_' (hd_st_2) (aLoad Try.prog 25 (pt_ b_st 1) H140) (u163.ld (by kernel_rfl)) ?_
     refine q_ (i_ j0) ?_
     obtain ⟨g173, r174⟩ := G_some r170
     have u175 := ((((((u28.fr e34 Dj.nil_l).ext e40).fr e52 (hf41.djn (h_st_2.lt.le (ntr (ntr e12.next e18.next) e34.next)))).ext e58).fr e79 (Dj.app (hf19.djn (h_st_2.lt.le e12.next)) (Dj.app (hf41.djn (h_st_2.lt.le (ntr (ntr e12.next e18.next) e34.next))) (hf59.djn (h_st_2.lt.le (ntr (ntr (ntr (ntr e12.next e18.next) e34.next) e40.next) e52.next)))))).fr e141 (Dj.app (hf19.djn (h_st_2.lt.le e12.next)) (Dj.app (hf41.djn (h_st_2.lt.le (ntr (ntr e12.next e18.next) e34.next))) (i88.dj (hf59.djn (h_st_2.lt.le (ntr (ntr (ntr (ntr e12.next e18.next) e34.next) e40.next) e52.next))) (h_st_2.lt.le (ntr (ntr (ntr (ntr (ntr e12.next e18.next) e34.next) e40.next) e52.next) e58.next))))))
     refine l_' (elp hd_st_2 1 j0.toNat 0) (aIndexAddr Try.prog 25 hd_st_2 (i_ j0)) (u175.idxb (by kernel_rfl) g173.1 g173.2) ?_
     refine l_' (i_ (gt st_2 j0)) (aLoad Try.prog 3 (elp hd_st_2 1 j0.toNat 0) H140) (u175.ld g173.1 g173.2 (by kernel_rfl)) ?_
     refine q_ (i_ (gt st_2 j0)) ?_
     refine s_nil (k172 _ _ ?_)
     refine w_seqk fun _ k176 => ?_
     refine g_' ?_
     refine q_ (pt_ b_st 0) ?_
     refine q_ (pt_ b_st 0) ?_
     refine q_ (pt_ b_st 4) ?_
     refine l_' (pt_ b_st_7 0) (aLoad Try.prog 115 (pt_ b_st 4) H140) (u163.ld (by kernel_rfl)) ?_
     refine q_ (i_ (gt st_2 j0)) ?_
     have u177 := (u111.fr e141 (Dj.app (hf19.djn (h_st_8.lt.le e12.next)) (Dj.app (hf41.djn (h_st_8.lt.le (ntr (ntr e12.next e18.next) e34.next))) (i88.dj (hf59.djn (h_st_8.lt.le (ntr (ntr (ntr (ntr e12.next e18.next) e34.next) e40.next) e52.next))) (h_st_8.lt.le (ntr (ntr (ntr (ntr (ntr e12.next e18.next) e34.next) e40.next) e52.next) e58.next))))))
     have u178 := (u112.frS e141 (Dj.app (hf19.djn (h_st_7.ltF.le e12.next)) (Dj.app (hf41.djn (h_st_7.ltF.le (ntr (ntr e12.next e18.next) e34.next))) (i88.dj (hf59.djn (h_st_7.ltF.le (ntr (ntr (ntr (ntr e12.next e18.next) e34.next) e40.next) e52.next))) (h_st_7.ltF.le (ntr (ntr (ntr (ntr (ntr e12.next e18.next) e34.next) e40.next) e52.next) e58.next))))))
     obtain ⟨y179, hy180, r181⟩ := bind_some r174
     refine s_ck 90 #[pt_ b_st_7 0, i_ (gt st_2 j0)] (by kernel_rfl) (c_stamp_Stamp_Get e141.wf u177 u178 hy180) ?_
     rintro _ _ ⟨rfl, rfl⟩
     refine q_ (.tuple #[.int .u64 y179.1, .bool y179.2]) ?_
     refine q_ (.int .u64 y179.1) ?_
     refine q_ (.bool y179.2) ?_
     refine q_ (.int .u64 y179.1) ?_
     refine q_ (.bool y179.2) ?_
     refine s_nil (k176 _ _ ?_)
     refine w_seqk fun _ k184 => ?_
     obtain ⟨o185, hx186, r187⟩ := bind_some r181
     refine w_mid (fun α H188 => Has α [(0, pt_ b_st 0), (5, .slice a21 n22 c23), (6, .slice a43 n44 c45), (7, .slice a158 n159 c160), (8, i_ i7), (9, i_ (gt list6 i7)), (10, .int .u64 y113.1), (12, i_ j0), (13, i_ (gt st_2 j0)), (109, .bool o185)] ∧ H140 = H188) (fun _ k190 => ?_) (fun α H188 hM => ?_)
     ·refine g_' ?_
      refine q_ (.slice a43 n44 c45) ?_
      refine q_ (i_ (gt st_2 j0)) ?_
      obtain ⟨g192, r193⟩ := G_some hx186
      refine l_' (elp (.slice a43 n44 c45) 1 (gt st_2 j0).toNat 0) (aIndexAddr Try.prog 25 (.slice a43 n44 c45) (i_ (gt st_2 j0))) (m145.sq.idxb (by kernel_rfl) g192.1 g192.2) ?_
      refine l_' (i_ (gt seen2 (gt st_2 j0))) (aLoad Try.prog 3 (elp (.slice a43 n44 c45) 1 (gt st_2 j0).toNat 0) H140) (m145.sq.ld g192.1 g192.2 (by kernel_rfl)) ?_
      refine s_b ((gt seen2 (gt st_2 j0)) = 0) (by kernel_rfl) (fun h194 => ?_) (fun h194 => ?_)
      ·have r195 := ite_t h194 r193
       refine q_ (.bool true) ?_
       refine q_ (.int .u64 y179.1) ?_
       refine q_ (.int .u64 y113.1) ?_
       refine q_ (pt_ b_st 0) ?_
       refine q_ (pt_ b_st 0) ?_
       refine q_ (pt_ b_st 0) ?_
       refine q_ (pt_ b_st 2) ?_
       refine l_' (hd_st_3) (aLoad Try.prog 25 (pt_ b_st 2) H140) (u163.ld (by kernel_rfl)) ?_
       refine q_ (i_ j0) ?_
       obtain ⟨g196, r197⟩ := G_some r195
       have u198 := ((((((u29.fr e34 Dj.nil_l).ext e40).fr e52 (hf41.djn (h_st_3.lt.le (ntr (ntr e12.next e18.next) e34.next)))).ext e58).fr e79 (Dj.app (hf19.djn (h_st_3.lt.le e12.next)) (Dj.app (hf41.djn (h_st_3.lt.le (ntr (ntr e12.next e18.next) e34.next))) (hf59.djn (h_st_3.lt.le (ntr (ntr (ntr (ntr e12.next e18.next) e34.next) e40.next) e52.next)))))).fr e141 (Dj.app (hf19.djn (h_st_3.lt.le e12.next)) (Dj.app (hf41.djn (h_st_3.lt.le (ntr (ntr e12.next e18.next) e34.next))) (i88.dj (hf59.djn (h_st_3.lt.le (ntr (ntr (ntr (ntr e12.next e18.next) e34.next) e40.next) e52.next))) (h_st_3.lt.le (ntr (ntr (ntr (ntr (ntr e12.next e18.next) e34.next) e40.next) e52.next) e58.next))))))
       refine l_' (elp hd_st_3 1 j0.toNat 0) (aIndexAddr Try.prog 25 hd_st_3 (i_ j0)) (u198.idxb (by kernel_rfl) g173.1 g196) ?_
       refine l_' (i_ (gt st_3 j0)) (aLoad Try.prog 3 (elp hd_st_3 1 j0.toNat 0) H140) (u198.ld g173.1 g196 (by kernel_rfl)) ?_
       obtain ⟨g199, r200⟩ := G_some r197
       refine s_w ((gt st_3 j0)) (k := .u64) (x := (gt st_3 j0)) (by kernel_rfl) (wrapu64 g199) ?_
       obtain ⟨g201, r202⟩ := G_some r200
       refine s_w ((y113.1 + (gt st_3 j0))) (k := .u64) (x := (y113.1 + (gt st_3 j0))) (by kernel_rfl) (wrapu64 g201) ?_
       refine q_ (.bool (decide (y179.1 = (y113.1 + (gt st_3 j0))))) ?_
       refine q_ (.bool (decide (y179.1 = (y113.1 + (gt st_3 j0))))) ?_
       refine s_nil ?_
       obtain rfl := Option.some.inj r202
       exact k190 _ _ ⟨ha_, rfl⟩
      have r203 := ite_f h194 r193
      refine q_ (.bool false) ?_
      refine n_' ?_
      refine n_' ?_
      refine n_' ?_
      refine n_' ?_
      refine n_' ?_
      refine n_' ?_
      refine n_' ?_
      refine n_' ?_
      refine n_' ?_
      refine n_' ?_
      refine n_' ?_
      refine n_' ?_
      refine n_' ?_
      refine q_ (.bool false) ?_
      refine s_nil ?_
      obtain rfl := Option.some.inj r203
      exact k190 _ _ ⟨ha_, rfl⟩
     obtain ⟨hh191, rfl⟩ := hM
     obtain ⟨β, rfl⟩ := has_ex hh191
     clear hh191
     refine k184 _ _ ?_
     refine w_cond (o185) (by kernel_rfl) rfl (fun h204 => ?_) (fun h204 => ?_)
     ·have r205 := ite_t h204 r187
      refine w_seqk fun _ k206 => ?_
      refine g_' ?_
      refine q_ (.slice a43 n44 c45) ?_
      refine q_ (i_ (gt st_2 j0)) ?_
      obtain ⟨g207, r208⟩ := G_some r205
      refine l_' (elp (.slice a43 n44 c45) 1 (gt st_2 j0).toNat 0) (aIndexAddr Try.prog 25 (.slice a43 n44 c45) (i_ (gt st_2 j0))) (m145.sq.idxb (by kernel_rfl) g207.1 g207.2) ?_
      obtain ⟨H209, q210, e211, hm212⟩ := Ow.store (P := Try.prog) (t := 3) (off := 0) e141.wf m145 g207.1 g207.2 (i_ 1) [i_ 1] (by kernel_rfl) (by kernel_rfl) rfl 1 (Nat.le_of_ble_eq_true rfl) (by kernel_rfl)
      refine s_ek (undef) (by kernel_rfl) (map_ok q210) ?_
      refine s_nil (k206 _ _ ?_)
      refine w_seqk fun _ k213 => ?_
      refine g_' ?_
      refine q_ (.slice a21 n22 c23) ?_
      refine q_ (i_ (gt st_2 j0)) ?_
      refine q_ (i_ (gt list6 i7)) ?_
      obtain ⟨g214, r215⟩ := G_some r208
      have u216 := (m143.fr e211 (hf41.djn (hm20.lt.le e34.next)))
      refine l_' (elp (.slice a21 n22 c23) 1 (gt st_2 j0).toNat 0) (aIndexAddr Try.prog 25 (.slice a21 n22 c23) (i_ (gt st_2 j0))) (u216.sq.idxb (by kernel_rfl) g207.1 g214) ?_
      obtain ⟨H217, q218, e219, hm220⟩ := Ow.store (P := Try.prog) (t := 3) (off := 0) e211.wf u216 g207.1 g214 (i_ (gt list6 i7)) [i_ (gt list6 i7)] (by kernel_rfl) (by kernel_rfl) rfl (gt list6 i7) (Nat.le_of_ble_eq_true rfl) (by kernel_rfl)
      refine s_ek (undef) (by kernel_rfl) (map_ok q218) ?_
      refine s_nil (k213 _ _ ?_)
      refine g_' ?_
      refine q_ (.slice a158 n159 c160) ?_
      refine q_ (i_ (gt st_2 j0)) ?_
      refine s_owk (enc := (encI .i64)) (sz := 1) e219.wf [(gt st_2 j0)] 1 (by decide) (fun _ _ => rfl) (fun _ _ => rfl) rfl (by kernel_rfl) fun s221 f222 H223 e224 hf225 hm226 => ?_
      obtain ⟨a227, n228, c229, rfl⟩ := hm226.form
      have u231 := (((m147.fr e211 (Dj.symm (i150.dj (i88.dj (hf59.djn (hm42.lt.le e52.next)) (hm42.lt.le (ntr e52.next e58.next))) (hm42.lt.le (ntr (ntr e52.next e58.next) e79.next))))).fr e219 (Dj.symm (i150.dj (i88.dj (hf59.djn (hm20.lt.le (ntr (ntr e34.next e40.next) e52.next))) (hm20.lt.le (ntr (ntr (ntr e34.next e40.next) e52.next) e58.next))) (hm20.lt.le (ntr (ntr (ntr (ntr e34.next e40.next) e52.next) e58.next) e79.next))))).ext e224)
      obtain ⟨g232, r233⟩ := G_some r215
      obtain ⟨s234, H235, f236, q240, e237, hm238, hf239⟩ := Ow.append (P := Try.prog) 8 e224.wf u231 hm226.sq (fun _ _ => rfl) (at_ := #[25, 25]) rfl rfl (by kernel_rfl) (by kernel_rfl) (by decide) (by have := g232; first | omega | (simp only [List.length_cons, List.length_nil] at this ⊢; omega) | (simp at this ⊢; omega))
      obtain ⟨a241, n242, c243, rfl⟩ := hm238.form
      refine s_ek (.slice a241 n242 c243) (by kernel_rfl) (q240) ?_
      refine q_ (.slice a241 n242 c243) ?_
      refine s_nil (k171 _ _ ?_)
      refine g_' ?_
      refine q_ (i_ j0) ?_
      obtain ⟨g245, r246⟩ := G_some r233
      refine s_w ((j0 + 1)) (k := .i64) (x := (j0 + 1)) (by kernel_rfl) (wrap64 (by have := g245; omega)) ?_
      refine q_ (i_ (j0 + 1)) ?_
      refine s_nil ?_
      have u247 := ((hm220.ext e224).fr e237 (i150.dj (i88.dj (hf59.djn (hm20.lt.le (ntr (ntr e34.next e40.next) e52.next))) (hm20.lt.le (ntr (ntr (ntr e34.next e40.next) e52.next) e58.next))) (hm20.lt.le (ntr (ntr (ntr (ntr e34.next e40.next) e52.next) e58.next) e79.next))))
      have u248 := (((hm212.fr e219 (Dj.symm (hf41.djn (hm20.lt.le e34.next)))).ext e224).fr e237 (i150.dj (i88.dj (hf59.djn (hm42.lt.le e52.next)) (hm42.lt.le (ntr e52.next e58.next))) (hm42.lt.le (ntr (ntr e52.next e58.next) e79.next))))
      obtain rfl := Option.some.inj r246
      exact k157 n153 _ _ (Nat.lt_succ_self _) ⟨(j0 + 1), (from1.set (gt st_2 j0).toNat (gt list6 i7)), (seen2.set (gt st_2 j0).toNat 1), (list3 ++ [(gt st_2 j0)]), (.slice a241 n242 c243), f236, hn156, ha_, (FrS.step e79.wf ((FrS.step e79.wf (FrS.step e79.wf (FrS.step e79.wf (FrS.refl (W := (f16 ++ (f38 ++ f87))) e79.wf) e141 (Inn.app Inn.left (Inn.app (Inn.right Inn.left) (Inn.right (Inn.right Inn.refl'))))) e211 (Inn.right Inn.left)) e219 Inn.left).extR e224) e237 (Inn.trans (Inn.right (Inn.right Inn.refl')) (Nat.le_refl _) i150)), u247, u248, hm238, (Inn.trans (Inn.trans Inn.refl' (Nat.le_refl _) i150) (ntr (ntr (ntr e141.next e211.next) e219.next) e224.next) hf239)⟩
     have r249 := ite_bf h204 r187
     refine w_skip ?_
     refine k171 _ _ ?_
     refine g_' ?_
     refine q_ (i_ j0) ?_
     obtain ⟨g250, r251⟩ := G_some r249
     refine s_w ((j0 + 1)) (k := .i64) (x := (j0 + 1)) (by kernel_rfl) (wrap64 (by have := g250; omega)) ?_
     refine q_ (i_ (j0 + 1)) ?_
     refine s_nil ?_
     obtain rfl := Option.some.inj r251
     exact k157 n153 _ _ (Nat.lt_succ_self _) ⟨(j0 + 1), from1, seen2, list3, (.slice a158 n159 c160), f149, hn156, ha_, (FrS.step e79.wf (FrS.refl (W := (f16 ++ (f38 ++ f87))) e79.wf) e141 (Inn.app Inn.left (Inn.app (Inn.right Inn.left) (Inn.right (Inn.right Inn.refl'))))), m143, m145, m147, (Inn.trans Inn.refl' (Nat.le_refl _) i150)⟩
    have r252 := ite_f h169 r167
    refine w_exit (th_exit (th_exit (bl_eq ?_)))
    obtain rfl := Option.some.inj r252
    obtain rfl := it_inr hn156
    exact k136 _ _ ⟨(.slice a158 n159 c160), f149, ha_, (FrS.step e79.wf (FrS.refl (W := (f16 ++ (f38 ++ f87))) e79.wf) e141 (Inn.app Inn.left (Inn.app (Inn.right Inn.left) (Inn.right (Inn.right Inn.refl'))))), m143, m145, m147, (Inn.trans Inn.refl' (Nat.le_refl _) i150)⟩
   obtain ⟨s133, f134, hh137, e126, m128, m130, m132, i135⟩ := hM
   obtain ⟨β, rfl⟩ := has_ex hh137
   clear hh137
   obtain ⟨a253, n254, c255, rfl⟩ := m132.form
   refine k105 _ _ ?_
   refine g_' ?_
   refine q_ (i_ i7) ?_
   obtain ⟨g256, r257⟩ := G_some r124
   refine s_w ((i7 + 1)) (k := .i64) (x := (i7 + 1)) (by kernel_rfl) (wrap64 (by have := g256; omega)) ?_
   refine q_ (i_ (i7 + 1)) ?_
   refine s_nil ?_
   obtain rfl := Option.some.inj r257
   exact k97 n91 _ _ (Nat.lt_succ_self _) ⟨o122.1, o122.2.1, o122.2.2, (i7 + 1), (.slice a253 n254 c255), f134, hn94, ha_, (FrS.step e58.wf (FrS.step e58.wf (FrS.refl (W := (f16 ++ (f38 ++ f56))) e58.wf) e79 (Inn.app Inn.left (Inn.app (Inn.right Inn.left) (Inn.right (Inn.right Inn.refl'))))) e126 (Inn.app Inn.left (Inn.app (Inn.right Inn.left) (Inn.trans (Inn.right (Inn.right Inn.refl')) (Nat.le_refl _) i88)))), m128, m130, m132, (Inn.trans (Inn.trans Inn.refl' (Nat.le_refl _) i88) e79.next i135)⟩
  have r258 := ite_f h103 hz93
  refine w_exit (th_exit (th_exit (bl_eq ?_)))
  obtain rfl := Option.some.inj r258
  obtain rfl := it_inr hn94
  exact k74 _ _ ⟨ha_, (FrS.step e58.wf (FrS.refl (W := (f16 ++ (f38 ++ f56))) e58.wf) e79 (Inn.app Inn.left (Inn.app (Inn.right Inn.left) (Inn.right (Inn.right Inn.refl'))))), m81⟩
 obtain ⟨hh75, e71, m73⟩ := hM
 obtain ⟨β, rfl⟩ := has_ex hh75
 clear hh75
 refine k65 _ _ ?_
 refine w_seqk fun _ k259 => ?_
 refine g_' ?_
 refine q_ (.slice a21 n22 c23) ?_
 refine q_ (.slice a21 n22 c23) ?_
 refine s_nil (k259 _ _ ?_)
 refine w_ret ?_
 refine b_ret (fn := Try.f63) (vs := [.slice a21 n22 c23]) (aRes_tmp (by kernel_rfl) (rfl)) ?_
 obtain rfl := Option.some.inj r69
 exact ⟨(.slice a21 n22 c23), f16, rfl, (FrS.step wf ((FrS.step wf ((FrS.step wf ((FrS.step wf (FrS.refl (W := []) wf) e12 Inn.nil).extR e18) e34 Inn.nil).extR e40) e52 (hf41.fresh (ntr (ntr e12.next e18.next) e34.next))).extR e58) e71 (Inn.app (hf19.fresh e12.next) (Inn.app (hf41.fresh (ntr (ntr e12.next e18.next) e34.next)) (hf59.fresh (ntr (ntr (ntr (ntr e12.next e18.next) e34.next) e40.next) e52.next))))), m73, (hf19.fresh e12.next)⟩

theorem c_slices_Reverse {H : AH} {hd_s : Value} {fp_s : Fp} {s : List (Int)} {r : List (Int)}
    (wf : WF H) (h_s : Ow (encI .i64) 1 H hd_s s fp_s) (hr : z_slices_Reverse s = some r) :
    ACalls Try.prog 64 #[hd_s] H fun v H' => v = .tuple #[] ∧ FrS fp_s H H' ∧ Ow (encI .i64) 1 H' hd_s r fp_s := by
 refine acalls_of_body mixed Try.func64 rfl (Nat.le_of_ble_eq_true rfl) ?_
 unfold z_slices_Reverse at hr
 refine w_seqk fun _ k3 => ?_
 refine g_' ?_
 refine q_ (hd_s) ?_
 refine l_' (i_ (s.length : Int)) (aLen Try.prog 25 hd_s H) (h_s.sq.lenb (by kernel_rfl)) ?_
 obtain ⟨g4, r5⟩ := G_some hr
 refine s_w (((s.length : Int) - 1)) (k := .i64) (x := ((s.length : Int) - 1)) (by kernel_rfl) (wrap64 g4) ?_
 refine q_ (i_ 0) ?_
 refine q_ (i_ ((s.length : Int) - 1)) ?_
 refine s_nil (k3 _ _ ?_)
 obtain ⟨o6, hx7, r8⟩ := bind_some r5
 refine w_mid (fun α H9 => Has α [] ∧ FrS fp_s H H9 ∧ Ow (encI .i64) 1 H9 hd_s o6 fp_s) (fun _ k13 => ?_) (fun α H9 hM => ?_)
 ·refine w_block ?_
  obtain ⟨n15, hn16⟩ := loopO_iff.1 hx7
  refine w_loopn (fun n α H17 => ∃ (s0 : List (Int)), ∃ (i1 : Int), ∃ (j2 : Int), iterO (fun zz_ => z_slices_Reverse_l0 zz_.1 zz_.2.1 zz_.2.2) n (s0, i1, j2) = some o6 ∧ Has α [(0, hd_s), (2, i_ i1), (3, i_ j2)] ∧ FrS fp_s H H17 ∧ Ow (encI .i64) 1 H17 hd_s s0 fp_s) n15 ⟨s, 0, ((s.length : Int) - 1), hn16, ha_, (FrS.refl (W := fp_s) wf), h_s⟩ ?_
  rintro n15 α H17 ⟨s0, i1, j2, hi22, hh21, e18, m20⟩ K27 k27
  obtain ⟨n23, z24, rfl, hz25, hn26⟩ := iter_succ hi22
  obtain ⟨β, rfl⟩ := has_ex hh21
  clear hh21
  replace hz25 : z_slices_Reverse_l0 s0 i1 j2 = some z24 := hz25
  unfold z_slices_Reverse_l0 at hz25
  refine w_seqk fun _ k28 => ?_
  refine w_seqk fun _ k29 => ?_
  refine g_' ?_
  refine q_ (i_ i1) ?_
  refine q_ (i_ j2) ?_
  refine q_ (.bool (decide (i1 < j2))) ?_
  refine s_nil (k29 _ _ ?_)
  refine w_condp (i1 < j2) (by kernel_rfl) rfl (fun h30 => ?_) (fun h30 => ?_)
  ·have r31 := ite_t h30 hz25
   refine w_skip ?_
   refine k28 _ _ ?_
   refine w_seqk fun _ k32 => ?_
   refine w_block ?_
   refine w_draw [0, 1, 2, 3, 4, 5, 6, 7, 8, 9, 10, 11, 12, 13, 14, 15] (by kernel_rfl) ?_
   refine e_' (hd_s) ?_
   refine e_' (i_ i1) ?_
   refine e_' (hd_s) ?_
   refine e_' (i_ j2) ?_
   refine e_' (hd_s) ?_
   refine e_' (i_ j2) ?_
   obtain ⟨g33, r34⟩ := G_some r31
   refine m_' (elp hd_s 1 j2.toNat 0) (aIndexAddr Try.prog 25 hd_s (i_ j2)) (m20.sq.idxb (by kernel_rfl) g33.1 g33.2) ?_
   refine m_' (i_ (gt s0 j2)) (aLoad Try.prog 3 (elp hd_s 1 j2.toNat 0) H17) (m20.sq.ld g33.1 g33.2 (by kernel_rfl)) ?_
   refine e_' (hd_s) ?_
   refine e_' (i_ i1) ?_
   obtain ⟨g35, r36⟩ := G_some r34
   refine m_' (elp hd_s 1 i1.toNat 0) (aIndexAddr Try.prog 25 hd_s (i_ i1)) (m20.sq.idxb (by kernel_rfl) g35.1 g35.2) ?_
   refine m_' (i_ (gt s0 i1)) (aLoad Try.prog 3 (elp hd_s 1 i1.toNat 0) H17) (m20.sq.ld g35.1 g35.2 (by kernel_rfl)) ?_
   refine m_' (elp hd_s 1 i1.toNat 0) (aIndexAddr Try.prog 25 hd_s (i_ i1)) (m20.sq.idxb (by kernel_rfl) g35.1 g35.2) ?_
   obtain ⟨H37, q38, e39, hm40⟩ := Ow.store (P := Try.prog) (t := 3) (off := 0) e18.wf m20 g35.1 g35.2 (i_ (gt s0 j2)) [i_ (gt s0 j2)] (by kernel_rfl) (by kernel_rfl) rfl (gt s0 j2) (Nat.le_of_ble_eq_true rfl) (by kernel_rfl)
   refine d_ek (undef) (by kernel_rfl) (map_ok q38) (st_nil) ?_
   obtain ⟨g41, r42⟩ := G_some r36
   refine m_' (elp hd_s 1 j2.toNat 0) (aIndexAddr Try.prog 25 hd_s (i_ j2)) (hm40.sq.idxb (by kernel_rfl) g33.1 g41) ?_
   obtain ⟨H43, q44, e45, hm46⟩ := Ow.store (P := Try.prog) (t := 3) (off := 0) e39.wf hm40 g33.1 g41 (i_ (gt s0 i1)) [i_ (gt s0 i1)] (by kernel_rfl) (by kernel_rfl) rfl (gt s0 i1) (Nat.le_of_ble_eq_true rfl) (by kernel_rfl)
   refine d_ek (undef) (by kernel_rfl) (map_ok q44) (st_nil) ?_
   refine d_nil ?_
   refine k32 _ _ ?_
   refine g_' ?_
   refine q_ (i_ i1) ?_
   obtain ⟨g47, r48⟩ := G_some r42
   refine s_w ((i1 + 1)) (k := .i64) (x := (i1 + 1)) (by kernel_rfl) (wrap64 (by have := g47; omega)) ?_
   refine q_ (i_ j2) ?_
   obtain ⟨g49, r50⟩ := G_some r48
   refine s_w ((j2 - 1)) (k := .i64) (x := (j2 - 1)) (by kernel_rfl) (wrap64 g49) ?_
   refine q_ (i_ (i1 + 1)) ?_
   refine q_ (i_ (j2 - 1)) ?_
   refine s_nil ?_
   obtain rfl := Option.some.inj r50
   exact k27 n23 _ _ (Nat.lt_succ_self _) ⟨((s0.set i1.toNat (gt s0 j2)).set j2.toNat (gt s0 i1)), (i1 + 1), (j2 - 1), hn26, ha_, (FrS.step wf (FrS.step wf (FrS.step wf (FrS.refl (W := fp_s) wf) e18 Inn.refl') e39 Inn.refl') e45 Inn.refl'), hm46⟩
  have r51 := ite_f h30 hz25
  refine w_exit (th_exit (th_exit (bl_eq ?_)))
  obtain rfl := Option.some.inj r51
  obtain rfl := it_inr hn26
  exact k13 _ _ ⟨trivial, (FrS.step wf (FrS.refl (W := fp_s) wf) e18 Inn.refl'), m20⟩
 obtain ⟨hh14, e10, m12⟩ := hM
 obtain ⟨β, rfl⟩ := has_ex hh14
 clear hh14
 refine b_nrm (fn := Try.f64) (vs := []) (rfl) ?_
 obtain rfl := Option.some.inj r8
 exact ⟨rfl, (FrS.step wf (FrS.refl (W := fp_s) wf) e10 Inn.refl'), m12⟩

theorem c_search_Path {H : AH} {hd_First : Value} {fp_First : Fp} {hd_To : Value} {fp_To : Fp} {hd_Weight : Value} {fp_Weight : Fp} {First : List (Int)} {To : List (Int)} {Weight : List (Int)} {s : Int} {t : Int} {r : List (Int) × Er}
    (wf : WF H) (h_First : Sq (encI .i64) 1 H hd_First First fp_First) (h_To : Sq (encI .i64) 1 H hd_To To fp_To) (h_Weight : Sq (encI .i64) 1 H hd_Weight Weight fp_Weight) (hr : z_search_Path First To Weight s t = some r) :
    ACalls Try.prog 15 #[.agg #[hd_First, hd_To, hd_Weight], i_ s, i_ t] H fun v H' => ∃ (s3 : Value) (f4 : Fp) (v7 : Value) (f8 : Fp), v = .tuple #[s3, v7] ∧ FrS [] H H' ∧ Ow (encI .i64) 1 H' s3 r.1 f4 ∧ Ev 101 152 H' v7 r.2 f8 ∧ Inn [] H f4 ∧ Inn [] H f8 ∧ Dj f4 f8 := by
 refine acalls_of_body mixed Try.func15 rfl (Nat.le_of_ble_eq_true rfl) ?_
 unfold z_search_Path at hr
 refine w_seqk fun _ k12 => ?_
 refine g_' ?_
 refine s_rwl wf [hd_First, hd_To, hd_Weight] (one_cons (h_First.one1) (one_cons (h_To.one1) (one_cons (h_Weight.one1) (one_nil)))) (by kernel_rfl) fun b13 H14 e15 hb16 r17 => ?_
 refine q_ (.slice none 0 0) ?_
 refine q_ (.nilIface) ?_
 refine s_nil (k12 _ _ ?_)
 refine w_seqk fun _ k19 => ?_
 refine w_seqk fun _ k20 => ?_
 refine g_' ?_
 refine l_' (.agg #[hd_First, hd_To, hd_Weight]) (aLoad Try.prog 27 (pt_ b13 0) H14) (r17.ld (by kernel_rfl)) ?_
 refine q_ (i_ s) ?_
 refine q_ (i_ t) ?_
 refine s_owk (enc := (encI .i64)) (sz := 1) e15.wf [s, t] 2 (by decide) (fun _ _ => rfl) (fun _ _ => rfl) rfl (by kernel_rfl) fun s21 f22 H23 e24 hf25 hm26 => ?_
 obtain ⟨a27, n28, c29, rfl⟩ := hm26.form
 have u31 := ((h_First.ext e15).ext e24)
 have u32 := ((h_To.ext e15).ext e24)
 have u33 := ((h_Weight.ext e15).ext e24)
 obtain ⟨y34, hy35, r36⟩ := bind_some hr
 refine s_ck 62 #[.agg #[hd_First, hd_To, hd_Weight], .slice a27 n28 c29] (by kernel_rfl) (c_search_node e24.wf u31 u32 u33 hm26.sq hy35) ?_
 rintro v37 H39 ⟨_, f38, rfl, e40, m41, i42⟩
 refine q_ (v37) ?_
 refine s_nil (k20 _ _ ?_)
 refine w_seqk fun _ k44 => ?_
 refine g_' ?_
 refine q_ (v37) ?_
 rcases (m41).cases with ⟨h45, rfl⟩ | ⟨h45, t46, x47, rfl⟩
 ·have r48 := ite_t h45 r36
  refine q_ (.bool false) ?_
  refine s_nil (k44 _ _ ?_)
  refine w_cond false (by kernel_rfl) rfl (fun h => by cases h) (fun _ => ?_)
  refine w_skip ?_
  refine k19 _ _ ?_
  refine w_seqk fun _ k49 => ?_
  refine w_draw [0, 1, 2, 3, 4] (by kernel_rfl) ?_
  have u50 := ((r17.ext e24).frS e40 Dj.nil_l)
  refine d_fl (.agg #[hd_First, hd_To, hd_Weight]) (x := aLoad Try.prog 27 (pt_ b13 0) H39) (by kernel_rfl) (u50.ld (by kernel_rfl)) ?_
  refine e_' (i_ s) ?_
  obtain ⟨y51, hy52, r53⟩ := bind_some r48
  refine d_ck 60 #[] (by kernel_rfl) (c_search_free e40.wf hy52) ?_
  rintro _ H54 ⟨rfl, e55⟩
  have u56 := (u50.frS e55 Dj.nil_l)
  refine ⟨st_ql (y := aLoad Try.prog 27 (pt_ b13 0) H54) (by kernel_rfl) (u56.ld (by kernel_rfl)) (st_nil), ?_⟩
  have u57 := ((u31.fr e40 Dj.nil_l).fr e55 Dj.nil_l)
  have u58 := ((u32.fr e40 Dj.nil_l).fr e55 Dj.nil_l)
  have u59 := ((u33.fr e40 Dj.nil_l).fr e55 Dj.nil_l)
  obtain ⟨y60, hy61, r62⟩ := bind_some r53
  refine d_ck 59 #[.agg #[hd_First, hd_To, hd_Weight], i_ s, .agg #[i_ 4611686018427387904, i_ 4611686018427387904, .int .u64 18446744073709551615]] (by kernel_rfl) (c_search_run e55.wf u57 u58 u59 hy61) ?_
  rintro _ H76 ⟨s63, f64, s65, f66, b67, s68, f69, b70, s71, f72, s73, f74, b75, rfl, e77, m78, m79, m80, m81, m82, m83, m84, m85, i86, i87, i88, i89, i90, i91, i92, i93, d94, d95, d96, d97, d98, d99, d100, d101, d102, d103, d104, d105, d106, d107, d108, d109, d110, d111, d112, d113, d114, d115, d116, d117, d118, d119, d120, d121⟩
  obtain ⟨a130, n131, c132, rfl⟩ := m78.form
  obtain ⟨a133, n134, c135, rfl⟩ := m79.form
  obtain ⟨a136, n137, c138, rfl⟩ := m81.form
  obtain ⟨a139, n140, c141, rfl⟩ := m83.form
  obtain ⟨a142, n143, c144, rfl⟩ := m84.form
  refine ⟨st_anc (by kernel_rfl) (st_nil), ?_⟩
  refine e_' (pt_ b75 0) ?_
  refine d_nil ?_
  refine k49 _ _ ?_
  refine w_seqk fun _ k145 => ?_
  refine w_seqk fun _ k146 => ?_
  refine g_' ?_
  refine q_ (pt_ b75 0) ?_
  refine q_ (pt_ b75 0) ?_
  refine q_ (pt_ b75 6) ?_
  refine l_' (.slice a142 n143 c144) (aLoad Try.prog 116 (pt_ b75 6) H76) (m85.ld (by kernel_rfl)) ?_
  refine q_ (i_ t) ?_
  obtain ⟨g147, r148⟩ := G_some r62
  refine l_' (elp (.slice a142 n143 c144) 1 t.toNat 0) (aIndexAddr Try.prog 116 (.slice a142 n143 c144) (i_ t)) (m84.sq.idxb (by kernel_rfl) g147.1 g147.2) ?_
  refine l_' (.bool (gt y60.2.2.2.2.2.2 t)) (aLoad Try.prog 4 (elp (.slice a142 n143 c144) 1 t.toNat 0) H76) (m84.sq.ld g147.1 g147.2 (by kernel_rfl)) ?_
  refine q_ (.bool (!(gt y60.2.2.2.2.2.2 t))) ?_
  refine s_nil (k146 _ _ ?_)
  refine w_cond ((!(gt y60.2.2.2.2.2.2 t))) (by kernel_rfl) rfl (fun h149 => ?_) (fun h149 => ?_)
  ·have r150 := ite_t h149 r148
   refine w_seqk fun _ k151 => ?_
   refine g_' ?_
   refine q_ (.iface 101 (i_ 16)) ?_
   refine q_ (.slice none 0 0) ?_
   refine q_ (.iface 101 (i_ 16)) ?_
   refine s_nil (k151 _ _ ?_)
   refine w_ret (th_ret ?_)
   refine b_ret (fn := Try.f15) (vs := [.slice none 0 0, .iface 101 (i_ 16)]) (aRes_tmp (by kernel_rfl) (aRes_tmp (by kernel_rfl) (rfl))) ?_
   obtain rfl := Option.some.inj r150
   exact ⟨(.slice none 0 0), [], (.iface 101 (i_ 16)), [], rfl, (FrS.step wf (FrS.step wf (FrS.step wf (((FrS.refl (W := []) wf).extR e15).extR e24) e40 Inn.nil) e55 Inn.nil) e77 Inn.nil), (Ow.nil (by decide)), Ev.no, Inn.nil, Inn.nil, Dj.nil_l⟩
  have r152 := ite_bf h149 r148
  refine w_skip ?_
  refine k145 _ _ ?_
  refine w_seqk fun _ k153 => ?_
  refine g_' ?_
  refine q_ (pt_ b75 0) ?_
  refine q_ (i_ s) ?_
  have u154 := (u57.fr e77 Dj.nil_l)
  have u155 := (u58.fr e77 Dj.nil_l)
  have u156 := (u59.fr e77 Dj.nil_l)
  obtain ⟨y157, hy158, r159⟩ := bind_some r152
  refine s_ck 63 #[pt_ b75 0, i_ s] (by kernel_rfl) (c_search_state_parents e77.wf u154 u155 u156 m78.sq m79.sq m80 m81.sq m82 m83.sq m84.sq m85 hy158) ?_
  rintro s160 H162 ⟨_, f161, rfl, e163, m164, i165⟩
  obtain ⟨a167, n168, c169, rfl⟩ := m164.form
  refine q_ (.slice a167 n168 c169) ?_
  refine s_nil (k153 _ _ ?_)
  refine w_seqk fun _ k170 => ?_
  refine g_' ?_
  refine q_ (i_ t) ?_
  refine s_owk (enc := (encI .i64)) (sz := 1) e163.wf [t] 1 (by decide) (fun _ _ => rfl) (fun _ _ => rfl) rfl (by kernel_rfl) fun s171 f172 H173 e174 hf175 hm176 => ?_
  obtain ⟨a177, n178, c179, rfl⟩ := hm176.form
  refine q_ (.slice a177 n178 c179) ?_
  refine s_nil (k170 _ _ ?_)
  refine w_seqk fun _ k181 => ?_
  refine w_seqk fun _ k182 => ?_
  refine g_' ?_
  refine q_ (i_ t) ?_
  refine q_ (i_ t) ?_
  refine s_nil (k182 _ _ ?_)
  obtain ⟨o183, hx184, r185⟩ := bind_some r159
  refine w_mid (fun α H186 => ∃ (s190 : Value) (f191 : Fp), Has α [(11, s190)] ∧ FrS f172 H173 H186 ∧ Ow (encI .i64) 1 H186 s190 o183 f191 ∧ Inn f172 H173 f191) (fun _ k193 => ?_) (fun α H186 hM => ?_)
  ·refine w_block ?_
   obtain ⟨n195, hn196⟩ := loopO_iff.1 hx184
   refine w_loopn (fun n α H197 => ∃ (l0 : List (Int)), ∃ (v1 : Int), ∃ (s201 : Value), ∃ (f202 : Fp), iterO (fun zz_ => z_search_Path_l0 s y157 zz_.1 zz_.2) n (l0, v1) = some o183 ∧ Has α [(1, i_ s), (10, .slice a167 n168 c169), (11, s201), (12, i_ v1)] ∧ FrS f172 H173 H197 ∧ Ow (encI .i64) 1 H197 s201 l0 f202 ∧ Inn f172 H173 f202) n195 ⟨[t], t, (.slice a177 n178 c179), f172, hn196, ha_, (FrS.refl (W := f172) e174.wf), hm176, Inn.refl'⟩ ?_
   rintro n195 α H197 ⟨l0, v1, s201, f202, hi205, hh204, e198, m200, i203⟩ K210 k210
   obtain ⟨n206, z207, rfl, hz208, hn209⟩ := iter_succ hi205
   obtain ⟨β, rfl⟩ := has_ex hh204
   clear hh204
   replace hz208 : z_search_Path_l0 s y157 l0 v1 = some z207 := hz208
   unfold z_search_Path_l0 at hz208
   obtain ⟨a211, n212, c213, rfl⟩ := m200.form
   refine w_seqk fun _ k214 => ?_
   refine w_seqk fun _ k215 => ?_
   refine g_' ?_
   refine q_ (i_ v1) ?_
   refine q_ (i_ s) ?_
   refine q_ (.bool (!decide (v1 = s))) ?_
   refine s_nil (k215 _ _ ?_)
   refine w_condn (v1 = s) (by kernel_rfl) rfl (fun h216 => ?_) (fun h216 => ?_)
   ·have r217 := ite_f h216 hz208
    refine w_skip ?_
    refine k214 _ _ ?_
    refine w_block ?_
    refine w_seqk fun _ k218 => ?_
    refine g_' ?_
    refine q_ (.slice a167 n168 c169) ?_
    refine q_ (i_ v1) ?_
    obtain ⟨g219, r220⟩ := G_some r217
    have u221 := ((m164.ext e174).fr e198 (hf175.djn m164.lt))
    refine l_' (elp (.slice a167 n168 c169) 1 v1.toNat 0) (aIndexAddr Try.prog 25 (.slice a167 n168 c169) (i_ v1)) (u221.sq.idxb (by kernel_rfl) g219.1 g219.2) ?_
    refine l_' (i_ (gt y157 v1)) (aLoad Try.prog 3 (elp (.slice a167 n168 c169) 1 v1.toNat 0) H197) (u221.sq.ld g219.1 g219.2 (by kernel_rfl)) ?_
    refine q_ (i_ (gt y157 v1)) ?_
    refine s_nil (k218 _ _ ?_)
    refine g_' ?_
    refine q_ (.slice a211 n212 c213) ?_
    refine q_ (i_ (gt y157 v1)) ?_
    refine s_owk (enc := (encI .i64)) (sz := 1) e198.wf [(gt y157 v1)] 1 (by decide) (fun _ _ => rfl) (fun _ _ => rfl) rfl (by kernel_rfl) fun s222 f223 H224 e225 hf226 hm227 => ?_
    obtain ⟨a228, n229, c230, rfl⟩ := hm227.form
    have u232 := (m200.ext e225)
    obtain ⟨g233, r234⟩ := G_some r220
    obtain ⟨s235, H236, f237, q241, e238, hm239, hf240⟩ := Ow.append (P := Try.prog) 8 e225.wf u232 hm227.sq (fun _ _ => rfl) (at_ := #[25, 25]) rfl rfl (by kernel_rfl) (by kernel_rfl) (by decide) (by have := g233; first | omega | (simp only [List.length_cons, List.length_nil] at this ⊢; omega) | (simp at this ⊢; omega))
    obtain ⟨a242, n243, c244, rfl⟩ := hm239.form
    refine s_ek (.slice a242 n243 c244) (by kernel_rfl) (q241) ?_
    refine q_ (.slice a242 n243 c244) ?_
    refine s_nil ?_
    obtain rfl := Option.some.inj r234
    exact k210 n206 _ _ (Nat.lt_succ_self _) ⟨(l0 ++ [(gt y157 v1)]), (gt y157 v1), (.slice a242 n243 c244), f237, hn209, ha_, (FrS.step e174.wf ((FrS.step e174.wf (FrS.refl (W := f172) e174.wf) e198 Inn.refl').extR e225) e238 (Inn.trans Inn.refl' (Nat.le_refl _) i203)), hm239, (Inn.trans (Inn.trans Inn.refl' (Nat.le_refl _) i203) (ntr e198.next e225.next) hf240)⟩
   have r246 := ite_t h216 hz208
   refine w_exit (th_exit (th_exit (bl_eq ?_)))
   obtain rfl := Option.some.inj r246
   obtain rfl := it_inr hn209
   exact k193 _ _ ⟨(.slice a211 n212 c213), f202, ha_, (FrS.step e174.wf (FrS.refl (W := f172) e174.wf) e198 Inn.refl'), m200, (Inn.trans Inn.refl' (Nat.le_refl _) i203)⟩
  obtain ⟨s190, f191, hh194, e187, m189, i192⟩ := hM
  obtain ⟨β, rfl⟩ := has_ex hh194
  clear hh194
  obtain ⟨a247, n248, c249, rfl⟩ := m189.form
  refine k181 _ _ ?_
  refine w_seqk fun _ k250 => ?_
  refine g_' ?_
  refine q_ (.slice a247 n248 c249) ?_
  obtain ⟨y251, hy252, r253⟩ := bind_some r185
  refine s_ck 64 #[.slice a247 n248 c249] (by kernel_rfl) (c_slices_Reverse e187.wf m189 hy252) ?_
  rintro _ H254 ⟨rfl, e255, m256⟩
  refine s_nil (k250 _ _ ?_)
  refine w_seqk fun _ k257 => ?_
  refine g_' ?_
  refine q_ (.slice a247 n248 c249) ?_
  refine q_ (.slice a247 n248 c249) ?_
  refine q_ (.nilIface) ?_
  refine s_nil (k257 _ _ ?_)
  refine w_ret ?_
  refine b_ret (fn := Try.f15) (vs := [.slice a247 n248 c249, .nilIface]) (aRes_tmp (by kernel_rfl) (aRes_tmp (by kernel_rfl) (rfl))) ?_
  obtain rfl := Option.some.inj r253
  exact ⟨(.slice a247 n248 c249), f191, (.nilIface), [], rfl, (FrS.step wf (FrS.step wf ((FrS.step wf (FrS.step wf (FrS.step wf (FrS.step wf (((FrS.refl (W := []) wf).extR e15).extR e24) e40 Inn.nil) e55 Inn.nil) e77 Inn.nil) e163 Inn.nil).extR e174) e187 (hf175.fresh (ntr (ntr (ntr (ntr (ntr e15.next e24.next) e40.next) e55.next) e77.next) e163.next))) e255 (Inn.trans (hf175.fresh (ntr (ntr (ntr (ntr (ntr e15.next e24.next) e40.next) e55.next) e77.next) e163.next)) (ntr (ntr (ntr (ntr (ntr (ntr e15.next e24.next) e40.next) e55.next) e77.next) e163.next) e174.next) i192)), m256, Ev.nil, (Inn.trans (hf175.fresh (ntr (ntr (ntr (ntr (ntr e15.next e24.next) e40.next) e55.next) e77.next) e163.next)) (ntr (ntr (ntr (ntr (ntr (ntr e15.next e24.next) e40.next) e55.next) e77.next) e163.next) e174.next) i192), Inn.nil, Dj.nil_r⟩
 have r258 := ite_f h45 r36
 refine l_' (.bool true) (aBin Try.prog .neq 29 (.tmp 18) (.const .nilIface) (.iface t46 x47) .nilIface) (aBin_nnil (by kernel_rfl)) ?_
 refine s_nil (k44 _ _ ?_)
 refine w_cond true (by kernel_rfl) rfl (fun _ => ?_) (fun h => by cases h)
 refine w_seqk fun _ k259 => ?_
 refine g_' ?_
 refine q_ (.iface t46 x47) ?_
 refine q_ (.slice none 0 0) ?_
 refine q_ (.iface t46 x47) ?_
 refine s_nil (k259 _ _ ?_)
 refine w_ret (th_ret ?_)
 refine b_ret (fn := Try.f15) (vs := [.slice none 0 0, .iface t46 x47]) (aRes_tmp (by kernel_rfl) (aRes_tmp (by kernel_rfl) (rfl))) ?_
 obtain rfl := Option.some.inj r258
 exact ⟨(.slice none 0 0), [], (.iface t46 x47), f38, rfl, (FrS.step wf (((FrS.refl (W := []) wf).extR e15).extR e24) e40 Inn.nil), (Ow.nil (by decide)), m41, Inn.nil, (i42.fresh (ntr e15.next e24.next)), Dj.nil_l⟩

theorem c_slices_Grow {H : AH} {n_ : Int} {r : List (Int)}
    (wf : WF H) (hr : z_slices_Grow n_ = some r) :
    ACalls Try.prog 103 #[.slice none 0 0, i_ n_] H fun v H' => ∃ (s3 : Value) (f4 : Fp), v = s3 ∧ FrS [] H H' ∧ Ow (encI .i64) 1 H' s3 r f4 ∧ Inn [] H f4 := by
 refine acalls_of_body mixed Try.func103 rfl (Nat.le_of_ble_eq_true rfl) ?_
 unfold z_slices_Grow at hr
 refine w_seqk fun _ k6 => ?_
 refine g_' ?_
 refine q_ (.slice none 0 0) ?_
 refine s_nil (k6 _ _ ?_)
 refine w_seqk fun _ k7 => ?_
 refine w_seqk fun _ k8 => ?_
 refine g_' ?_
 refine q_ (i_ n_) ?_
 refine q_ (.bool (decide (n_ < 0))) ?_
 refine s_nil (k8 _ _ ?_)
 refine w_condp (n_ < 0) (by kernel_rfl) rfl (fun h9 => ?_) (fun h9 => ?_)
 ·have r10 := ite_t h9 hr
  refine g_' ?_
  refine q_ (.iface 9 (.string ⟨#[99, 97, 110, 110, 111, 116, 32, 98, 101, 32, 110, 101, 103, 97, 116, 105, 118, 101]⟩)) ?_
  exact (no_none r10).elim
 have r11 := ite_f h9 hr
 refine w_skip ?_
 refine k7 _ _ ?_
 refine w_seqk fun _ k12 => ?_
 refine w_seqk fun _ k13 => ?_
 refine g_' ?_
 refine q_ (i_ n_) ?_
 refine q_ (.slice none 0 0) ?_
 refine q_ (i_ 0) ?_
 refine q_ (.slice none 0 0) ?_
 refine q_ (i_ 0) ?_
 refine q_ (i_ 0) ?_
 obtain ⟨g14, r15⟩ := G_some r11
 refine s_w ((n_ - 0)) (k := .i64) (x := (n_ - 0)) (by kernel_rfl) (wrap64 g14) ?_
 refine q_ (i_ (n_ - 0)) ?_
 refine s_nil (k13 _ _ ?_)
 refine w_seqk fun _ k16 => ?_
 refine g_' ?_
 refine q_ (i_ (n_ - 0)) ?_
 refine q_ (.bool (decide ((n_ - 0) > 0))) ?_
 refine s_nil (k16 _ _ ?_)
 refine w_condp ((n_ - 0) > 0) (by kernel_rfl) rfl (fun h17 => ?_) (fun h17 => ?_)
 ·have r18 := ite_t h17 r15
  refine g_' ?_
  refine q_ (.slice none 0 0) ?_
  refine q_ (.slice none 0 0) ?_
  refine q_ (i_ 0) ?_
  refine q_ (.slice none 0 0) ?_
  refine q_ (i_ (n_ - 0)) ?_
  obtain ⟨g19, r20⟩ := G_some r18
  have q27_ := g19
  obtain ⟨s21, H22, f23, q27, e24, hm25, hf26⟩ := Ow.appendZ (P := Try.prog) (m := 8) (k := .i64) (k1 := .i64) (n := (n_ - 0)) (at_ := #[25, 3]) (0 : Int) wf (Ow.nil (enc := (encI .i64)) (sz := 1) (by decide)) rfl rfl (by kernel_rfl) (by kernel_rfl) (by decide) q27_.1 (by omega) (by have := q27_; omega) (by have := q27_; first | omega | (simp only [List.length_nil] at this ⊢; omega))
  obtain ⟨a28, n29, c30, rfl⟩ := hm25.form
  refine s_ek (.slice a28 n29 c30) (by kernel_rfl) (q27) ?_
  refine q_ (.slice none 0 0) ?_
  refine q_ (i_ 0) ?_
  obtain ⟨g32, r33⟩ := G_some r20
  obtain ⟨s34, q35, hs36⟩ := Ow.head (P := Try.prog) hm25 (t := 25) (by kernel_rfl) (hi := (some (i_ 0))) (r := (0 : Int).toNat) (aBound_int _ (by have := g32; omega)) (by have := g32; omega)
  obtain ⟨a37, n38, c39, rfl⟩ := hs36.form
  refine s_ql (.slice a37 n38 c39) (by kernel_rfl) q35 ?_
  refine q_ (.slice a37 n38 c39) ?_
  refine s_nil (k12 _ _ ?_)
  refine w_seqk fun _ k41 => ?_
  refine g_' ?_
  refine q_ (.slice a37 n38 c39) ?_
  refine q_ (.slice a37 n38 c39) ?_
  refine s_nil (k41 _ _ ?_)
  refine w_ret ?_
  refine b_ret (fn := Try.f103) (vs := [.slice a37 n38 c39]) (aRes_tmp (by kernel_rfl) (rfl)) ?_
  obtain rfl := Option.some.inj r33
  exact ⟨(.slice a37 n38 c39), f23, rfl, (FrS.step wf (FrS.refl (W := []) wf) e24 Inn.nil), hs36, (hf26.fresh (Nat.le_refl _))⟩
 have r42 := ite_f h17 r15
 refine w_skip ?_
 refine k12 _ _ ?_
 refine w_seqk fun _ k43 => ?_
 refine g_' ?_
 refine q_ (.slice none 0 0) ?_
 refine q_ (.slice none 0 0) ?_
 refine s_nil (k43 _ _ ?_)
 refine w_ret ?_
 refine b_ret (fn := Try.f103) (vs := [.slice none 0 0]) (aRes_tmp (by kernel_rfl) (rfl)) ?_
 obtain rfl := Option.some.inj r42
 exact ⟨(.slice none 0 0), [], rfl, (FrS.refl (W := []) wf), (Ow.nil (by decide)), Inn.nil⟩

theorem c_slices_Concat {H : AH} {b_slices : Nat} {hd_slices_ : Value} {fp_slices_ : Fp} {hd_slices_2 : Value} {fp_slices_2 : Fp} {slices_ : List (Int)} {slices_2 : List (Int)} {r : List (Int)}
    (wf : WF H) (h_slices_ : Sq (encI .i64) 1 H hd_slices_ slices_ fp_slices_) (h_slices_2 : Sq (encI .i64) 1 H hd_slices_2 slices_2 fp_slices_2) (h_slices : Row H b_slices [hd_slices_, hd_slices_2]) (hr : z_slices_Concat slices_ slices_2 = some r) :
    ACalls Try.prog 65 #[.slice (some ⟨b_slices, 0, none⟩) 2 2] H fun v H' => ∃ (s3 : Value) (f4 : Fp), v = s3 ∧ FrS [] H H' ∧ Ow (encI .i64) 1 H' s3 r f4 ∧ Inn [] H f4 := by
 refine acalls_of_body mixed Try.func65 rfl (Nat.le_of_ble_eq_true rfl) ?_
 unfold z_slices_Concat at hr
 refine w_seqk fun _ k6 => ?_
 refine g_' ?_
 refine q_ (.slice none 0 0) ?_
 refine s_nil (k6 _ _ ?_)
 refine w_seqk fun _ k7 => ?_
 refine g_' ?_
 refine q_ (i_ 0) ?_
 refine s_nil (k7 _ _ ?_)
 refine w_seqk fun _ k8 => ?_
 refine w_seqk fun _ k9 => ?_
 refine g_' ?_
 refine q_ (.slice (some ⟨b_slices, 0, none⟩) 2 2) ?_
 refine q_ (i_ 2) ?_
 refine q_ (i_ 0) ?_
 refine s_nil (k9 _ _ ?_)
 refine w_block ?_
 refine w_unroll ?_
 refine w_seqk fun _ k10 => ?_
 refine g_' ?_
 refine q_ (.bool true) ?_
 refine s_nil (k10 _ _ ?_)
 refine w_seqk fun _ k11 => ?_
 refine w_cond true (by kernel_rfl) rfl (fun _ => ?_) (fun h => by cases h)
 refine w_skip ?_
 refine k11 _ _ ?_
 refine w_seqk fun _ k12 => ?_
 refine w_block ?_
 refine w_seqk fun _ k13 => ?_
 refine g_' ?_
 refine q_ (pt_ b_slices 0) ?_
 refine l_' (hd_slices_) (aLoad Try.prog 25 (pt_ b_slices 0) H) (h_slices.ld (by kernel_rfl)) ?_
 refine q_ (hd_slices_) ?_
 refine s_nil (k13 _ _ ?_)
 refine w_seqk fun _ k14 => ?_
 refine g_' ?_
 refine q_ (i_ 0) ?_
 refine q_ (hd_slices_) ?_
 refine l_' (i_ (slices_.length : Int)) (aLen Try.prog 25 hd_slices_ H) (h_slices_.lenb (by kernel_rfl)) ?_
 obtain ⟨g15, r16⟩ := G_some hr
 refine s_w ((0 + (slices_.length : Int))) (k := .i64) (x := (0 + (slices_.length : Int))) (by kernel_rfl) (wrap64 g15) ?_
 refine q_ (i_ (0 + (slices_.length : Int))) ?_
 refine s_nil (k14 _ _ ?_)
 refine w_seqk fun _ k17 => ?_
 refine g_' ?_
 refine q_ (i_ (0 + (slices_.length : Int))) ?_
 refine q_ (.bool (decide ((0 + (slices_.length : Int)) < 0))) ?_
 refine s_nil (k17 _ _ ?_)
 refine w_condp ((0 + (slices_.length : Int)) < 0) (by kernel_rfl) rfl (fun h18 => ?_) (fun h18 => ?_)
 ·have r19 := ite_t h18 r16
  refine g_' ?_
  refine q_ (.iface 9 (.string ⟨#[108, 101, 110, 32, 111, 117, 116, 32, 111, 102, 32, 114, 97, 110, 103, 101]⟩)) ?_
  exact (no_none r19).elim
 have r20 := ite_f h18 r16
 refine w_skip ?_
 refine k12 _ _ ?_
 refine g_' ?_
 refine q_ (i_ 1) ?_
 refine q_ (i_ 1) ?_
 refine s_nil ?_
 refine w_unroll ?_
 refine w_seqk fun _ k21 => ?_
 refine g_' ?_
 refine q_ (.bool true) ?_
 refine s_nil (k21 _ _ ?_)
 refine w_seqk fun _ k22 => ?_
 refine w_cond true (by kernel_rfl) rfl (fun _ => ?_) (fun h => by cases h)
 refine w_skip ?_
 refine k22 _ _ ?_
 refine w_seqk fun _ k23 => ?_
 refine w_block ?_
 refine w_seqk fun _ k24 => ?_
 refine g_' ?_
 refine q_ (pt_ b_slices 1) ?_
 refine l_' (hd_slices_2) (aLoad Try.prog 25 (pt_ b_slices 1) H) (h_slices.ld (by kernel_rfl)) ?_
 refine q_ (hd_slices_2) ?_
 refine s_nil (k24 _ _ ?_)
 refine w_seqk fun _ k25 => ?_
 refine g_' ?_
 refine q_ (i_ (0 + (slices_.length : Int))) ?_
 refine q_ (hd_slices_2) ?_
 refine l_' (i_ (slices_2.length : Int)) (aLen Try.prog 25 hd_slices_2 H) (h_slices_2.lenb (by kernel_rfl)) ?_
 obtain ⟨g26, r27⟩ := G_some r20
 refine s_w (((0 + (slices_.length : Int)) + (slices_2.length : Int))) (k := .i64) (x := ((0 + (slices_.length : Int)) + (slices_2.length : Int))) (by kernel_rfl) (wrap64 g26) ?_
 refine q_ (i_ ((0 + (slices_.length : Int)) + (slices_2.length : Int))) ?_
 refine s_nil (k25 _ _ ?_)
 refine w_seqk fun _ k28 => ?_
 refine g_' ?_
 refine q_ (i_ ((0 + (slices_.length : Int)) + (slices_2.length : Int))) ?_
 refine q_ (.bool (decide (((0 + (slices_.length : Int)) + (slices_2.length : Int)) < 0))) ?_
 refine s_nil (k28 _ _ ?_)
 refine w_condp (((0 + (slices_.length : Int)) + (slices_2.length : Int)) < 0) (by kernel_rfl) rfl (fun h29 => ?_) (fun h29 => ?_)
 ·have r30 := ite_t h29 r27
  refine g_' ?_
  refine q_ (.iface 9 (.string ⟨#[108, 101, 110, 32, 111, 117, 116, 32, 111, 102, 32, 114, 97, 110, 103, 101]⟩)) ?_
  exact (no_none r30).elim
 have r31 := ite_f h29 r27
 refine w_skip ?_
 refine k23 _ _ ?_
 refine g_' ?_
 refine q_ (i_ 2) ?_
 refine q_ (i_ 2) ?_
 refine s_nil ?_
 refine w_unroll ?_
 refine w_seqk fun _ k32 => ?_
 refine g_' ?_
 refine q_ (.bool false) ?_
 refine s_nil (k32 _ _ ?_)
 refine w_seqk fun _ k33 => ?_
 refine w_cond false (by kernel_rfl) rfl (fun h => by cases h) (fun _ => ?_)
 refine w_exit (th_exit (th_exit (bl_eq ?_)))
 refine k8 _ _ ?_
 refine w_seqk fun _ k34 => ?_
 refine g_' ?_
 refine q_ (i_ ((0 + (slices_.length : Int)) + (slices_2.length : Int))) ?_
 obtain ⟨y35, hy36, r37⟩ := bind_some r31
 refine s_ck 103 #[.slice none 0 0, i_ ((0 + (slices_.length : Int)) + (slices_2.length : Int))] (by kernel_rfl) (c_slices_Grow wf hy36) ?_
 rintro s38 H40 ⟨_, f39, rfl, e41, m42, i43⟩
 obtain ⟨a45, n46, c47, rfl⟩ := m42.form
 refine q_ (.slice a45 n46 c47) ?_
 refine s_nil (k34 _ _ ?_)
 refine w_seqk fun _ k48 => ?_
 refine w_seqk fun _ k49 => ?_
 refine g_' ?_
 refine q_ (.slice (some ⟨b_slices, 0, none⟩) 2 2) ?_
 refine q_ (i_ 2) ?_
 refine q_ (i_ 0) ?_
 refine s_nil (k49 _ _ ?_)
 refine w_block ?_
 refine w_unroll ?_
 refine w_seqk fun _ k50 => ?_
 refine g_' ?_
 refine q_ (.bool true) ?_
 refine s_nil (k50 _ _ ?_)
 refine w_seqk fun _ k51 => ?_
 refine w_cond true (by kernel_rfl) rfl (fun _ => ?_) (fun h => by cases h)
 refine w_skip ?_
 refine k51 _ _ ?_
 refine w_seqk fun _ k52 => ?_
 refine w_block ?_
 refine w_seqk fun _ k53 => ?_
 refine g_' ?_
 refine q_ (pt_ b_slices 0) ?_
 have u54 := (h_slices.frS e41 Dj.nil_l)
 refine l_' (hd_slices_) (aLoad Try.prog 25 (pt_ b_slices 0) H40) (u54.ld (by kernel_rfl)) ?_
 refine q_ (hd_slices_) ?_
 refine s_nil (k53 _ _ ?_)
 refine g_' ?_
 refine q_ (.slice a45 n46 c47) ?_
 refine q_ (hd_slices_) ?_
 obtain ⟨g55, r56⟩ := G_some r37
 have u64 := (h_slices_.fr e41 Dj.nil_l)
 obtain ⟨s57, H58, f59, q63, e60, hm61, hf62⟩ := Ow.append (P := Try.prog) 8 e41.wf m42 u64 (fun _ _ => rfl) (at_ := #[25, 25]) rfl rfl (by kernel_rfl) (by kernel_rfl) (by decide) (by have := g55; first | omega | (simp only [List.length_cons, List.length_nil] at this ⊢; omega) | (simp at this ⊢; omega))
 obtain ⟨a65, n66, c67, rfl⟩ := hm61.form
 refine s_ek (.slice a65 n66 c67) (by kernel_rfl) (q63) ?_
 refine q_ (.slice a65 n66 c67) ?_
 refine s_nil (k52 _ _ ?_)
 refine g_' ?_
 refine q_ (i_ 1) ?_
 refine q_ (i_ 1) ?_
 refine s_nil ?_
 refine w_unroll ?_
 refine w_seqk fun _ k69 => ?_
 refine g_' ?_
 refine q_ (.bool true) ?_
 refine s_nil (k69 _ _ ?_)
 refine w_seqk fun _ k70 => ?_
 refine w_cond true (by kernel_rfl) rfl (fun _ => ?_) (fun h => by cases h)
 refine w_skip ?_
 refine k70 _ _ ?_
 refine w_seqk fun _ k71 => ?_
 refine w_block ?_
 refine w_seqk fun _ k72 => ?_
 refine g_' ?_
 refine q_ (pt_ b_slices 1) ?_
 have u73 := (u54.frS e60 (i43.djn h_slices.ltF))
 refine l_' (hd_slices_2) (aLoad Try.prog 25 (pt_ b_slices 1) H58) (u73.ld (by kernel_rfl)) ?_
 refine q_ (hd_slices_2) ?_
 refine s_nil (k72 _ _ ?_)
 refine g_' ?_
 refine q_ (.slice a65 n66 c67) ?_
 refine q_ (hd_slices_2) ?_
 obtain ⟨g74, r75⟩ := G_some r56
 have u83 := ((h_slices_2.fr e41 Dj.nil_l).fr e60 (i43.djn h_slices_2.lt))
 obtain ⟨s76, H77, f78, q82, e79, hm80, hf81⟩ := Ow.append (P := Try.prog) 8 e60.wf hm61 u83 (fun _ _ => rfl) (at_ := #[25, 25]) rfl rfl (by kernel_rfl) (by kernel_rfl) (by decide) (by have := g74; first | omega | (simp only [List.length_cons, List.length_nil] at this ⊢; omega) | (simp at this ⊢; omega))
 obtain ⟨a84, n85, c86, rfl⟩ := hm80.form
 refine s_ek (.slice a84 n85 c86) (by kernel_rfl) (q82) ?_
 refine q_ (.slice a84 n85 c86) ?_
 refine s_nil (k71 _ _ ?_)
 refine g_' ?_
 refine q_ (i_ 2) ?_
 refine q_ (i_ 2) ?_
 refine s_nil ?_
 refine w_unroll ?_
 refine w_seqk fun _ k88 => ?_
 refine g_' ?_
 refine q_ (.bool false) ?_
 refine s_nil (k88 _ _ ?_)
 refine w_seqk fun _ k89 => ?_
 refine w_cond false (by kernel_rfl) rfl (fun h => by cases h) (fun _ => ?_)
 refine w_exit (th_exit (th_exit (bl_eq ?_)))
 refine k48 _ _ ?_
 refine w_seqk fun _ k90 => ?_
 refine g_' ?_
 refine q_ (.slice a84 n85 c86) ?_
 refine q_ (.slice a84 n85 c86) ?_
 refine s_nil (k90 _ _ ?_)
 refine w_ret ?_
 refine b_ret (fn := Try.f65) (vs := [.slice a84 n85 c86]) (aRes_tmp (by kernel_rfl) (rfl)) ?_
 obtain rfl := Option.some.inj r75
 exact ⟨(.slice a84 n85 c86), f78, rfl, (FrS.step wf (FrS.step wf (FrS.step wf (FrS.refl (W := []) wf) e41 Inn.nil) e60 (i43.fresh (Nat.le_refl _))) e79 (Inn.trans (i43.fresh (Nat.le_refl _)) e41.next hf62)), hm80, (Inn.trans (Inn.trans (i43.fresh (Nat.le_refl _)) e41.next hf62) (ntr e41.next e60.next) hf81)⟩

theorem c_walk_Join {H : AH} {hd_a : Value} {fp_a : Fp} {hd_b : Value} {fp_b : Fp} {a : List (Int)} {b : List (Int)} {r : List (Int) × Er}
    (wf : WF H) (h_a : Sq (encI .i64) 1 H hd_a a fp_a) (h_b : Sq (encI .i64) 1 H hd_b b fp_b) (hr : z_walk_Join a b = some r) :
    ACalls Try.prog 16 #[hd_a, hd_b] H fun v H' => ∃ (s3 : Value) (f4 : Fp) (v7 : Value) (f8 : Fp), v = .tuple #[s3, v7] ∧ FrS [] H H' ∧ Ow (encI .i64) 1 H' s3 r.1 f4 ∧ Ev 101 152 H' v7 r.2 f8 ∧ Inn [] H f4 ∧ Inn [] H f8 ∧ Dj f4 f8 := by
 refine acalls_of_body mixed Try.func16 rfl (Nat.le_of_ble_eq_true rfl) ?_
 unfold z_walk_Join at hr
 refine w_seqk fun _ k12 => ?_
 refine g_' ?_
 refine q_ (.slice none 0 0) ?_
 refine q_ (.nilIface) ?_
 refine s_nil (k12 _ _ ?_)
 refine w_seqk fun _ k13 => ?_
 refine g_' ?_
 refine q_ (.nilIface) ?_
 refine s_nil (k13 _ _ ?_)
 refine w_seqk fun _ k14 => ?_
 refine w_block ?_
 refine w_seqk fun _ k15 => ?_
 obtain ⟨o16, hx17, r18⟩ := bind_some hr
 refine w_mid (fun α H19 => Has α [(0, hd_a), (1, hd_b), (6, .nilIface), (7, .bool o16)] ∧ H = H19) (fun _ k21 => ?_) (fun α H19 hM => ?_)
 ·refine g_' ?_
  refine q_ (hd_a) ?_
  refine l_' (i_ (a.length : Int)) (aLen Try.prog 25 hd_a H) (h_a.lenb (by kernel_rfl)) ?_
  refine s_b ((a.length : Int) = 0) (by kernel_rfl) (fun h23 => ?_) (fun h23 => ?_)
  ·have r24 := ite_t h23 hx17
   refine q_ (.bool true) ?_
   refine n_' ?_
   refine n_' ?_
   refine n_' ?_
   refine q_ (.bool true) ?_
   refine q_ (.bool true) ?_
   refine s_nil ?_
   obtain rfl := Option.some.inj r24
   exact k21 _ _ ⟨ha_, rfl⟩
  have r25 := ite_f h23 hx17
  refine q_ (.bool false) ?_
  refine q_ (hd_b) ?_
  refine l_' (i_ (b.length : Int)) (aLen Try.prog 25 hd_b H) (h_b.lenb (by kernel_rfl)) ?_
  refine q_ (.bool (decide ((b.length : Int) = 0))) ?_
  refine q_ (.bool (decide ((b.length : Int) = 0))) ?_
  refine q_ (.bool (decide ((b.length : Int) = 0))) ?_
  refine s_nil ?_
  obtain rfl := Option.some.inj r25
  exact k21 _ _ ⟨ha_, rfl⟩
 obtain ⟨hh22, rfl⟩ := hM
 obtain ⟨β, rfl⟩ := has_ex hh22
 clear hh22
 refine k15 _ _ ?_
 obtain ⟨o26, hx27, r28⟩ := bind_some r18
 refine w_mid (fun α H29 => ∃ (v33 : Value) (f34 : Fp), Has α [(0, hd_a), (1, hd_b), (6, v33)] ∧ H = H29 ∧ Ev 101 152 H29 v33 o26 f34 ∧ Inn [] H f34) (fun _ k36 => ?_) (fun α H29 hM => ?_)
 ·refine w_cond (o16) (by kernel_rfl) rfl (fun h38 => ?_) (fun h38 => ?_)
  ·have r39 := ite_t h38 hx27
   refine g_' ?_
   refine q_ (.iface 101 (i_ 5)) ?_
   refine q_ (.iface 101 (i_ 5)) ?_
   refine s_nil ?_
   obtain rfl := Option.some.inj r39
   exact k36 _ _ ⟨(.iface 101 (i_ 5)), [], ha_, rfl, Ev.no, Inn.nil⟩
  have r40 := ite_bf h38 hx27
  refine w_seqk fun _ k41 => ?_
  refine w_draw [0, 1, 2, 3, 4, 5, 6, 7, 8, 9, 10] (by kernel_rfl) ?_
  refine e_' (hd_a) ?_
  refine e_' (hd_a) ?_
  refine m_' (i_ (a.length : Int)) (aLen Try.prog 25 hd_a H) (h_a.lenb (by kernel_rfl)) ?_
  obtain ⟨g42, r43⟩ := G_some r40
  refine d_w (((a.length : Int) - 1)) (k := .i64) (x := ((a.length : Int) - 1)) (by kernel_rfl) (wrap64 g42) ?_
  obtain ⟨g44, r45⟩ := G_some r43
  refine m_' (elp hd_a 1 ((a.length : Int) - 1).toNat 0) (aIndexAddr Try.prog 25 hd_a (i_ ((a.length : Int) - 1))) (h_a.idxb (by kernel_rfl) g44.1 g44.2) ?_
  refine m_' (i_ (gt a ((a.length : Int) - 1))) (aLoad Try.prog 3 (elp hd_a 1 ((a.length : Int) - 1).toNat 0) H) (h_a.ld g44.1 g44.2 (by kernel_rfl)) ?_
  refine e_' (hd_b) ?_
  obtain ⟨g46, r47⟩ := G_some r45
  refine m_' (elp hd_b 1 (0 : Int).toNat 0) (aIndexAddr Try.prog 25 hd_b (i_ 0)) (h_b.idxb (by kernel_rfl) (by decide) g46) ?_
  refine m_' (i_ (gt b 0)) (aLoad Try.prog 3 (elp hd_b 1 (0 : Int).toNat 0) H) (h_b.ld (by decide) g46 (by kernel_rfl)) ?_
  refine e_' (.bool (!decide ((gt a ((a.length : Int) - 1)) = (gt b 0)))) ?_
  refine e_' (.bool (!decide ((gt a ((a.length : Int) - 1)) = (gt b 0)))) ?_
  refine d_nil ?_
  refine k41 _ _ ?_
  refine w_condn ((gt a ((a.length : Int) - 1)) = (gt b 0)) (by kernel_rfl) rfl (fun h48 => ?_) (fun h48 => ?_)
  ·have r49 := ite_f h48 r47
   refine g_' ?_
   refine q_ (.iface 101 (i_ 16)) ?_
   refine q_ (.iface 101 (i_ 16)) ?_
   refine s_nil ?_
   obtain rfl := Option.some.inj r49
   exact k36 _ _ ⟨(.iface 101 (i_ 16)), [], ha_, rfl, Ev.no, Inn.nil⟩
  have r50 := ite_t h48 r47
  refine w_skip ?_
  obtain rfl := Option.some.inj r50
  exact k36 _ _ ⟨(.nilIface), [], ha_, rfl, Ev.nil, Inn.nil⟩
 obtain ⟨v33, f34, hh37, rfl, m32, i35⟩ := hM
 obtain ⟨β, rfl⟩ := has_ex hh37
 clear hh37
 refine k14 _ _ ?_
 refine w_seqk fun _ k51 => ?_
 refine w_seqk fun _ k52 => ?_
 refine g_' ?_
 refine q_ (v33) ?_
 rcases (m32).cases with ⟨h53, rfl⟩ | ⟨h53, t54, x55, rfl⟩
 ·have r56 := ite_t h53 r28
  refine q_ (.bool false) ?_
  refine s_nil (k52 _ _ ?_)
  refine w_cond false (by kernel_rfl) rfl (fun h => by cases h) (fun _ => ?_)
  refine w_skip ?_
  refine k51 _ _ ?_
  refine w_seqk fun _ k57 => ?_
  refine g_' ?_
  refine q_ (hd_a) ?_
  refine q_ (hd_b) ?_
  obtain ⟨g58, r59⟩ := G_some r56
  obtain ⟨s60, q61, hs62⟩ := Sq.cut (P := Try.prog) h_b (t := 25) (by kernel_rfl) (lo := (some (i_ 1))) (hi := none) (l := (1 : Int).toNat) (r := b.length) (aBound_int _ (by have := g58; omega)) (rfl) (by have := g58; omega) (by have := g58; omega)
  obtain ⟨a63, n64, c65, rfl⟩ := hs62.form
  refine s_ql (.slice a63 n64 c65) (by kernel_rfl) q61 ?_
  obtain ⟨a67, n68, c69, rfl⟩ := h_a.form
  refine s_lsl wf [.slice a67 n68 c69, .slice a63 n64 c65] 2 (one_cons (h_a.one1) (one_cons (hs62.one1) (one_nil))) (by kernel_rfl) fun b70 H71 e72 hb73 r74 => ?_
  have u76 := (h_a.ext e72)
  have u77 := (hs62.ext e72)
  obtain ⟨y78, hy79, r80⟩ := bind_some r59
  refine s_ck 65 #[.slice (some ⟨b70, 0, none⟩) 2 2] (by kernel_rfl) (c_slices_Concat e72.wf u76 u77 r74 hy79) ?_
  rintro s81 H83 ⟨_, f82, rfl, e84, m85, i86⟩
  obtain ⟨a88, n89, c90, rfl⟩ := m85.form
  refine q_ (.slice a88 n89 c90) ?_
  refine q_ (.nilIface) ?_
  refine s_nil (k57 _ _ ?_)
  refine w_ret ?_
  refine b_ret (fn := Try.f16) (vs := [.slice a88 n89 c90, .nilIface]) (aRes_tmp (by kernel_rfl) (aRes_tmp (by kernel_rfl) (rfl))) ?_
  obtain rfl := Option.some.inj r80
  exact ⟨(.slice a88 n89 c90), f82, (.nilIface), [], rfl, (FrS.step wf ((FrS.refl (W := []) wf).extR e72) e84 Inn.nil), m85, Ev.nil, (i86.fresh e72.next), Inn.nil, Dj.nil_r⟩
 have r91 := ite_f h53 r28
 refine l_' (.bool true) (aBin Try.prog .neq 29 (.tmp 29) (.const .nilIface) (.iface t54 x55) .nilIface) (aBin_nnil (by kernel_rfl)) ?_
 refine s_nil (k52 _ _ ?_)
 refine w_cond true (by kernel_rfl) rfl (fun _ => ?_) (fun h => by cases h)
 refine w_seqk fun _ k92 => ?_
 refine g_' ?_
 refine q_ (.iface t54 x55) ?_
 refine q_ (.slice none 0 0) ?_
 refine q_ (.iface t54 x55) ?_
 refine s_nil (k92 _ _ ?_)
 refine w_ret (th_ret ?_)
 refine b_ret (fn := Try.f16) (vs := [.slice none 0 0, .iface t54 x55]) (aRes_tmp (by kernel_rfl) (aRes_tmp (by kernel_rfl) (rfl))) ?_
 obtain rfl := Option.some.inj r91
 exact ⟨(.slice none 0 0), [], (.iface t54 x55), f34, rfl, (FrS.refl (W := []) wf), (Ow.nil (by decide)), m32, Inn.nil, (i35.fresh (Nat.le_refl _)), Dj.nil_l⟩


end Go.Vd

/-! (KWw8) -/

set_option maxRecDepth 100000
set_option maxHeartbeats 4000000
set_option linter.unusedVariables false
namespace Go.Vd
open Go.Proofs
attribute [local irreducible] wpSeq wpOrd aWp
theorem c_walk_Simple {H : AH} {hd_list : Value} {fp_list : Fp} {list : List (Int)} {r : List (Int)}
    (wf : WF H) (h_list : Sq (encI .i64) 1 H hd_list list fp_list) (hr : z_walk_Simple list = some r) :
    ACalls Try.prog 17 #[hd_list] H fun v H' => ∃ (s3 : Value) (f4 : Fp), v = s3 ∧ FrS [] H H' ∧ Ow (encI .i64) 1 H' s3 r f4 ∧ Inn [] H f4 := by
 refine acalls_of_body mixed Try.func17 rfl (Nat.le_of_ble_eq_true rfl) ?_
 unfold z_walk_Simple at hr
 refine w_seqk fun _ k6 => ?_
 refine g_' ?_
 refine q_ (.slice none 0 0) ?_
 refine s_nil (k6 _ _ ?_)
 refine w_seqk fun _ k7 => ?_
 refine g_' ?_
 refine s_mp .i64 .i64 wf (by kernel_rfl) fun b8 H9 e10 hb11 mp12 => ?_
 refine q_ (.map (some b8)) ?_
 refine s_nil (k7 _ _ ?_)
 refine w_seqk fun _ k14 => ?_
 refine g_' ?_
 refine q_ (.slice none 0 0) ?_
 refine s_nil (k14 _ _ ?_)
 refine w_seqk fun _ k15 => ?_
 refine w_seqk fun _ k16 => ?_
 refine g_' ?_
 refine q_ (hd_list) ?_
 have u17 := (h_list.ext e10)
 refine l_' (i_ (list.length : Int)) (aLen Try.prog 25 hd_list H9) (u17.lenb (by kernel_rfl)) ?_
 refine q_ (i_ 0) ?_
 refine s_nil (k16 _ _ ?_)
 obtain ⟨o18, hx19, r20⟩ := bind_some hr
 refine w_mid (fun α H21 => ∃ (s25 : Value) (f26 : Fp), Has α [(4, s25)] ∧ FrS [b8] H9 H21 ∧ Ow (encI .i64) 1 H21 s25 o18 f26 ∧ Inn [] H9 f26) (fun _ k28 => ?_) (fun α H21 hM => ?_)
 ·refine w_block ?_
  obtain ⟨n30, hn31⟩ := loopO_iff.1 hx19
  refine w_loopn (fun n α H32 => ∃ (i0 : Int), ∃ (at1 : Int → Option Int), ∃ (s2 : List (Int)), ∃ (s38 : Value), ∃ (f39 : Fp), iterO (fun zz_ => z_walk_Simple_l1 list zz_.1 zz_.2.1 zz_.2.2) n (i0, at1, s2) = some o18 ∧ Has α [(3, .map (some b8)), (4, s38), (11, hd_list), (12, i_ (list.length : Int)), (13, i_ i0)] ∧ FrS [b8] H9 H32 ∧ Mp .i64 .i64 H32 b8 at1 ∧ Ow (encI .i64) 1 H32 s38 s2 f39 ∧ Inn [] H9 f39) n30 ⟨0, (fun _ => none), [], (.slice none 0 0), [], hn31, ha_, (FrS.refl (W := [b8]) e10.wf), mp12, (Ow.nil (by decide)), Inn.nil⟩ ?_
  rintro n30 α H32 ⟨i0, at1, s2, s38, f39, hi42, hh41, e33, m35, m37, i40⟩ K47 k47
  obtain ⟨n43, z44, rfl, hz45, hn46⟩ := iter_succ hi42
  obtain ⟨β, rfl⟩ := has_ex hh41
  clear hh41
  replace hz45 : z_walk_Simple_l1 list i0 at1 s2 = some z44 := hz45
  unfold z_walk_Simple_l1 at hz45
  obtain ⟨a48, n49, c50, rfl⟩ := m37.form
  refine w_seqk fun _ k51 => ?_
  refine g_' ?_
  refine q_ (.bool (decide (i0 < (list.length : Int)))) ?_
  refine s_nil (k51 _ _ ?_)
  refine w_seqk fun _ k52 => ?_
  refine w_condp (i0 < (list.length : Int)) (by kernel_rfl) rfl (fun h53 => ?_) (fun h53 => ?_)
  ·have r54 := ite_t h53 hz45
   refine w_skip ?_
   refine k52 _ _ ?_
   refine w_seqk fun _ k55 => ?_
   refine w_block ?_
   refine w_seqk fun _ k56 => ?_
   refine g_' ?_
   obtain ⟨g57, r58⟩ := G_some r54
   have u59 := (u17.fr e33 (hb11.djn h_list.lt))
   refine l_' (elp hd_list 1 i0.toNat 0) (aIndexAddr Try.prog 25 hd_list (i_ i0)) (u59.idxb (by kernel_rfl) g57 h53) ?_
   refine l_' (i_ (gt list i0)) (aLoad Try.prog 3 (elp hd_list 1 i0.toNat 0) H32) (u59.ld g57 h53 (by kernel_rfl)) ?_
   refine q_ (i_ (gt list i0)) ?_
   refine s_nil (k56 _ _ ?_)
   refine w_seqk fun _ k60 => ?_
   refine g_' ?_
   refine q_ (.map (some b8)) ?_
   refine q_ (i_ (gt list i0)) ?_
   refine l_' (i_ ((at1 (gt list i0)).getD 0)) (aLookup Try.prog 122 (.map (some b8)) (i_ (gt list i0)) false H32) (m35.look (by kernel_rfl) _) ?_
   refine q_ (i_ ((at1 (gt list i0)).getD 0)) ?_
   refine s_nil (k60 _ _ ?_)
   refine w_seqk fun _ k61 => ?_
   refine w_seqk fun _ k62 => ?_
   refine g_' ?_
   refine q_ (i_ ((at1 (gt list i0)).getD 0)) ?_
   refine q_ (.bool (decide (((at1 (gt list i0)).getD 0) = 0))) ?_
   refine s_nil (k62 _ _ ?_)
   refine w_condp (((at1 (gt list i0)).getD 0) = 0) (by kernel_rfl) rfl (fun h63 => ?_) (fun h63 => ?_)
   ·have r64 := ite_t h63 r58
    refine w_seqk fun _ k65 => ?_
    refine g_' ?_
    refine q_ (.slice a48 n49 c50) ?_
    refine q_ (i_ (gt list i0)) ?_
    refine s_owk (enc := (encI .i64)) (sz := 1) e33.wf [(gt list i0)] 1 (by decide) (fun _ _ => rfl) (fun _ _ => rfl) rfl (by kernel_rfl) fun s66 f67 H68 e69 hf70 hm71 => ?_
    obtain ⟨a72, n73, c74, rfl⟩ := hm71.form
    have u76 := (m37.ext e69)
    obtain ⟨g77, r78⟩ := G_some r64
    obtain ⟨s79, H80, f81, q85, e82, hm83, hf84⟩ := Ow.append (P := Try.prog) 8 e69.wf u76 hm71.sq (fun _ _ => rfl) (at_ := #[25, 25]) rfl rfl (by kernel_rfl) (by kernel_rfl) (by decide) (by have := g77; first | omega | (simp only [List.length_cons, List.length_nil] at this ⊢; omega) | (simp at this ⊢; omega))
    obtain ⟨a86, n87, c88, rfl⟩ := hm83.form
    refine s_ek (.slice a86 n87 c88) (by kernel_rfl) (q85) ?_
    refine q_ (.slice a86 n87 c88) ?_
    refine s_nil (k65 _ _ ?_)
    refine w_seqk fun _ k90 => ?_
    refine g_' ?_
    refine q_ (.map (some b8)) ?_
    refine q_ (i_ (gt list i0)) ?_
    refine q_ (.slice a86 n87 c88) ?_
    refine l_' (i_ ((s2 ++ [(gt list i0)]).length : Int)) (aLen Try.prog 25 (.slice a86 n87 c88) H80) (hm83.sq.lenb (by kernel_rfl)) ?_
    have u95 := ((m35.ext e69).frS e82 (i40.djn mp12.ltF))
    obtain ⟨H91, q93, e92, mp94⟩ := u95.put (P := Try.prog) e82.wf (t := 122) (by kernel_rfl) (gt list i0) ((s2 ++ [(gt list i0)]).length : Int)
    have e96 := e92.frS (W := [b8]) (List.mem_singleton.2 rfl)
    refine s_ek (undef) (by kernel_rfl) (map_ok q93) ?_
    refine s_nil (k90 _ _ ?_)
    refine w_exit (th_exit (bl_eq ?_))
    refine k55 _ _ ?_
    refine g_' ?_
    obtain ⟨g97, r98⟩ := G_some r78
    refine s_w ((i0 + 1)) (k := .i64) (x := (i0 + 1)) (by kernel_rfl) (wrap64 (by have := g97; omega)) ?_
    refine q_ (i_ (i0 + 1)) ?_
    refine s_nil ?_
    have u99 := (hm83.fr e96 (Dj.symm (hf84.dj (i40.djn mp12.ltF) (mp12.ltF.le (ntr e33.next e69.next)))))
    obtain rfl := Option.some.inj r98
    exact k47 n43 _ _ (Nat.lt_succ_self _) ⟨(i0 + 1), (fun x => if x = (gt list i0) then some ((s2 ++ [(gt list i0)]).length : Int) else at1 x), (s2 ++ [(gt list i0)]), (.slice a86 n87 c88), f81, hn46, ha_, (FrS.step e10.wf (FrS.step e10.wf ((FrS.step e10.wf (FrS.refl (W := [b8]) e10.wf) e33 Inn.refl').extR e69) e82 (i40.fresh (Nat.le_refl _))) e96 Inn.refl'), mp94, u99, (Inn.trans (i40.fresh (Nat.le_refl _)) (ntr e33.next e69.next) hf84)⟩
   have r100 := ite_f h63 r58
   refine w_skip ?_
   refine k61 _ _ ?_
   refine w_seqk fun _ k101 => ?_
   refine w_seqk fun _ k102 => ?_
   refine g_' ?_
   refine q_ (.slice a48 n49 c50) ?_
   refine q_ (i_ ((at1 (gt list i0)).getD 0)) ?_
   obtain ⟨g103, r104⟩ := G_some r100
   obtain ⟨s105, q106, hs107⟩ := Sq.cut (P := Try.prog) m37.sq (t := 25) (by kernel_rfl) (lo := (some (i_ ((at1 (gt list i0)).getD 0)))) (hi := none) (l := ((at1 (gt list i0)).getD 0).toNat) (r := s2.length) (aBound_int _ (by have := g103; omega)) (rfl) (by have := g103; omega) (by have := g103; omega)
   obtain ⟨a108, n109, c110, rfl⟩ := hs107.form
   refine s_ql (.slice a108 n109 c110) (by kernel_rfl) q106 ?_
   refine l_' (i_ (((s2.take s2.length).drop ((at1 (gt list i0)).getD 0).toNat).length : Int)) (aLen Try.prog 25 (.slice a108 n109 c110) H32) (hs107.lenb (by kernel_rfl)) ?_
   refine q_ (i_ 0) ?_
   refine s_nil (k102 _ _ ?_)
   obtain ⟨o112, hx113, r114⟩ := bind_some r104
   refine w_mid (fun α H115 => Has α [(3, .map (some b8)), (4, .slice a48 n49 c50), (7, i_ ((at1 (gt list i0)).getD 0)), (11, hd_list), (12, i_ (list.length : Int)), (13, i_ i0)] ∧ FrS [b8] H32 H115 ∧ Mp .i64 .i64 H115 b8 o112) (fun _ k119 => ?_) (fun α H115 hM => ?_)
   ·refine w_block ?_
    obtain ⟨n121, hn122⟩ := loopO_iff.1 hx113
    refine w_loopn (fun n α H123 => ∃ (at3 : Int → Option Int), ∃ (i4 : Int), iterO (fun zz_ => z_walk_Simple_l0 list i0 at1 s2 zz_.1 zz_.2) n (at3, i4) = some o112 ∧ Has α [(3, .map (some b8)), (4, .slice a48 n49 c50), (7, i_ ((at1 (gt list i0)).getD 0)), (11, hd_list), (12, i_ (list.length : Int)), (13, i_ i0), (32, .slice a108 n109 c110), (33, i_ (((s2.take s2.length).drop ((at1 (gt list i0)).getD 0).toNat).length : Int)), (34, i_ i4)] ∧ FrS [b8] H32 H123 ∧ Mp .i64 .i64 H123 b8 at3) n121 ⟨at1, 0, hn122, ha_, (FrS.refl (W := [b8]) e33.wf), m35⟩ ?_
    rintro n121 α H123 ⟨at3, i4, hi128, hh127, e124, m126⟩ K133 k133
    obtain ⟨n129, z130, rfl, hz131, hn132⟩ := iter_succ hi128
    obtain ⟨β, rfl⟩ := has_ex hh127
    clear hh127
    replace hz131 : z_walk_Simple_l0 list i0 at1 s2 at3 i4 = some z130 := hz131
    unfold z_walk_Simple_l0 at hz131
    refine w_seqk fun _ k134 => ?_
    refine g_' ?_
    refine q_ (.bool (decide (i4 < (((s2.take s2.length).drop ((at1 (gt list i0)).getD 0).toNat).length : Int)))) ?_
    refine s_nil (k134 _ _ ?_)
    refine w_seqk fun _ k135 => ?_
    refine w_condp (i4 < (((s2.take s2.length).drop ((at1 (gt list i0)).getD 0).toNat).length : Int)) (by kernel_rfl) rfl (fun h136 => ?_) (fun h136 => ?_)
    ·have r137 := ite_t h136 hz131
     refine w_skip ?_
     refine k135 _ _ ?_
     refine w_seqk fun _ k138 => ?_
     refine w_block ?_
     refine w_seqk fun _ k139 => ?_
     refine g_' ?_
     obtain ⟨g140, r141⟩ := G_some r137
     have u142 := (hs107.fr e124 (Dj.symm (i40.djn mp12.ltF)))
     refine l_' (elp (.slice a108 n109 c110) 1 i4.toNat 0) (aIndexAddr Try.prog 25 (.slice a108 n109 c110) (i_ i4)) (u142.idxb (by kernel_rfl) g140 h136) ?_
     refine l_' (i_ (gt ((s2.take s2.length).drop ((at1 (gt list i0)).getD 0).toNat) i4)) (aLoad Try.prog 3 (elp (.slice a108 n109 c110) 1 i4.toNat 0) H123) (u142.ld g140 h136 (by kernel_rfl)) ?_
     refine q_ (i_ (gt ((s2.take s2.length).drop ((at1 (gt list i0)).getD 0).toNat) i4)) ?_
     refine s_nil (k139 _ _ ?_)
     refine g_' ?_
     refine q_ (.map (some b8)) ?_
     refine q_ (i_ (gt ((s2.take s2.length).drop ((at1 (gt list i0)).getD 0).toNat) i4)) ?_
     obtain ⟨H143, q146, e144, mp145⟩ := m126.del (P := Try.prog) e124.wf (t := 122) (by kernel_rfl) (at_ := #[122, 3]) rfl (gt ((s2.take s2.length).drop ((at1 (gt list i0)).getD 0).toNat) i4)
     have e147 := e144.frS (W := [b8]) (List.mem_singleton.2 rfl)
     refine s_ek (.tuple #[]) (by kernel_rfl) (map_ok q146) ?_
     refine s_nil (k138 _ _ ?_)
     refine g_' ?_
     obtain ⟨g148, r149⟩ := G_some r141
     refine s_w ((i4 + 1)) (k := .i64) (x := (i4 + 1)) (by kernel_rfl) (wrap64 (by have := g148; omega)) ?_
     refine q_ (i_ (i4 + 1)) ?_
     refine s_nil ?_
     obtain rfl := Option.some.inj r149
     exact k133 n129 _ _ (Nat.lt_succ_self _) ⟨(fun x => if x = (gt ((s2.take s2.length).drop ((at1 (gt list i0)).getD 0).toNat) i4) then none else at3 x), (i4 + 1), hn132, ha_, (FrS.step e33.wf (FrS.step e33.wf (FrS.refl (W := [b8]) e33.wf) e124 Inn.refl') e147 Inn.refl'), mp145⟩
    have r150 := ite_f h136 hz131
    refine w_exit (th_exit (th_exit (bl_eq ?_)))
    obtain rfl := Option.some.inj r150
    obtain rfl := it_inr hn132
    exact k119 _ _ ⟨ha_, (FrS.step e33.wf (FrS.refl (W := [b8]) e33.wf) e124 Inn.refl'), m126⟩
   obtain ⟨hh120, e116, m118⟩ := hM
   obtain ⟨β, rfl⟩ := has_ex hh120
   clear hh120
   refine k101 _ _ ?_
   refine g_' ?_
   refine q_ (.slice a48 n49 c50) ?_
   refine q_ (i_ ((at1 (gt list i0)).getD 0)) ?_
   have u154 := (m37.fr e116 (Dj.symm (i40.djn mp12.ltF)))
   obtain ⟨s151, q152, hs153⟩ := Ow.head (P := Try.prog) u154 (t := 25) (by kernel_rfl) (hi := (some (i_ ((at1 (gt list i0)).getD 0)))) (r := ((at1 (gt list i0)).getD 0).toNat) (aBound_int _ (by have := g103; omega)) (by have := g103; omega)
   obtain ⟨a155, n156, c157, rfl⟩ := hs153.form
   refine s_ql (.slice a155 n156 c157) (by kernel_rfl) q152 ?_
   refine q_ (.slice a155 n156 c157) ?_
   refine s_nil (k55 _ _ ?_)
   refine g_' ?_
   obtain ⟨g159, r160⟩ := G_some r114
   refine s_w ((i0 + 1)) (k := .i64) (x := (i0 + 1)) (by kernel_rfl) (wrap64 (by have := g159; omega)) ?_
   refine q_ (i_ (i0 + 1)) ?_
   refine s_nil ?_
   obtain rfl := Option.some.inj r160
   exact k47 n43 _ _ (Nat.lt_succ_self _) ⟨(i0 + 1), o112, (s2.take ((at1 (gt list i0)).getD 0).toNat), (.slice a155 n156 c157), f39, hn46, ha_, (FrS.step e10.wf (FrS.step e10.wf (FrS.refl (W := [b8]) e10.wf) e33 Inn.refl') e116 Inn.refl'), m118, hs153, (i40.fresh (Nat.le_refl _))⟩
  have r161 := ite_f h53 hz45
  refine w_exit (th_exit (th_exit (bl_eq ?_)))
  obtain rfl := Option.some.inj r161
  obtain rfl := it_inr hn46
  exact k28 _ _ ⟨(.slice a48 n49 c50), f39, ha_, (FrS.step e10.wf (FrS.refl (W := [b8]) e10.wf) e33 Inn.refl'), m37, (i40.fresh (Nat.le_refl _))⟩
 obtain ⟨s25, f26, hh29, e22, m24, i27⟩ := hM
 obtain ⟨β, rfl⟩ := has_ex hh29
 clear hh29
 obtain ⟨a162, n163, c164, rfl⟩ := m24.form
 refine k15 _ _ ?_
 refine w_seqk fun _ k165 => ?_
 refine g_' ?_
 refine q_ (.slice a162 n163 c164) ?_
 refine q_ (.slice a162 n163 c164) ?_
 refine s_nil (k165 _ _ ?_)
 refine w_ret ?_
 refine b_ret (fn := Try.f17) (vs := [.slice a162 n163 c164]) (aRes_tmp (by kernel_rfl) (rfl)) ?_
 obtain rfl := Option.some.inj r20
 exact ⟨(.slice a162 n163 c164), f26, rfl, (FrS.step wf ((FrS.refl (W := []) wf).extR e10) e22 (hb11.fresh (Nat.le_refl _))), m24, (i27.fresh e10.next)⟩

theorem c_search_From {H : AH} {hd_First : Value} {fp_First : Fp} {hd_To : Value} {fp_To : Fp} {hd_Weight : Value} {fp_Weight : Fp} {First : List (Int)} {To : List (Int)} {Weight : List (Int)} {s : Int} {r : List (Int) × Er}
    (wf : WF H) (h_First : Sq (encI .i64) 1 H hd_First First fp_First) (h_To : Sq (encI .i64) 1 H hd_To To fp_To) (h_Weight : Sq (encI .i64) 1 H hd_Weight Weight fp_Weight) (hr : z_search_From First To Weight s = some r) :
    ACalls Try.prog 47 #[.agg #[hd_First, hd_To, hd_Weight], i_ s] H fun v H' => ∃ (s3 : Value) (f4 : Fp) (v7 : Value) (f8 : Fp), v = .tuple #[s3, v7] ∧ FrS [] H H' ∧ Ow (encI .u64) 1 H' s3 r.1 f4 ∧ Ev 101 152 H' v7 r.2 f8 ∧ Inn [] H f4 ∧ Inn [] H f8 ∧ Dj f4 f8 := by
 refine acalls_of_body mixed Try.func47 rfl (Nat.le_of_ble_eq_true rfl) ?_
 unfold z_search_From at hr
 refine w_seqk fun _ k12 => ?_
 refine g_' ?_
 refine s_rwl wf [hd_First, hd_To, hd_Weight] (one_cons (h_First.one1) (one_cons (h_To.one1) (one_cons (h_Weight.one1) (one_nil)))) (by kernel_rfl) fun b13 H14 e15 hb16 r17 => ?_
 refine q_ (.slice none 0 0) ?_
 refine q_ (.nilIface) ?_
 refine s_nil (k12 _ _ ?_)
 refine w_seqk fun _ k19 => ?_
 refine w_seqk fun _ k20 => ?_
 refine g_' ?_
 refine l_' (.agg #[hd_First, hd_To, hd_Weight]) (aLoad Try.prog 27 (pt_ b13 0) H14) (r17.ld (by kernel_rfl)) ?_
 refine q_ (i_ s) ?_
 refine s_owk (enc := (encI .i64)) (sz := 1) e15.wf [s] 1 (by decide) (fun _ _ => rfl) (fun _ _ => rfl) rfl (by kernel_rfl) fun s21 f22 H23 e24 hf25 hm26 => ?_
 obtain ⟨a27, n28, c29, rfl⟩ := hm26.form
 have u31 := ((h_First.ext e15).ext e24)
 have u32 := ((h_To.ext e15).ext e24)
 have u33 := ((h_Weight.ext e15).ext e24)
 obtain ⟨y34, hy35, r36⟩ := bind_some hr
 refine s_ck 62 #[.agg #[hd_First, hd_To, hd_Weight], .slice a27 n28 c29] (by kernel_rfl) (c_search_node e24.wf u31 u32 u33 hm26.sq hy35) ?_
 rintro v37 H39 ⟨_, f38, rfl, e40, m41, i42⟩
 refine q_ (v37) ?_
 refine s_nil (k20 _ _ ?_)
 refine w_seqk fun _ k44 => ?_
 refine g_' ?_
 refine q_ (v37) ?_
 rcases (m41).cases with ⟨h45, rfl⟩ | ⟨h45, t46, x47, rfl⟩
 ·have r48 := ite_t h45 r36
  refine q_ (.bool false) ?_
  refine s_nil (k44 _ _ ?_)
  refine w_cond false (by kernel_rfl) rfl (fun h => by cases h) (fun _ => ?_)
  refine w_skip ?_
  refine k19 _ _ ?_
  refine w_seqk fun _ k49 => ?_
  refine w_draw [0, 1, 2, 3, 4, 5, 6] (by kernel_rfl) ?_
  have u50 := ((r17.ext e24).frS e40 Dj.nil_l)
  refine d_fl (.agg #[hd_First, hd_To, hd_Weight]) (x := aLoad Try.prog 27 (pt_ b13 0) H39) (by kernel_rfl) (u50.ld (by kernel_rfl)) ?_
  refine e_' (i_ s) ?_
  obtain ⟨y51, hy52, r53⟩ := bind_some r48
  refine d_ck 60 #[] (by kernel_rfl) (c_search_free e40.wf hy52) ?_
  rintro _ H54 ⟨rfl, e55⟩
  have u56 := (u50.frS e55 Dj.nil_l)
  refine ⟨st_ql (y := aLoad Try.prog 27 (pt_ b13 0) H54) (by kernel_rfl) (u56.ld (by kernel_rfl)) (st_nil), ?_⟩
  have u57 := ((u31.fr e40 Dj.nil_l).fr e55 Dj.nil_l)
  have u58 := ((u32.fr e40 Dj.nil_l).fr e55 Dj.nil_l)
  have u59 := ((u33.fr e40 Dj.nil_l).fr e55 Dj.nil_l)
  obtain ⟨y60, hy61, r62⟩ := bind_some r53
  refine d_ck 59 #[.agg #[hd_First, hd_To, hd_Weight], i_ s, .agg #[i_ 4611686018427387904, i_ 4611686018427387904, .int .u64 18446744073709551615]] (by kernel_rfl) (c_search_run e55.wf u57 u58 u59 hy61) ?_
  rintro _ H76 ⟨s63, f64, s65, f66, b67, s68, f69, b70, s71, f72, s73, f74, b75, rfl, e77, m78, m79, m80, m81, m82, m83, m84, m85, i86, i87, i88, i89, i90, i91, i92, i93, d94, d95, d96, d97, d98, d99, d100, d101, d102, d103, d104, d105, d106, d107, d108, d109, d110, d111, d112, d113, d114, d115, d116, d117, d118, d119, d120, d121⟩
  obtain ⟨a130, n131, c132, rfl⟩ := m78.form
  obtain ⟨a133, n134, c135, rfl⟩ := m79.form
  obtain ⟨a136, n137, c138, rfl⟩ := m81.form
  obtain ⟨a139, n140, c141, rfl⟩ := m83.form
  obtain ⟨a142, n143, c144, rfl⟩ := m84.form
  refine ⟨st_anc (by kernel_rfl) (st_nil), ?_⟩
  have u145 := (u57.fr e77 Dj.nil_l)
  have u146 := (u58.fr e77 Dj.nil_l)
  have u147 := (u59.fr e77 Dj.nil_l)
  obtain ⟨y148, hy149, r150⟩ := bind_some r62
  refine d_ck 61 #[pt_ b75 0] (by kernel_rfl) (c_search_state_all e77.wf u145 u146 u147 m78.sq m79.sq m80 m81.sq m82 m83.sq m84.sq m85 hy149) ?_
  rintro s151 H153 ⟨_, f152, rfl, e154, m155, i156⟩
  obtain ⟨a158, n159, c160, rfl⟩ := m155.form
  refine ⟨st_anc (by kernel_rfl) (st_nil), ?_⟩
  refine e_' (.slice a158 n159 c160) ?_
  refine e_' (.nilIface) ?_
  refine d_nil ?_
  refine k49 _ _ ?_
  refine w_ret ?_
  refine b_ret (fn := Try.f47) (vs := [.slice a158 n159 c160, .nilIface]) (aRes_tmp (by kernel_rfl) (aRes_tmp (by kernel_rfl) (rfl))) ?_
  obtain rfl := Option.some.inj r150
  exact ⟨(.slice a158 n159 c160), f152, (.nilIface), [], rfl, (FrS.step wf (FrS.step wf (FrS.step wf (FrS.step wf (((FrS.refl (W := []) wf).extR e15).extR e24) e40 Inn.nil) e55 Inn.nil) e77 Inn.nil) e154 Inn.nil), m155, Ev.nil, (i156.fresh (ntr (ntr (ntr (ntr e15.next e24.next) e40.next) e55.next) e77.next)), Inn.nil, Dj.nil_r⟩
 have r161 := ite_f h45 r36
 refine l_' (.bool true) (aBin Try.prog .neq 29 (.tmp 11) (.const .nilIface) (.iface t46 x47) .nilIface) (aBin_nnil (by kernel_rfl)) ?_
 refine s_nil (k44 _ _ ?_)
 refine w_cond true (by kernel_rfl) rfl (fun _ => ?_) (fun h => by cases h)
 refine w_seqk fun _ k162 => ?_
 refine g_' ?_
 refine q_ (.iface t46 x47) ?_
 refine q_ (.slice none 0 0) ?_
 refine q_ (.iface t46 x47) ?_
 refine s_nil (k162 _ _ ?_)
 refine w_ret (th_ret ?_)
 refine b_ret (fn := Try.f47) (vs := [.slice none 0 0, .iface t46 x47]) (aRes_tmp (by kernel_rfl) (aRes_tmp (by kernel_rfl) (rfl))) ?_
 obtain rfl := Option.some.inj r161
 exact ⟨(.slice none 0 0), [], (.iface t46 x47), f38, rfl, (FrS.step wf (((FrS.refl (W := []) wf).extR e15).extR e24) e40 Inn.nil), (Ow.nil (by decide)), m41, Inn.nil, (i42.fresh (ntr e15.next e24.next)), Dj.nil_l⟩

theorem c_walk_Shortest {H : AH} {hd_First : Value} {fp_First : Fp} {hd_To : Value} {fp_To : Fp} {hd_Weight : Value} {fp_Weight : Fp} {hd_list : Value} {fp_list : Fp} {First : List (Int)} {To : List (Int)} {Weight : List (Int)} {list : List (Int)} {r : Bool × Er}
    (wf : WF H) (h_First : Sq (encI .i64) 1 H hd_First First fp_First) (h_To : Sq (encI .i64) 1 H hd_To To fp_To) (h_Weight : Sq (encI .i64) 1 H hd_Weight Weight fp_Weight) (h_list : Sq (encI .i64) 1 H hd_list list fp_list) (hr : z_walk_Shortest First To Weight list = some r) :
    ACalls Try.prog 18 #[.agg #[hd_First, hd_To, hd_Weight], hd_list] H fun v H' => ∃ (v3 : Value) (f4 : Fp), v = .tuple #[.bool r.1, v3] ∧ FrS [] H H' ∧ Ev 101 152 H' v3 r.2 f4 ∧ Inn [] H f4 := by
 refine acalls_of_body mixed Try.func18 rfl (Nat.le_of_ble_eq_true rfl) ?_
 unfold z_walk_Shortest at hr
 refine w_seqk fun _ k6 => ?_
 refine g_' ?_
 refine s_rwl wf [hd_First, hd_To, hd_Weight] (one_cons (h_First.one1) (one_cons (h_To.one1) (one_cons (h_Weight.one1) (one_nil)))) (by kernel_rfl) fun b7 H8 e9 hb10 r11 => ?_
 refine q_ (.bool false) ?_
 refine q_ (.nilIface) ?_
 refine s_nil (k6 _ _ ?_)
 refine w_seqk fun _ k13 => ?_
 refine g_' ?_
 refine l_' (.agg #[hd_First, hd_To, hd_Weight]) (aLoad Try.prog 27 (pt_ b7 0) H8) (r11.ld (by kernel_rfl)) ?_
 refine q_ (hd_list) ?_
 have u14 := (h_First.ext e9)
 have u15 := (h_To.ext e9)
 have u16 := (h_Weight.ext e9)
 have u17 := (h_list.ext e9)
 obtain ⟨y18, hy19, r20⟩ := bind_some hr
 refine s_ck 9 #[.agg #[hd_First, hd_To, hd_Weight], hd_list] (by kernel_rfl) (c_walk_Length e9.wf u14 u15 u16 u17 hy19) ?_
 rintro _ H23 ⟨v21, f22, rfl, e24, m25, i26⟩
 refine q_ (.tuple #[.int .u64 y18.1, v21]) ?_
 refine q_ (.int .u64 y18.1) ?_
 refine q_ (v21) ?_
 refine q_ (.int .u64 y18.1) ?_
 refine q_ (v21) ?_
 refine s_nil (k13 _ _ ?_)
 refine w_seqk fun _ k28 => ?_
 refine w_seqk fun _ k29 => ?_
 refine g_' ?_
 refine q_ (v21) ?_
 rcases (m25).cases with ⟨h30, rfl⟩ | ⟨h30, t31, x32, rfl⟩
 ·have r33 := ite_t h30 r20
  refine q_ (.bool false) ?_
  refine s_nil (k29 _ _ ?_)
  refine w_cond false (by kernel_rfl) rfl (fun h => by cases h) (fun _ => ?_)
  refine w_skip ?_
  refine k28 _ _ ?_
  refine w_seqk fun _ k34 => ?_
  refine w_draw [0, 1, 2, 3, 4, 5, 6, 7, 8, 9] (by kernel_rfl) ?_
  have u35 := (r11.frS e24 Dj.nil_l)
  refine m_' (.agg #[hd_First, hd_To, hd_Weight]) (aLoad Try.prog 27 (pt_ b7 0) H23) (u35.ld (by kernel_rfl)) ?_
  refine e_' (hd_list) ?_
  obtain ⟨g36, r37⟩ := G_some r33
  have u38 := (u17.fr e24 Dj.nil_l)
  refine m_' (elp hd_list 1 (0 : Int).toNat 0) (aIndexAddr Try.prog 25 hd_list (i_ 0)) (u38.idxb (by kernel_rfl) (by decide) g36) ?_
  refine m_' (i_ (gt list 0)) (aLoad Try.prog 3 (elp hd_list 1 (0 : Int).toNat 0) H23) (u38.ld (by decide) g36 (by kernel_rfl)) ?_
  have u39 := (u14.fr e24 Dj.nil_l)
  have u40 := (u15.fr e24 Dj.nil_l)
  have u41 := (u16.fr e24 Dj.nil_l)
  obtain ⟨y42, hy43, r44⟩ := bind_some r37
  refine d_ck 47 #[.agg #[hd_First, hd_To, hd_Weight], i_ (gt list 0)] (by kernel_rfl) (c_search_From e24.wf u39 u40 u41 hy43) ?_
  rintro _ H49 ⟨s45, f46, v47, f48, rfl, e50, m51, m52, i53, i54, d55⟩
  obtain ⟨a58, n59, c60, rfl⟩ := m51.form
  refine ⟨st_nil, ?_⟩
  refine e_' (.tuple #[.slice a58 n59 c60, v47]) ?_
  refine e_' (.slice a58 n59 c60) ?_
  refine e_' (v47) ?_
  refine e_' (.slice a58 n59 c60) ?_
  refine e_' (v47) ?_
  refine d_nil ?_
  refine k34 _ _ ?_
  refine w_seqk fun _ k61 => ?_
  refine w_seqk fun _ k62 => ?_
  refine g_' ?_
  refine q_ (v47) ?_
  rcases (m52).cases with ⟨h63, rfl⟩ | ⟨h63, t64, x65, rfl⟩
  ·have r66 := ite_t h63 r44
   refine q_ (.bool false) ?_
   refine s_nil (k62 _ _ ?_)
   refine w_cond false (by kernel_rfl) rfl (fun h => by cases h) (fun _ => ?_)
   refine w_skip ?_
   refine k61 _ _ ?_
   refine w_seqk fun _ k67 => ?_
   refine g_' ?_
   refine q_ (.slice a58 n59 c60) ?_
   refine q_ (hd_list) ?_
   refine q_ (hd_list) ?_
   have u68 := (u38.fr e50 Dj.nil_l)
   refine l_' (i_ (list.length : Int)) (aLen Try.prog 25 hd_list H49) (u68.lenb (by kernel_rfl)) ?_
   obtain ⟨g69, r70⟩ := G_some r66
   refine s_w (((list.length : Int) - 1)) (k := .i64) (x := ((list.length : Int) - 1)) (by kernel_rfl) (wrap64 g69) ?_
   obtain ⟨g71, r72⟩ := G_some r70
   refine l_' (elp hd_list 1 ((list.length : Int) - 1).toNat 0) (aIndexAddr Try.prog 25 hd_list (i_ ((list.length : Int) - 1))) (u68.idxb (by kernel_rfl) g71.1 g71.2) ?_
   refine l_' (i_ (gt list ((list.length : Int) - 1))) (aLoad Try.prog 3 (elp hd_list 1 ((list.length : Int) - 1).toNat 0) H49) (u68.ld g71.1 g71.2 (by kernel_rfl)) ?_
   obtain ⟨g73, r74⟩ := G_some r72
   refine l_' (elp (.slice a58 n59 c60) 1 (gt list ((list.length : Int) - 1)).toNat 0) (aIndexAddr Try.prog 44 (.slice a58 n59 c60) (i_ (gt list ((list.length : Int) - 1)))) (m51.sq.idxb (by kernel_rfl) g73.1 g73.2) ?_
   refine l_' (.int .u64 (gt y42.1 (gt list ((list.length : Int) - 1)))) (aLoad Try.prog 34 (elp (.slice a58 n59 c60) 1 (gt list ((list.length : Int) - 1)).toNat 0) H49) (m51.sq.ld g73.1 g73.2 (by kernel_rfl)) ?_
   refine q_ (.int .u64 y18.1) ?_
   refine q_ (.bool (decide ((gt y42.1 (gt list ((list.length : Int) - 1))) = y18.1))) ?_
   refine q_ (.bool (decide ((gt y42.1 (gt list ((list.length : Int) - 1))) = y18.1))) ?_
   refine q_ (.nilIface) ?_
   refine s_nil (k67 _ _ ?_)
   refine w_ret ?_
   refine b_ret (fn := Try.f18) (vs := [.bool (decide ((gt y42.1 (gt list ((list.length : Int) - 1))) = y18.1)), .nilIface]) (aRes_tmp (by kernel_rfl) (aRes_tmp (by kernel_rfl) (rfl))) ?_
   obtain rfl := Option.some.inj r74
   exact ⟨(.nilIface), [], rfl, (FrS.step wf (FrS.step wf ((FrS.refl (W := []) wf).extR e9) e24 Inn.nil) e50 Inn.nil), Ev.nil, Inn.nil⟩
  have r75 := ite_f h63 r44
  refine l_' (.bool true) (aBin Try.prog .neq 29 (.tmp 26) (.const .nilIface) (.iface t64 x65) .nilIface) (aBin_nnil (by kernel_rfl)) ?_
  refine s_nil (k62 _ _ ?_)
  refine w_cond true (by kernel_rfl) rfl (fun _ => ?_) (fun h => by cases h)
  refine w_seqk fun _ k76 => ?_
  refine g_' ?_
  refine q_ (.iface t64 x65) ?_
  refine q_ (.bool false) ?_
  refine q_ (.iface t64 x65) ?_
  refine s_nil (k76 _ _ ?_)
  refine w_ret (th_ret ?_)
  refine b_ret (fn := Try.f18) (vs := [.bool false, .iface t64 x65]) (aRes_tmp (by kernel_rfl) (aRes_tmp (by kernel_rfl) (rfl))) ?_
  obtain rfl := Option.some.inj r75
  exact ⟨(.iface t64 x65), f48, rfl, (FrS.step wf (FrS.step wf ((FrS.refl (W := []) wf).extR e9) e24 Inn.nil) e50 Inn.nil), m52, (i54.fresh (ntr e9.next e24.next))⟩
 have r77 := ite_f h30 r20
 refine l_' (.bool true) (aBin Try.prog .neq 29 (.tmp 15) (.const .nilIface) (.iface t31 x32) .nilIface) (aBin_nnil (by kernel_rfl)) ?_
 refine s_nil (k29 _ _ ?_)
 refine w_cond true (by kernel_rfl) rfl (fun _ => ?_) (fun h => by cases h)
 refine w_seqk fun _ k78 => ?_
 refine g_' ?_
 refine q_ (.iface t31 x32) ?_
 refine q_ (.bool false) ?_
 refine q_ (.iface t31 x32) ?_
 refine s_nil (k78 _ _ ?_)
 refine w_ret (th_ret ?_)
 refine b_ret (fn := Try.f18) (vs := [.bool false, .iface t31 x32]) (aRes_tmp (by kernel_rfl) (aRes_tmp (by kernel_rfl) (rfl))) ?_
 obtain rfl := Option.some.inj r77
 exact ⟨(.iface t31 x32), f22, rfl, (FrS.step wf ((FrS.refl (W := []) wf).extR e9) e24 Inn.nil), m25, (i26.fresh e9.next)⟩

theorem c_viaductref02_SameInts {H : AH} {hd_a : Value} {fp_a : Fp} {hd_b : Value} {fp_b : Fp} {a : List (Int)} {b : List (Int)} {r : Bool}
    (wf : WF H) (h_a : Sq (encI .i64) 1 H hd_a a fp_a) (h_b : Sq (encI .i64) 1 H hd_b b fp_b) (hr : z_viaductref02_SameInts a b = some r) :
    ACalls Try.prog 19 #[hd_a, hd_b] H fun v H' => v = .bool r ∧ H = H' := by
 refine acalls_of_body mixed Try.func19 rfl (Nat.le_of_ble_eq_true rfl) ?_
 unfold z_viaductref02_SameInts at hr
 refine w_seqk fun _ k1 => ?_
 refine g_' ?_
 refine q_ (.bool false) ?_
 refine s_nil (k1 _ _ ?_)
 refine w_seqk fun _ k2 => ?_
 refine w_seqk fun _ k3 => ?_
 refine g_' ?_
 refine q_ (hd_a) ?_
 refine l_' (i_ (a.length : Int)) (aLen Try.prog 25 hd_a H) (h_a.lenb (by kernel_rfl)) ?_
 refine q_ (hd_b) ?_
 refine l_' (i_ (b.length : Int)) (aLen Try.prog 25 hd_b H) (h_b.lenb (by kernel_rfl)) ?_
 refine q_ (.bool (!decide ((a.length : Int) = (b.length : Int)))) ?_
 refine s_nil (k3 _ _ ?_)
 refine w_condn ((a.length : Int) = (b.length : Int)) (by kernel_rfl) rfl (fun h4 => ?_) (fun h4 => ?_)
 ·have r5 := ite_f h4 hr
  refine w_seqk fun _ k6 => ?_
  refine g_' ?_
  refine q_ (.bool false) ?_
  refine s_nil (k6 _ _ ?_)
  refine w_ret (th_ret ?_)
  refine b_ret (fn := Try.f19) (vs := [.bool false]) (aRes_tmp (by kernel_rfl) (rfl)) ?_
  obtain rfl := Option.some.inj r5
  exact ⟨rfl, rfl⟩
 have r7 := ite_t h4 hr
 refine w_skip ?_
 refine k2 _ _ ?_
 refine w_seqk fun _ k8 => ?_
 refine w_seqk fun _ k9 => ?_
 refine g_' ?_
 refine q_ (hd_a) ?_
 refine l_' (i_ (a.length : Int)) (aLen Try.prog 25 hd_a H) (h_a.lenb (by kernel_rfl)) ?_
 refine q_ (i_ 0) ?_
 refine s_nil (k9 _ _ ?_)
 obtain ⟨z13, hx11, r12⟩ := bind_some r7
 refine w_mid (fun α H14 => ∃ o10, z13 = Sum.inr o10 ∧ Has α [] ∧ H = H14) (fun _ k16 => ?_) (fun α H14 hM => ?_)
 ·refine w_block ?_
  obtain ⟨n18, hn19⟩ := loopO_iff.1 hx11
  refine w_loopn (fun n α H20 => ∃ (i0 : Int), iterO (fun zz_ => z_viaductref02_SameInts_l0 a b zz_) n i0 = some z13 ∧ Has α [(0, hd_a), (1, hd_b), (12, i_ (a.length : Int)), (13, i_ i0)] ∧ H = H20) n18 ⟨0, hn19, ha_, rfl⟩ ?_
  rintro n18 α H20 ⟨i0, hi23, hh22, rfl⟩ K28 k28
  obtain ⟨n24, z25, rfl, hz26, hn27⟩ := iter_succ hi23
  obtain ⟨β, rfl⟩ := has_ex hh22
  clear hh22
  replace hz26 : z_viaductref02_SameInts_l0 a b i0 = some z25 := hz26
  unfold z_viaductref02_SameInts_l0 at hz26
  refine w_seqk fun _ k29 => ?_
  refine g_' ?_
  refine q_ (.bool (decide (i0 < (a.length : Int)))) ?_
  refine s_nil (k29 _ _ ?_)
  refine w_seqk fun _ k30 => ?_
  refine w_condp (i0 < (a.length : Int)) (by kernel_rfl) rfl (fun h31 => ?_) (fun h31 => ?_)
  ·have r32 := ite_t h31 hz26
   refine w_skip ?_
   refine k30 _ _ ?_
   refine w_seqk fun _ k33 => ?_
   refine w_block ?_
   refine w_seqk fun _ k34 => ?_
   refine g_' ?_
   refine q_ (i_ i0) ?_
   refine q_ (i_ i0) ?_
   refine s_nil (k34 _ _ ?_)
   refine w_seqk fun _ k35 => ?_
   refine w_draw [0, 1, 2, 3, 4, 5, 6, 7, 8] (by kernel_rfl) ?_
   refine e_' (hd_a) ?_
   refine e_' (i_ i0) ?_
   obtain ⟨g36, r37⟩ := G_some r32
   refine m_' (elp hd_a 1 i0.toNat 0) (aIndexAddr Try.prog 25 hd_a (i_ i0)) (h_a.idxb (by kernel_rfl) g36 h31) ?_
   refine m_' (i_ (gt a i0)) (aLoad Try.prog 3 (elp hd_a 1 i0.toNat 0) H) (h_a.ld g36 h31 (by kernel_rfl)) ?_
   refine e_' (hd_b) ?_
   refine e_' (i_ i0) ?_
   obtain ⟨g38, r39⟩ := G_some r37
   refine m_' (elp hd_b 1 i0.toNat 0) (aIndexAddr Try.prog 25 hd_b (i_ i0)) (h_b.idxb (by kernel_rfl) g36 g38) ?_
   refine m_' (i_ (gt b i0)) (aLoad Try.prog 3 (elp hd_b 1 i0.toNat 0) H) (h_b.ld g36 g38 (by kernel_rfl)) ?_
   refine e_' (.bool (!decide ((gt a i0) = (gt b i0)))) ?_
   refine d_nil ?_
   refine k35 _ _ ?_
   refine w_condn ((gt a i0) = (gt b i0)) (by kernel_rfl) rfl (fun h40 => ?_) (fun h40 => ?_)
   ·have r41 := ite_f h40 r39
    refine w_seqk fun _ k42 => ?_
    refine g_' ?_
    refine q_ (.bool false) ?_
    refine s_nil (k42 _ _ ?_)
    refine w_ret (bl_ret (th_ret (th_ret (bl_ret (th_ret (th_ret ?_))))))
    obtain ⟨v43, hv44, hz45⟩ := map_some r41
    subst hz45
    obtain rfl := it_inr hn27
    have hq46 := elim_inl r12
    rw [hq46] at hv44
    refine b_ret (fn := Try.f19) (vs := [.bool false]) (aRes_tmp (by kernel_rfl) (rfl)) ?_
    obtain rfl := Option.some.inj hv44
    exact ⟨rfl, rfl⟩
   have r47 := ite_t h40 r39
   refine w_skip ?_
   refine k33 _ _ ?_
   refine g_' ?_
   obtain ⟨g48, r49⟩ := G_some r47
   refine s_w ((i0 + 1)) (k := .i64) (x := (i0 + 1)) (by kernel_rfl) (wrap64 (by have := g48; omega)) ?_
   refine q_ (i_ (i0 + 1)) ?_
   refine s_nil ?_
   obtain rfl := Option.some.inj r49
   exact k28 n24 _ _ (Nat.lt_succ_self _) ⟨(i0 + 1), hn27, ha_, rfl⟩
  have r50 := ite_f h31 hz26
  refine w_exit (th_exit (th_exit (bl_eq ?_)))
  obtain rfl := Option.some.inj r50
  obtain rfl := it_inr hn27
  exact k16 _ _ ⟨_, rfl, trivial, rfl⟩
 obtain ⟨o10, rfl, hh17, rfl⟩ := hM
 have r51 := elim_inr r12
 obtain ⟨β, rfl⟩ := has_ex hh17
 clear hh17
 refine k8 _ _ ?_
 refine w_seqk fun _ k52 => ?_
 refine g_' ?_
 refine q_ (.bool true) ?_
 refine s_nil (k52 _ _ ?_)
 refine w_ret ?_
 refine b_ret (fn := Try.f19) (vs := [.bool true]) (aRes_tmp (by kernel_rfl) (rfl)) ?_
 obtain rfl := Option.some.inj r51
 exact ⟨rfl, rfl⟩


end Go.Vd
