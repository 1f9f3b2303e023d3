/- The walks of the functions (printed by a program of ours). -/
import Derived.Test.YtbjamignglibpaaPsm1
import Derived.Test.YtbjamignglibpaaVeC
import Derived.Test.YtbjamignglibpaaISm
import Derived.Test.YtbjamignglibpaaVeN
import Derived.Test.YtbjamignglibpaaSoA
import Derived.Test.YtbjamignglibpaaVeV
set_option linter.unusedVariables false
set_option linter.unusedSimpArgs false
set_option linter.unusedSectionVars false
/-! (KSm3) -/

set_option maxRecDepth 100000
set_option maxHeartbeats 4000000
set_option linter.unusedVariables false
namespace Go.Vd
open Go.Proofs
attribute [local irreducible] wpSeq wpOrd aWp
theorem c_heap_Heap_down {H : AH} {b_h : Nat} {hd_h_ : Value} {fp_h_ : Fp} {hd_h_2 : Value} {fp_h_2 : Fp} {h_ : List (Int × Int)} {h_2 : List (Int)} {i : Int} {r : List (Int × Int) × List (Int)}
  (wf : WF H) (h_h_ : Ow enc_u64_u32 2 H hd_h_ h_ fp_h_) (h_h_2 : Ow (encI .i64) 1 H hd_h_2 h_2 fp_h_2) (h_h : Row H b_h [hd_h_, hd_h_2]) (dj_fp_h__b_h : Dj fp_h_ [b_h]) (dj_fp_h__fp_h_2 : Dj fp_h_ fp_h_2) (dj_fp_h_2_b_h : Dj fp_h_2 [b_h]) (hr : z_heap_Heap_down h_ h_2 i = some r) :
  ACalls Try.prog 99 #[.pointer (some ⟨b_h, 0, none⟩), .int .i64 i] H fun v H' => v = .tuple #[] ∧ FrS (fp_h_ ++ fp_h_2) H H' ∧ Ow enc_u64_u32 2 H' hd_h_ r.1 fp_h_ ∧ Ow (encI .i64) 1 H' hd_h_2 r.2 fp_h_2 := by
 refine acalls_of_body mixed Try.func99 rfl (Nat.le_of_ble_eq_true rfl) ?_
 unfold z_heap_Heap_down at hr
 refine w_seqk fun K5 k5 => ?_
 refine w_reg (by kernel_rfl) ?_
 refine s_qk (.pointer (some ⟨b_h, 0, none⟩)) (by kernel_rfl) ?_
 refine s_qk (.pointer (some ⟨b_h, 0, none⟩)) (by kernel_rfl) ?_
 refine s_qk (.pointer (some ⟨b_h, 0, none⟩)) (by kernel_rfl) ?_
 refine s_ql (hd_h_) (x := aLoad Try.prog 155 (.pointer (some ⟨b_h, 0, none⟩)) H) (by kernel_rfl) (h_h.ld (by kernel_rfl)) ?_
 refine s_qk (.int .i64 i) (by kernel_rfl) ?_
 obtain ⟨g6, r7⟩ := G_some hr
 refine s_ql (elp hd_h_ 2 i.toNat 0) (x := aIndexAddr Try.prog 155 hd_h_ (.int .i64 i)) (by kernel_rfl) (h_h_.sq.idxb (by kernel_rfl) g6.1 g6.2) ?_
 refine s_ql (.agg #[.int .u64 ((gt h_ i).1), .int .u32 ((gt h_ i).2)]) (x := aLoad Try.prog 161 (elp hd_h_ 2 i.toNat 0) H) (by kernel_rfl) (h_h_.sq.ld g6.1 g6.2 (by kernel_rfl)) ?_
 refine s_rwk wf [.int .u64 0, .int .u32 0] (by kernel_rfl) fun b8 H9 e10 hb11 r12 => ?_
 obtain ⟨H14, q15, e16, r17⟩ := Row.store (P := Try.prog) (t := 161) (p := 0) e10.wf r12 (.agg #[.int .u64 ((gt h_ i).1), .int .u32 ((gt h_ i).2)]) [.int .u64 ((gt h_ i).1), .int .u32 ((gt h_ i).2)] (by kernel_rfl) (by kernel_rfl) (one_cons (rfl) (one_cons (rfl) (one_nil))) (Nat.le_of_ble_eq_true (by kernel_rfl)) [.int .u64 ((gt h_ i).1), .int .u32 ((gt h_ i).2)] (by kernel_rfl)
 refine s_ek (undef) (by kernel_rfl) (map_ok q15) ?_
 refine s_nil ?_
 refine k5 _ _ ?_
 refine w_seqk fun K18 k18 => ?_
 obtain ⟨o19, hx20, r21⟩ := bind_some r7
 refine w_mid (fun α H22 => Has α [(0, .pointer (some ⟨b_h, 0, none⟩)), (1, .int .i64 o19.2.2), (4, .pointer (some ⟨b8, 0, none⟩))] ∧ FrS (fp_h_ ++ fp_h_2) H14 H22 ∧ Ow enc_u64_u32 2 H22 hd_h_ o19.1 fp_h_ ∧ Ow (encI .i64) 1 H22 hd_h_2 o19.2.1 fp_h_2) (fun K28 k28 => ?_) (fun α H22 hM => ?_)
 ·refine w_block ?_
  obtain ⟨n30, hn31⟩ := loopO_iff.1 hx20
  have u44 := ((h_h_.ext e10).fr e16 (hb11.djn h_h_.lt))
  have u45 := ((h_h_2.ext e10).fr e16 (hb11.djn h_h_2.lt))
  refine w_loopn (fun n α H32 => ∃ (h2 : List (Int × Int)), ∃ (h3 : List (Int)), ∃ (i4 : Int), iterO (fun zz_ => z_heap_Heap_down_l1 h_ i zz_.1 zz_.2.1 zz_.2.2) n (h2, h3, i4) = some o19 ∧ Has α [(0, .pointer (some ⟨b_h, 0, none⟩)), (1, .int .i64 i4), (4, .pointer (some ⟨b8, 0, none⟩))] ∧ FrS (fp_h_ ++ fp_h_2) H14 H32 ∧ Ow enc_u64_u32 2 H32 hd_h_ h2 fp_h_ ∧ Ow (encI .i64) 1 H32 hd_h_2 h3 fp_h_2) n30 ⟨h_, h_2, i, hn31, ⟨by kernel_rfl, by kernel_rfl, by kernel_rfl, trivial⟩, (FrS.refl (W := (fp_h_ ++ fp_h_2)) e16.wf), u44, u45⟩ ?_
  rintro n30 α H32 ⟨h2, h3, i4, hi39, hh38, e33, m35, m37⟩ K46 k46
  obtain ⟨n40, z41, rfl, hz42, hn43⟩ := iter_succ hi39
  obtain ⟨β, rfl⟩ := has_ex hh38
  clear hh38
  replace hz42 : z_heap_Heap_down_l1 h_ i h2 h3 i4 = some z41 := hz42
  unfold z_heap_Heap_down_l1 at hz42
  refine w_block ?_
  refine w_seqk fun K47 k47 => ?_
  refine w_reg (by kernel_rfl) ?_
  refine s_qk (.int .i64 (-1)) (by kernel_rfl) ?_
  refine s_nil ?_
  refine k47 _ _ ?_
  refine w_seqk fun K48 k48 => ?_
  refine w_seqk fun K49 k49 => ?_
  refine w_reg (by kernel_rfl) ?_
  refine s_qk (.int .i64 0) (by kernel_rfl) ?_
  refine s_nil ?_
  refine k49 _ _ ?_
  obtain ⟨o50, hx51, r52⟩ := bind_some hz42
  refine w_mid (fun α H53 => Has α [(0, .pointer (some ⟨b_h, 0, none⟩)), (1, .int .i64 i4), (4, .pointer (some ⟨b8, 0, none⟩)), (5, .int .i64 o50)] ∧ FrS [] H32 H53) (fun K55 k55 => ?_) (fun α H53 hM => ?_)
  ·refine w_block ?_
   obtain ⟨n57, hn58⟩ := loopO_iff.1 hx51
   refine w_loopn (fun n α H59 => ∃ (i0 : Int), ∃ (best1 : Int), iterO (fun zz_ => z_heap_Heap_down_l0 h2 i4 zz_.1 zz_.2) n (i0, best1) = some o50 ∧ Has α [(0, .pointer (some ⟨b_h, 0, none⟩)), (1, .int .i64 i4), (4, .pointer (some ⟨b8, 0, none⟩)), (5, .int .i64 best1), (15, .int .i64 i0)] ∧ FrS [] H32 H59) n57 ⟨0, (-1), hn58, ⟨by kernel_rfl, by kernel_rfl, by kernel_rfl, by kernel_rfl, by kernel_rfl, trivial⟩, (FrS.refl (W := []) e33.wf)⟩ ?_
   rintro n57 α H59 ⟨i0, best1, hi62, hh61, e60⟩ K67 k67
   obtain ⟨n63, z64, rfl, hz65, hn66⟩ := iter_succ hi62
   obtain ⟨β, rfl⟩ := has_ex hh61
   clear hh61
   replace hz65 : z_heap_Heap_down_l0 h2 i4 i0 best1 = some z64 := hz65
   unfold z_heap_Heap_down_l0 at hz65
   refine w_seqk fun K68 k68 => ?_
   refine w_reg (by kernel_rfl) ?_
   refine s_qk (.bool (decide (i0 < 4))) (by kernel_rfl) ?_
   refine s_nil ?_
   refine k68 _ _ ?_
   refine w_seqk fun K69 k69 => ?_
   refine w_condp (i0 < 4) (by kernel_rfl) rfl (fun h70 => ?_) (fun h70 => ?_)
   ·have r71 := ite_t h70 hz65
    refine w_skip ?_
    refine k69 _ _ ?_
    refine w_seqk fun K72 k72 => ?_
    refine w_block ?_
    refine w_seqk fun K73 k73 => ?_
    refine w_reg (by kernel_rfl) ?_
    refine s_qk (.int .i64 i0) (by kernel_rfl) ?_
    refine s_qk (.int .i64 i0) (by kernel_rfl) ?_
    refine s_nil ?_
    refine k73 _ _ ?_
    refine w_seqk fun K74 k74 => ?_
    refine w_reg (by kernel_rfl) ?_
    refine s_qk (.int .i64 i4) (by kernel_rfl) ?_
    obtain ⟨g75, r76⟩ := G_some r71
    refine s_w ((i4 * 4)) (k := .i64) (x := (i4 * 4)) (by kernel_rfl) (wrap64 g75) ?_
    obtain ⟨g77, r78⟩ := G_some r76
    refine s_w (((i4 * 4) + 1)) (k := .i64) (x := ((i4 * 4) + 1)) (by kernel_rfl) (wrap64 g77) ?_
    refine s_qk (.int .i64 i0) (by kernel_rfl) ?_
    obtain ⟨g79, r80⟩ := G_some r78
    refine s_w ((((i4 * 4) + 1) + i0)) (k := .i64) (x := (((i4 * 4) + 1) + i0)) (by kernel_rfl) (wrap64 g79) ?_
    refine s_qk (.int .i64 (((i4 * 4) + 1) + i0)) (by kernel_rfl) ?_
    refine s_nil ?_
    refine k74 _ _ ?_
    refine w_seqk fun K81 k81 => ?_
    refine w_draw [0, 1, 2, 3, 4, 5, 6, 7, 8, 9, 10, 11, 12, 13, 14, 15, 16, 17, 18, 19, 20, 21, 22, 23, 24, 25, 26, 27] (by kernel_rfl) ?_
    refine d_qk (.int .i64 (((i4 * 4) + 1) + i0)) (by kernel_rfl) ?_
    refine d_qk (.pointer (some ⟨b_h, 0, none⟩)) (by kernel_rfl) ?_
    refine d_qk (.pointer (some ⟨b_h, 0, none⟩)) (by kernel_rfl) ?_
    refine d_qk (.pointer (some ⟨b_h, 0, none⟩)) (by kernel_rfl) ?_
    have u82 := ((((h_h.ext e10).frS e16 (hb11.djn h_h.ltF)).frS e33 (Dj.app dj_fp_h__b_h dj_fp_h_2_b_h)).frS e60 Dj.nil_l)
    refine d_ql (hd_h_) (x := aLoad Try.prog 155 (.pointer (some ⟨b_h, 0, none⟩)) H59) (by kernel_rfl) (u82.ld (by kernel_rfl)) ?_
    have u83 := (m35.fr e60 Dj.nil_l)
    refine d_ql (.int .i64 (h2.length : Int)) (x := aLen Try.prog 155 hd_h_ H59) (by kernel_rfl) (u83.sq.lenb (by kernel_rfl)) ?_
    refine d_b ((((i4 * 4) + 1) + i0) < (h2.length : Int)) (by kernel_rfl) (fun h84 => ?_) (fun h84 => ?_)
    ·have r85 := ite_t h84 r80
     refine d_qk (.bool true) (by kernel_rfl) ?_
     refine d_qk (.int .i64 best1) (by kernel_rfl) ?_
     refine d_b (best1 < 0) (by kernel_rfl) (fun h86 => ?_) (fun h86 => ?_)
     ·have r87 := ite_t h86 r85
      refine d_qk (.bool true) (by kernel_rfl) ?_
      refine d_idle (by kernel_rfl) ?_
      refine d_idle (by kernel_rfl) ?_
      refine d_idle (by kernel_rfl) ?_
      refine d_idle (by kernel_rfl) ?_
      refine d_idle (by kernel_rfl) ?_
      refine d_idle (by kernel_rfl) ?_
      refine d_idle (by kernel_rfl) ?_
      refine d_idle (by kernel_rfl) ?_
      refine d_idle (by kernel_rfl) ?_
      refine d_idle (by kernel_rfl) ?_
      refine d_idle (by kernel_rfl) ?_
      refine d_idle (by kernel_rfl) ?_
      refine d_idle (by kernel_rfl) ?_
      refine d_idle (by kernel_rfl) ?_
      refine d_idle (by kernel_rfl) ?_
      refine d_qk (.bool true) (by kernel_rfl) ?_
      refine d_qk (.bool true) (by kernel_rfl) ?_
      refine d_nil ?_
      refine k81 _ _ ?_
      refine w_cond true (by kernel_rfl) rfl (fun _ => ?_) (fun h => by cases h)
      refine w_reg (by kernel_rfl) ?_
      refine s_qk (.int .i64 (((i4 * 4) + 1) + i0)) (by kernel_rfl) ?_
      refine s_qk (.int .i64 (((i4 * 4) + 1) + i0)) (by kernel_rfl) ?_
      refine s_nil ?_
      refine k72 _ _ ?_
      refine w_reg (by kernel_rfl) ?_
      obtain ⟨g88, r89⟩ := G_some r87
      refine s_w ((i0 + 1)) (k := .i64) (x := (i0 + 1)) (by kernel_rfl) (wrap64 g88) ?_
      refine s_qk (.int .i64 (i0 + 1)) (by kernel_rfl) ?_
      refine s_nil ?_
      obtain rfl := Option.some.inj r89
      exact k67 n63 _ _ (Nat.lt_succ_self _) ⟨(i0 + 1), (((i4 * 4) + 1) + i0), hn66, ⟨by kernel_rfl, by kernel_rfl, by kernel_rfl, by kernel_rfl, by kernel_rfl, trivial⟩, (FrS.step e33.wf (FrS.refl (W := []) e33.wf) e60 Inn.nil)⟩
     ·have r90 := ite_f h86 r85
      refine d_qk (.bool false) (by kernel_rfl) ?_
      refine d_qk (.pointer (some ⟨b_h, 0, none⟩)) (by kernel_rfl) ?_
      refine d_qk (.pointer (some ⟨b_h, 0, none⟩)) (by kernel_rfl) ?_
      refine d_qk (.pointer (some ⟨b_h, 0, none⟩)) (by kernel_rfl) ?_
      refine d_ql (hd_h_) (x := aLoad Try.prog 155 (.pointer (some ⟨b_h, 0, none⟩)) H59) (by kernel_rfl) (u82.ld (by kernel_rfl)) ?_
      refine d_qk (.int .i64 (((i4 * 4) + 1) + i0)) (by kernel_rfl) ?_
      obtain ⟨g91, r92⟩ := G_some r90
      refine d_ql (elp hd_h_ 2 (((i4 * 4) + 1) + i0).toNat 0) (x := aIndexAddr Try.prog 155 hd_h_ (.int .i64 (((i4 * 4) + 1) + i0))) (by kernel_rfl) (u83.sq.idxb (by kernel_rfl) g91 h84) ?_
      refine d_ql (.agg #[.int .u64 ((gt h2 (((i4 * 4) + 1) + i0)).1), .int .u32 ((gt h2 (((i4 * 4) + 1) + i0)).2)]) (x := aLoad Try.prog 161 (elp hd_h_ 2 (((i4 * 4) + 1) + i0).toNat 0) H59) (by kernel_rfl) (u83.sq.ld g91 h84 (by kernel_rfl)) ?_
      refine d_qk (.pointer (some ⟨b_h, 0, none⟩)) (by kernel_rfl) ?_
      refine d_qk (.pointer (some ⟨b_h, 0, none⟩)) (by kernel_rfl) ?_
      refine d_qk (.pointer (some ⟨b_h, 0, none⟩)) (by kernel_rfl) ?_
      refine d_ql (hd_h_) (x := aLoad Try.prog 155 (.pointer (some ⟨b_h, 0, none⟩)) H59) (by kernel_rfl) (u82.ld (by kernel_rfl)) ?_
      refine d_qk (.int .i64 best1) (by kernel_rfl) ?_
      obtain ⟨g93, r94⟩ := G_some r92
      refine d_ql (elp hd_h_ 2 best1.toNat 0) (x := aIndexAddr Try.prog 155 hd_h_ (.int .i64 best1)) (by kernel_rfl) (u83.sq.idxb (by kernel_rfl) g93.1 g93.2) ?_
      refine d_ql (.agg #[.int .u64 ((gt h2 best1).1), .int .u32 ((gt h2 best1).2)]) (x := aLoad Try.prog 161 (elp hd_h_ 2 best1.toNat 0) H59) (by kernel_rfl) (u83.sq.ld g93.1 g93.2 (by kernel_rfl)) ?_
      obtain ⟨y95, hy96, r97⟩ := bind_some r94
      refine d_ck 112 #[.agg #[.int .u64 ((gt h2 (((i4 * 4) + 1) + i0)).1), .int .u32 ((gt h2 (((i4 * 4) + 1) + i0)).2)], .agg #[.int .u64 ((gt h2 best1).1), .int .u32 ((gt h2 best1).2)]] (by kernel_rfl) (c_heap_item_less e60.wf hy96) ?_
      rintro _ H98 ⟨rfl, e99⟩
      refine ⟨st_nil, ?_⟩
      refine d_qk (.bool y95) (by kernel_rfl) ?_
      refine d_qk (.bool y95) (by kernel_rfl) ?_
      refine d_nil ?_
      refine k81 _ _ ?_
      refine w_cond (y95) (by kernel_rfl) rfl (fun h100 => ?_) (fun h100 => ?_)
      ·have r101 := ite_t h100 r97
       refine w_reg (by kernel_rfl) ?_
       refine s_qk (.int .i64 (((i4 * 4) + 1) + i0)) (by kernel_rfl) ?_
       refine s_qk (.int .i64 (((i4 * 4) + 1) + i0)) (by kernel_rfl) ?_
       refine s_nil ?_
       refine k72 _ _ ?_
       refine w_reg (by kernel_rfl) ?_
       obtain ⟨g102, r103⟩ := G_some r101
       refine s_w ((i0 + 1)) (k := .i64) (x := (i0 + 1)) (by kernel_rfl) (wrap64 g102) ?_
       refine s_qk (.int .i64 (i0 + 1)) (by kernel_rfl) ?_
       refine s_nil ?_
       obtain rfl := Option.some.inj r103
       exact k67 n63 _ _ (Nat.lt_succ_self _) ⟨(i0 + 1), (((i4 * 4) + 1) + i0), hn66, ⟨by kernel_rfl, by kernel_rfl, by kernel_rfl, by kernel_rfl, by kernel_rfl, trivial⟩, (FrS.step e33.wf (FrS.step e33.wf (FrS.refl (W := []) e33.wf) e60 Inn.nil) e99 Inn.nil)⟩
      ·have r104 := ite_bf h100 r97
       refine w_skip ?_
       refine k72 _ _ ?_
       refine w_reg (by kernel_rfl) ?_
       obtain ⟨g105, r106⟩ := G_some r104
       refine s_w ((i0 + 1)) (k := .i64) (x := (i0 + 1)) (by kernel_rfl) (wrap64 g105) ?_
       refine s_qk (.int .i64 (i0 + 1)) (by kernel_rfl) ?_
       refine s_nil ?_
       obtain rfl := Option.some.inj r106
       exact k67 n63 _ _ (Nat.lt_succ_self _) ⟨(i0 + 1), best1, hn66, ⟨by kernel_rfl, by kernel_rfl, by kernel_rfl, by kernel_rfl, by kernel_rfl, trivial⟩, (FrS.step e33.wf (FrS.step e33.wf (FrS.refl (W := []) e33.wf) e60 Inn.nil) e99 Inn.nil)⟩
    ·have r107 := ite_f h84 r80
     refine d_qk (.bool false) (by kernel_rfl) ?_
     refine d_idle (by kernel_rfl) ?_
     refine d_idle (by kernel_rfl) ?_
     refine d_idle (by kernel_rfl) ?_
     refine d_idle (by kernel_rfl) ?_
     refine d_idle (by kernel_rfl) ?_
     refine d_idle (by kernel_rfl) ?_
     refine d_idle (by kernel_rfl) ?_
     refine d_idle (by kernel_rfl) ?_
     refine d_idle (by kernel_rfl) ?_
     refine d_idle (by kernel_rfl) ?_
     refine d_idle (by kernel_rfl) ?_
     refine d_idle (by kernel_rfl) ?_
     refine d_idle (by kernel_rfl) ?_
     refine d_idle (by kernel_rfl) ?_
     refine d_idle (by kernel_rfl) ?_
     refine d_idle (by kernel_rfl) ?_
     refine d_idle (by kernel_rfl) ?_
     refine d_idle (by kernel_rfl) ?_
     refine d_idle (by kernel_rfl) ?_
     refine d_qk (.bool false) (by kernel_rfl) ?_
     refine d_nil ?_
     refine k81 _ _ ?_
     refine w_cond false (by kernel_rfl) rfl (fun h => by cases h) (fun _ => ?_)
     refine w_skip ?_
     refine k72 _ _ ?_
     refine w_reg (by kernel_rfl) ?_
     obtain ⟨g108, r109⟩ := G_some r107
     refine s_w ((i0 + 1)) (k := .i64) (x := (i0 + 1)) (by kernel_rfl) (wrap64 g108) ?_
     refine s_qk (.int .i64 (i0 + 1)) (by kernel_rfl) ?_
     refine s_nil ?_
     obtain rfl := Option.some.inj r109
     exact k67 n63 _ _ (Nat.lt_succ_self _) ⟨(i0 + 1), best1, hn66, ⟨by kernel_rfl, by kernel_rfl, by kernel_rfl, by kernel_rfl, by kernel_rfl, trivial⟩, (FrS.step e33.wf (FrS.refl (W := []) e33.wf) e60 Inn.nil)⟩
   ·have r110 := ite_f h70 hz65
    refine w_exit (th_exit (th_exit (bl_eq ?_)))
    obtain rfl := Option.some.inj r110
    obtain rfl := it_inr hn66
    exact k55 _ _ ⟨⟨by kernel_rfl, by kernel_rfl, by kernel_rfl, by kernel_rfl, trivial⟩, (FrS.step e33.wf (FrS.refl (W := []) e33.wf) e60 Inn.nil)⟩
  ·obtain ⟨hh56, e54⟩ := hM
   obtain ⟨β, rfl⟩ := has_ex hh56
   clear hh56
   refine k48 _ _ ?_
   refine w_seqk fun K111 k111 => ?_
   refine w_seqk fun K112 k112 => ?_
   obtain ⟨o113, hx114, r115⟩ := bind_some r52
   refine w_mid (fun α H116 => Has α [(0, .pointer (some ⟨b_h, 0, none⟩)), (1, .int .i64 i4), (4, .pointer (some ⟨b8, 0, none⟩)), (5, .int .i64 o50), (66, .bool o113)] ∧ FrS [] H53 H116) (fun K118 k118 => ?_) (fun α H116 hM => ?_)
   ·refine w_draw [0, 1, 2, 3, 4, 5, 6, 7, 8, 9, 10, 11, 12, 13] (by kernel_rfl) ?_
    refine d_qk (.int .i64 o50) (by kernel_rfl) ?_
    refine d_b (o50 < 0) (by kernel_rfl) (fun h120 => ?_) (fun h120 => ?_)
    ·have r121 := ite_t h120 hx114
     refine d_qk (.bool true) (by kernel_rfl) ?_
     refine d_idle (by kernel_rfl) ?_
     refine d_idle (by kernel_rfl) ?_
     refine d_idle (by kernel_rfl) ?_
     refine d_idle (by kernel_rfl) ?_
     refine d_idle (by kernel_rfl) ?_
     refine d_idle (by kernel_rfl) ?_
     refine d_idle (by kernel_rfl) ?_
     refine d_idle (by kernel_rfl) ?_
     refine d_idle (by kernel_rfl) ?_
     refine d_idle (by kernel_rfl) ?_
     refine d_qk (.bool true) (by kernel_rfl) ?_
     refine d_nil ?_
     obtain rfl := Option.some.inj r121
     exact k118 _ _ ⟨⟨by kernel_rfl, by kernel_rfl, by kernel_rfl, by kernel_rfl, by kernel_rfl, trivial⟩, (FrS.refl (W := []) e54.wf)⟩
    ·have r122 := ite_f h120 hx114
     refine d_qk (.bool false) (by kernel_rfl) ?_
     refine d_qk (.pointer (some ⟨b_h, 0, none⟩)) (by kernel_rfl) ?_
     refine d_qk (.pointer (some ⟨b_h, 0, none⟩)) (by kernel_rfl) ?_
     refine d_qk (.pointer (some ⟨b_h, 0, none⟩)) (by kernel_rfl) ?_
     have u123 := ((((h_h.ext e10).frS e16 (hb11.djn h_h.ltF)).frS e33 (Dj.app dj_fp_h__b_h dj_fp_h_2_b_h)).frS e54 Dj.nil_l)
     refine d_ql (hd_h_) (x := aLoad Try.prog 155 (.pointer (some ⟨b_h, 0, none⟩)) H53) (by kernel_rfl) (u123.ld (by kernel_rfl)) ?_
     refine d_qk (.int .i64 o50) (by kernel_rfl) ?_
     obtain ⟨g124, r125⟩ := G_some r122
     have u126 := (m35.fr e54 Dj.nil_l)
     refine d_ql (elp hd_h_ 2 o50.toNat 0) (x := aIndexAddr Try.prog 155 hd_h_ (.int .i64 o50)) (by kernel_rfl) (u126.sq.idxb (by kernel_rfl) g124.1 g124.2) ?_
     refine d_ql (.agg #[.int .u64 ((gt h2 o50).1), .int .u32 ((gt h2 o50).2)]) (x := aLoad Try.prog 161 (elp hd_h_ 2 o50.toNat 0) H53) (by kernel_rfl) (u126.sq.ld g124.1 g124.2 (by kernel_rfl)) ?_
     have u127 := ((r17.frS e33 (Dj.app (Dj.symm (hb11.djn h_h_.lt)) (Dj.symm (hb11.djn h_h_2.lt)))).frS e54 Dj.nil_l)
     refine d_ql (.agg #[.int .u64 ((gt h_ i).1), .int .u32 ((gt h_ i).2)]) (x := aLoad Try.prog 161 (.pointer (some ⟨b8, 0, none⟩)) H53) (by kernel_rfl) (u127.ld (by kernel_rfl)) ?_
     obtain ⟨y128, hy129, r130⟩ := bind_some r125
     refine d_ck 112 #[.agg #[.int .u64 ((gt h2 o50).1), .int .u32 ((gt h2 o50).2)], .agg #[.int .u64 ((gt h_ i).1), .int .u32 ((gt h_ i).2)]] (by kernel_rfl) (c_heap_item_less e54.wf hy129) ?_
     rintro _ H131 ⟨rfl, e132⟩
     refine ⟨st_nil, ?_⟩
     refine d_qk (.bool (!y128)) (by kernel_rfl) ?_
     refine d_qk (.bool (!y128)) (by kernel_rfl) ?_
     refine d_nil ?_
     obtain rfl := Option.some.inj r130
     exact k118 _ _ ⟨⟨by kernel_rfl, by kernel_rfl, by kernel_rfl, by kernel_rfl, by kernel_rfl, trivial⟩, (FrS.step e54.wf (FrS.refl (W := []) e54.wf) e132 Inn.nil)⟩
   ·obtain ⟨hh119, e117⟩ := hM
    obtain ⟨β, rfl⟩ := has_ex hh119
    clear hh119
    refine k112 _ _ ?_
    refine w_cond (o113) (by kernel_rfl) rfl (fun h133 => ?_) (fun h133 => ?_)
    ·have r134 := ite_t h133 r115
     refine w_exit (th_exit (bl_ne (by decide) (th_exit (bl_eq ?_))))
     have u135 := ((m35.fr e54 Dj.nil_l).fr e117 Dj.nil_l)
     have u136 := ((m37.fr e54 Dj.nil_l).fr e117 Dj.nil_l)
     obtain rfl := Option.some.inj r134
     obtain rfl := it_inr hn43
     exact k28 _ _ ⟨⟨by kernel_rfl, by kernel_rfl, by kernel_rfl, trivial⟩, (FrS.step e16.wf (FrS.step e16.wf (FrS.step e16.wf (FrS.refl (W := (fp_h_ ++ fp_h_2)) e16.wf) e33 (Inn.app Inn.left (Inn.right Inn.refl'))) e54 Inn.nil) e117 Inn.nil), u135, u136⟩
    ·have r137 := ite_bf h133 r115
     refine w_skip ?_
     refine k111 _ _ ?_
     refine w_seqk fun K138 k138 => ?_
     refine w_reg (by kernel_rfl) ?_
     refine s_qk (.pointer (some ⟨b_h, 0, none⟩)) (by kernel_rfl) ?_
     refine s_qk (.int .i64 i4) (by kernel_rfl) ?_
     refine s_qk (.pointer (some ⟨b_h, 0, none⟩)) (by kernel_rfl) ?_
     refine s_qk (.pointer (some ⟨b_h, 0, none⟩)) (by kernel_rfl) ?_
     refine s_qk (.pointer (some ⟨b_h, 0, none⟩)) (by kernel_rfl) ?_
     have u139 := (((((h_h.ext e10).frS e16 (hb11.djn h_h.ltF)).frS e33 (Dj.app dj_fp_h__b_h dj_fp_h_2_b_h)).frS e54 Dj.nil_l).frS e117 Dj.nil_l)
     refine s_ql (hd_h_) (x := aLoad Try.prog 155 (.pointer (some ⟨b_h, 0, none⟩)) H116) (by kernel_rfl) (u139.ld (by kernel_rfl)) ?_
     refine s_qk (.int .i64 o50) (by kernel_rfl) ?_
     obtain ⟨g140, r141⟩ := G_some r137
     have u142 := ((m35.fr e54 Dj.nil_l).fr e117 Dj.nil_l)
     refine s_ql (elp hd_h_ 2 o50.toNat 0) (x := aIndexAddr Try.prog 155 hd_h_ (.int .i64 o50)) (by kernel_rfl) (u142.sq.idxb (by kernel_rfl) g140.1 g140.2) ?_
     refine s_ql (.agg #[.int .u64 ((gt h2 o50).1), .int .u32 ((gt h2 o50).2)]) (x := aLoad Try.prog 161 (elp hd_h_ 2 o50.toNat 0) H116) (by kernel_rfl) (u142.sq.ld g140.1 g140.2 (by kernel_rfl)) ?_
     have u143 := ((m37.fr e54 Dj.nil_l).fr e117 Dj.nil_l)
     obtain ⟨y144, hy145, r146⟩ := bind_some r141
     refine s_ck 97 #[.pointer (some ⟨b_h, 0, none⟩), .int .i64 i4, .agg #[.int .u64 ((gt h2 o50).1), .int .u32 ((gt h2 o50).2)]] (by kernel_rfl) (c_heap_Heap_put e117.wf u142 u143 u139 dj_fp_h__b_h dj_fp_h__fp_h_2 hy145) ?_
     rintro _ H147 ⟨rfl, e148, m149, m150⟩
     refine s_nil ?_
     refine k138 _ _ ?_
     refine w_reg (by kernel_rfl) ?_
     refine s_qk (.int .i64 o50) (by kernel_rfl) ?_
     refine s_qk (.int .i64 o50) (by kernel_rfl) ?_
     refine s_nil ?_
     obtain rfl := Option.some.inj r146
     exact k46 n40 _ _ (Nat.lt_succ_self _) ⟨y144.1, y144.2, o50, hn43, ⟨by kernel_rfl, by kernel_rfl, by kernel_rfl, trivial⟩, (FrS.step e16.wf (FrS.step e16.wf (FrS.step e16.wf (FrS.step e16.wf (FrS.refl (W := (fp_h_ ++ fp_h_2)) e16.wf) e33 (Inn.app Inn.left (Inn.right Inn.refl'))) e54 Inn.nil) e117 Inn.nil) e148 (Inn.app Inn.left (Inn.right Inn.refl'))), m149, m150⟩
 ·obtain ⟨hh29, e23, m25, m27⟩ := hM
  obtain ⟨β, rfl⟩ := has_ex hh29
  clear hh29
  refine k18 _ _ ?_
  refine w_reg (by kernel_rfl) ?_
  refine s_qk (.pointer (some ⟨b_h, 0, none⟩)) (by kernel_rfl) ?_
  refine s_qk (.int .i64 o19.2.2) (by kernel_rfl) ?_
  have u151 := (r17.frS e23 (Dj.app (Dj.symm (hb11.djn h_h_.lt)) (Dj.symm (hb11.djn h_h_2.lt))))
  refine s_ql (.agg #[.int .u64 ((gt h_ i).1), .int .u32 ((gt h_ i).2)]) (x := aLoad Try.prog 161 (.pointer (some ⟨b8, 0, none⟩)) H22) (by kernel_rfl) (u151.ld (by kernel_rfl)) ?_
  have u152 := (((h_h.ext e10).frS e16 (hb11.djn h_h.ltF)).frS e23 (Dj.app dj_fp_h__b_h dj_fp_h_2_b_h))
  obtain ⟨y153, hy154, r155⟩ := bind_some r21
  refine s_ck 97 #[.pointer (some ⟨b_h, 0, none⟩), .int .i64 o19.2.2, .agg #[.int .u64 ((gt h_ i).1), .int .u32 ((gt h_ i).2)]] (by kernel_rfl) (c_heap_Heap_put e23.wf m25 m27 u152 dj_fp_h__b_h dj_fp_h__fp_h_2 hy154) ?_
  rintro _ H156 ⟨rfl, e157, m158, m159⟩
  refine s_nil ?_
  refine b_nrm (fn := Try.f99) (vs := []) (rfl) ?_
  obtain rfl := Option.some.inj r155
  exact ⟨rfl, (FrS.step wf (FrS.step wf (FrS.step wf ((FrS.refl (W := (fp_h_ ++ fp_h_2)) wf).extR e10) e16 (hb11.fresh (Nat.le_refl _))) e23 (Inn.app Inn.left (Inn.right Inn.refl'))) e157 (Inn.app Inn.left (Inn.right Inn.refl'))), m158, m159⟩

theorem c_heap_Heap_Set {H : AH} {b_h : Nat} {hd_h_ : Value} {fp_h_ : Fp} {hd_h_2 : Value} {fp_h_2 : Fp} {h_ : List (Int × Int)} {h_2 : List (Int)} {id_ : Int} {key : Int} {r : Er × List (Int) × List (Int × Int)}
  (wf : WF H) (h_h_ : Ow enc_u64_u32 2 H hd_h_ h_ fp_h_) (h_h_2 : Ow (encI .i64) 1 H hd_h_2 h_2 fp_h_2) (h_h : Row H b_h [hd_h_, hd_h_2]) (dj_fp_h__b_h : Dj fp_h_ [b_h]) (dj_fp_h__fp_h_2 : Dj fp_h_ fp_h_2) (dj_b_h_fp_h_2 : Dj [b_h] fp_h_2) (hr : z_heap_Heap_Set h_ h_2 id_ key = some r) :
  ACalls Try.prog 87 #[.pointer (some ⟨b_h, 0, none⟩), .int .u32 id_, .int .u64 key] H fun v H' => ∃ (v3 : Value) (f4 : Fp) (s9 : Value) (f10 : Fp), v = v3 ∧ FrS ([b_h] ++ (fp_h_ ++ fp_h_2)) H H' ∧ Ev 82 123 H' v3 r.1 f4 ∧ Ow (encI .i64) 1 H' hd_h_2 r.2.1 fp_h_2 ∧ Ow enc_u64_u32 2 H' s9 r.2.2 f10 ∧ Row H' b_h [s9, hd_h_2] ∧ Inn [] H f4 ∧ Inn fp_h_ H f10 ∧ Dj f4 f10 := by
 refine acalls_of_body mixed Try.func87 rfl (Nat.le_of_ble_eq_true rfl) ?_
 unfold z_heap_Heap_Set at hr
 refine w_seqk fun K16 k16 => ?_
 refine w_reg (by kernel_rfl) ?_
 refine s_qk (.nilIface) (by kernel_rfl) ?_
 refine s_nil ?_
 refine k16 _ _ ?_
 refine w_seqk fun K17 k17 => ?_
 refine w_seqk fun K18 k18 => ?_
 refine w_reg (by kernel_rfl) ?_
 refine s_qk (.pointer (some ⟨b_h, 0, none⟩)) (by kernel_rfl) ?_
 refine s_qk (.int .u32 id_) (by kernel_rfl) ?_
 obtain ⟨y19, hy20, r21⟩ := bind_some hr
 refine s_ck 96 #[.pointer (some ⟨b_h, 0, none⟩), .int .u32 id_] (by kernel_rfl) (c_heap_Heap_check wf h_h_.sq h_h_2.sq h_h hy20) ?_
 rintro v22 _ ⟨_, f23, rfl, rfl, m26, i27⟩
 refine s_qk (v22) (by kernel_rfl) ?_
 refine s_nil ?_
 refine k18 _ _ ?_
 refine w_seqk fun K29 k29 => ?_
 refine w_reg (by kernel_rfl) ?_
 refine s_qk (v22) (by kernel_rfl) ?_
 rcases (m26).cases with ⟨h30, rfl⟩ | ⟨h30, t31, x32, rfl⟩
 ·have r33 := ite_t h30 r21
  refine s_qk (.bool false) (by kernel_rfl) ?_
  refine s_nil ?_
  refine k29 _ _ ?_
  refine w_cond false (by kernel_rfl) rfl (fun h => by cases h) (fun _ => ?_)
  refine w_skip ?_
  refine k17 _ _ ?_
  refine w_seqk fun K34 k34 => ?_
  refine w_reg (by kernel_rfl) ?_
  refine s_qk (.pointer (some ⟨b_h, 0, none⟩)) (by kernel_rfl) ?_
  refine s_qk (.pointer (some ⟨b_h, 0, none⟩)) (by kernel_rfl) ?_
  refine s_qk (.pointer (some ⟨b_h, 1, none⟩)) (by kernel_rfl) ?_
  refine s_ql (hd_h_2) (x := aLoad Try.prog 22 (.pointer (some ⟨b_h, 1, none⟩)) H) (by kernel_rfl) (h_h.ld (by kernel_rfl)) ?_
  refine s_qk (.int .u32 id_) (by kernel_rfl) ?_
  obtain ⟨g35, r36⟩ := G_some r33
  refine s_ql (elp hd_h_2 1 id_.toNat 0) (x := aIndexAddr Try.prog 22 hd_h_2 (.int .u32 id_)) (by kernel_rfl) (h_h_2.sq.idxb (by kernel_rfl) g35.1 g35.2) ?_
  refine s_ql (.int .i64 (gt h_2 id_)) (x := aLoad Try.prog 3 (elp hd_h_2 1 id_.toNat 0) H) (by kernel_rfl) (h_h_2.sq.ld g35.1 g35.2 (by kernel_rfl)) ?_
  obtain ⟨g37, r38⟩ := G_some r36
  refine s_w (((gt h_2 id_) - 1)) (k := .i64) (x := ((gt h_2 id_) - 1)) (by kernel_rfl) (wrap64 g37) ?_
  refine s_qk (.int .i64 ((gt h_2 id_) - 1)) (by kernel_rfl) ?_
  refine s_nil ?_
  refine k34 _ _ ?_
  refine w_seqk fun K39 k39 => ?_
  refine w_seqk fun K40 k40 => ?_
  refine w_reg (by kernel_rfl) ?_
  refine s_qk (.int .i64 ((gt h_2 id_) - 1)) (by kernel_rfl) ?_
  refine s_qk (.bool (decide (((gt h_2 id_) - 1) < 0))) (by kernel_rfl) ?_
  refine s_nil ?_
  refine k40 _ _ ?_
  obtain ⟨o41, hx42, r43⟩ := bind_some r38
  refine w_mid (fun α H44 => ∃ (s48 : Value) (f49 : Fp), Has α [(0, .pointer (some ⟨b_h, 0, none⟩)), (1, .int .u32 id_), (2, .int .u64 key), (8, .int .i64 o41.2)] ∧ FrS ([b_h] ++ fp_h_) H H44 ∧ Ow enc_u64_u32 2 H44 s48 o41.1 f49 ∧ Row H44 b_h [s48, hd_h_2] ∧ Inn fp_h_ H f49) (fun K53 k53 => ?_) (fun α H44 hM => ?_)
  ·refine w_condp (((gt h_2 id_) - 1) < 0) (by kernel_rfl) rfl (fun h55 => ?_) (fun h55 => ?_)
   ·have r56 := ite_t h55 hx42
    refine w_seqk fun K57 k57 => ?_
    refine w_reg (by kernel_rfl) ?_
    refine s_qk (.pointer (some ⟨b_h, 0, none⟩)) (by kernel_rfl) ?_
    refine s_qk (.pointer (some ⟨b_h, 0, none⟩)) (by kernel_rfl) ?_
    refine s_qk (.pointer (some ⟨b_h, 0, none⟩)) (by kernel_rfl) ?_
    refine s_ql (hd_h_) (x := aLoad Try.prog 155 (.pointer (some ⟨b_h, 0, none⟩)) H) (by kernel_rfl) (h_h.ld (by kernel_rfl)) ?_
    refine s_ql (.int .i64 (h_.length : Int)) (x := aLen Try.prog 155 hd_h_ H) (by kernel_rfl) (h_h_.sq.lenb (by kernel_rfl)) ?_
    refine s_qk (.int .i64 (h_.length : Int)) (by kernel_rfl) ?_
    refine s_nil ?_
    refine k57 _ _ ?_
    refine w_reg (by kernel_rfl) ?_
    refine s_qk (.pointer (some ⟨b_h, 0, none⟩)) (by kernel_rfl) ?_
    refine s_qk (.pointer (some ⟨b_h, 0, none⟩)) (by kernel_rfl) ?_
    refine s_qk (.pointer (some ⟨b_h, 0, none⟩)) (by kernel_rfl) ?_
    refine s_qk (.pointer (some ⟨b_h, 0, none⟩)) (by kernel_rfl) ?_
    refine s_ql (hd_h_) (x := aLoad Try.prog 155 (.pointer (some ⟨b_h, 0, none⟩)) H) (by kernel_rfl) (h_h.ld (by kernel_rfl)) ?_
    refine s_qk (.agg #[.int .u64 0, .int .u32 0]) (by kernel_rfl) ?_
    refine s_owk (enc := enc_u64_u32) (sz := 2) wf [(0, 0)] 1 (by decide) (fun _ _ => rfl) (fun _ _ => rfl) rfl (by kernel_rfl) fun s58 f59 H60 e61 hf62 hm63 => ?_
    obtain ⟨a64, n65, c66, rfl⟩ := hm63.form
    have u68 := (h_h_.ext e61)
    obtain ⟨g69, r70⟩ := G_some r56
    obtain ⟨s71, H72, f73, q77, e74, hm75, hf76⟩ := Ow.append (P := Try.prog) 16 e61.wf u68 hm63.sq (fun _ _ => rfl) (at_ := #[155, 155]) rfl rfl (by kernel_rfl) (by kernel_rfl) (by decide) (by have := g69; first | omega | (simp only [List.length_cons, List.length_nil] at this ⊢; omega) | (simp at this ⊢; omega))
    obtain ⟨a78, n79, c80, rfl⟩ := hm75.form
    refine s_ek (.slice a78 n79 c80) (by kernel_rfl) (q77) ?_
    refine s_qk (.pointer (some ⟨b_h, 0, none⟩)) (by kernel_rfl) ?_
    refine s_qk (.pointer (some ⟨b_h, 0, none⟩)) (by kernel_rfl) ?_
    have u86 := ((h_h.ext e61).frS e74 dj_fp_h__b_h)
    obtain ⟨H82, q83, e84, r85⟩ := Row.store (P := Try.prog) (t := 155) (p := 0) e74.wf u86 (.slice a78 n79 c80) [.slice a78 n79 c80] (by kernel_rfl) (by kernel_rfl) (one_cons (hm75.one1) (one_nil)) (Nat.le_of_ble_eq_true (by kernel_rfl)) [.slice a78 n79 c80, hd_h_2] (by kernel_rfl)
    refine s_ek (undef) (by kernel_rfl) (map_ok q83) ?_
    refine s_nil ?_
    have u87 := (hm75.fr e84 (Dj.symm (hf76.dj dj_fp_h__b_h (h_h.ltF.le e61.next))))
    obtain rfl := Option.some.inj r70
    exact k53 _ _ ⟨(.slice a78 n79 c80), f73, ⟨by kernel_rfl, by kernel_rfl, by kernel_rfl, by kernel_rfl, trivial⟩, (FrS.step wf (FrS.step wf ((FrS.refl (W := ([b_h] ++ fp_h_)) wf).extR e61) e74 (Inn.right Inn.refl')) e84 Inn.left), u87, r85, (Inn.trans Inn.refl' e61.next hf76)⟩
   ·have r88 := ite_f h55 hx42
    refine w_skip ?_
    obtain rfl := Option.some.inj r88
    exact k53 _ _ ⟨(hd_h_), fp_h_, ⟨by kernel_rfl, by kernel_rfl, by kernel_rfl, by kernel_rfl, trivial⟩, (FrS.refl (W := ([b_h] ++ fp_h_)) wf), h_h_, h_h, Inn.refl'⟩
  ·obtain ⟨s48, f49, hh54, e45, m47, m51, i52⟩ := hM
   obtain ⟨β, rfl⟩ := has_ex hh54
   clear hh54
   obtain ⟨a89, n90, c91, rfl⟩ := m47.form
   refine k39 _ _ ?_
   refine w_seqk fun K92 k92 => ?_
   refine w_reg (by kernel_rfl) ?_
   refine s_qk (.pointer (some ⟨b_h, 0, none⟩)) (by kernel_rfl) ?_
   refine s_qk (.int .i64 o41.2) (by kernel_rfl) ?_
   refine s_qk (.int .u64 key) (by kernel_rfl) ?_
   refine s_qk (.int .u32 id_) (by kernel_rfl) ?_
   refine s_qk (.agg #[.int .u64 key, .int .u32 id_]) (by kernel_rfl) ?_
   have u93 := (h_h_2.fr e45 (Dj.app dj_b_h_fp_h_2 dj_fp_h__fp_h_2))
   obtain ⟨y94, hy95, r96⟩ := bind_some r43
   refine s_ck 97 #[.pointer (some ⟨b_h, 0, none⟩), .int .i64 o41.2, .agg #[.int .u64 key, .int .u32 id_]] (by kernel_rfl) (c_heap_Heap_put e45.wf m47 u93 m51 (i52.dj dj_fp_h__b_h h_h.ltF) (i52.dj dj_fp_h__fp_h_2 h_h_2.lt) hy95) ?_
   rintro _ H97 ⟨rfl, e98, m99, m100⟩
   refine s_nil ?_
   refine k92 _ _ ?_
   refine w_seqk fun K101 k101 => ?_
   refine w_reg (by kernel_rfl) ?_
   refine s_qk (.pointer (some ⟨b_h, 0, none⟩)) (by kernel_rfl) ?_
   refine s_qk (.int .i64 o41.2) (by kernel_rfl) ?_
   have u102 := (m51.frS e98 (Dj.app (i52.dj dj_fp_h__b_h h_h.ltF) (Dj.symm dj_b_h_fp_h_2)))
   obtain ⟨y103, hy104, r105⟩ := bind_some r96
   refine s_ck 98 #[.pointer (some ⟨b_h, 0, none⟩), .int .i64 o41.2] (by kernel_rfl) (c_heap_Heap_up e98.wf m99 m100 u102 (i52.dj dj_fp_h__b_h h_h.ltF) (i52.dj dj_fp_h__fp_h_2 h_h_2.lt) (Dj.symm dj_b_h_fp_h_2) hy104) ?_
   rintro _ H106 ⟨rfl, e107, m108, m109⟩
   refine s_nil ?_
   refine k101 _ _ ?_
   refine w_seqk fun K110 k110 => ?_
   refine w_reg (by kernel_rfl) ?_
   refine s_qk (.pointer (some ⟨b_h, 0, none⟩)) (by kernel_rfl) ?_
   refine s_qk (.pointer (some ⟨b_h, 0, none⟩)) (by kernel_rfl) ?_
   refine s_qk (.pointer (some ⟨b_h, 0, none⟩)) (by kernel_rfl) ?_
   refine s_qk (.pointer (some ⟨b_h, 1, none⟩)) (by kernel_rfl) ?_
   have u111 := (u102.frS e107 (Dj.app (i52.dj dj_fp_h__b_h h_h.ltF) (Dj.symm dj_b_h_fp_h_2)))
   refine s_ql (hd_h_2) (x := aLoad Try.prog 22 (.pointer (some ⟨b_h, 1, none⟩)) H106) (by kernel_rfl) (u111.ld (by kernel_rfl)) ?_
   refine s_qk (.int .u32 id_) (by kernel_rfl) ?_
   obtain ⟨g112, r113⟩ := G_some r105
   refine s_ql (elp hd_h_2 1 id_.toNat 0) (x := aIndexAddr Try.prog 22 hd_h_2 (.int .u32 id_)) (by kernel_rfl) (m109.sq.idxb (by kernel_rfl) g35.1 g112) ?_
   refine s_ql (.int .i64 (gt y103.2 id_)) (x := aLoad Try.prog 3 (elp hd_h_2 1 id_.toNat 0) H106) (by kernel_rfl) (m109.sq.ld g35.1 g112 (by kernel_rfl)) ?_
   obtain ⟨g114, r115⟩ := G_some r113
   refine s_w (((gt y103.2 id_) - 1)) (k := .i64) (x := ((gt y103.2 id_) - 1)) (by kernel_rfl) (wrap64 g114) ?_
   obtain ⟨y116, hy117, r118⟩ := bind_some r115
   refine s_ck 99 #[.pointer (some ⟨b_h, 0, none⟩), .int .i64 ((gt y103.2 id_) - 1)] (by kernel_rfl) (c_heap_Heap_down e107.wf m108 m109 u111 (i52.dj dj_fp_h__b_h h_h.ltF) (i52.dj dj_fp_h__fp_h_2 h_h_2.lt) (Dj.symm dj_b_h_fp_h_2) hy117) ?_
   rintro _ H119 ⟨rfl, e120, m121, m122⟩
   refine s_nil ?_
   refine k110 _ _ ?_
   refine w_seqk fun K123 k123 => ?_
   refine w_reg (by kernel_rfl) ?_
   refine s_qk (.nilIface) (by kernel_rfl) ?_
   refine s_nil ?_
   refine k123 _ _ ?_
   refine w_ret ?_
   refine b_ret (fn := Try.f87) (vs := [.nilIface]) (aRes_tmp (by kernel_rfl) (rfl)) ?_
   have u124 := (u111.frS e120 (Dj.app (i52.dj dj_fp_h__b_h h_h.ltF) (Dj.symm dj_b_h_fp_h_2)))
   obtain rfl := Option.some.inj r118
   exact ⟨(.nilIface), [], (.slice a89 n90 c91), f49, rfl, (FrS.step wf (FrS.step wf (FrS.step wf (FrS.step wf (FrS.refl (W := ([b_h] ++ (fp_h_ ++ fp_h_2))) wf) e45 (Inn.app Inn.left (Inn.right Inn.left))) e98 (Inn.app (Inn.trans (Inn.right Inn.left) (Nat.le_refl _) i52) (Inn.right (Inn.right Inn.refl')))) e107 (Inn.app (Inn.trans (Inn.right Inn.left) (Nat.le_refl _) i52) (Inn.right (Inn.right Inn.refl')))) e120 (Inn.app (Inn.trans (Inn.right Inn.left) (Nat.le_refl _) i52) (Inn.right (Inn.right Inn.refl')))), Ev.nil, m122, m121, u124, Inn.nil, (Inn.trans Inn.refl' (Nat.le_refl _) i52), Dj.nil_l⟩
 ·have r125 := ite_f h30 r21
  refine s_ql (.bool true) (x := aBin Try.prog .neq 31 (.tmp 12) (.const .nilIface) (.iface t31 x32) .nilIface) (by kernel_rfl) (aBin_nnil (by kernel_rfl)) ?_
  refine s_nil ?_
  refine k29 _ _ ?_
  refine w_cond true (by kernel_rfl) rfl (fun _ => ?_) (fun h => by cases h)
  refine w_seqk fun K126 k126 => ?_
  refine w_reg (by kernel_rfl) ?_
  refine s_qk (.iface t31 x32) (by kernel_rfl) ?_
  refine s_qk (.iface t31 x32) (by kernel_rfl) ?_
  refine s_nil ?_
  refine k126 _ _ ?_
  refine w_ret (th_ret ?_)
  refine b_ret (fn := Try.f87) (vs := [.iface t31 x32]) (aRes_tmp (by kernel_rfl) (rfl)) ?_
  obtain rfl := Option.some.inj r125
  exact ⟨(.iface t31 x32), f23, (hd_h_), fp_h_, rfl, (FrS.refl (W := ([b_h] ++ (fp_h_ ++ fp_h_2))) wf), m26, h_h_2, h_h_, h_h, (i27.fresh (Nat.le_refl _)), Inn.refl', (i27.djn h_h_.lt)⟩

theorem c_search_state_label {H : AH} {b_st : Nat} {hd_st_ : Value} {fp_st_ : Fp} {hd_st_2 : Value} {fp_st_2 : Fp} {hd_st_3 : Value} {fp_st_3 : Fp} {b_st_4 : Nat} {hd_st_5 : Value} {fp_st_5 : Fp} {hd_st_6 : Value} {fp_st_6 : Fp} {b_st_7 : Nat} {hd_st_8 : Value} {fp_st_8 : Fp} {hd_st_11 : Value} {fp_st_11 : Fp} {hd_st_12 : Value} {fp_st_12 : Fp} {st_ : List (Int)} {st_2 : List (Int)} {st_3 : List (Int)} {st_5 : List (Int × Int)} {st_6 : List (Int)} {st_8 : List (Int × Int)} {st_9 : Int} {st_10 : Int} {st_11 : List (Int)} {st_12 : List (Bool)} {v_ : Int} {d : Int} {hops : Int} {r : List (Int) × List (Int × Int) × List (Int × Int) × Int × List (Int)}
  (wf : WF H) (h_st_ : Sq (encI .i64) 1 H hd_st_ st_ fp_st_) (h_st_2 : Sq (encI .i64) 1 H hd_st_2 st_2 fp_st_2) (h_st_3 : Sq (encI .i64) 1 H hd_st_3 st_3 fp_st_3) (h_st_5 : Ow enc_u64_u32 2 H hd_st_5 st_5 fp_st_5) (h_st_6 : Ow (encI .i64) 1 H hd_st_6 st_6 fp_st_6) (h_st_4 : Row H b_st_4 [hd_st_5, hd_st_6]) (h_st_8 : Ow enc_u64_u32 2 H hd_st_8 st_8 fp_st_8) (h_st_7 : Row H b_st_7 [hd_st_8, .int .u32 st_9, .int .i64 st_10]) (h_st_11 : Ow (encI .i64) 1 H hd_st_11 st_11 fp_st_11) (h_st_12 : Sq encB 1 H hd_st_12 st_12 fp_st_12) (h_st : Row H b_st [hd_st_, hd_st_2, hd_st_3, .pointer (some ⟨b_st_4, 0, none⟩), .pointer (some ⟨b_st_7, 0, none⟩), hd_st_11, hd_st_12]) (dj_b_st_7_fp_st_8 : Dj [b_st_7] fp_st_8) (dj_fp_st_8_b_st : Dj fp_st_8 [b_st]) (dj_b_st_7_b_st : Dj [b_st_7] [b_st]) (dj_fp_st_8_fp_st_11 : Dj fp_st_8 fp_st_11) (dj_b_st_7_fp_st_11 : Dj [b_st_7] fp_st_11) (dj_fp_st_11_b_st : Dj fp_st_11 [b_st]) (dj_fp_st_8_fp_st_5 : Dj fp_st_8 fp_st_5) (dj_b_st_7_fp_st_5 : Dj [b_st_7] fp_st_5) (dj_fp_st_11_fp_st_5 : Dj fp_st_11 fp_st_5) (dj_fp_st_8_fp_st_6 : Dj fp_st_8 fp_st_6) (dj_b_st_7_fp_st_6 : Dj [b_st_7] fp_st_6) (dj_fp_st_11_fp_st_6 : Dj fp_st_11 fp_st_6) (dj_fp_st_8_b_st_4 : Dj fp_st_8 [b_st_4]) (dj_b_st_7_b_st_4 : Dj [b_st_7] [b_st_4]) (dj_fp_st_11_b_st_4 : Dj fp_st_11 [b_st_4]) (dj_fp_st_5_b_st_4 : Dj fp_st_5 [b_st_4]) (dj_fp_st_5_fp_st_6 : Dj fp_st_5 fp_st_6) (dj_b_st_4_fp_st_6 : Dj [b_st_4] fp_st_6) (hr : z_search_state_label st_ st_2 st_3 st_5 st_6 st_8 st_9 st_10 st_11 st_12 v_ d hops = some r) :
  ACalls Try.prog 73 #[.pointer (some ⟨b_st, 0, none⟩), .int .i64 v_, .int .u64 d, .int .i64 hops] H fun v H' => ∃ (s5 : Value) (f6 : Fp), v = .tuple #[] ∧ FrS ([b_st_4] ++ ([b_st_7] ++ (fp_st_11 ++ (fp_st_5 ++ (fp_st_6 ++ fp_st_8))))) H H' ∧ Ow (encI .i64) 1 H' hd_st_6 r.1 fp_st_6 ∧ Ow enc_u64_u32 2 H' s5 r.2.1 f6 ∧ Row H' b_st_4 [s5, hd_st_6] ∧ Ow enc_u64_u32 2 H' hd_st_8 r.2.2.1 fp_st_8 ∧ Row H' b_st_7 [hd_st_8, .int .u32 st_9, .int .i64 r.2.2.2.1] ∧ Ow (encI .i64) 1 H' hd_st_11 r.2.2.2.2 fp_st_11 ∧ Inn fp_st_5 H f6 := by
 refine acalls_of_body mixed Try.func73 rfl (Nat.le_of_ble_eq_true rfl) ?_
 unfold z_search_state_label at hr
 refine w_seqk fun K16 k16 => ?_
 refine w_reg (by kernel_rfl) ?_
 refine s_qk (.pointer (some ⟨b_st, 0, none⟩)) (by kernel_rfl) ?_
 refine s_qk (.pointer (some ⟨b_st, 0, none⟩)) (by kernel_rfl) ?_
 refine s_qk (.pointer (some ⟨b_st, 4, none⟩)) (by kernel_rfl) ?_
 refine s_ql (.pointer (some ⟨b_st_7, 0, none⟩)) (x := aLoad Try.prog 100 (.pointer (some ⟨b_st, 4, none⟩)) H) (by kernel_rfl) (h_st.ld (by kernel_rfl)) ?_
 refine s_qk (.int .i64 v_) (by kernel_rfl) ?_
 refine s_qk (.int .u64 d) (by kernel_rfl) ?_
 obtain ⟨y17, hy18, r19⟩ := bind_some hr
 refine s_ck 86 #[.pointer (some ⟨b_st_7, 0, none⟩), .int .i64 v_, .int .u64 d] (by kernel_rfl) (c_stamp_Stamp_Set wf h_st_8 h_st_7 dj_b_st_7_fp_st_8 hy18) ?_
 rintro v20 H22 ⟨_, f21, rfl, e23, m24, m25, m26, i27⟩
 refine s_nil ?_
 refine k16 _ _ ?_
 refine w_seqk fun K29 k29 => ?_
 refine w_reg (by kernel_rfl) ?_
 refine s_qk (.pointer (some ⟨b_st, 0, none⟩)) (by kernel_rfl) ?_
 refine s_qk (.pointer (some ⟨b_st, 0, none⟩)) (by kernel_rfl) ?_
 refine s_qk (.pointer (some ⟨b_st, 5, none⟩)) (by kernel_rfl) ?_
 have u30 := (h_st.frS e23 (Dj.app dj_b_st_7_b_st dj_fp_st_8_b_st))
 refine s_ql (hd_st_11) (x := aLoad Try.prog 22 (.pointer (some ⟨b_st, 5, none⟩)) H22) (by kernel_rfl) (u30.ld (by kernel_rfl)) ?_
 refine s_qk (.int .i64 v_) (by kernel_rfl) ?_
 refine s_qk (.int .i64 hops) (by kernel_rfl) ?_
 obtain ⟨g31, r32⟩ := G_some r19
 have u33 := (h_st_11.fr e23 (Dj.app dj_b_st_7_fp_st_11 dj_fp_st_8_fp_st_11))
 refine s_ql (elp hd_st_11 1 v_.toNat 0) (x := aIndexAddr Try.prog 22 hd_st_11 (.int .i64 v_)) (by kernel_rfl) (u33.sq.idxb (by kernel_rfl) g31.1 g31.2) ?_
 obtain ⟨H34, q35, e36, hm37⟩ := Ow.store (P := Try.prog) (t := 3) (off := 0) e23.wf u33 g31.1 g31.2 (.int .i64 hops) [.int .i64 hops] (by kernel_rfl) (by kernel_rfl) rfl hops (Nat.le_of_ble_eq_true rfl) (by kernel_rfl)
 refine s_ek (undef) (by kernel_rfl) (map_ok q35) ?_
 refine s_nil ?_
 refine k29 _ _ ?_
 refine w_reg (by kernel_rfl) ?_
 refine s_qk (.pointer (some ⟨b_st, 0, none⟩)) (by kernel_rfl) ?_
 refine s_qk (.pointer (some ⟨b_st, 0, none⟩)) (by kernel_rfl) ?_
 refine s_qk (.pointer (some ⟨b_st, 3, none⟩)) (by kernel_rfl) ?_
 have u38 := (u30.frS e36 dj_fp_st_11_b_st)
 refine s_ql (.pointer (some ⟨b_st_4, 0, none⟩)) (x := aLoad Try.prog 99 (.pointer (some ⟨b_st, 3, none⟩)) H34) (by kernel_rfl) (u38.ld (by kernel_rfl)) ?_
 refine s_qk (.int .i64 v_) (by kernel_rfl) ?_
 obtain ⟨g39, r40⟩ := G_some r32
 refine s_w (v_) (k := .u32) (x := v_) (by kernel_rfl) (wrapu32 (by have := g39; omega)) ?_
 refine s_qk (.int .u64 d) (by kernel_rfl) ?_
 have u41 := ((h_st_5.fr e23 (Dj.app dj_b_st_7_fp_st_5 dj_fp_st_8_fp_st_5)).fr e36 dj_fp_st_11_fp_st_5)
 have u42 := ((h_st_6.fr e23 (Dj.app dj_b_st_7_fp_st_6 dj_fp_st_8_fp_st_6)).fr e36 dj_fp_st_11_fp_st_6)
 have u43 := ((h_st_4.frS e23 (Dj.app dj_b_st_7_b_st_4 dj_fp_st_8_b_st_4)).frS e36 dj_fp_st_11_b_st_4)
 obtain ⟨y44, hy45, r46⟩ := bind_some r40
 refine s_ck 87 #[.pointer (some ⟨b_st_4, 0, none⟩), .int .u32 v_, .int .u64 d] (by kernel_rfl) (c_heap_Heap_Set e36.wf u41 u42 u43 dj_fp_st_5_b_st_4 dj_fp_st_5_fp_st_6 dj_b_st_4_fp_st_6 hy45) ?_
 rintro v47 H51 ⟨_, f48, s49, f50, rfl, e52, m53, m54, m55, m56, i57, i58, d59⟩
 obtain ⟨a62, n63, c64, rfl⟩ := m55.form
 refine s_nil ?_
 refine b_nrm (fn := Try.f73) (vs := []) (rfl) ?_
 have u65 := ((m25.fr e36 (Dj.symm dj_fp_st_8_fp_st_11)).fr e52 (Dj.app (Dj.symm dj_fp_st_8_b_st_4) (Dj.app (Dj.symm dj_fp_st_8_fp_st_5) (Dj.symm dj_fp_st_8_fp_st_6))))
 have u66 := ((m26.frS e36 (Dj.symm dj_b_st_7_fp_st_11)).frS e52 (Dj.app (Dj.symm dj_b_st_7_b_st_4) (Dj.app (Dj.symm dj_b_st_7_fp_st_5) (Dj.symm dj_b_st_7_fp_st_6))))
 have u67 := (hm37.fr e52 (Dj.app (Dj.symm dj_fp_st_11_b_st_4) (Dj.app (Dj.symm dj_fp_st_11_fp_st_5) (Dj.symm dj_fp_st_11_fp_st_6))))
 obtain rfl := Option.some.inj r46
 exact ⟨(.slice a62 n63 c64), f50, rfl, (FrS.step wf (FrS.step wf (FrS.step wf (FrS.refl (W := ([b_st_4] ++ ([b_st_7] ++ (fp_st_11 ++ (fp_st_5 ++ (fp_st_6 ++ fp_st_8)))))) wf) e23 (Inn.app (Inn.right Inn.left) (Inn.right (Inn.right (Inn.right (Inn.right (Inn.right Inn.refl'))))))) e36 (Inn.right (Inn.right Inn.left))) e52 (Inn.app Inn.left (Inn.app (Inn.right (Inn.right (Inn.right Inn.left))) (Inn.right (Inn.right (Inn.right (Inn.right Inn.left))))))), m54, m55, m56, u65, u66, u67, (Inn.trans Inn.refl' (ntr e23.next e36.next) i58)⟩

theorem c_heap_Heap_Top {H : AH} {b_h : Nat} {hd_h_ : Value} {fp_h_ : Fp} {hd_h_2 : Value} {fp_h_2 : Fp} {h_ : List (Int × Int)} {h_2 : List (Int)} {r : Int × Int × Bool}
  (wf : WF H) (h_h_ : Sq enc_u64_u32 2 H hd_h_ h_ fp_h_) (h_h_2 : Sq (encI .i64) 1 H hd_h_2 h_2 fp_h_2) (h_h : Row H b_h [hd_h_, hd_h_2]) (hr : z_heap_Heap_Top h_ h_2 = some r) :
  ACalls Try.prog 74 #[.pointer (some ⟨b_h, 0, none⟩)] H fun v H' => v = .tuple #[.int .u32 r.1, .int .u64 r.2.1, .bool r.2.2] ∧ H = H' := by
 refine acalls_of_body mixed Try.func74 rfl (Nat.le_of_ble_eq_true rfl) ?_
 unfold z_heap_Heap_Top at hr
 refine w_seqk fun K1 k1 => ?_
 refine w_reg (by kernel_rfl) ?_
 refine s_qk (.int .u32 0) (by kernel_rfl) ?_
 refine s_qk (.int .u64 0) (by kernel_rfl) ?_
 refine s_qk (.bool false) (by kernel_rfl) ?_
 refine s_nil ?_
 refine k1 _ _ ?_
 refine w_seqk fun K2 k2 => ?_
 refine w_seqk fun K3 k3 => ?_
 refine w_reg (by kernel_rfl) ?_
 refine s_qk (.pointer (some ⟨b_h, 0, none⟩)) (by kernel_rfl) ?_
 refine s_qk (.bool false) (by kernel_rfl) ?_
 refine s_qk (.bool false) (by kernel_rfl) ?_
 refine s_qk (.pointer (some ⟨b_h, 0, none⟩)) (by kernel_rfl) ?_
 refine s_qk (.pointer (some ⟨b_h, 0, none⟩)) (by kernel_rfl) ?_
 refine s_qk (.pointer (some ⟨b_h, 0, none⟩)) (by kernel_rfl) ?_
 refine s_ql (hd_h_) (x := aLoad Try.prog 155 (.pointer (some ⟨b_h, 0, none⟩)) H) (by kernel_rfl) (h_h.ld (by kernel_rfl)) ?_
 refine s_ql (.int .i64 (h_.length : Int)) (x := aLen Try.prog 155 hd_h_ H) (by kernel_rfl) (h_h_.lenb (by kernel_rfl)) ?_
 refine s_qk (.bool (decide ((h_.length : Int) = 0))) (by kernel_rfl) ?_
 refine s_qk (.bool (decide ((h_.length : Int) = 0))) (by kernel_rfl) ?_
 refine s_nil ?_
 refine k3 _ _ ?_
 refine w_condp ((h_.length : Int) = 0) (by kernel_rfl) rfl (fun h4 => ?_) (fun h4 => ?_)
 ·have r5 := ite_t h4 hr
  refine w_seqk fun K6 k6 => ?_
  refine w_reg (by kernel_rfl) ?_
  refine s_qk (.int .u32 0) (by kernel_rfl) ?_
  refine s_qk (.int .u64 0) (by kernel_rfl) ?_
  refine s_qk (.bool false) (by kernel_rfl) ?_
  refine s_nil ?_
  refine k6 _ _ ?_
  refine w_ret (th_ret ?_)
  refine b_ret (fn := Try.f74) (vs := [.int .u32 0, .int .u64 0, .bool false]) (aRes_tmp (by kernel_rfl) (aRes_tmp (by kernel_rfl) (aRes_tmp (by kernel_rfl) (rfl)))) ?_
  obtain rfl := Option.some.inj r5
  exact ⟨rfl, rfl⟩
 ·have r7 := ite_f h4 hr
  refine w_skip ?_
  refine k2 _ _ ?_
  refine w_seqk fun K8 k8 => ?_
  refine w_draw [0, 1, 2, 3, 4, 5, 6, 7, 8, 9, 10, 11, 12, 13, 14, 15, 16] (by kernel_rfl) ?_
  refine d_qk (.pointer (some ⟨b_h, 0, none⟩)) (by kernel_rfl) ?_
  refine d_qk (.pointer (some ⟨b_h, 0, none⟩)) (by kernel_rfl) ?_
  refine d_qk (.pointer (some ⟨b_h, 0, none⟩)) (by kernel_rfl) ?_
  refine d_ql (hd_h_) (x := aLoad Try.prog 155 (.pointer (some ⟨b_h, 0, none⟩)) H) (by kernel_rfl) (h_h.ld (by kernel_rfl)) ?_
  obtain ⟨g9, r10⟩ := G_some r7
  refine d_ql (elp hd_h_ 2 (0 : Int).toNat 0) (x := aIndexAddr Try.prog 155 hd_h_ (.int .i64 0)) (by kernel_rfl) (h_h_.idxb (by kernel_rfl) (by decide) g9) ?_
  refine d_ql (elp hd_h_ 2 (0 : Int).toNat 1) (x := aFieldAddr Try.prog 161 (elp hd_h_ 2 (0 : Int).toNat 0) 1) (by kernel_rfl) (Sq.fldq (d := 1) h_h_ (by decide) g9 (by kernel_rfl)) ?_
  refine d_ql (.int .u32 ((gt h_ 0).2)) (x := aLoad Try.prog 135 (elp hd_h_ 2 (0 : Int).toNat 1) H) (by kernel_rfl) (h_h_.ld (by decide) g9 (by kernel_rfl)) ?_
  refine d_qk (.pointer (some ⟨b_h, 0, none⟩)) (by kernel_rfl) ?_
  refine d_qk (.pointer (some ⟨b_h, 0, none⟩)) (by kernel_rfl) ?_
  refine d_qk (.pointer (some ⟨b_h, 0, none⟩)) (by kernel_rfl) ?_
  refine d_ql (hd_h_) (x := aLoad Try.prog 155 (.pointer (some ⟨b_h, 0, none⟩)) H) (by kernel_rfl) (h_h.ld (by kernel_rfl)) ?_
  refine d_ql (elp hd_h_ 2 (0 : Int).toNat 0) (x := aIndexAddr Try.prog 155 hd_h_ (.int .i64 0)) (by kernel_rfl) (h_h_.idxb (by kernel_rfl) (by decide) g9) ?_
  refine d_ql (elp hd_h_ 2 (0 : Int).toNat 0) (x := aFieldAddr Try.prog 161 (elp hd_h_ 2 (0 : Int).toNat 0) 0) (by kernel_rfl) (Sq.fldq (d := 0) h_h_ (by decide) g9 (by kernel_rfl)) ?_
  refine d_ql (.int .u64 ((gt h_ 0).1)) (x := aLoad Try.prog 29 (elp hd_h_ 2 (0 : Int).toNat 0) H) (by kernel_rfl) (h_h_.ld (by decide) g9 (by kernel_rfl)) ?_
  refine d_qk (.int .u32 ((gt h_ 0).2)) (by kernel_rfl) ?_
  refine d_qk (.int .u64 ((gt h_ 0).1)) (by kernel_rfl) ?_
  refine d_qk (.bool true) (by kernel_rfl) ?_
  refine d_nil ?_
  refine k8 _ _ ?_
  refine w_ret ?_
  refine b_ret (fn := Try.f74) (vs := [.int .u32 ((gt h_ 0).2), .int .u64 ((gt h_ 0).1), .bool true]) (aRes_tmp (by kernel_rfl) (aRes_tmp (by kernel_rfl) (aRes_tmp (by kernel_rfl) (rfl)))) ?_
  obtain rfl := Option.some.inj r10
  exact ⟨rfl, rfl⟩

theorem c_heap_Heap_Key {H : AH} {b_h : Nat} {hd_h_ : Value} {fp_h_ : Fp} {hd_h_2 : Value} {fp_h_2 : Fp} {h_ : List (Int × Int)} {h_2 : List (Int)} {id_ : Int} {r : Int × Bool}
  (wf : WF H) (h_h_ : Sq enc_u64_u32 2 H hd_h_ h_ fp_h_) (h_h_2 : Sq (encI .i64) 1 H hd_h_2 h_2 fp_h_2) (h_h : Row H b_h [hd_h_, hd_h_2]) (hr : z_heap_Heap_Key h_ h_2 id_ = some r) :
  ACalls Try.prog 100 #[.pointer (some ⟨b_h, 0, none⟩), .int .u32 id_] H fun v H' => v = .tuple #[.int .u64 r.1, .bool r.2] ∧ H = H' := by
 refine acalls_of_body mixed Try.func100 rfl (Nat.le_of_ble_eq_true rfl) ?_
 unfold z_heap_Heap_Key at hr
 refine w_seqk fun K1 k1 => ?_
 refine w_reg (by kernel_rfl) ?_
 refine s_qk (.int .u64 0) (by kernel_rfl) ?_
 refine s_qk (.bool false) (by kernel_rfl) ?_
 refine s_nil ?_
 refine k1 _ _ ?_
 refine w_seqk fun K2 k2 => ?_
 refine w_seqk fun K3 k3 => ?_
 obtain ⟨o4, hx5, r6⟩ := bind_some hr
 refine w_mid (fun α H7 => Has α [(0, .pointer (some ⟨b_h, 0, none⟩)), (1, .int .u32 id_), (19, .bool o4)] ∧ H = H7) (fun K9 k9 => ?_) (fun α H7 hM => ?_)
 ·refine w_reg (by kernel_rfl) ?_
  refine s_qk (.pointer (some ⟨b_h, 0, none⟩)) (by kernel_rfl) ?_
  refine s_qk (.int .u32 id_) (by kernel_rfl) ?_
  obtain ⟨y11, hy12, r13⟩ := bind_some hx5
  refine s_ck 96 #[.pointer (some ⟨b_h, 0, none⟩), .int .u32 id_] (by kernel_rfl) (c_heap_Heap_check wf h_h_ h_h_2 h_h hy12) ?_
  rintro v14 _ ⟨_, f15, rfl, rfl, m18, i19⟩
  rcases (m18).cases with ⟨h21, rfl⟩ | ⟨h21, t22, x23, rfl⟩
  ·have r24 := ite_t h21 r13
   refine s_qk (.bool false) (by kernel_rfl) ?_
   refine s_qk (.bool false) (by kernel_rfl) ?_
   refine s_qk (.pointer (some ⟨b_h, 0, none⟩)) (by kernel_rfl) ?_
   refine s_qk (.pointer (some ⟨b_h, 0, none⟩)) (by kernel_rfl) ?_
   refine s_qk (.pointer (some ⟨b_h, 1, none⟩)) (by kernel_rfl) ?_
   refine s_ql (hd_h_2) (x := aLoad Try.prog 22 (.pointer (some ⟨b_h, 1, none⟩)) H) (by kernel_rfl) (h_h.ld (by kernel_rfl)) ?_
   refine s_qk (.int .u32 id_) (by kernel_rfl) ?_
   obtain ⟨g25, r26⟩ := G_some r24
   refine s_ql (elp hd_h_2 1 id_.toNat 0) (x := aIndexAddr Try.prog 22 hd_h_2 (.int .u32 id_)) (by kernel_rfl) (h_h_2.idxb (by kernel_rfl) g25.1 g25.2) ?_
   refine s_ql (.int .i64 (gt h_2 id_)) (x := aLoad Try.prog 3 (elp hd_h_2 1 id_.toNat 0) H) (by kernel_rfl) (h_h_2.ld g25.1 g25.2 (by kernel_rfl)) ?_
   refine s_qk (.bool (decide ((gt h_2 id_) = 0))) (by kernel_rfl) ?_
   refine s_qk (.bool (decide ((gt h_2 id_) = 0))) (by kernel_rfl) ?_
   refine s_nil ?_
   obtain rfl := Option.some.inj r26
   exact k9 _ _ ⟨⟨by kernel_rfl, by kernel_rfl, by kernel_rfl, trivial⟩, rfl⟩
  ·have r27 := ite_f h21 r13
   refine s_ql (.bool true) (x := aBin Try.prog .neq 31 (.tmp 8) (.const .nilIface) (.iface t22 x23) .nilIface) (by kernel_rfl) (aBin_nnil (by kernel_rfl)) ?_
   refine s_qk (.bool true) (by kernel_rfl) ?_
   refine s_no (by kernel_rfl) ?_
   refine s_no (by kernel_rfl) ?_
   refine s_no (by kernel_rfl) ?_
   refine s_no (by kernel_rfl) ?_
   refine s_no (by kernel_rfl) ?_
   refine s_no (by kernel_rfl) ?_
   refine s_no (by kernel_rfl) ?_
   refine s_no (by kernel_rfl) ?_
   refine s_qk (.bool true) (by kernel_rfl) ?_
   refine s_nil ?_
   obtain rfl := Option.some.inj r27
   exact k9 _ _ ⟨⟨by kernel_rfl, by kernel_rfl, by kernel_rfl, trivial⟩, rfl⟩
 ·obtain ⟨hh10, rfl⟩ := hM
  obtain ⟨β, rfl⟩ := has_ex hh10
  clear hh10
  refine k3 _ _ ?_
  refine w_cond (o4) (by kernel_rfl) rfl (fun h28 => ?_) (fun h28 => ?_)
  ·have r29 := ite_t h28 r6
   refine w_seqk fun K30 k30 => ?_
   refine w_reg (by kernel_rfl) ?_
   refine s_qk (.int .u64 0) (by kernel_rfl) ?_
   refine s_qk (.bool false) (by kernel_rfl) ?_
   refine s_nil ?_
   refine k30 _ _ ?_
   refine w_ret (th_ret ?_)
   refine b_ret (fn := Try.f100) (vs := [.int .u64 0, .bool false]) (aRes_tmp (by kernel_rfl) (aRes_tmp (by kernel_rfl) (rfl))) ?_
   obtain rfl := Option.some.inj r29
   exact ⟨rfl, rfl⟩
  ·have r31 := ite_bf h28 r6
   refine w_skip ?_
   refine k2 _ _ ?_
   refine w_seqk fun K32 k32 => ?_
   refine w_draw [0, 1, 2, 3, 4, 5, 6, 7, 8, 9, 10, 11, 12, 13, 14, 15, 16] (by kernel_rfl) ?_
   refine d_qk (.pointer (some ⟨b_h, 0, none⟩)) (by kernel_rfl) ?_
   refine d_qk (.pointer (some ⟨b_h, 0, none⟩)) (by kernel_rfl) ?_
   refine d_qk (.pointer (some ⟨b_h, 0, none⟩)) (by kernel_rfl) ?_
   refine d_ql (hd_h_) (x := aLoad Try.prog 155 (.pointer (some ⟨b_h, 0, none⟩)) H) (by kernel_rfl) (h_h.ld (by kernel_rfl)) ?_
   refine d_qk (.pointer (some ⟨b_h, 0, none⟩)) (by kernel_rfl) ?_
   refine d_qk (.pointer (some ⟨b_h, 0, none⟩)) (by kernel_rfl) ?_
   refine d_qk (.pointer (some ⟨b_h, 1, none⟩)) (by kernel_rfl) ?_
   refine d_ql (hd_h_2) (x := aLoad Try.prog 22 (.pointer (some ⟨b_h, 1, none⟩)) H) (by kernel_rfl) (h_h.ld (by kernel_rfl)) ?_
   refine d_qk (.int .u32 id_) (by kernel_rfl) ?_
   obtain ⟨g33, r34⟩ := G_some r31
   refine d_ql (elp hd_h_2 1 id_.toNat 0) (x := aIndexAddr Try.prog 22 hd_h_2 (.int .u32 id_)) (by kernel_rfl) (h_h_2.idxb (by kernel_rfl) g33.1 g33.2) ?_
   refine d_ql (.int .i64 (gt h_2 id_)) (x := aLoad Try.prog 3 (elp hd_h_2 1 id_.toNat 0) H) (by kernel_rfl) (h_h_2.ld g33.1 g33.2 (by kernel_rfl)) ?_
   obtain ⟨g35, r36⟩ := G_some r34
   refine d_w (((gt h_2 id_) - 1)) (k := .i64) (x := ((gt h_2 id_) - 1)) (by kernel_rfl) (wrap64 g35) ?_
   obtain ⟨g37, r38⟩ := G_some r36
   refine d_ql (elp hd_h_ 2 ((gt h_2 id_) - 1).toNat 0) (x := aIndexAddr Try.prog 155 hd_h_ (.int .i64 ((gt h_2 id_) - 1))) (by kernel_rfl) (h_h_.idxb (by kernel_rfl) g37.1 g37.2) ?_
   refine d_ql (elp hd_h_ 2 ((gt h_2 id_) - 1).toNat 0) (x := aFieldAddr Try.prog 161 (elp hd_h_ 2 ((gt h_2 id_) - 1).toNat 0) 0) (by kernel_rfl) (Sq.fldq (d := 0) h_h_ g37.1 g37.2 (by kernel_rfl)) ?_
   refine d_ql (.int .u64 ((gt h_ ((gt h_2 id_) - 1)).1)) (x := aLoad Try.prog 29 (elp hd_h_ 2 ((gt h_2 id_) - 1).toNat 0) H) (by kernel_rfl) (h_h_.ld g37.1 g37.2 (by kernel_rfl)) ?_
   refine d_qk (.int .u64 ((gt h_ ((gt h_2 id_) - 1)).1)) (by kernel_rfl) ?_
   refine d_qk (.bool true) (by kernel_rfl) ?_
   refine d_nil ?_
   refine k32 _ _ ?_
   refine w_ret ?_
   refine b_ret (fn := Try.f100) (vs := [.int .u64 ((gt h_ ((gt h_2 id_) - 1)).1), .bool true]) (aRes_tmp (by kernel_rfl) (aRes_tmp (by kernel_rfl) (rfl))) ?_
   obtain rfl := Option.some.inj r38
   exact ⟨rfl, rfl⟩

theorem c_heap_Heap_Remove {H : AH} {b_h : Nat} {hd_h_ : Value} {fp_h_ : Fp} {hd_h_2 : Value} {fp_h_2 : Fp} {h_ : List (Int × Int)} {h_2 : List (Int)} {id_ : Int} {r : Bool × List (Int) × List (Int × Int)}
  (wf : WF H) (h_h_ : Ow enc_u64_u32 2 H hd_h_ h_ fp_h_) (h_h_2 : Ow (encI .i64) 1 H hd_h_2 h_2 fp_h_2) (h_h : Row H b_h [hd_h_, hd_h_2]) (dj_b_h_fp_h_2 : Dj [b_h] fp_h_2) (dj_b_h_fp_h_ : Dj [b_h] fp_h_) (dj_fp_h_2_fp_h_ : Dj fp_h_2 fp_h_) (hr : z_heap_Heap_Remove h_ h_2 id_ = some r) :
  ACalls Try.prog 88 #[.pointer (some ⟨b_h, 0, none⟩), .int .u32 id_] H fun v H' => ∃ (s5 : Value), v = .bool r.1 ∧ FrS ([b_h] ++ (fp_h_ ++ fp_h_2)) H H' ∧ Ow (encI .i64) 1 H' hd_h_2 r.2.1 fp_h_2 ∧ Ow enc_u64_u32 2 H' s5 r.2.2 fp_h_ ∧ Row H' b_h [s5, hd_h_2] := by
 refine acalls_of_body mixed Try.func88 rfl (Nat.le_of_ble_eq_true rfl) ?_
 unfold z_heap_Heap_Remove at hr
 refine w_seqk fun K8 k8 => ?_
 refine w_reg (by kernel_rfl) ?_
 refine s_qk (.bool false) (by kernel_rfl) ?_
 refine s_nil ?_
 refine k8 _ _ ?_
 refine w_seqk fun K9 k9 => ?_
 refine w_seqk fun K10 k10 => ?_
 refine w_reg (by kernel_rfl) ?_
 refine s_qk (.pointer (some ⟨b_h, 0, none⟩)) (by kernel_rfl) ?_
 refine s_qk (.int .u32 id_) (by kernel_rfl) ?_
 obtain ⟨y11, hy12, r13⟩ := bind_some hr
 refine s_ck 100 #[.pointer (some ⟨b_h, 0, none⟩), .int .u32 id_] (by kernel_rfl) (c_heap_Heap_Key wf h_h_.sq h_h_2.sq h_h hy12) ?_
 rintro _ _ ⟨rfl, rfl⟩
 refine s_qk (.tuple #[.int .u64 y11.1, .bool y11.2]) (by kernel_rfl) ?_
 refine s_qk (.int .u64 y11.1) (by kernel_rfl) ?_
 refine s_qk (.bool y11.2) (by kernel_rfl) ?_
 refine s_qk (.int .u64 y11.1) (by kernel_rfl) ?_
 refine s_qk (.bool y11.2) (by kernel_rfl) ?_
 refine s_nil ?_
 refine k10 _ _ ?_
 refine w_seqk fun K16 k16 => ?_
 refine w_reg (by kernel_rfl) ?_
 refine s_qk (.bool y11.2) (by kernel_rfl) ?_
 refine s_qk (.bool (!y11.2)) (by kernel_rfl) ?_
 refine s_nil ?_
 refine k16 _ _ ?_
 refine w_cond ((!y11.2)) (by kernel_rfl) rfl (fun h17 => ?_) (fun h17 => ?_)
 ·have r18 := ite_t h17 r13
  refine w_seqk fun K19 k19 => ?_
  refine w_reg (by kernel_rfl) ?_
  refine s_qk (.bool false) (by kernel_rfl) ?_
  refine s_nil ?_
  refine k19 _ _ ?_
  refine w_ret (th_ret ?_)
  refine b_ret (fn := Try.f88) (vs := [.bool false]) (aRes_tmp (by kernel_rfl) (rfl)) ?_
  obtain rfl := Option.some.inj r18
  exact ⟨(hd_h_), rfl, (FrS.refl (W := ([b_h] ++ (fp_h_ ++ fp_h_2))) wf), h_h_2, h_h_, h_h⟩
 ·have r20 := ite_bf h17 r13
  refine w_skip ?_
  refine k9 _ _ ?_
  refine w_seqk fun K21 k21 => ?_
  refine w_draw [0, 1, 2, 3, 4, 5, 6, 7, 8, 9, 10, 11, 12, 13, 14, 15] (by kernel_rfl) ?_
  refine d_qk (.pointer (some ⟨b_h, 0, none⟩)) (by kernel_rfl) ?_
  refine d_qk (.pointer (some ⟨b_h, 0, none⟩)) (by kernel_rfl) ?_
  refine d_qk (.pointer (some ⟨b_h, 1, none⟩)) (by kernel_rfl) ?_
  refine d_ql (hd_h_2) (x := aLoad Try.prog 22 (.pointer (some ⟨b_h, 1, none⟩)) H) (by kernel_rfl) (h_h.ld (by kernel_rfl)) ?_
  refine d_qk (.int .u32 id_) (by kernel_rfl) ?_
  obtain ⟨g22, r23⟩ := G_some r20
  refine d_ql (elp hd_h_2 1 id_.toNat 0) (x := aIndexAddr Try.prog 22 hd_h_2 (.int .u32 id_)) (by kernel_rfl) (h_h_2.sq.idxb (by kernel_rfl) g22.1 g22.2) ?_
  refine d_ql (.int .i64 (gt h_2 id_)) (x := aLoad Try.prog 3 (elp hd_h_2 1 id_.toNat 0) H) (by kernel_rfl) (h_h_2.sq.ld g22.1 g22.2 (by kernel_rfl)) ?_
  obtain ⟨g24, r25⟩ := G_some r23
  refine d_w (((gt h_2 id_) - 1)) (k := .i64) (x := ((gt h_2 id_) - 1)) (by kernel_rfl) (wrap64 g24) ?_
  refine d_qk (.pointer (some ⟨b_h, 0, none⟩)) (by kernel_rfl) ?_
  refine d_qk (.pointer (some ⟨b_h, 0, none⟩)) (by kernel_rfl) ?_
  refine d_qk (.pointer (some ⟨b_h, 0, none⟩)) (by kernel_rfl) ?_
  refine d_ql (hd_h_) (x := aLoad Try.prog 155 (.pointer (some ⟨b_h, 0, none⟩)) H) (by kernel_rfl) (h_h.ld (by kernel_rfl)) ?_
  refine d_ql (.int .i64 (h_.length : Int)) (x := aLen Try.prog 155 hd_h_ H) (by kernel_rfl) (h_h_.sq.lenb (by kernel_rfl)) ?_
  obtain ⟨g26, r27⟩ := G_some r25
  refine d_w (((h_.length : Int) - 1)) (k := .i64) (x := ((h_.length : Int) - 1)) (by kernel_rfl) (wrap64 g26) ?_
  refine d_qk (.int .i64 ((gt h_2 id_) - 1)) (by kernel_rfl) ?_
  refine d_qk (.int .i64 ((h_.length : Int) - 1)) (by kernel_rfl) ?_
  refine d_nil ?_
  refine k21 _ _ ?_
  refine w_seqk fun K28 k28 => ?_
  refine w_reg (by kernel_rfl) ?_
  refine s_qk (.pointer (some ⟨b_h, 0, none⟩)) (by kernel_rfl) ?_
  refine s_qk (.pointer (some ⟨b_h, 0, none⟩)) (by kernel_rfl) ?_
  refine s_qk (.pointer (some ⟨b_h, 0, none⟩)) (by kernel_rfl) ?_
  refine s_ql (hd_h_) (x := aLoad Try.prog 155 (.pointer (some ⟨b_h, 0, none⟩)) H) (by kernel_rfl) (h_h.ld (by kernel_rfl)) ?_
  refine s_qk (.int .i64 ((h_.length : Int) - 1)) (by kernel_rfl) ?_
  obtain ⟨g29, r30⟩ := G_some r27
  refine s_ql (elp hd_h_ 2 ((h_.length : Int) - 1).toNat 0) (x := aIndexAddr Try.prog 155 hd_h_ (.int .i64 ((h_.length : Int) - 1))) (by kernel_rfl) (h_h_.sq.idxb (by kernel_rfl) g29.1 g29.2) ?_
  refine s_ql (.agg #[.int .u64 ((gt h_ ((h_.length : Int) - 1)).1), .int .u32 ((gt h_ ((h_.length : Int) - 1)).2)]) (x := aLoad Try.prog 161 (elp hd_h_ 2 ((h_.length : Int) - 1).toNat 0) H) (by kernel_rfl) (h_h_.sq.ld g29.1 g29.2 (by kernel_rfl)) ?_
  refine s_rwk wf [.int .u64 0, .int .u32 0] (by kernel_rfl) fun b31 H32 e33 hb34 r35 => ?_
  obtain ⟨H37, q38, e39, r40⟩ := Row.store (P := Try.prog) (t := 161) (p := 0) e33.wf r35 (.agg #[.int .u64 ((gt h_ ((h_.length : Int) - 1)).1), .int .u32 ((gt h_ ((h_.length : Int) - 1)).2)]) [.int .u64 ((gt h_ ((h_.length : Int) - 1)).1), .int .u32 ((gt h_ ((h_.length : Int) - 1)).2)] (by kernel_rfl) (by kernel_rfl) (one_cons (rfl) (one_cons (rfl) (one_nil))) (Nat.le_of_ble_eq_true (by kernel_rfl)) [.int .u64 ((gt h_ ((h_.length : Int) - 1)).1), .int .u32 ((gt h_ ((h_.length : Int) - 1)).2)] (by kernel_rfl)
  refine s_ek (undef) (by kernel_rfl) (map_ok q38) ?_
  refine s_nil ?_
  refine k28 _ _ ?_
  refine w_seqk fun K41 k41 => ?_
  refine w_reg (by kernel_rfl) ?_
  refine s_qk (.pointer (some ⟨b_h, 0, none⟩)) (by kernel_rfl) ?_
  refine s_qk (.pointer (some ⟨b_h, 0, none⟩)) (by kernel_rfl) ?_
  refine s_qk (.pointer (some ⟨b_h, 0, none⟩)) (by kernel_rfl) ?_
  refine s_qk (.pointer (some ⟨b_h, 0, none⟩)) (by kernel_rfl) ?_
  have u42 := ((h_h.ext e33).frS e39 (hb34.djn h_h.ltF))
  refine s_ql (hd_h_) (x := aLoad Try.prog 155 (.pointer (some ⟨b_h, 0, none⟩)) H37) (by kernel_rfl) (u42.ld (by kernel_rfl)) ?_
  refine s_qk (.int .i64 ((h_.length : Int) - 1)) (by kernel_rfl) ?_
  obtain ⟨g43, r44⟩ := G_some r30
  have u48 := ((h_h_.ext e33).fr e39 (hb34.djn h_h_.lt))
  obtain ⟨s45, q46, hs47⟩ := Ow.head (P := Try.prog) u48 (t := 155) (by kernel_rfl) (hi := (some (.int .i64 ((h_.length : Int) - 1)))) (r := ((h_.length : Int) - 1).toNat) (aBound_int _ (by have := g43; omega)) (by have := g43; omega)
  obtain ⟨a49, n50, c51, rfl⟩ := hs47.form
  refine s_ql (.slice a49 n50 c51) (by kernel_rfl) q46 ?_
  refine s_qk (.pointer (some ⟨b_h, 0, none⟩)) (by kernel_rfl) ?_
  refine s_qk (.pointer (some ⟨b_h, 0, none⟩)) (by kernel_rfl) ?_
  obtain ⟨H53, q54, e55, r56⟩ := Row.store (P := Try.prog) (t := 155) (p := 0) e39.wf u42 (.slice a49 n50 c51) [.slice a49 n50 c51] (by kernel_rfl) (by kernel_rfl) (one_cons (hs47.one1) (one_nil)) (Nat.le_of_ble_eq_true (by kernel_rfl)) [.slice a49 n50 c51, hd_h_2] (by kernel_rfl)
  refine s_ek (undef) (by kernel_rfl) (map_ok q54) ?_
  refine s_nil ?_
  refine k41 _ _ ?_
  refine w_seqk fun K57 k57 => ?_
  refine w_reg (by kernel_rfl) ?_
  refine s_qk (.pointer (some ⟨b_h, 0, none⟩)) (by kernel_rfl) ?_
  refine s_qk (.pointer (some ⟨b_h, 0, none⟩)) (by kernel_rfl) ?_
  refine s_qk (.pointer (some ⟨b_h, 1, none⟩)) (by kernel_rfl) ?_
  refine s_ql (hd_h_2) (x := aLoad Try.prog 22 (.pointer (some ⟨b_h, 1, none⟩)) H53) (by kernel_rfl) (r56.ld (by kernel_rfl)) ?_
  refine s_qk (.int .u32 id_) (by kernel_rfl) ?_
  have u58 := (((h_h_2.ext e33).fr e39 (hb34.djn h_h_2.lt)).fr e55 dj_b_h_fp_h_2)
  refine s_ql (elp hd_h_2 1 id_.toNat 0) (x := aIndexAddr Try.prog 22 hd_h_2 (.int .u32 id_)) (by kernel_rfl) (u58.sq.idxb (by kernel_rfl) g22.1 g22.2) ?_
  obtain ⟨H59, q60, e61, hm62⟩ := Ow.store (P := Try.prog) (t := 3) (off := 0) e55.wf u58 g22.1 g22.2 (.int .i64 0) [.int .i64 0] (by kernel_rfl) (by kernel_rfl) rfl 0 (Nat.le_of_ble_eq_true rfl) (by kernel_rfl)
  refine s_ek (undef) (by kernel_rfl) (map_ok q60) ?_
  refine s_nil ?_
  refine k57 _ _ ?_
  refine w_seqk fun K63 k63 => ?_
  refine w_seqk fun K64 k64 => ?_
  refine w_reg (by kernel_rfl) ?_
  refine s_qk (.int .i64 ((gt h_2 id_) - 1)) (by kernel_rfl) ?_
  refine s_qk (.int .i64 ((h_.length : Int) - 1)) (by kernel_rfl) ?_
  refine s_qk (.bool (decide (((gt h_2 id_) - 1) < ((h_.length : Int) - 1)))) (by kernel_rfl) ?_
  refine s_nil ?_
  refine k64 _ _ ?_
  refine w_condp (((gt h_2 id_) - 1) < ((h_.length : Int) - 1)) (by kernel_rfl) rfl (fun h65 => ?_) (fun h65 => ?_)
  ·have r66 := ite_t h65 r44
   refine w_seqk fun K67 k67 => ?_
   refine w_reg (by kernel_rfl) ?_
   refine s_qk (.pointer (some ⟨b_h, 0, none⟩)) (by kernel_rfl) ?_
   refine s_qk (.int .i64 ((gt h_2 id_) - 1)) (by kernel_rfl) ?_
   have u68 := ((r40.frS e55 (Dj.symm (hb34.djn h_h.ltF))).frS e61 (Dj.symm (hb34.djn h_h_2.lt)))
   refine s_ql (.agg #[.int .u64 ((gt h_ ((h_.length : Int) - 1)).1), .int .u32 ((gt h_ ((h_.length : Int) - 1)).2)]) (x := aLoad Try.prog 161 (.pointer (some ⟨b31, 0, none⟩)) H59) (by kernel_rfl) (u68.ld (by kernel_rfl)) ?_
   have u69 := ((hs47.fr e55 dj_b_h_fp_h_).fr e61 dj_fp_h_2_fp_h_)
   have u70 := (r56.frS e61 (Dj.symm dj_b_h_fp_h_2))
   obtain ⟨y71, hy72, r73⟩ := bind_some r66
   refine s_ck 97 #[.pointer (some ⟨b_h, 0, none⟩), .int .i64 ((gt h_2 id_) - 1), .agg #[.int .u64 ((gt h_ ((h_.length : Int) - 1)).1), .int .u32 ((gt h_ ((h_.length : Int) - 1)).2)]] (by kernel_rfl) (c_heap_Heap_put e61.wf u69 hm62 u70 (Dj.symm dj_b_h_fp_h_) (Dj.symm dj_fp_h_2_fp_h_) hy72) ?_
   rintro _ H74 ⟨rfl, e75, m76, m77⟩
   refine s_nil ?_
   refine k67 _ _ ?_
   refine w_seqk fun K78 k78 => ?_
   refine w_reg (by kernel_rfl) ?_
   refine s_qk (.pointer (some ⟨b_h, 0, none⟩)) (by kernel_rfl) ?_
   refine s_qk (.int .i64 ((gt h_2 id_) - 1)) (by kernel_rfl) ?_
   have u79 := (u70.frS e75 (Dj.app (Dj.symm dj_b_h_fp_h_) (Dj.symm dj_b_h_fp_h_2)))
   obtain ⟨y80, hy81, r82⟩ := bind_some r73
   refine s_ck 98 #[.pointer (some ⟨b_h, 0, none⟩), .int .i64 ((gt h_2 id_) - 1)] (by kernel_rfl) (c_heap_Heap_up e75.wf m76 m77 u79 (Dj.symm dj_b_h_fp_h_) (Dj.symm dj_fp_h_2_fp_h_) (Dj.symm dj_b_h_fp_h_2) hy81) ?_
   rintro _ H83 ⟨rfl, e84, m85, m86⟩
   refine s_nil ?_
   refine k78 _ _ ?_
   refine w_draw [0, 1, 2, 3, 4, 5, 6, 7, 8, 9, 10] (by kernel_rfl) ?_
   refine d_qk (.pointer (some ⟨b_h, 0, none⟩)) (by kernel_rfl) ?_
   refine d_qk (.pointer (some ⟨b_h, 0, none⟩)) (by kernel_rfl) ?_
   refine d_qk (.pointer (some ⟨b_h, 0, none⟩)) (by kernel_rfl) ?_
   refine d_qk (.pointer (some ⟨b_h, 1, none⟩)) (by kernel_rfl) ?_
   have u87 := (u79.frS e84 (Dj.app (Dj.symm dj_b_h_fp_h_) (Dj.symm dj_b_h_fp_h_2)))
   refine d_ql (hd_h_2) (x := aLoad Try.prog 22 (.pointer (some ⟨b_h, 1, none⟩)) H83) (by kernel_rfl) (u87.ld (by kernel_rfl)) ?_
   refine d_qk (.pointer (some ⟨b31, 1, none⟩)) (by kernel_rfl) ?_
   have u88 := ((u68.frS e75 (Dj.app (Dj.symm (hb34.djn h_h_.lt)) (Dj.symm (hb34.djn h_h_2.lt)))).frS e84 (Dj.app (Dj.symm (hb34.djn h_h_.lt)) (Dj.symm (hb34.djn h_h_2.lt))))
   refine d_ql (.int .u32 ((gt h_ ((h_.length : Int) - 1)).2)) (x := aLoad Try.prog 135 (.pointer (some ⟨b31, 1, none⟩)) H83) (by kernel_rfl) (u88.ld (by kernel_rfl)) ?_
   obtain ⟨g89, r90⟩ := G_some r82
   refine d_ql (elp hd_h_2 1 ((gt h_ ((h_.length : Int) - 1)).2).toNat 0) (x := aIndexAddr Try.prog 22 hd_h_2 (.int .u32 ((gt h_ ((h_.length : Int) - 1)).2))) (by kernel_rfl) (m86.sq.idxb (by kernel_rfl) g89.1 g89.2) ?_
   refine d_ql (.int .i64 (gt y80.2 ((gt h_ ((h_.length : Int) - 1)).2))) (x := aLoad Try.prog 3 (elp hd_h_2 1 ((gt h_ ((h_.length : Int) - 1)).2).toNat 0) H83) (by kernel_rfl) (m86.sq.ld g89.1 g89.2 (by kernel_rfl)) ?_
   obtain ⟨g91, r92⟩ := G_some r90
   refine d_w (((gt y80.2 ((gt h_ ((h_.length : Int) - 1)).2)) - 1)) (k := .i64) (x := ((gt y80.2 ((gt h_ ((h_.length : Int) - 1)).2)) - 1)) (by kernel_rfl) (wrap64 g91) ?_
   obtain ⟨y93, hy94, r95⟩ := bind_some r92
   refine d_ck 99 #[.pointer (some ⟨b_h, 0, none⟩), .int .i64 ((gt y80.2 ((gt h_ ((h_.length : Int) - 1)).2)) - 1)] (by kernel_rfl) (c_heap_Heap_down e84.wf m85 m86 u87 (Dj.symm dj_b_h_fp_h_) (Dj.symm dj_fp_h_2_fp_h_) (Dj.symm dj_b_h_fp_h_2) hy94) ?_
   rintro _ H96 ⟨rfl, e97, m98, m99⟩
   refine ⟨st_nil, ?_⟩
   refine d_nil ?_
   refine k63 _ _ ?_
   refine w_seqk fun K100 k100 => ?_
   refine w_reg (by kernel_rfl) ?_
   refine s_qk (.bool true) (by kernel_rfl) ?_
   refine s_nil ?_
   refine k100 _ _ ?_
   refine w_ret ?_
   refine b_ret (fn := Try.f88) (vs := [.bool true]) (aRes_tmp (by kernel_rfl) (rfl)) ?_
   have u101 := (u87.frS e97 (Dj.app (Dj.symm dj_b_h_fp_h_) (Dj.symm dj_b_h_fp_h_2)))
   obtain rfl := Option.some.inj r95
   exact ⟨(.slice a49 n50 c51), rfl, (FrS.step wf (FrS.step wf (FrS.step wf (FrS.step wf (FrS.step wf (FrS.step wf ((FrS.refl (W := ([b_h] ++ (fp_h_ ++ fp_h_2))) wf).extR e33) e39 (hb34.fresh (Nat.le_refl _))) e55 Inn.left) e61 (Inn.right (Inn.right Inn.refl'))) e75 (Inn.app (Inn.right Inn.left) (Inn.right (Inn.right Inn.refl')))) e84 (Inn.app (Inn.right Inn.left) (Inn.right (Inn.right Inn.refl')))) e97 (Inn.app (Inn.right Inn.left) (Inn.right (Inn.right Inn.refl')))), m99, m98, u101⟩
  ·have r102 := ite_f h65 r44
   refine w_skip ?_
   refine k63 _ _ ?_
   refine w_seqk fun K103 k103 => ?_
   refine w_reg (by kernel_rfl) ?_
   refine s_qk (.bool true) (by kernel_rfl) ?_
   refine s_nil ?_
   refine k103 _ _ ?_
   refine w_ret ?_
   refine b_ret (fn := Try.f88) (vs := [.bool true]) (aRes_tmp (by kernel_rfl) (rfl)) ?_
   have u104 := ((hs47.fr e55 dj_b_h_fp_h_).fr e61 dj_fp_h_2_fp_h_)
   have u105 := (r56.frS e61 (Dj.symm dj_b_h_fp_h_2))
   obtain rfl := Option.some.inj r102
   exact ⟨(.slice a49 n50 c51), rfl, (FrS.step wf (FrS.step wf (FrS.step wf ((FrS.refl (W := ([b_h] ++ (fp_h_ ++ fp_h_2))) wf).extR e33) e39 (hb34.fresh (Nat.le_refl _))) e55 Inn.left) e61 (Inn.right (Inn.right Inn.refl'))), hm62, u104, u105⟩

theorem c_heap_Heap_Pop {H : AH} {b_h : Nat} {hd_h_ : Value} {fp_h_ : Fp} {hd_h_2 : Value} {fp_h_2 : Fp} {h_ : List (Int × Int)} {h_2 : List (Int)} {r : Int × Int × Bool × List (Int) × List (Int × Int)}
  (wf : WF H) (h_h_ : Ow enc_u64_u32 2 H hd_h_ h_ fp_h_) (h_h_2 : Ow (encI .i64) 1 H hd_h_2 h_2 fp_h_2) (h_h : Row H b_h [hd_h_, hd_h_2]) (dj_b_h_fp_h_2 : Dj [b_h] fp_h_2) (dj_b_h_fp_h_ : Dj [b_h] fp_h_) (dj_fp_h_2_fp_h_ : Dj fp_h_2 fp_h_) (hr : z_heap_Heap_Pop h_ h_2 = some r) :
  ACalls Try.prog 75 #[.pointer (some ⟨b_h, 0, none⟩)] H fun v H' => ∃ (s5 : Value), v = .tuple #[.int .u32 r.1, .int .u64 r.2.1, .bool r.2.2.1] ∧ FrS ([b_h] ++ (fp_h_ ++ fp_h_2)) H H' ∧ Ow (encI .i64) 1 H' hd_h_2 r.2.2.2.1 fp_h_2 ∧ Ow enc_u64_u32 2 H' s5 r.2.2.2.2 fp_h_ ∧ Row H' b_h [s5, hd_h_2] := by
 refine acalls_of_body mixed Try.func75 rfl (Nat.le_of_ble_eq_true rfl) ?_
 unfold z_heap_Heap_Pop at hr
 refine w_seqk fun K8 k8 => ?_
 refine w_reg (by kernel_rfl) ?_
 refine s_qk (.int .u32 0) (by kernel_rfl) ?_
 refine s_qk (.int .u64 0) (by kernel_rfl) ?_
 refine s_qk (.bool false) (by kernel_rfl) ?_
 refine s_nil ?_
 refine k8 _ _ ?_
 refine w_seqk fun K9 k9 => ?_
 refine w_reg (by kernel_rfl) ?_
 refine s_qk (.pointer (some ⟨b_h, 0, none⟩)) (by kernel_rfl) ?_
 obtain ⟨y10, hy11, r12⟩ := bind_some hr
 refine s_ck 74 #[.pointer (some ⟨b_h, 0, none⟩)] (by kernel_rfl) (c_heap_Heap_Top wf h_h_.sq h_h_2.sq h_h hy11) ?_
 rintro _ _ ⟨rfl, rfl⟩
 refine s_qk (.tuple #[.int .u32 y10.1, .int .u64 y10.2.1, .bool y10.2.2]) (by kernel_rfl) ?_
 refine s_qk (.int .u32 y10.1) (by kernel_rfl) ?_
 refine s_qk (.int .u64 y10.2.1) (by kernel_rfl) ?_
 refine s_qk (.bool y10.2.2) (by kernel_rfl) ?_
 refine s_qk (.int .u32 y10.1) (by kernel_rfl) ?_
 refine s_qk (.int .u64 y10.2.1) (by kernel_rfl) ?_
 refine s_qk (.bool y10.2.2) (by kernel_rfl) ?_
 refine s_nil ?_
 refine k9 _ _ ?_
 refine w_seqk fun K15 k15 => ?_
 refine w_seqk fun K16 k16 => ?_
 refine w_reg (by kernel_rfl) ?_
 refine s_qk (.bool y10.2.2) (by kernel_rfl) ?_
 refine s_nil ?_
 refine k16 _ _ ?_
 refine w_cond (y10.2.2) (by kernel_rfl) rfl (fun h17 => ?_) (fun h17 => ?_)
 ·have r18 := ite_t h17 r12
  refine w_reg (by kernel_rfl) ?_
  refine s_qk (.pointer (some ⟨b_h, 0, none⟩)) (by kernel_rfl) ?_
  refine s_qk (.int .u32 y10.1) (by kernel_rfl) ?_
  obtain ⟨y19, hy20, r21⟩ := bind_some r18
  refine s_ck 88 #[.pointer (some ⟨b_h, 0, none⟩), .int .u32 y10.1] (by kernel_rfl) (c_heap_Heap_Remove wf h_h_ h_h_2 h_h dj_b_h_fp_h_2 dj_b_h_fp_h_ dj_fp_h_2_fp_h_ hy20) ?_
  rintro _ H23 ⟨s22, rfl, e24, m25, m26, m27⟩
  obtain ⟨a29, n30, c31, rfl⟩ := m26.form
  refine s_nil ?_
  refine k15 _ _ ?_
  refine w_seqk fun K32 k32 => ?_
  refine w_reg (by kernel_rfl) ?_
  refine s_qk (.int .u32 y10.1) (by kernel_rfl) ?_
  refine s_qk (.int .u64 y10.2.1) (by kernel_rfl) ?_
  refine s_qk (.bool y10.2.2) (by kernel_rfl) ?_
  refine s_qk (.int .u32 y10.1) (by kernel_rfl) ?_
  refine s_qk (.int .u64 y10.2.1) (by kernel_rfl) ?_
  refine s_qk (.bool y10.2.2) (by kernel_rfl) ?_
  refine s_nil ?_
  refine k32 _ _ ?_
  refine w_ret ?_
  refine b_ret (fn := Try.f75) (vs := [.int .u32 y10.1, .int .u64 y10.2.1, .bool y10.2.2]) (aRes_tmp (by kernel_rfl) (aRes_tmp (by kernel_rfl) (aRes_tmp (by kernel_rfl) (rfl)))) ?_
  obtain rfl := Option.some.inj r21
  exact ⟨(.slice a29 n30 c31), rfl, (FrS.step wf (FrS.refl (W := ([b_h] ++ (fp_h_ ++ fp_h_2))) wf) e24 (Inn.app Inn.left (Inn.app (Inn.right Inn.left) (Inn.right (Inn.right Inn.refl'))))), m25, m26, m27⟩
 ·have r33 := ite_bf h17 r12
  refine w_skip ?_
  refine k15 _ _ ?_
  refine w_seqk fun K34 k34 => ?_
  refine w_reg (by kernel_rfl) ?_
  refine s_qk (.int .u32 y10.1) (by kernel_rfl) ?_
  refine s_qk (.int .u64 y10.2.1) (by kernel_rfl) ?_
  refine s_qk (.bool y10.2.2) (by kernel_rfl) ?_
  refine s_qk (.int .u32 y10.1) (by kernel_rfl) ?_
  refine s_qk (.int .u64 y10.2.1) (by kernel_rfl) ?_
  refine s_qk (.bool y10.2.2) (by kernel_rfl) ?_
  refine s_nil ?_
  refine k34 _ _ ?_
  refine w_ret ?_
  refine b_ret (fn := Try.f75) (vs := [.int .u32 y10.1, .int .u64 y10.2.1, .bool y10.2.2]) (aRes_tmp (by kernel_rfl) (aRes_tmp (by kernel_rfl) (aRes_tmp (by kernel_rfl) (rfl)))) ?_
  obtain rfl := Option.some.inj r33
  exact ⟨(hd_h_), rfl, (FrS.refl (W := ([b_h] ++ (fp_h_ ++ fp_h_2))) wf), h_h_2, h_h_, h_h⟩

theorem c_stamp_Stamp_Get {H : AH} {b_s : Nat} {hd_s_ : Value} {fp_s_ : Fp} {s_ : List (Int × Int)} {s_2 : Int} {s_3 : Int} {i : Int} {r : Int × Bool}
  (wf : WF H) (h_s_ : Sq enc_u64_u32 2 H hd_s_ s_ fp_s_) (h_s : Row H b_s [hd_s_, .int .u32 s_2, .int .i64 s_3]) (hr : z_stamp_Stamp_Get s_ s_2 s_3 i = some r) :
  ACalls Try.prog 56 #[.pointer (some ⟨b_s, 0, none⟩), .int .i64 i] H fun v H' => v = .tuple #[.int .u64 r.1, .bool r.2] ∧ H = H' := by
 refine acalls_of_body mixed Try.func56 rfl (Nat.le_of_ble_eq_true rfl) ?_
 unfold z_stamp_Stamp_Get at hr
 refine w_seqk fun K1 k1 => ?_
 refine w_reg (by kernel_rfl) ?_
 refine s_qk (.int .u64 0) (by kernel_rfl) ?_
 refine s_qk (.bool false) (by kernel_rfl) ?_
 refine s_nil ?_
 refine k1 _ _ ?_
 refine w_seqk fun K2 k2 => ?_
 refine w_seqk fun K3 k3 => ?_
 obtain ⟨o4, hx5, r6⟩ := bind_some hr
 refine w_mid (fun α H7 => Has α [(0, .pointer (some ⟨b_s, 0, none⟩)), (1, .int .i64 i), (35, .bool o4)] ∧ H = H7) (fun K9 k9 => ?_) (fun α H7 hM => ?_)
 ·refine w_draw [0, 1, 2, 3, 4, 5, 6, 7, 8, 9, 10, 11, 12, 13, 14, 15, 16, 17, 18, 19, 20, 21, 22, 23, 24, 25, 26, 27, 28, 29] (by kernel_rfl) ?_
  refine d_qk (.pointer (some ⟨b_s, 0, none⟩)) (by kernel_rfl) ?_
  refine d_qk (.bool false) (by kernel_rfl) ?_
  refine d_qk (.bool false) (by kernel_rfl) ?_
  refine d_qk (.int .i64 i) (by kernel_rfl) ?_
  refine d_b (i < 0) (by kernel_rfl) (fun h11 => ?_) (fun h11 => ?_)
  ·have r12 := ite_t h11 hx5
   refine d_qk (.bool true) (by kernel_rfl) ?_
   refine d_qk (.bool true) (by kernel_rfl) ?_
   refine d_idle (by kernel_rfl) ?_
   refine d_idle (by kernel_rfl) ?_
   refine d_idle (by kernel_rfl) ?_
   refine d_idle (by kernel_rfl) ?_
   refine d_idle (by kernel_rfl) ?_
   refine d_idle (by kernel_rfl) ?_
   refine d_idle (by kernel_rfl) ?_
   refine d_qk (.bool true) (by kernel_rfl) ?_
   refine d_qk (.bool true) (by kernel_rfl) ?_
   refine d_idle (by kernel_rfl) ?_
   refine d_idle (by kernel_rfl) ?_
   refine d_idle (by kernel_rfl) ?_
   refine d_idle (by kernel_rfl) ?_
   refine d_idle (by kernel_rfl) ?_
   refine d_idle (by kernel_rfl) ?_
   refine d_idle (by kernel_rfl) ?_
   refine d_idle (by kernel_rfl) ?_
   refine d_idle (by kernel_rfl) ?_
   refine d_idle (by kernel_rfl) ?_
   refine d_idle (by kernel_rfl) ?_
   refine d_idle (by kernel_rfl) ?_
   refine d_idle (by kernel_rfl) ?_
   refine d_qk (.bool true) (by kernel_rfl) ?_
   refine d_nil ?_
   obtain rfl := Option.some.inj r12
   exact k9 _ _ ⟨⟨by kernel_rfl, by kernel_rfl, by kernel_rfl, trivial⟩, rfl⟩
  ·have r13 := ite_f h11 hx5
   refine d_qk (.bool false) (by kernel_rfl) ?_
   refine d_qk (.bool false) (by kernel_rfl) ?_
   refine d_qk (.int .i64 i) (by kernel_rfl) ?_
   refine d_qk (.pointer (some ⟨b_s, 0, none⟩)) (by kernel_rfl) ?_
   refine d_qk (.pointer (some ⟨b_s, 0, none⟩)) (by kernel_rfl) ?_
   refine d_qk (.pointer (some ⟨b_s, 0, none⟩)) (by kernel_rfl) ?_
   refine d_ql (hd_s_) (x := aLoad Try.prog 139 (.pointer (some ⟨b_s, 0, none⟩)) H) (by kernel_rfl) (h_s.ld (by kernel_rfl)) ?_
   refine d_ql (.int .i64 (s_.length : Int)) (x := aLen Try.prog 139 hd_s_ H) (by kernel_rfl) (h_s_.lenb (by kernel_rfl)) ?_
   refine d_b (i ≥ (s_.length : Int)) (by kernel_rfl) (fun h14 => ?_) (fun h14 => ?_)
   ·have r15 := ite_t h14 r13
    refine d_qk (.bool true) (by kernel_rfl) ?_
    refine d_qk (.bool true) (by kernel_rfl) ?_
    refine d_idle (by kernel_rfl) ?_
    refine d_idle (by kernel_rfl) ?_
    refine d_idle (by kernel_rfl) ?_
    refine d_idle (by kernel_rfl) ?_
    refine d_idle (by kernel_rfl) ?_
    refine d_idle (by kernel_rfl) ?_
    refine d_idle (by kernel_rfl) ?_
    refine d_idle (by kernel_rfl) ?_
    refine d_idle (by kernel_rfl) ?_
    refine d_idle (by kernel_rfl) ?_
    refine d_idle (by kernel_rfl) ?_
    refine d_idle (by kernel_rfl) ?_
    refine d_idle (by kernel_rfl) ?_
    refine d_qk (.bool true) (by kernel_rfl) ?_
    refine d_nil ?_
    obtain rfl := Option.some.inj r15
    exact k9 _ _ ⟨⟨by kernel_rfl, by kernel_rfl, by kernel_rfl, trivial⟩, rfl⟩
   ·have r16 := ite_f h14 r13
    refine d_qk (.bool false) (by kernel_rfl) ?_
    refine d_qk (.bool false) (by kernel_rfl) ?_
    refine d_qk (.pointer (some ⟨b_s, 0, none⟩)) (by kernel_rfl) ?_
    refine d_qk (.pointer (some ⟨b_s, 0, none⟩)) (by kernel_rfl) ?_
    refine d_qk (.pointer (some ⟨b_s, 0, none⟩)) (by kernel_rfl) ?_
    refine d_ql (hd_s_) (x := aLoad Try.prog 139 (.pointer (some ⟨b_s, 0, none⟩)) H) (by kernel_rfl) (h_s.ld (by kernel_rfl)) ?_
    refine d_qk (.int .i64 i) (by kernel_rfl) ?_
    obtain ⟨g17, r18⟩ := G_some r16
    refine d_ql (elp hd_s_ 2 i.toNat 0) (x := aIndexAddr Try.prog 139 hd_s_ (.int .i64 i)) (by kernel_rfl) (h_s_.idxb (by kernel_rfl) g17.1 g17.2) ?_
    refine d_ql (elp hd_s_ 2 i.toNat 1) (x := aFieldAddr Try.prog 143 (elp hd_s_ 2 i.toNat 0) 1) (by kernel_rfl) (Sq.fldq (d := 1) h_s_ g17.1 g17.2 (by kernel_rfl)) ?_
    refine d_ql (.int .u32 ((gt s_ i).2)) (x := aLoad Try.prog 135 (elp hd_s_ 2 i.toNat 1) H) (by kernel_rfl) (h_s_.ld g17.1 g17.2 (by kernel_rfl)) ?_
    refine d_qk (.pointer (some ⟨b_s, 0, none⟩)) (by kernel_rfl) ?_
    refine d_qk (.pointer (some ⟨b_s, 0, none⟩)) (by kernel_rfl) ?_
    refine d_qk (.pointer (some ⟨b_s, 1, none⟩)) (by kernel_rfl) ?_
    refine d_ql (.int .u32 s_2) (x := aLoad Try.prog 135 (.pointer (some ⟨b_s, 1, none⟩)) H) (by kernel_rfl) (h_s.ld (by kernel_rfl)) ?_
    refine d_qk (.bool (!decide (((gt s_ i).2) = s_2))) (by kernel_rfl) ?_
    refine d_qk (.bool (!decide (((gt s_ i).2) = s_2))) (by kernel_rfl) ?_
    refine d_nil ?_
    obtain rfl := Option.some.inj r18
    exact k9 _ _ ⟨⟨by kernel_rfl, by kernel_rfl, by kernel_rfl, trivial⟩, rfl⟩
 ·obtain ⟨hh10, rfl⟩ := hM
  obtain ⟨β, rfl⟩ := has_ex hh10
  clear hh10
  refine k3 _ _ ?_
  refine w_cond (o4) (by kernel_rfl) rfl (fun h19 => ?_) (fun h19 => ?_)
  ·have r20 := ite_t h19 r6
   refine w_seqk fun K21 k21 => ?_
   refine w_reg (by kernel_rfl) ?_
   refine s_qk (.int .u64 0) (by kernel_rfl) ?_
   refine s_qk (.bool false) (by kernel_rfl) ?_
   refine s_nil ?_
   refine k21 _ _ ?_
   refine w_ret (th_ret ?_)
   refine b_ret (fn := Try.f56) (vs := [.int .u64 0, .bool false]) (aRes_tmp (by kernel_rfl) (aRes_tmp (by kernel_rfl) (rfl))) ?_
   obtain rfl := Option.some.inj r20
   exact ⟨rfl, rfl⟩
  ·have r22 := ite_bf h19 r6
   refine w_skip ?_
   refine k2 _ _ ?_
   refine w_seqk fun K23 k23 => ?_
   refine w_reg (by kernel_rfl) ?_
   refine s_qk (.pointer (some ⟨b_s, 0, none⟩)) (by kernel_rfl) ?_
   refine s_qk (.pointer (some ⟨b_s, 0, none⟩)) (by kernel_rfl) ?_
   refine s_qk (.pointer (some ⟨b_s, 0, none⟩)) (by kernel_rfl) ?_
   refine s_ql (hd_s_) (x := aLoad Try.prog 139 (.pointer (some ⟨b_s, 0, none⟩)) H) (by kernel_rfl) (h_s.ld (by kernel_rfl)) ?_
   refine s_qk (.int .i64 i) (by kernel_rfl) ?_
   obtain ⟨g24, r25⟩ := G_some r22
   refine s_ql (elp hd_s_ 2 i.toNat 0) (x := aIndexAddr Try.prog 139 hd_s_ (.int .i64 i)) (by kernel_rfl) (h_s_.idxb (by kernel_rfl) g24.1 g24.2) ?_
   refine s_ql (elp hd_s_ 2 i.toNat 0) (x := aFieldAddr Try.prog 143 (elp hd_s_ 2 i.toNat 0) 0) (by kernel_rfl) (Sq.fldq (d := 0) h_s_ g24.1 g24.2 (by kernel_rfl)) ?_
   refine s_ql (.int .u64 ((gt s_ i).1)) (x := aLoad Try.prog 29 (elp hd_s_ 2 i.toNat 0) H) (by kernel_rfl) (h_s_.ld g24.1 g24.2 (by kernel_rfl)) ?_
   refine s_qk (.int .u64 ((gt s_ i).1)) (by kernel_rfl) ?_
   refine s_qk (.bool true) (by kernel_rfl) ?_
   refine s_nil ?_
   refine k23 _ _ ?_
   refine w_ret ?_
   refine b_ret (fn := Try.f56) (vs := [.int .u64 ((gt s_ i).1), .bool true]) (aRes_tmp (by kernel_rfl) (aRes_tmp (by kernel_rfl) (rfl))) ?_
   obtain rfl := Option.some.inj r25
   exact ⟨rfl, rfl⟩


end Go.Vd

/-! (KSm4) -/

set_option maxRecDepth 100000
set_option maxHeartbeats 4000000
set_option linter.unusedVariables false
namespace Go.Vd
open Go.Proofs
attribute [local irreducible] wpSeq wpOrd aWp
theorem c_search_state_settle {H : AH} {b_st : Nat} {hd_st_ : Value} {fp_st_ : Fp} {hd_st_2 : Value} {fp_st_2 : Fp} {hd_st_3 : Value} {fp_st_3 : Fp} {b_st_4 : Nat} {hd_st_5 : Value} {fp_st_5 : Fp} {hd_st_6 : Value} {fp_st_6 : Fp} {b_st_7 : Nat} {hd_st_8 : Value} {fp_st_8 : Fp} {hd_st_11 : Value} {fp_st_11 : Fp} {hd_st_12 : Value} {fp_st_12 : Fp} {st_ : List (Int)} {st_2 : List (Int)} {st_3 : List (Int)} {st_5 : List (Int × Int)} {st_6 : List (Int)} {st_8 : List (Int × Int)} {st_9 : Int} {st_10 : Int} {st_11 : List (Int)} {st_12 : List (Bool)} {v_ : Int} {d : Int} {hops : Int} {r : List (Int) × List (Int × Int) × List (Int × Int) × Int × List (Int) × List (Bool)}
  (wf : WF H) (h_st_ : Sq (encI .i64) 1 H hd_st_ st_ fp_st_) (h_st_2 : Sq (encI .i64) 1 H hd_st_2 st_2 fp_st_2) (h_st_3 : Sq (encI .i64) 1 H hd_st_3 st_3 fp_st_3) (h_st_5 : Ow enc_u64_u32 2 H hd_st_5 st_5 fp_st_5) (h_st_6 : Ow (encI .i64) 1 H hd_st_6 st_6 fp_st_6) (h_st_4 : Row H b_st_4 [hd_st_5, hd_st_6]) (h_st_8 : Ow enc_u64_u32 2 H hd_st_8 st_8 fp_st_8) (h_st_7 : Row H b_st_7 [hd_st_8, .int .u32 st_9, .int .i64 st_10]) (h_st_11 : Ow (encI .i64) 1 H hd_st_11 st_11 fp_st_11) (h_st_12 : Ow encB 1 H hd_st_12 st_12 fp_st_12) (h_st : Row H b_st [hd_st_, hd_st_2, hd_st_3, .pointer (some ⟨b_st_4, 0, none⟩), .pointer (some ⟨b_st_7, 0, none⟩), hd_st_11, hd_st_12]) (dj_fp_st_12_b_st : Dj fp_st_12 [b_st]) (dj_fp_st_12_fp_st_11 : Dj fp_st_12 fp_st_11) (dj_fp_st_12_fp_st_6 : Dj fp_st_12 fp_st_6) (dj_fp_st_12_fp_st_5 : Dj fp_st_12 fp_st_5) (dj_fp_st_12_b_st_4 : Dj fp_st_12 [b_st_4]) (dj_fp_st_12_fp_st_8 : Dj fp_st_12 fp_st_8) (dj_fp_st_12_b_st_7 : Dj fp_st_12 [b_st_7]) (dj_fp_st_12_fp_st_ : Dj fp_st_12 fp_st_) (dj_fp_st_12_fp_st_2 : Dj fp_st_12 fp_st_2) (dj_fp_st_12_fp_st_3 : Dj fp_st_12 fp_st_3) (dj_b_st_7_fp_st_8 : Dj [b_st_7] fp_st_8) (dj_fp_st_8_b_st : Dj fp_st_8 [b_st]) (dj_b_st_7_b_st : Dj [b_st_7] [b_st]) (dj_fp_st_8_fp_st_11 : Dj fp_st_8 fp_st_11) (dj_b_st_7_fp_st_11 : Dj [b_st_7] fp_st_11) (dj_fp_st_11_b_st : Dj fp_st_11 [b_st]) (dj_fp_st_8_fp_st_5 : Dj fp_st_8 fp_st_5) (dj_b_st_7_fp_st_5 : Dj [b_st_7] fp_st_5) (dj_fp_st_11_fp_st_5 : Dj fp_st_11 fp_st_5) (dj_fp_st_8_fp_st_6 : Dj fp_st_8 fp_st_6) (dj_b_st_7_fp_st_6 : Dj [b_st_7] fp_st_6) (dj_fp_st_11_fp_st_6 : Dj fp_st_11 fp_st_6) (dj_fp_st_8_b_st_4 : Dj fp_st_8 [b_st_4]) (dj_b_st_7_b_st_4 : Dj [b_st_7] [b_st_4]) (dj_fp_st_11_b_st_4 : Dj fp_st_11 [b_st_4]) (dj_fp_st_5_b_st_4 : Dj fp_st_5 [b_st_4]) (dj_fp_st_5_fp_st_6 : Dj fp_st_5 fp_st_6) (dj_b_st_4_fp_st_6 : Dj [b_st_4] fp_st_6) (dj_fp_st_6_b_st : Dj fp_st_6 [b_st]) (dj_fp_st_5_b_st : Dj fp_st_5 [b_st]) (dj_b_st_4_b_st : Dj [b_st_4] [b_st]) (dj_fp_st_8_fp_st_ : Dj fp_st_8 fp_st_) (dj_fp_st_6_fp_st_ : Dj fp_st_6 fp_st_) (dj_fp_st_5_fp_st_ : Dj fp_st_5 fp_st_) (dj_fp_st_11_fp_st_ : Dj fp_st_11 fp_st_) (dj_b_st_7_fp_st_ : Dj [b_st_7] fp_st_) (dj_b_st_4_fp_st_ : Dj [b_st_4] fp_st_) (dj_fp_st_8_fp_st_2 : Dj fp_st_8 fp_st_2) (dj_fp_st_6_fp_st_2 : Dj fp_st_6 fp_st_2) (dj_fp_st_5_fp_st_2 : Dj fp_st_5 fp_st_2) (dj_fp_st_11_fp_st_2 : Dj fp_st_11 fp_st_2) (dj_b_st_7_fp_st_2 : Dj [b_st_7] fp_st_2) (dj_b_st_4_fp_st_2 : Dj [b_st_4] fp_st_2) (dj_fp_st_8_fp_st_3 : Dj fp_st_8 fp_st_3) (dj_fp_st_6_fp_st_3 : Dj fp_st_6 fp_st_3) (dj_fp_st_5_fp_st_3 : Dj fp_st_5 fp_st_3) (dj_fp_st_11_fp_st_3 : Dj fp_st_11 fp_st_3) (dj_b_st_7_fp_st_3 : Dj [b_st_7] fp_st_3) (dj_b_st_4_fp_st_3 : Dj [b_st_4] fp_st_3) (dj_fp_st_8_fp_st_12 : Dj fp_st_8 fp_st_12) (dj_fp_st_6_fp_st_12 : Dj fp_st_6 fp_st_12) (dj_fp_st_5_fp_st_12 : Dj fp_st_5 fp_st_12) (dj_b_st_7_fp_st_12 : Dj [b_st_7] fp_st_12) (dj_b_st_4_fp_st_12 : Dj [b_st_4] fp_st_12) (dj_fp_st_5_fp_st_8 : Dj fp_st_5 fp_st_8) (dj_fp_st_5_b_st_7 : Dj fp_st_5 [b_st_7]) (dj_fp_st_5_fp_st_11 : Dj fp_st_5 fp_st_11) (hr : z_search_state_settle st_ st_2 st_3 st_5 st_6 st_8 st_9 st_10 st_11 st_12 v_ d hops = some r) :
  ACalls Try.prog 76 #[.pointer (some ⟨b_st, 0, none⟩), .int .i64 v_, .int .u64 d, .int .i64 hops] H fun v H' => ∃ (s5 : Value) (f6 : Fp), v = .tuple #[] ∧ FrS ([b_st_4] ++ ([b_st_7] ++ (fp_st_11 ++ (fp_st_12 ++ (fp_st_5 ++ (fp_st_6 ++ fp_st_8)))))) H H' ∧ Ow (encI .i64) 1 H' hd_st_6 r.1 fp_st_6 ∧ Ow enc_u64_u32 2 H' s5 r.2.1 f6 ∧ Row H' b_st_4 [s5, hd_st_6] ∧ Ow enc_u64_u32 2 H' hd_st_8 r.2.2.1 fp_st_8 ∧ Row H' b_st_7 [hd_st_8, .int .u32 st_9, .int .i64 r.2.2.2.1] ∧ Ow (encI .i64) 1 H' hd_st_11 r.2.2.2.2.1 fp_st_11 ∧ Ow encB 1 H' hd_st_12 r.2.2.2.2.2 fp_st_12 ∧ Inn fp_st_5 H f6 := by
 refine acalls_of_body mixed Try.func76 rfl (Nat.le_of_ble_eq_true rfl) ?_
 unfold z_search_state_settle at hr
 refine w_seqk fun K18 k18 => ?_
 refine w_reg (by kernel_rfl) ?_
 refine s_qk (.pointer (some ⟨b_st, 0, none⟩)) (by kernel_rfl) ?_
 refine s_qk (.pointer (some ⟨b_st, 0, none⟩)) (by kernel_rfl) ?_
 refine s_qk (.pointer (some ⟨b_st, 6, none⟩)) (by kernel_rfl) ?_
 refine s_ql (hd_st_12) (x := aLoad Try.prog 101 (.pointer (some ⟨b_st, 6, none⟩)) H) (by kernel_rfl) (h_st.ld (by kernel_rfl)) ?_
 refine s_qk (.int .i64 v_) (by kernel_rfl) ?_
 obtain ⟨g19, r20⟩ := G_some hr
 refine s_ql (elp hd_st_12 1 v_.toNat 0) (x := aIndexAddr Try.prog 101 hd_st_12 (.int .i64 v_)) (by kernel_rfl) (h_st_12.sq.idxb (by kernel_rfl) g19.1 g19.2) ?_
 obtain ⟨H21, q22, e23, hm24⟩ := Ow.store (P := Try.prog) (t := 4) (off := 0) wf h_st_12 g19.1 g19.2 (.bool true) [.bool true] (by kernel_rfl) (by kernel_rfl) rfl true (Nat.le_of_ble_eq_true rfl) (by kernel_rfl)
 refine s_ek (undef) (by kernel_rfl) (map_ok q22) ?_
 refine s_nil ?_
 refine k18 _ _ ?_
 refine w_seqk fun K25 k25 => ?_
 refine w_seqk fun K26 k26 => ?_
 refine w_reg (by kernel_rfl) ?_
 refine s_qk (.pointer (some ⟨b_st, 0, none⟩)) (by kernel_rfl) ?_
 refine s_qk (.pointer (some ⟨b_st, 0, none⟩)) (by kernel_rfl) ?_
 refine s_qk (.pointer (some ⟨b_st, 5, none⟩)) (by kernel_rfl) ?_
 have u27 := (h_st.frS e23 dj_fp_st_12_b_st)
 refine s_ql (hd_st_11) (x := aLoad Try.prog 22 (.pointer (some ⟨b_st, 5, none⟩)) H21) (by kernel_rfl) (u27.ld (by kernel_rfl)) ?_
 refine s_qk (.int .i64 v_) (by kernel_rfl) ?_
 obtain ⟨g28, r29⟩ := G_some r20
 have u30 := (h_st_11.fr e23 dj_fp_st_12_fp_st_11)
 refine s_ql (elp hd_st_11 1 v_.toNat 0) (x := aIndexAddr Try.prog 22 hd_st_11 (.int .i64 v_)) (by kernel_rfl) (u30.sq.idxb (by kernel_rfl) g19.1 g28) ?_
 refine s_ql (.int .i64 (gt st_11 v_)) (x := aLoad Try.prog 3 (elp hd_st_11 1 v_.toNat 0) H21) (by kernel_rfl) (u30.sq.ld g19.1 g28 (by kernel_rfl)) ?_
 refine s_qk (.int .i64 hops) (by kernel_rfl) ?_
 refine s_qk (.bool (decide ((gt st_11 v_) ≥ hops))) (by kernel_rfl) ?_
 refine s_nil ?_
 refine k26 _ _ ?_
 refine w_condp ((gt st_11 v_) ≥ hops) (by kernel_rfl) rfl (fun h31 => ?_) (fun h31 => ?_)
 ·have r32 := ite_t h31 r29
  refine w_ret (th_ret ?_)
  refine b_ret (fn := Try.f76) (vs := []) (rfl) ?_
  have u33 := (h_st_6.fr e23 dj_fp_st_12_fp_st_6)
  have u34 := (h_st_5.fr e23 dj_fp_st_12_fp_st_5)
  have u35 := (h_st_4.frS e23 dj_fp_st_12_b_st_4)
  have u36 := (h_st_8.fr e23 dj_fp_st_12_fp_st_8)
  have u37 := (h_st_7.frS e23 dj_fp_st_12_b_st_7)
  obtain rfl := Option.some.inj r32
  exact ⟨(hd_st_5), fp_st_5, rfl, (FrS.step wf (FrS.refl (W := ([b_st_4] ++ ([b_st_7] ++ (fp_st_11 ++ (fp_st_12 ++ (fp_st_5 ++ (fp_st_6 ++ fp_st_8))))))) wf) e23 (Inn.right (Inn.right (Inn.right Inn.left)))), u33, u34, u35, u36, u37, u30, hm24, Inn.refl'⟩
 ·have r38 := ite_f h31 r29
  refine w_skip ?_
  refine k25 _ _ ?_
  refine w_seqk fun K39 k39 => ?_
  refine w_reg (by kernel_rfl) ?_
  refine s_qk (.pointer (some ⟨b_st, 0, none⟩)) (by kernel_rfl) ?_
  refine s_qk (.pointer (some ⟨b_st, 0, none⟩)) (by kernel_rfl) ?_
  refine s_qk (.pointer (some ⟨b_st, 0, none⟩)) (by kernel_rfl) ?_
  refine s_qk (.pointer (some ⟨b_st, 0, none⟩)) (by kernel_rfl) ?_
  refine s_ql (hd_st_) (x := aLoad Try.prog 22 (.pointer (some ⟨b_st, 0, none⟩)) H21) (by kernel_rfl) (u27.ld (by kernel_rfl)) ?_
  refine s_qk (.int .i64 v_) (by kernel_rfl) ?_
  obtain ⟨g40, r41⟩ := G_some r38
  have u42 := (h_st_.fr e23 dj_fp_st_12_fp_st_)
  refine s_ql (elp hd_st_ 1 v_.toNat 0) (x := aIndexAddr Try.prog 22 hd_st_ (.int .i64 v_)) (by kernel_rfl) (u42.idxb (by kernel_rfl) g19.1 g40) ?_
  refine s_ql (.int .i64 (gt st_ v_)) (x := aLoad Try.prog 3 (elp hd_st_ 1 v_.toNat 0) H21) (by kernel_rfl) (u42.ld g19.1 g40 (by kernel_rfl)) ?_
  refine s_qk (.int .i64 (gt st_ v_)) (by kernel_rfl) ?_
  refine s_nil ?_
  refine k39 _ _ ?_
  obtain ⟨o43, hx44, r45⟩ := bind_some r41
  refine w_mid (fun α H46 => ∃ (s52 : Value) (f53 : Fp), Has α [] ∧ FrS ([b_st_4] ++ ([b_st_7] ++ (fp_st_11 ++ (fp_st_5 ++ (fp_st_6 ++ fp_st_8))))) H21 H46 ∧ Ow (encI .i64) 1 H46 hd_st_6 o43.1 fp_st_6 ∧ Ow enc_u64_u32 2 H46 s52 o43.2.1 f53 ∧ Row H46 b_st_4 [s52, hd_st_6] ∧ Ow enc_u64_u32 2 H46 hd_st_8 o43.2.2.1 fp_st_8 ∧ Row H46 b_st_7 [hd_st_8, .int .u32 st_9, .int .i64 o43.2.2.2.1] ∧ Ow (encI .i64) 1 H46 hd_st_11 o43.2.2.2.2 fp_st_11 ∧ Inn fp_st_5 H21 f53) (fun K63 k63 => ?_) (fun α H46 hM => ?_)
  ·refine w_block ?_
   obtain ⟨n65, hn66⟩ := loopO_iff.1 hx44
   have u90 := (h_st_5.fr e23 dj_fp_st_12_fp_st_5)
   have u91 := (h_st_6.fr e23 dj_fp_st_12_fp_st_6)
   have u92 := (h_st_4.frS e23 dj_fp_st_12_b_st_4)
   have u93 := (h_st_8.fr e23 dj_fp_st_12_fp_st_8)
   have u94 := (h_st_7.frS e23 dj_fp_st_12_b_st_7)
   refine w_loopn (fun n α H67 => ∃ (st0 : List (Int × Int)), ∃ (st1 : List (Int)), ∃ (st2 : List (Int × Int)), ∃ (st3 : Int), ∃ (st4 : List (Int)), ∃ (i5 : Int), ∃ (s71 : Value), ∃ (f72 : Fp), iterO (fun zz_ => z_search_state_settle_l0 st_ st_2 st_3 st_9 st_12 v_ d zz_.1 zz_.2.1 zz_.2.2.1 zz_.2.2.2.1 zz_.2.2.2.2.1 zz_.2.2.2.2.2) n (st0, st1, st2, st3, st4, i5) = some o43 ∧ Has α [(0, .pointer (some ⟨b_st, 0, none⟩)), (1, .int .i64 v_), (2, .int .u64 d), (8, .int .i64 i5)] ∧ FrS ([b_st_4] ++ ([b_st_7] ++ (fp_st_11 ++ (fp_st_5 ++ (fp_st_6 ++ fp_st_8))))) H21 H67 ∧ Ow enc_u64_u32 2 H67 s71 st0 f72 ∧ Ow (encI .i64) 1 H67 hd_st_6 st1 fp_st_6 ∧ Row H67 b_st_4 [s71, hd_st_6] ∧ Ow enc_u64_u32 2 H67 hd_st_8 st2 fp_st_8 ∧ Row H67 b_st_7 [hd_st_8, .int .u32 st_9, .int .i64 st3] ∧ Ow (encI .i64) 1 H67 hd_st_11 st4 fp_st_11 ∧ Inn fp_st_5 H21 f72) n65 ⟨st_5, st_6, st_8, st_10, st_11, (gt st_ v_), (hd_st_5), fp_st_5, hn66, ⟨by kernel_rfl, by kernel_rfl, by kernel_rfl, by kernel_rfl, trivial⟩, (FrS.refl (W := ([b_st_4] ++ ([b_st_7] ++ (fp_st_11 ++ (fp_st_5 ++ (fp_st_6 ++ fp_st_8)))))) e23.wf), u90, u91, u92, u93, u94, u30, Inn.refl'⟩ ?_
   rintro n65 α H67 ⟨st0, st1, st2, st3, st4, i5, s71, f72, hi85, hh84, e68, m70, m74, m76, m78, m80, m82, i83⟩ K95 k95
   obtain ⟨n86, z87, rfl, hz88, hn89⟩ := iter_succ hi85
   obtain ⟨β, rfl⟩ := has_ex hh84
   clear hh84
   replace hz88 : z_search_state_settle_l0 st_ st_2 st_3 st_9 st_12 v_ d st0 st1 st2 st3 st4 i5 = some z87 := hz88
   unfold z_search_state_settle_l0 at hz88
   obtain ⟨a96, n97, c98, rfl⟩ := m70.form
   refine w_seqk fun K99 k99 => ?_
   refine w_seqk fun K100 k100 => ?_
   refine w_reg (by kernel_rfl) ?_
   refine s_qk (.int .i64 i5) (by kernel_rfl) ?_
   refine s_qk (.pointer (some ⟨b_st, 0, none⟩)) (by kernel_rfl) ?_
   refine s_qk (.pointer (some ⟨b_st, 0, none⟩)) (by kernel_rfl) ?_
   refine s_qk (.pointer (some ⟨b_st, 0, none⟩)) (by kernel_rfl) ?_
   refine s_qk (.pointer (some ⟨b_st, 0, none⟩)) (by kernel_rfl) ?_
   have u101 := (u27.frS e68 (Dj.app dj_b_st_4_b_st (Dj.app dj_b_st_7_b_st (Dj.app dj_fp_st_11_b_st (Dj.app dj_fp_st_5_b_st (Dj.app dj_fp_st_6_b_st dj_fp_st_8_b_st))))))
   refine s_ql (hd_st_) (x := aLoad Try.prog 22 (.pointer (some ⟨b_st, 0, none⟩)) H67) (by kernel_rfl) (u101.ld (by kernel_rfl)) ?_
   refine s_qk (.int .i64 v_) (by kernel_rfl) ?_
   obtain ⟨g102, r103⟩ := G_some hz88
   refine s_w ((v_ + 1)) (k := .i64) (x := (v_ + 1)) (by kernel_rfl) (wrap64 (by have := g102; omega)) ?_
   obtain ⟨g104, r105⟩ := G_some r103
   have u106 := (u42.fr e68 (Dj.app dj_b_st_4_fp_st_ (Dj.app dj_b_st_7_fp_st_ (Dj.app dj_fp_st_11_fp_st_ (Dj.app dj_fp_st_5_fp_st_ (Dj.app dj_fp_st_6_fp_st_ dj_fp_st_8_fp_st_))))))
   refine s_ql (elp hd_st_ 1 (v_ + 1).toNat 0) (x := aIndexAddr Try.prog 22 hd_st_ (.int .i64 (v_ + 1))) (by kernel_rfl) (u106.idxb (by kernel_rfl) g104.1 g104.2) ?_
   refine s_ql (.int .i64 (gt st_ (v_ + 1))) (x := aLoad Try.prog 3 (elp hd_st_ 1 (v_ + 1).toNat 0) H67) (by kernel_rfl) (u106.ld g104.1 g104.2 (by kernel_rfl)) ?_
   refine s_qk (.bool (decide (i5 < (gt st_ (v_ + 1))))) (by kernel_rfl) ?_
   refine s_nil ?_
   refine k100 _ _ ?_
   refine w_condp (i5 < (gt st_ (v_ + 1))) (by kernel_rfl) rfl (fun h107 => ?_) (fun h107 => ?_)
   ·have r108 := ite_t h107 r105
    refine w_skip ?_
    refine k99 _ _ ?_
    refine w_seqk fun K109 k109 => ?_
    refine w_block ?_
    refine w_seqk fun K110 k110 => ?_
    refine w_draw [0, 1, 2, 3, 4, 5, 6, 7, 8, 9, 10, 11, 12, 13, 14, 15, 16, 17, 18, 19, 20] (by kernel_rfl) ?_
    refine d_qk (.pointer (some ⟨b_st, 0, none⟩)) (by kernel_rfl) ?_
    refine d_qk (.pointer (some ⟨b_st, 0, none⟩)) (by kernel_rfl) ?_
    refine d_qk (.pointer (some ⟨b_st, 0, none⟩)) (by kernel_rfl) ?_
    refine d_qk (.pointer (some ⟨b_st, 1, none⟩)) (by kernel_rfl) ?_
    refine d_ql (hd_st_2) (x := aLoad Try.prog 22 (.pointer (some ⟨b_st, 1, none⟩)) H67) (by kernel_rfl) (u101.ld (by kernel_rfl)) ?_
    refine d_qk (.int .i64 i5) (by kernel_rfl) ?_
    obtain ⟨g111, r112⟩ := G_some r108
    have u113 := ((h_st_2.fr e23 dj_fp_st_12_fp_st_2).fr e68 (Dj.app dj_b_st_4_fp_st_2 (Dj.app dj_b_st_7_fp_st_2 (Dj.app dj_fp_st_11_fp_st_2 (Dj.app dj_fp_st_5_fp_st_2 (Dj.app dj_fp_st_6_fp_st_2 dj_fp_st_8_fp_st_2))))))
    refine d_ql (elp hd_st_2 1 i5.toNat 0) (x := aIndexAddr Try.prog 22 hd_st_2 (.int .i64 i5)) (by kernel_rfl) (u113.idxb (by kernel_rfl) g111.1 g111.2) ?_
    refine d_ql (.int .i64 (gt st_2 i5)) (x := aLoad Try.prog 3 (elp hd_st_2 1 i5.toNat 0) H67) (by kernel_rfl) (u113.ld g111.1 g111.2 (by kernel_rfl)) ?_
    refine d_qk (.int .u64 d) (by kernel_rfl) ?_
    refine d_qk (.pointer (some ⟨b_st, 0, none⟩)) (by kernel_rfl) ?_
    refine d_qk (.pointer (some ⟨b_st, 0, none⟩)) (by kernel_rfl) ?_
    refine d_qk (.pointer (some ⟨b_st, 0, none⟩)) (by kernel_rfl) ?_
    refine d_qk (.pointer (some ⟨b_st, 2, none⟩)) (by kernel_rfl) ?_
    refine d_ql (hd_st_3) (x := aLoad Try.prog 22 (.pointer (some ⟨b_st, 2, none⟩)) H67) (by kernel_rfl) (u101.ld (by kernel_rfl)) ?_
    refine d_qk (.int .i64 i5) (by kernel_rfl) ?_
    obtain ⟨g114, r115⟩ := G_some r112
    have u116 := ((h_st_3.fr e23 dj_fp_st_12_fp_st_3).fr e68 (Dj.app dj_b_st_4_fp_st_3 (Dj.app dj_b_st_7_fp_st_3 (Dj.app dj_fp_st_11_fp_st_3 (Dj.app dj_fp_st_5_fp_st_3 (Dj.app dj_fp_st_6_fp_st_3 dj_fp_st_8_fp_st_3))))))
    refine d_ql (elp hd_st_3 1 i5.toNat 0) (x := aIndexAddr Try.prog 22 hd_st_3 (.int .i64 i5)) (by kernel_rfl) (u116.idxb (by kernel_rfl) g111.1 g114) ?_
    refine d_ql (.int .i64 (gt st_3 i5)) (x := aLoad Try.prog 3 (elp hd_st_3 1 i5.toNat 0) H67) (by kernel_rfl) (u116.ld g111.1 g114 (by kernel_rfl)) ?_
    obtain ⟨g117, r118⟩ := G_some r115
    refine d_w ((gt st_3 i5)) (k := .u64) (x := (gt st_3 i5)) (by kernel_rfl) (wrapu64 g117) ?_
    obtain ⟨g119, r120⟩ := G_some r118
    refine d_w ((d + (gt st_3 i5))) (k := .u64) (x := (d + (gt st_3 i5))) (by kernel_rfl) (wrapu64 g119) ?_
    refine d_qk (.int .i64 (gt st_2 i5)) (by kernel_rfl) ?_
    refine d_qk (.int .u64 (d + (gt st_3 i5))) (by kernel_rfl) ?_
    refine d_nil ?_
    refine k110 _ _ ?_
    refine w_seqk fun K121 k121 => ?_
    refine w_reg (by kernel_rfl) ?_
    refine s_qk (.pointer (some ⟨b_st, 0, none⟩)) (by kernel_rfl) ?_
    refine s_qk (.pointer (some ⟨b_st, 0, none⟩)) (by kernel_rfl) ?_
    refine s_qk (.pointer (some ⟨b_st, 4, none⟩)) (by kernel_rfl) ?_
    refine s_ql (.pointer (some ⟨b_st_7, 0, none⟩)) (x := aLoad Try.prog 100 (.pointer (some ⟨b_st, 4, none⟩)) H67) (by kernel_rfl) (u101.ld (by kernel_rfl)) ?_
    refine s_qk (.int .i64 (gt st_2 i5)) (by kernel_rfl) ?_
    obtain ⟨y122, hy123, r124⟩ := bind_some r120
    refine s_ck 56 #[.pointer (some ⟨b_st_7, 0, none⟩), .int .i64 (gt st_2 i5)] (by kernel_rfl) (c_stamp_Stamp_Get e68.wf m78.sq m80 hy123) ?_
    rintro _ _ ⟨rfl, rfl⟩
    refine s_qk (.tuple #[.int .u64 y122.1, .bool y122.2]) (by kernel_rfl) ?_
    refine s_qk (.int .u64 y122.1) (by kernel_rfl) ?_
    refine s_qk (.bool y122.2) (by kernel_rfl) ?_
    refine s_qk (.int .u64 y122.1) (by kernel_rfl) ?_
    refine s_qk (.bool y122.2) (by kernel_rfl) ?_
    refine s_nil ?_
    refine k121 _ _ ?_
    refine w_seqk fun K127 k127 => ?_
    obtain ⟨o128, hx129, r130⟩ := bind_some r124
    refine w_mid (fun α H131 => Has α [(0, .pointer (some ⟨b_st, 0, none⟩)), (1, .int .i64 v_), (2, .int .u64 d), (8, .int .i64 i5), (9, .int .i64 (gt st_2 i5)), (10, .int .u64 (d + (gt st_3 i5))), (93, .bool o128)] ∧ H67 = H131) (fun K133 k133 => ?_) (fun α H131 hM => ?_)
    ·refine w_reg (by kernel_rfl) ?_
     refine s_qk (.pointer (some ⟨b_st, 0, none⟩)) (by kernel_rfl) ?_
     refine s_qk (.pointer (some ⟨b_st, 0, none⟩)) (by kernel_rfl) ?_
     refine s_qk (.pointer (some ⟨b_st, 6, none⟩)) (by kernel_rfl) ?_
     refine s_ql (hd_st_12) (x := aLoad Try.prog 101 (.pointer (some ⟨b_st, 6, none⟩)) H67) (by kernel_rfl) (u101.ld (by kernel_rfl)) ?_
     refine s_qk (.int .i64 (gt st_2 i5)) (by kernel_rfl) ?_
     obtain ⟨g135, r136⟩ := G_some hx129
     have u137 := (hm24.fr e68 (Dj.app dj_b_st_4_fp_st_12 (Dj.app dj_b_st_7_fp_st_12 (Dj.app (Dj.symm dj_fp_st_12_fp_st_11) (Dj.app dj_fp_st_5_fp_st_12 (Dj.app dj_fp_st_6_fp_st_12 dj_fp_st_8_fp_st_12))))))
     refine s_ql (elp hd_st_12 1 (gt st_2 i5).toNat 0) (x := aIndexAddr Try.prog 101 hd_st_12 (.int .i64 (gt st_2 i5))) (by kernel_rfl) (u137.sq.idxb (by kernel_rfl) g135.1 g135.2) ?_
     refine s_ql (.bool (gt (st_12.set v_.toNat true) (gt st_2 i5))) (x := aLoad Try.prog 4 (elp hd_st_12 1 (gt st_2 i5).toNat 0) H67) (by kernel_rfl) (u137.sq.ld g135.1 g135.2 (by kernel_rfl)) ?_
     refine s_qk (.bool (!(gt (st_12.set v_.toNat true) (gt st_2 i5)))) (by kernel_rfl) ?_
     refine s_qk (.bool (!(gt (st_12.set v_.toNat true) (gt st_2 i5)))) (by kernel_rfl) ?_
     by_cases h138 : (!(gt (st_12.set v_.toNat true) (gt st_2 i5))) = true
     ·have r139 := ite_t h138 r136
      rw [h138]
      refine s_qk (.bool y122.2) (by kernel_rfl) ?_
      refine s_qk (.bool (!y122.2)) (by kernel_rfl) ?_
      refine s_qk (.bool (!y122.2)) (by kernel_rfl) ?_
      by_cases h140 : (!y122.2) = true
      ·have r141 := ite_t h140 r139
       rw [h140]
       refine s_no (by kernel_rfl) ?_
       refine s_no (by kernel_rfl) ?_
       refine s_no (by kernel_rfl) ?_
       refine s_qk (.bool true) (by kernel_rfl) ?_
       refine s_qk (.bool true) (by kernel_rfl) ?_
       refine s_nil ?_
       obtain rfl := Option.some.inj r141
       exact k133 _ _ ⟨⟨by kernel_rfl, by kernel_rfl, by kernel_rfl, by kernel_rfl, by kernel_rfl, by kernel_rfl, by kernel_rfl, trivial⟩, rfl⟩
      ·have r142 := ite_f h140 r139
       rw [nb h140]
       refine s_qk (.int .u64 (d + (gt st_3 i5))) (by kernel_rfl) ?_
       refine s_qk (.int .u64 y122.1) (by kernel_rfl) ?_
       refine s_qk (.bool (decide ((d + (gt st_3 i5)) < y122.1))) (by kernel_rfl) ?_
       refine s_qk (.bool (decide ((d + (gt st_3 i5)) < y122.1))) (by kernel_rfl) ?_
       refine s_qk (.bool (decide ((d + (gt st_3 i5)) < y122.1))) (by kernel_rfl) ?_
       refine s_nil ?_
       obtain rfl := Option.some.inj r142
       exact k133 _ _ ⟨⟨by kernel_rfl, by kernel_rfl, by kernel_rfl, by kernel_rfl, by kernel_rfl, by kernel_rfl, by kernel_rfl, trivial⟩, rfl⟩
     ·have r143 := ite_f h138 r136
      rw [nb h138]
      refine s_no (by kernel_rfl) ?_
      refine s_no (by kernel_rfl) ?_
      refine s_no (by kernel_rfl) ?_
      refine s_no (by kernel_rfl) ?_
      refine s_no (by kernel_rfl) ?_
      refine s_no (by kernel_rfl) ?_
      refine s_no (by kernel_rfl) ?_
      refine s_qk (.bool false) (by kernel_rfl) ?_
      refine s_nil ?_
      obtain rfl := Option.some.inj r143
      exact k133 _ _ ⟨⟨by kernel_rfl, by kernel_rfl, by kernel_rfl, by kernel_rfl, by kernel_rfl, by kernel_rfl, by kernel_rfl, trivial⟩, rfl⟩
    ·obtain ⟨hh134, rfl⟩ := hM
     obtain ⟨β, rfl⟩ := has_ex hh134
     clear hh134
     refine k127 _ _ ?_
     refine w_cond (o128) (by kernel_rfl) rfl (fun h144 => ?_) (fun h144 => ?_)
     ·have r145 := ite_t h144 r130
      refine w_reg (by kernel_rfl) ?_
      refine s_qk (.pointer (some ⟨b_st, 0, none⟩)) (by kernel_rfl) ?_
      refine s_qk (.int .i64 (gt st_2 i5)) (by kernel_rfl) ?_
      refine s_qk (.int .u64 (d + (gt st_3 i5))) (by kernel_rfl) ?_
      refine s_qk (.pointer (some ⟨b_st, 0, none⟩)) (by kernel_rfl) ?_
      refine s_qk (.pointer (some ⟨b_st, 0, none⟩)) (by kernel_rfl) ?_
      refine s_qk (.pointer (some ⟨b_st, 5, none⟩)) (by kernel_rfl) ?_
      refine s_ql (hd_st_11) (x := aLoad Try.prog 22 (.pointer (some ⟨b_st, 5, none⟩)) H67) (by kernel_rfl) (u101.ld (by kernel_rfl)) ?_
      refine s_qk (.int .i64 v_) (by kernel_rfl) ?_
      obtain ⟨g146, r147⟩ := G_some r145
      refine s_ql (elp hd_st_11 1 v_.toNat 0) (x := aIndexAddr Try.prog 22 hd_st_11 (.int .i64 v_)) (by kernel_rfl) (m82.sq.idxb (by kernel_rfl) g19.1 g146) ?_
      refine s_ql (.int .i64 (gt st4 v_)) (x := aLoad Try.prog 3 (elp hd_st_11 1 v_.toNat 0) H67) (by kernel_rfl) (m82.sq.ld g19.1 g146 (by kernel_rfl)) ?_
      obtain ⟨g148, r149⟩ := G_some r147
      refine s_w (((gt st4 v_) + 1)) (k := .i64) (x := ((gt st4 v_) + 1)) (by kernel_rfl) (wrap64 g148) ?_
      have u150 := (hm24.fr e68 (Dj.app dj_b_st_4_fp_st_12 (Dj.app dj_b_st_7_fp_st_12 (Dj.app (Dj.symm dj_fp_st_12_fp_st_11) (Dj.app dj_fp_st_5_fp_st_12 (Dj.app dj_fp_st_6_fp_st_12 dj_fp_st_8_fp_st_12))))))
      obtain ⟨y151, hy152, r153⟩ := bind_some r149
      refine s_ck 73 #[.pointer (some ⟨b_st, 0, none⟩), .int .i64 (gt st_2 i5), .int .u64 (d + (gt st_3 i5)), .int .i64 ((gt st4 v_) + 1)] (by kernel_rfl) (c_search_state_label e68.wf u106 u113 u116 m70 m74 m76 m78 m80 m82 u150.sq u101 dj_b_st_7_fp_st_8 dj_fp_st_8_b_st dj_b_st_7_b_st dj_fp_st_8_fp_st_11 dj_b_st_7_fp_st_11 dj_fp_st_11_b_st (Dj.symm (i83.dj dj_fp_st_5_fp_st_8 (h_st_8.lt.le e23.next))) (Dj.symm (i83.dj dj_fp_st_5_b_st_7 (h_st_7.ltF.le e23.next))) (Dj.symm (i83.dj dj_fp_st_5_fp_st_11 (h_st_11.lt.le e23.next))) dj_fp_st_8_fp_st_6 dj_b_st_7_fp_st_6 dj_fp_st_11_fp_st_6 dj_fp_st_8_b_st_4 dj_b_st_7_b_st_4 dj_fp_st_11_b_st_4 (i83.dj dj_fp_st_5_b_st_4 (h_st_4.ltF.le e23.next)) (i83.dj dj_fp_st_5_fp_st_6 (h_st_6.lt.le e23.next)) dj_b_st_4_fp_st_6 hy152) ?_
      rintro _ H156 ⟨s154, f155, rfl, e157, m158, m159, m160, m161, m162, m163, i164⟩
      obtain ⟨a166, n167, c168, rfl⟩ := m159.form
      refine s_nil ?_
      refine k109 _ _ ?_
      refine w_reg (by kernel_rfl) ?_
      refine s_qk (.int .i64 i5) (by kernel_rfl) ?_
      obtain ⟨g169, r170⟩ := G_some r153
      refine s_w ((i5 + 1)) (k := .i64) (x := (i5 + 1)) (by kernel_rfl) (wrap64 (by have := g169; omega)) ?_
      refine s_qk (.int .i64 (i5 + 1)) (by kernel_rfl) ?_
      refine s_nil ?_
      obtain rfl := Option.some.inj r170
      exact k95 n86 _ _ (Nat.lt_succ_self _) ⟨y151.2.1, y151.1, y151.2.2.1, y151.2.2.2.1, y151.2.2.2.2, (i5 + 1), (.slice a166 n167 c168), f155, hn89, ⟨by kernel_rfl, by kernel_rfl, by kernel_rfl, by kernel_rfl, trivial⟩, (FrS.step e23.wf (FrS.step e23.wf (FrS.refl (W := ([b_st_4] ++ ([b_st_7] ++ (fp_st_11 ++ (fp_st_5 ++ (fp_st_6 ++ fp_st_8)))))) e23.wf) e68 (Inn.app Inn.left (Inn.app (Inn.right Inn.left) (Inn.app (Inn.right (Inn.right Inn.left)) (Inn.app (Inn.right (Inn.right (Inn.right Inn.left))) (Inn.app (Inn.right (Inn.right (Inn.right (Inn.right Inn.left)))) (Inn.right (Inn.right (Inn.right (Inn.right (Inn.right Inn.refl'))))))))))) e157 (Inn.app Inn.left (Inn.app (Inn.right Inn.left) (Inn.app (Inn.right (Inn.right Inn.left)) (Inn.app (Inn.trans (Inn.right (Inn.right (Inn.right Inn.left))) (Nat.le_refl _) i83) (Inn.app (Inn.right (Inn.right (Inn.right (Inn.right Inn.left)))) (Inn.right (Inn.right (Inn.right (Inn.right (Inn.right Inn.refl'))))))))))), m159, m158, m160, m161, m162, m163, (Inn.trans (Inn.trans Inn.refl' (Nat.le_refl _) i83) e68.next i164)⟩
     ·have r171 := ite_bf h144 r130
      refine w_skip ?_
      refine k109 _ _ ?_
      refine w_reg (by kernel_rfl) ?_
      refine s_qk (.int .i64 i5) (by kernel_rfl) ?_
      obtain ⟨g172, r173⟩ := G_some r171
      refine s_w ((i5 + 1)) (k := .i64) (x := (i5 + 1)) (by kernel_rfl) (wrap64 (by have := g172; omega)) ?_
      refine s_qk (.int .i64 (i5 + 1)) (by kernel_rfl) ?_
      refine s_nil ?_
      obtain rfl := Option.some.inj r173
      exact k95 n86 _ _ (Nat.lt_succ_self _) ⟨st0, st1, st2, st3, st4, (i5 + 1), (.slice a96 n97 c98), f72, hn89, ⟨by kernel_rfl, by kernel_rfl, by kernel_rfl, by kernel_rfl, trivial⟩, (FrS.step e23.wf (FrS.refl (W := ([b_st_4] ++ ([b_st_7] ++ (fp_st_11 ++ (fp_st_5 ++ (fp_st_6 ++ fp_st_8)))))) e23.wf) e68 (Inn.app Inn.left (Inn.app (Inn.right Inn.left) (Inn.app (Inn.right (Inn.right Inn.left)) (Inn.app (Inn.right (Inn.right (Inn.right Inn.left))) (Inn.app (Inn.right (Inn.right (Inn.right (Inn.right Inn.left)))) (Inn.right (Inn.right (Inn.right (Inn.right (Inn.right Inn.refl'))))))))))), m70, m74, m76, m78, m80, m82, (Inn.trans Inn.refl' (Nat.le_refl _) i83)⟩
   ·have r174 := ite_f h107 r105
    refine w_exit (th_exit (th_exit (bl_eq ?_)))
    obtain rfl := Option.some.inj r174
    obtain rfl := it_inr hn89
    exact k63 _ _ ⟨(.slice a96 n97 c98), f72, trivial, (FrS.step e23.wf (FrS.refl (W := ([b_st_4] ++ ([b_st_7] ++ (fp_st_11 ++ (fp_st_5 ++ (fp_st_6 ++ fp_st_8)))))) e23.wf) e68 (Inn.app Inn.left (Inn.app (Inn.right Inn.left) (Inn.app (Inn.right (Inn.right Inn.left)) (Inn.app (Inn.right (Inn.right (Inn.right Inn.left))) (Inn.app (Inn.right (Inn.right (Inn.right (Inn.right Inn.left)))) (Inn.right (Inn.right (Inn.right (Inn.right (Inn.right Inn.refl'))))))))))), m74, m70, m76, m78, m80, m82, (Inn.trans Inn.refl' (Nat.le_refl _) i83)⟩
  ·obtain ⟨s52, f53, hh64, e47, m49, m51, m55, m57, m59, m61, i62⟩ := hM
   obtain ⟨β, rfl⟩ := has_ex hh64
   clear hh64
   obtain ⟨a175, n176, c177, rfl⟩ := m51.form
   refine b_nrm (fn := Try.f76) (vs := []) (rfl) ?_
   have u178 := (hm24.fr e47 (Dj.app dj_b_st_4_fp_st_12 (Dj.app dj_b_st_7_fp_st_12 (Dj.app (Dj.symm dj_fp_st_12_fp_st_11) (Dj.app dj_fp_st_5_fp_st_12 (Dj.app dj_fp_st_6_fp_st_12 dj_fp_st_8_fp_st_12))))))
   obtain rfl := Option.some.inj r45
   exact ⟨(.slice a175 n176 c177), f53, rfl, (FrS.step wf (FrS.step wf (FrS.refl (W := ([b_st_4] ++ ([b_st_7] ++ (fp_st_11 ++ (fp_st_12 ++ (fp_st_5 ++ (fp_st_6 ++ fp_st_8))))))) wf) e23 (Inn.right (Inn.right (Inn.right Inn.left)))) e47 (Inn.app Inn.left (Inn.app (Inn.right Inn.left) (Inn.app (Inn.right (Inn.right Inn.left)) (Inn.app (Inn.right (Inn.right (Inn.right (Inn.right Inn.left)))) (Inn.app (Inn.right (Inn.right (Inn.right (Inn.right (Inn.right Inn.left))))) (Inn.right (Inn.right (Inn.right (Inn.right (Inn.right (Inn.right Inn.refl')))))))))))), m49, m51, m55, m57, m59, m61, u178, (Inn.trans Inn.refl' e23.next i62)⟩

theorem c_search_run {H : AH} {hd_First : Value} {fp_First : Fp} {hd_To : Value} {fp_To : Fp} {hd_Weight : Value} {fp_Weight : Fp} {First : List (Int)} {To : List (Int)} {Weight : List (Int)} {s : Int} {hops : Int} {settles : Int} {most : Int} {r : List (Int × Int) × List (Int) × List (Int × Int) × Int × Int × List (Int) × List (Bool)}
  (wf : WF H) (h_First : Sq (encI .i64) 1 H hd_First First fp_First) (h_To : Sq (encI .i64) 1 H hd_To To fp_To) (h_Weight : Sq (encI .i64) 1 H hd_Weight Weight fp_Weight) (hr : z_search_run First To Weight s hops settles most = some r) :
  ACalls Try.prog 50 #[.agg #[hd_First, hd_To, hd_Weight], .int .i64 s, .agg #[.int .i64 hops, .int .i64 settles, .int .u64 most]] H fun v H' => ∃ (s3 : Value) (f4 : Fp) (s7 : Value) (f8 : Fp) (b11 : Nat) (s14 : Value) (f15 : Fp) (b18 : Nat) (s21 : Value) (f22 : Fp) (s25 : Value) (f26 : Fp) (b29 : Nat), v = .pointer (some ⟨b29, 0, none⟩) ∧ FrS [] H H' ∧ Ow enc_u64_u32 2 H' s3 r.1 f4 ∧ Ow (encI .i64) 1 H' s7 r.2.1 f8 ∧ Row H' b11 [s3, s7] ∧ Ow enc_u64_u32 2 H' s14 r.2.2.1 f15 ∧ Row H' b18 [s14, .int .u32 r.2.2.2.1, .int .i64 r.2.2.2.2.1] ∧ Ow (encI .i64) 1 H' s21 r.2.2.2.2.2.1 f22 ∧ Ow encB 1 H' s25 r.2.2.2.2.2.2 f26 ∧ Row H' b29 [hd_First, hd_To, hd_Weight, .pointer (some ⟨b11, 0, none⟩), .pointer (some ⟨b18, 0, none⟩), s21, s25] ∧ Inn [] H f4 ∧ Inn [] H f8 ∧ Inn [] H [b11] ∧ Inn [] H f15 ∧ Inn [] H [b18] ∧ Inn [] H f22 ∧ Inn [] H f26 ∧ Inn [] H [b29] ∧ Dj f4 f8 ∧ Dj f4 [b11] ∧ Dj f8 [b11] ∧ Dj f4 f15 ∧ Dj f8 f15 ∧ Dj [b11] f15 ∧ Dj f4 [b18] ∧ Dj f8 [b18] ∧ Dj [b11] [b18] ∧ Dj f15 [b18] ∧ Dj f4 f22 ∧ Dj f8 f22 ∧ Dj [b11] f22 ∧ Dj f15 f22 ∧ Dj [b18] f22 ∧ Dj f4 f26 ∧ Dj f8 f26 ∧ Dj [b11] f26 ∧ Dj f15 f26 ∧ Dj [b18] f26 ∧ Dj f22 f26 ∧ Dj f4 [b29] ∧ Dj f8 [b29] ∧ Dj [b11] [b29] ∧ Dj f15 [b29] ∧ Dj [b18] [b29] ∧ Dj f22 [b29] ∧ Dj f26 [b29] := by
 refine acalls_of_body mixed Try.func50 rfl (Nat.le_of_ble_eq_true rfl) ?_
 unfold z_search_run at hr
 refine w_seqk fun K66 k66 => ?_
 refine w_reg (by kernel_rfl) ?_
 refine s_rwl wf [hd_First, hd_To, hd_Weight] (one_cons (h_First.one1) (one_cons (h_To.one1) (one_cons (h_Weight.one1) (one_nil)))) (by kernel_rfl) fun b67 H68 e69 hb70 r71 => ?_
 refine s_rwl e69.wf [.int .i64 hops, .int .i64 settles, .int .u64 most] (one_cons (rfl) (one_cons (rfl) (one_cons (rfl) (one_nil)))) (by kernel_rfl) fun b73 H74 e75 hb76 r77 => ?_
 refine s_qk (.pointer none) (by kernel_rfl) ?_
 refine s_nil ?_
 refine k66 _ _ ?_
 refine w_seqk fun K79 k79 => ?_
 refine w_reg (by kernel_rfl) ?_
 have u80 := (r71.ext e75)
 refine s_ql (.agg #[hd_First, hd_To, hd_Weight]) (x := aLoad Try.prog 34 (.pointer (some ⟨b67, 0, none⟩)) H74) (by kernel_rfl) (u80.ld (by kernel_rfl)) ?_
 have u81 := ((h_First.ext e69).ext e75)
 have u82 := ((h_To.ext e69).ext e75)
 have u83 := ((h_Weight.ext e69).ext e75)
 obtain ⟨y84, hy85, r86⟩ := bind_some hr
 refine s_ck 53 #[.agg #[hd_First, hd_To, hd_Weight]] (by kernel_rfl) (c_search_nodes e75.wf u81 u82 u83 hy85) ?_
 rintro _ H87 ⟨rfl, e88⟩
 refine s_qk (.int .i64 y84) (by kernel_rfl) ?_
 refine s_nil ?_
 refine k79 _ _ ?_
 refine w_seqk fun K89 k89 => ?_
 refine w_draw [0, 1, 2, 3, 4, 5, 6, 7] (by kernel_rfl) ?_
 have u90 := (u80.frS e88 Dj.nil_l)
 refine d_ql (.agg #[hd_First, hd_To, hd_Weight]) (x := aLoad Try.prog 34 (.pointer (some ⟨b67, 0, none⟩)) H87) (by kernel_rfl) (u90.ld (by kernel_rfl)) ?_
 refine d_qk (.int .i64 y84) (by kernel_rfl) ?_
 obtain ⟨g91, r92⟩ := G_some r86
 refine d_mks (t := 22) (m := 8) (l := y84) (c := y84) (enc := (encI .i64)) (sz := 1) e88.wf (0 : Int) (by kernel_rfl) (by decide) g91.1 (Int.le_refl _) (by omega) (by have := g91; omega) (by kernel_rfl) fun s93 f94 H95 e96 hf97 hm98 => ?_
 obtain ⟨a99, n100, c101, rfl⟩ := hm98.form
 have hm98 : Ow (encI .i64) 1 H95 (.slice a99 n100 c101) (List.replicate y84.toNat (0 : Int)) f94 := hm98
 refine d_qk (.int .i64 y84) (by kernel_rfl) ?_
 obtain ⟨g103, r104⟩ := G_some r92
 refine d_mks (t := 101) (m := 1) (l := y84) (c := y84) (enc := encB) (sz := 1) e96.wf (false : Bool) (by kernel_rfl) (by decide) g103.1 (Int.le_refl _) (by omega) (by have := g103; omega) (by kernel_rfl) fun s105 f106 H107 e108 hf109 hm110 => ?_
 obtain ⟨a111, n112, c113, rfl⟩ := hm110.form
 have hm110 : Ow encB 1 H107 (.slice a111 n112 c113) (List.replicate y84.toNat (false : Bool)) f106 := hm110
 refine d_qk (.agg #[hd_First, hd_To, hd_Weight, .pointer none, .pointer none, .slice a99 n100 c101, .slice a111 n112 c113]) (by kernel_rfl) ?_
 have u120 := (hm98.ext e108)
 have u121 := (((u83.fr e88 Dj.nil_l).ext e96).ext e108)
 have u122 := (((u82.fr e88 Dj.nil_l).ext e96).ext e108)
 have u123 := (((u81.fr e88 Dj.nil_l).ext e96).ext e108)
 refine d_rwl e108.wf [hd_First, hd_To, hd_Weight, .pointer none, .pointer none, .slice a99 n100 c101, .slice a111 n112 c113] (one_cons (u123.one1) (one_cons (u122.one1) (one_cons (u121.one1) (one_cons (rfl) (one_cons (rfl) (one_cons (u120.one1) (one_cons (hm110.one1) (one_nil)))))))) (by kernel_rfl) fun b115 H116 e117 hb118 r119 => ?_
 refine d_qk (.pointer (some ⟨b115, 0, none⟩)) (by kernel_rfl) ?_
 refine d_nil ?_
 refine k89 _ _ ?_
 refine w_seqk fun K125 k125 => ?_
 refine w_reg (by kernel_rfl) ?_
 refine s_qk (.pointer (some ⟨b115, 0, none⟩)) (by kernel_rfl) ?_
 refine s_qk (.int .i64 y84) (by kernel_rfl) ?_
 obtain ⟨y126, hy127, r128⟩ := bind_some r104
 rcases y126 with y129 | y130
 ·exact (no_none (elim_l r128)).elim
 ·have r131 := elim_r r128
  refine s_ck 71 #[.int .i64 y84] (by kernel_rfl) (c_heap_New e117.wf hy127) ?_
  rintro _ H135 ⟨s132, f133, b134, rfl, e136, m137, m138, i139, i140, d141⟩
  obtain ⟨a144, n145, c146, rfl⟩ := m137.form
  refine s_qk (.tuple #[.pointer (some ⟨b134, 0, none⟩), .nilIface]) (by kernel_rfl) ?_
  refine s_qk (.pointer (some ⟨b134, 0, none⟩)) (by kernel_rfl) ?_
  refine s_qk (.nilIface) (by kernel_rfl) ?_
  refine s_qk (.pointer (some ⟨b115, 0, none⟩)) (by kernel_rfl) ?_
  refine s_qk (.pointer (some ⟨b115, 3, none⟩)) (by kernel_rfl) ?_
  have u151 := (r119.frS e136 Dj.nil_l)
  obtain ⟨H147, q148, e149, r150⟩ := Row.store (P := Try.prog) (t := 99) (p := 3) e136.wf u151 (.pointer (some ⟨b134, 0, none⟩)) [.pointer (some ⟨b134, 0, none⟩)] (by kernel_rfl) (by kernel_rfl) (one_cons (rfl) (one_nil)) (Nat.le_of_ble_eq_true (by kernel_rfl)) [hd_First, hd_To, hd_Weight, .pointer (some ⟨b134, 0, none⟩), .pointer none, .slice a99 n100 c101, .slice a111 n112 c113] (by kernel_rfl)
  refine s_ek (undef) (by kernel_rfl) (map_ok q148) ?_
  refine s_nil ?_
  refine k125 _ _ ?_
  refine w_seqk fun K152 k152 => ?_
  refine w_reg (by kernel_rfl) ?_
  refine s_qk (.pointer (some ⟨b115, 0, none⟩)) (by kernel_rfl) ?_
  refine s_qk (.int .i64 y84) (by kernel_rfl) ?_
  obtain ⟨y153, hy154, r155⟩ := bind_some r131
  rcases y153 with y156 | y157
  ·exact (no_none (elim_l r155)).elim
  ·have r158 := elim_r r155
   refine s_ck 72 #[.int .i64 y84, .int .u32 1] (by kernel_rfl) (c_stamp_New e149.wf hy154) ?_
   rintro _ H162 ⟨s159, f160, b161, rfl, e163, m164, m165, i166, i167, d168⟩
   obtain ⟨a171, n172, c173, rfl⟩ := m164.form
   refine s_qk (.tuple #[.pointer (some ⟨b161, 0, none⟩), .nilIface]) (by kernel_rfl) ?_
   refine s_qk (.pointer (some ⟨b161, 0, none⟩)) (by kernel_rfl) ?_
   refine s_qk (.nilIface) (by kernel_rfl) ?_
   refine s_qk (.pointer (some ⟨b115, 0, none⟩)) (by kernel_rfl) ?_
   refine s_qk (.pointer (some ⟨b115, 4, none⟩)) (by kernel_rfl) ?_
   have u178 := (r150.frS e163 Dj.nil_l)
   obtain ⟨H174, q175, e176, r177⟩ := Row.store (P := Try.prog) (t := 100) (p := 4) e163.wf u178 (.pointer (some ⟨b161, 0, none⟩)) [.pointer (some ⟨b161, 0, none⟩)] (by kernel_rfl) (by kernel_rfl) (one_cons (rfl) (one_nil)) (Nat.le_of_ble_eq_true (by kernel_rfl)) [hd_First, hd_To, hd_Weight, .pointer (some ⟨b134, 0, none⟩), .pointer (some ⟨b161, 0, none⟩), .slice a99 n100 c101, .slice a111 n112 c113] (by kernel_rfl)
   refine s_ek (undef) (by kernel_rfl) (map_ok q175) ?_
   refine s_nil ?_
   refine k152 _ _ ?_
   refine w_seqk fun K179 k179 => ?_
   refine w_reg (by kernel_rfl) ?_
   refine s_qk (.pointer (some ⟨b115, 0, none⟩)) (by kernel_rfl) ?_
   refine s_qk (.int .i64 s) (by kernel_rfl) ?_
   have u180 := (((((u123.ext e117).fr e136 Dj.nil_l).fr e149 (hb118.djn (h_First.lt.le (ntr (ntr (ntr (ntr e69.next e75.next) e88.next) e96.next) e108.next)))).fr e163 Dj.nil_l).fr e176 (hb118.djn (h_First.lt.le (ntr (ntr (ntr (ntr e69.next e75.next) e88.next) e96.next) e108.next))))
   have u181 := (((((u122.ext e117).fr e136 Dj.nil_l).fr e149 (hb118.djn (h_To.lt.le (ntr (ntr (ntr (ntr e69.next e75.next) e88.next) e96.next) e108.next)))).fr e163 Dj.nil_l).fr e176 (hb118.djn (h_To.lt.le (ntr (ntr (ntr (ntr e69.next e75.next) e88.next) e96.next) e108.next))))
   have u182 := (((((u121.ext e117).fr e136 Dj.nil_l).fr e149 (hb118.djn (h_Weight.lt.le (ntr (ntr (ntr (ntr e69.next e75.next) e88.next) e96.next) e108.next)))).fr e163 Dj.nil_l).fr e176 (hb118.djn (h_Weight.lt.le (ntr (ntr (ntr (ntr e69.next e75.next) e88.next) e96.next) e108.next))))
   have u183 := (((m137.fr e149 (Dj.symm (i139.djn r119.ltF))).fr e163 Dj.nil_l).fr e176 (Dj.symm (i139.djn r119.ltF)))
   have u184 := (((m138.frS e149 (Dj.symm (i140.djn r119.ltF))).frS e163 Dj.nil_l).frS e176 (Dj.symm (i140.djn r119.ltF)))
   have u185 := (m164.fr e176 (Dj.symm (i166.djn (r119.ltF.le (ntr e136.next e149.next)))))
   have u186 := (m165.frS e176 (Dj.symm (i167.djn (r119.ltF.le (ntr e136.next e149.next)))))
   have u187 := (((((u120.ext e117).fr e136 Dj.nil_l).fr e149 (hb118.djn (hm98.lt.le e108.next))).fr e163 Dj.nil_l).fr e176 (hb118.djn (hm98.lt.le e108.next)))
   have u188 := (((((hm110.ext e117).fr e136 Dj.nil_l).fr e149 (hb118.djn hm110.lt)).fr e163 Dj.nil_l).fr e176 (hb118.djn hm110.lt))
   obtain ⟨y189, hy190, r191⟩ := bind_some r158
   refine s_ck 73 #[.pointer (some ⟨b115, 0, none⟩), .int .i64 s, .int .u64 0, .int .i64 0] (by kernel_rfl) (c_search_state_label e176.wf u180 u181 u182 (Ow.nil (enc := enc_u64_u32) (sz := 2) (by decide)) u183 u184 u185 u186 u187 u188.sq r177 (Dj.symm d168) (i166.djn (r119.ltF.le (ntr e136.next e149.next))) (i167.djn (r119.ltF.le (ntr e136.next e149.next))) (i166.djn (hm98.lt.le (ntr (ntr (ntr e108.next e117.next) e136.next) e149.next))) (i167.djn (hm98.lt.le (ntr (ntr (ntr e108.next e117.next) e136.next) e149.next))) (Dj.symm (hb118.djn (hm98.lt.le e108.next))) Dj.nil_r Dj.nil_r Dj.nil_r (i166.djn (m137.lt.le e149.next)) (i167.djn (m137.lt.le e149.next)) (Dj.symm (i139.djn (hm98.lt.le (ntr e108.next e117.next)))) (i166.djn (m138.ltF.le e149.next)) (i167.djn (m138.ltF.le e149.next)) (Dj.symm (i140.djn (hm98.lt.le (ntr e108.next e117.next)))) Dj.nil_l Dj.nil_l (Dj.symm d141) hy190) ?_
   rintro _ H194 ⟨s192, f193, rfl, e195, m196, m197, m198, m199, m200, m201, i202⟩
   obtain ⟨a204, n205, c206, rfl⟩ := m197.form
   refine s_nil ?_
   refine k179 _ _ ?_
   refine w_seqk fun K207 k207 => ?_
   refine w_seqk fun K208 k208 => ?_
   refine w_reg (by kernel_rfl) ?_
   refine s_qk (.int .i64 0) (by kernel_rfl) ?_
   refine s_nil ?_
   refine k208 _ _ ?_
   obtain ⟨o209, hx210, r211⟩ := bind_some r191
   refine w_mid (fun α H212 => ∃ (s216 : Value) (f217 : Fp), Has α [(8, .pointer (some ⟨b115, 0, none⟩))] ∧ FrS ([b134] ++ ([b161] ++ (f106 ++ (f133 ++ (f160 ++ (f193 ++ f94)))))) H194 H212 ∧ Ow enc_u64_u32 2 H212 s216 o209.1 f217 ∧ Ow (encI .i64) 1 H212 (.slice a144 n145 c146) o209.2.1 f133 ∧ Row H212 b134 [s216, .slice a144 n145 c146] ∧ Ow enc_u64_u32 2 H212 (.slice a171 n172 c173) o209.2.2.1 f160 ∧ Row H212 b161 [.slice a171 n172 c173, .int .u32 y157.2, .int .i64 o209.2.2.2.1] ∧ Ow (encI .i64) 1 H212 (.slice a99 n100 c101) o209.2.2.2.2.1 f94 ∧ Ow encB 1 H212 (.slice a111 n112 c113) o209.2.2.2.2.2 f106 ∧ Inn f193 H194 f217) (fun K231 k231 => ?_) (fun α H212 hM => ?_)
   ·refine w_block ?_
    obtain ⟨n233, hn234⟩ := loopO_iff.1 hx210
    have u260 := (u188.fr e195 (Dj.app (i140.djn (hm110.lt.le e117.next)) (Dj.app (i167.djn (hm110.lt.le (ntr (ntr e117.next e136.next) e149.next))) (Dj.app (Dj.symm (hf109.djn hm98.lt)) (Dj.app Dj.nil_l (Dj.app (i139.djn (hm110.lt.le e117.next)) (i166.djn (hm110.lt.le (ntr (ntr e117.next e136.next) e149.next)))))))))
    refine w_loopn (fun n α H235 => ∃ (st0 : List (Int × Int)), ∃ (st1 : List (Int)), ∃ (st2 : List (Int × Int)), ∃ (st3 : Int), ∃ (st4 : List (Int)), ∃ (st5 : List (Bool)), ∃ (count6 : Int), ∃ (s239 : Value), ∃ (f240 : Fp), iterO (fun zz_ => z_search_run_l0 First To Weight hops settles most y157 zz_.1 zz_.2.1 zz_.2.2.1 zz_.2.2.2.1 zz_.2.2.2.2.1 zz_.2.2.2.2.2.1 zz_.2.2.2.2.2.2) n (st0, st1, st2, st3, st4, st5, count6) = some o209 ∧ Has α [(5, .pointer (some ⟨b73, 0, none⟩)), (8, .pointer (some ⟨b115, 0, none⟩)), (9, .int .i64 count6)] ∧ FrS ([b134] ++ ([b161] ++ (f106 ++ (f133 ++ (f160 ++ (f193 ++ f94)))))) H194 H235 ∧ Ow enc_u64_u32 2 H235 s239 st0 f240 ∧ Ow (encI .i64) 1 H235 (.slice a144 n145 c146) st1 f133 ∧ Row H235 b134 [s239, .slice a144 n145 c146] ∧ Ow enc_u64_u32 2 H235 (.slice a171 n172 c173) st2 f160 ∧ Row H235 b161 [.slice a171 n172 c173, .int .u32 y157.2, .int .i64 st3] ∧ Ow (encI .i64) 1 H235 (.slice a99 n100 c101) st4 f94 ∧ Ow encB 1 H235 (.slice a111 n112 c113) st5 f106 ∧ Inn f193 H194 f240) n233 ⟨y189.2.1, y189.1, y189.2.2.1, y189.2.2.2.1, y189.2.2.2.2, (List.replicate y84.toNat (false : Bool)), 0, (.slice a204 n205 c206), f193, hn234, ⟨by kernel_rfl, by kernel_rfl, by kernel_rfl, trivial⟩, (FrS.refl (W := ([b134] ++ ([b161] ++ (f106 ++ (f133 ++ (f160 ++ (f193 ++ f94))))))) e195.wf), m197, m196, m198, m199, m200, m201, u260, Inn.refl'⟩ ?_
    rintro n233 α H235 ⟨st0, st1, st2, st3, st4, st5, count6, s239, f240, hi255, hh254, e236, m238, m242, m244, m246, m248, m250, m252, i253⟩ K261 k261
    obtain ⟨n256, z257, rfl, hz258, hn259⟩ := iter_succ hi255
    obtain ⟨β, rfl⟩ := has_ex hh254
    clear hh254
    replace hz258 : z_search_run_l0 First To Weight hops settles most y157 st0 st1 st2 st3 st4 st5 count6 = some z257 := hz258
    unfold z_search_run_l0 at hz258
    obtain ⟨a262, n263, c264, rfl⟩ := m238.form
    refine w_seqk fun K265 k265 => ?_
    refine w_seqk fun K266 k266 => ?_
    refine w_reg (by kernel_rfl) ?_
    refine s_qk (.int .i64 count6) (by kernel_rfl) ?_
    refine s_qk (.pointer (some ⟨b73, 1, none⟩)) (by kernel_rfl) ?_
    have u267 := ((((((((((r77.frS e88 Dj.nil_l).ext e96).ext e108).ext e117).frS e136 Dj.nil_l).frS e149 (hb118.djn (r77.ltF.le (ntr (ntr e88.next e96.next) e108.next)))).frS e163 Dj.nil_l).frS e176 (hb118.djn (r77.ltF.le (ntr (ntr e88.next e96.next) e108.next)))).frS e195 (Dj.app (i140.djn (r77.ltF.le (ntr (ntr (ntr e88.next e96.next) e108.next) e117.next))) (Dj.app (i167.djn (r77.ltF.le (ntr (ntr (ntr (ntr (ntr e88.next e96.next) e108.next) e117.next) e136.next) e149.next))) (Dj.app (hf97.djn (r77.ltF.le e88.next)) (Dj.app Dj.nil_l (Dj.app (i139.djn (r77.ltF.le (ntr (ntr (ntr e88.next e96.next) e108.next) e117.next))) (i166.djn (r77.ltF.le (ntr (ntr (ntr (ntr (ntr e88.next e96.next) e108.next) e117.next) e136.next) e149.next))))))))).frS e236 (Dj.app (i140.djn (r77.ltF.le (ntr (ntr (ntr e88.next e96.next) e108.next) e117.next))) (Dj.app (i167.djn (r77.ltF.le (ntr (ntr (ntr (ntr (ntr e88.next e96.next) e108.next) e117.next) e136.next) e149.next))) (Dj.app (hf109.djn (r77.ltF.le (ntr e88.next e96.next))) (Dj.app (i139.djn (r77.ltF.le (ntr (ntr (ntr e88.next e96.next) e108.next) e117.next))) (Dj.app (i166.djn (r77.ltF.le (ntr (ntr (ntr (ntr (ntr e88.next e96.next) e108.next) e117.next) e136.next) e149.next))) (Dj.app (i202.djn (r77.ltF.le (ntr (ntr (ntr (ntr (ntr (ntr (ntr e88.next e96.next) e108.next) e117.next) e136.next) e149.next) e163.next) e176.next))) (hf97.djn (r77.ltF.le e88.next)))))))))
    refine s_ql (.int .i64 settles) (x := aLoad Try.prog 3 (.pointer (some ⟨b73, 1, none⟩)) H235) (by kernel_rfl) (u267.ld (by kernel_rfl)) ?_
    refine s_qk (.bool (decide (count6 < settles))) (by kernel_rfl) ?_
    refine s_nil ?_
    refine k266 _ _ ?_
    refine w_condp (count6 < settles) (by kernel_rfl) rfl (fun h268 => ?_) (fun h268 => ?_)
    ·have r269 := ite_t h268 hz258
     refine w_skip ?_
     refine k265 _ _ ?_
     refine w_seqk fun K270 k270 => ?_
     refine w_block ?_
     refine w_seqk fun K271 k271 => ?_
     refine w_reg (by kernel_rfl) ?_
     refine s_qk (.pointer (some ⟨b115, 0, none⟩)) (by kernel_rfl) ?_
     refine s_qk (.pointer (some ⟨b115, 0, none⟩)) (by kernel_rfl) ?_
     refine s_qk (.pointer (some ⟨b115, 3, none⟩)) (by kernel_rfl) ?_
     have u272 := ((r177.frS e195 (Dj.app (i140.djn r119.ltF) (Dj.app (i167.djn (r119.ltF.le (ntr e136.next e149.next))) (Dj.app (Dj.symm (hb118.djn (hm98.lt.le e108.next))) (Dj.app Dj.nil_l (Dj.app (i139.djn r119.ltF) (i166.djn (r119.ltF.le (ntr e136.next e149.next))))))))).frS e236 (Dj.app (i140.djn r119.ltF) (Dj.app (i167.djn (r119.ltF.le (ntr e136.next e149.next))) (Dj.app (Dj.symm (hb118.djn hm110.lt)) (Dj.app (i139.djn r119.ltF) (Dj.app (i166.djn (r119.ltF.le (ntr e136.next e149.next))) (Dj.app (i202.djn (r119.ltF.le (ntr (ntr (ntr e136.next e149.next) e163.next) e176.next))) (Dj.symm (hb118.djn (hm98.lt.le e108.next))))))))))
     refine s_ql (.pointer (some ⟨b134, 0, none⟩)) (x := aLoad Try.prog 99 (.pointer (some ⟨b115, 3, none⟩)) H235) (by kernel_rfl) (u272.ld (by kernel_rfl)) ?_
     obtain ⟨y273, hy274, r275⟩ := bind_some r269
     refine s_ck 74 #[.pointer (some ⟨b134, 0, none⟩)] (by kernel_rfl) (c_heap_Heap_Top e236.wf m238.sq m242.sq m244 hy274) ?_
     rintro _ _ ⟨rfl, rfl⟩
     refine s_qk (.tuple #[.int .u32 y273.1, .int .u64 y273.2.1, .bool y273.2.2]) (by kernel_rfl) ?_
     refine s_qk (.int .u32 y273.1) (by kernel_rfl) ?_
     refine s_qk (.int .u64 y273.2.1) (by kernel_rfl) ?_
     refine s_qk (.bool y273.2.2) (by kernel_rfl) ?_
     refine s_qk (.int .u32 y273.1) (by kernel_rfl) ?_
     refine s_qk (.int .u64 y273.2.1) (by kernel_rfl) ?_
     refine s_qk (.bool y273.2.2) (by kernel_rfl) ?_
     refine s_nil ?_
     refine k271 _ _ ?_
     refine w_seqk fun K278 k278 => ?_
     refine w_seqk fun K279 k279 => ?_
     obtain ⟨o280, hx281, r282⟩ := bind_some r275
     refine w_mid (fun α H283 => Has α [(5, .pointer (some ⟨b73, 0, none⟩)), (8, .pointer (some ⟨b115, 0, none⟩)), (9, .int .i64 count6), (10, .int .u32 y273.1), (11, .int .u64 y273.2.1), (63, .bool o280)] ∧ H235 = H283) (fun K285 k285 => ?_) (fun α H283 hM => ?_)
     ·refine w_reg (by kernel_rfl) ?_
      refine s_qk (.bool y273.2.2) (by kernel_rfl) ?_
      refine s_qk (.bool (!y273.2.2)) (by kernel_rfl) ?_
      refine s_qk (.bool (!y273.2.2)) (by kernel_rfl) ?_
      by_cases h287 : (!y273.2.2) = true
      ·have r288 := ite_t h287 hx281
       rw [h287]
       refine s_no (by kernel_rfl) ?_
       refine s_no (by kernel_rfl) ?_
       refine s_no (by kernel_rfl) ?_
       refine s_no (by kernel_rfl) ?_
       refine s_qk (.bool true) (by kernel_rfl) ?_
       refine s_nil ?_
       obtain rfl := Option.some.inj r288
       exact k285 _ _ ⟨⟨by kernel_rfl, by kernel_rfl, by kernel_rfl, by kernel_rfl, by kernel_rfl, by kernel_rfl, trivial⟩, rfl⟩
      ·have r289 := ite_f h287 hx281
       rw [nb h287]
       refine s_qk (.int .u64 y273.2.1) (by kernel_rfl) ?_
       refine s_qk (.pointer (some ⟨b73, 2, none⟩)) (by kernel_rfl) ?_
       refine s_ql (.int .u64 most) (x := aLoad Try.prog 29 (.pointer (some ⟨b73, 2, none⟩)) H235) (by kernel_rfl) (u267.ld (by kernel_rfl)) ?_
       refine s_qk (.bool (decide (y273.2.1 > most))) (by kernel_rfl) ?_
       refine s_qk (.bool (decide (y273.2.1 > most))) (by kernel_rfl) ?_
       refine s_nil ?_
       obtain rfl := Option.some.inj r289
       exact k285 _ _ ⟨⟨by kernel_rfl, by kernel_rfl, by kernel_rfl, by kernel_rfl, by kernel_rfl, by kernel_rfl, trivial⟩, rfl⟩
     ·obtain ⟨hh286, rfl⟩ := hM
      obtain ⟨β, rfl⟩ := has_ex hh286
      clear hh286
      refine k279 _ _ ?_
      refine w_cond (o280) (by kernel_rfl) rfl (fun h290 => ?_) (fun h290 => ?_)
      ·have r291 := ite_t h290 r282
       refine w_exit (th_exit (bl_ne (by decide) (th_exit (th_exit (bl_eq ?_)))))
       obtain rfl := Option.some.inj r291
       obtain rfl := it_inr hn259
       exact k231 _ _ ⟨(.slice a262 n263 c264), f240, ⟨by kernel_rfl, trivial⟩, (FrS.step e195.wf (FrS.refl (W := ([b134] ++ ([b161] ++ (f106 ++ (f133 ++ (f160 ++ (f193 ++ f94))))))) e195.wf) e236 (Inn.app Inn.left (Inn.app (Inn.right Inn.left) (Inn.app (Inn.right (Inn.right Inn.left)) (Inn.app (Inn.right (Inn.right (Inn.right Inn.left))) (Inn.app (Inn.right (Inn.right (Inn.right (Inn.right Inn.left)))) (Inn.app (Inn.right (Inn.right (Inn.right (Inn.right (Inn.right Inn.left))))) (Inn.right (Inn.right (Inn.right (Inn.right (Inn.right (Inn.right Inn.refl'))))))))))))), m238, m242, m244, m246, m248, m250, m252, (Inn.trans Inn.refl' (Nat.le_refl _) i253)⟩
      ·have r292 := ite_bf h290 r282
       refine w_skip ?_
       refine k278 _ _ ?_
       refine w_seqk fun K293 k293 => ?_
       refine w_reg (by kernel_rfl) ?_
       refine s_qk (.pointer (some ⟨b115, 0, none⟩)) (by kernel_rfl) ?_
       refine s_qk (.pointer (some ⟨b115, 0, none⟩)) (by kernel_rfl) ?_
       refine s_qk (.pointer (some ⟨b115, 3, none⟩)) (by kernel_rfl) ?_
       refine s_ql (.pointer (some ⟨b134, 0, none⟩)) (x := aLoad Try.prog 99 (.pointer (some ⟨b115, 3, none⟩)) H235) (by kernel_rfl) (u272.ld (by kernel_rfl)) ?_
       obtain ⟨y294, hy295, r296⟩ := bind_some r292
       refine s_ck 75 #[.pointer (some ⟨b134, 0, none⟩)] (by kernel_rfl) (c_heap_Heap_Pop e236.wf m238 m242 m244 (Dj.symm d141) (Dj.symm (i253.dj (i202.djn (m138.ltF.le (ntr (ntr e149.next e163.next) e176.next))) (m138.ltF.le (ntr (ntr (ntr e149.next e163.next) e176.next) e195.next)))) (Dj.symm (i253.dj (i202.djn (m137.lt.le (ntr (ntr e149.next e163.next) e176.next))) (m137.lt.le (ntr (ntr (ntr e149.next e163.next) e176.next) e195.next)))) hy295) ?_
       rintro _ H298 ⟨s297, rfl, e299, m300, m301, m302⟩
       obtain ⟨a304, n305, c306, rfl⟩ := m301.form
       refine s_nil ?_
       refine k293 _ _ ?_
       refine w_reg (by kernel_rfl) ?_
       refine s_qk (.pointer (some ⟨b115, 0, none⟩)) (by kernel_rfl) ?_
       refine s_qk (.int .u32 y273.1) (by kernel_rfl) ?_
       obtain ⟨g307, r308⟩ := G_some r296
       refine s_w (y273.1) (k := .i64) (x := y273.1) (by kernel_rfl) (wrap64 g307) ?_
       refine s_qk (.int .u64 y273.2.1) (by kernel_rfl) ?_
       refine s_qk (.pointer (some ⟨b73, 0, none⟩)) (by kernel_rfl) ?_
       have u309 := (u267.frS e299 (Dj.app (i140.djn (r77.ltF.le (ntr (ntr (ntr e88.next e96.next) e108.next) e117.next))) (Dj.app (i253.dj (i202.djn (r77.ltF.le (ntr (ntr (ntr (ntr (ntr (ntr (ntr e88.next e96.next) e108.next) e117.next) e136.next) e149.next) e163.next) e176.next))) (r77.ltF.le (ntr (ntr (ntr (ntr (ntr (ntr (ntr (ntr e88.next e96.next) e108.next) e117.next) e136.next) e149.next) e163.next) e176.next) e195.next))) (i139.djn (r77.ltF.le (ntr (ntr (ntr e88.next e96.next) e108.next) e117.next))))))
       refine s_ql (.int .i64 hops) (x := aLoad Try.prog 3 (.pointer (some ⟨b73, 0, none⟩)) H298) (by kernel_rfl) (u309.ld (by kernel_rfl)) ?_
       have u310 := (((u180.fr e195 (Dj.app (i140.djn (h_First.lt.le (ntr (ntr (ntr (ntr (ntr e69.next e75.next) e88.next) e96.next) e108.next) e117.next))) (Dj.app (i167.djn (h_First.lt.le (ntr (ntr (ntr (ntr (ntr (ntr (ntr e69.next e75.next) e88.next) e96.next) e108.next) e117.next) e136.next) e149.next))) (Dj.app (hf97.djn (h_First.lt.le (ntr (ntr e69.next e75.next) e88.next))) (Dj.app Dj.nil_l (Dj.app (i139.djn (h_First.lt.le (ntr (ntr (ntr (ntr (ntr e69.next e75.next) e88.next) e96.next) e108.next) e117.next))) (i166.djn (h_First.lt.le (ntr (ntr (ntr (ntr (ntr (ntr (ntr e69.next e75.next) e88.next) e96.next) e108.next) e117.next) e136.next) e149.next))))))))).fr e236 (Dj.app (i140.djn (h_First.lt.le (ntr (ntr (ntr (ntr (ntr e69.next e75.next) e88.next) e96.next) e108.next) e117.next))) (Dj.app (i167.djn (h_First.lt.le (ntr (ntr (ntr (ntr (ntr (ntr (ntr e69.next e75.next) e88.next) e96.next) e108.next) e117.next) e136.next) e149.next))) (Dj.app (hf109.djn (h_First.lt.le (ntr (ntr (ntr e69.next e75.next) e88.next) e96.next))) (Dj.app (i139.djn (h_First.lt.le (ntr (ntr (ntr (ntr (ntr e69.next e75.next) e88.next) e96.next) e108.next) e117.next))) (Dj.app (i166.djn (h_First.lt.le (ntr (ntr (ntr (ntr (ntr (ntr (ntr e69.next e75.next) e88.next) e96.next) e108.next) e117.next) e136.next) e149.next))) (Dj.app (i202.djn (h_First.lt.le (ntr (ntr (ntr (ntr (ntr (ntr (ntr (ntr (ntr e69.next e75.next) e88.next) e96.next) e108.next) e117.next) e136.next) e149.next) e163.next) e176.next))) (hf97.djn (h_First.lt.le (ntr (ntr e69.next e75.next) e88.next)))))))))).fr e299 (Dj.app (i140.djn (h_First.lt.le (ntr (ntr (ntr (ntr (ntr e69.next e75.next) e88.next) e96.next) e108.next) e117.next))) (Dj.app (i253.dj (i202.djn (h_First.lt.le (ntr (ntr (ntr (ntr (ntr (ntr (ntr (ntr (ntr e69.next e75.next) e88.next) e96.next) e108.next) e117.next) e136.next) e149.next) e163.next) e176.next))) (h_First.lt.le (ntr (ntr (ntr (ntr (ntr (ntr (ntr (ntr (ntr (ntr e69.next e75.next) e88.next) e96.next) e108.next) e117.next) e136.next) e149.next) e163.next) e176.next) e195.next))) (i139.djn (h_First.lt.le (ntr (ntr (ntr (ntr (ntr e69.next e75.next) e88.next) e96.next) e108.next) e117.next))))))
       have u311 := (((u181.fr e195 (Dj.app (i140.djn (h_To.lt.le (ntr (ntr (ntr (ntr (ntr e69.next e75.next) e88.next) e96.next) e108.next) e117.next))) (Dj.app (i167.djn (h_To.lt.le (ntr (ntr (ntr (ntr (ntr (ntr (ntr e69.next e75.next) e88.next) e96.next) e108.next) e117.next) e136.next) e149.next))) (Dj.app (hf97.djn (h_To.lt.le (ntr (ntr e69.next e75.next) e88.next))) (Dj.app Dj.nil_l (Dj.app (i139.djn (h_To.lt.le (ntr (ntr (ntr (ntr (ntr e69.next e75.next) e88.next) e96.next) e108.next) e117.next))) (i166.djn (h_To.lt.le (ntr (ntr (ntr (ntr (ntr (ntr (ntr e69.next e75.next) e88.next) e96.next) e108.next) e117.next) e136.next) e149.next))))))))).fr e236 (Dj.app (i140.djn (h_To.lt.le (ntr (ntr (ntr (ntr (ntr e69.next e75.next) e88.next) e96.next) e108.next) e117.next))) (Dj.app (i167.djn (h_To.lt.le (ntr (ntr (ntr (ntr (ntr (ntr (ntr e69.next e75.next) e88.next) e96.next) e108.next) e117.next) e136.next) e149.next))) (Dj.app (hf109.djn (h_To.lt.le (ntr (ntr (ntr e69.next e75.next) e88.next) e96.next))) (Dj.app (i139.djn (h_To.lt.le (ntr (ntr (ntr (ntr (ntr e69.next e75.next) e88.next) e96.next) e108.next) e117.next))) (Dj.app (i166.djn (h_To.lt.le (ntr (ntr (ntr (ntr (ntr (ntr (ntr e69.next e75.next) e88.next) e96.next) e108.next) e117.next) e136.next) e149.next))) (Dj.app (i202.djn (h_To.lt.le (ntr (ntr (ntr (ntr (ntr (ntr (ntr (ntr (ntr e69.next e75.next) e88.next) e96.next) e108.next) e117.next) e136.next) e149.next) e163.next) e176.next))) (hf97.djn (h_To.lt.le (ntr (ntr e69.next e75.next) e88.next)))))))))).fr e299 (Dj.app (i140.djn (h_To.lt.le (ntr (ntr (ntr (ntr (ntr e69.next e75.next) e88.next) e96.next) e108.next) e117.next))) (Dj.app (i253.dj (i202.djn (h_To.lt.le (ntr (ntr (ntr (ntr (ntr (ntr (ntr (ntr (ntr e69.next e75.next) e88.next) e96.next) e108.next) e117.next) e136.next) e149.next) e163.next) e176.next))) (h_To.lt.le (ntr (ntr (ntr (ntr (ntr (ntr (ntr (ntr (ntr (ntr e69.next e75.next) e88.next) e96.next) e108.next) e117.next) e136.next) e149.next) e163.next) e176.next) e195.next))) (i139.djn (h_To.lt.le (ntr (ntr (ntr (ntr (ntr e69.next e75.next) e88.next) e96.next) e108.next) e117.next))))))
       have u312 := (((u182.fr e195 (Dj.app (i140.djn (h_Weight.lt.le (ntr (ntr (ntr (ntr (ntr e69.next e75.next) e88.next) e96.next) e108.next) e117.next))) (Dj.app (i167.djn (h_Weight.lt.le (ntr (ntr (ntr (ntr (ntr (ntr (ntr e69.next e75.next) e88.next) e96.next) e108.next) e117.next) e136.next) e149.next))) (Dj.app (hf97.djn (h_Weight.lt.le (ntr (ntr e69.next e75.next) e88.next))) (Dj.app Dj.nil_l (Dj.app (i139.djn (h_Weight.lt.le (ntr (ntr (ntr (ntr (ntr e69.next e75.next) e88.next) e96.next) e108.next) e117.next))) (i166.djn (h_Weight.lt.le (ntr (ntr (ntr (ntr (ntr (ntr (ntr e69.next e75.next) e88.next) e96.next) e108.next) e117.next) e136.next) e149.next))))))))).fr e236 (Dj.app (i140.djn (h_Weight.lt.le (ntr (ntr (ntr (ntr (ntr e69.next e75.next) e88.next) e96.next) e108.next) e117.next))) (Dj.app (i167.djn (h_Weight.lt.le (ntr (ntr (ntr (ntr (ntr (ntr (ntr e69.next e75.next) e88.next) e96.next) e108.next) e117.next) e136.next) e149.next))) (Dj.app (hf109.djn (h_Weight.lt.le (ntr (ntr (ntr e69.next e75.next) e88.next) e96.next))) (Dj.app (i139.djn (h_Weight.lt.le (ntr (ntr (ntr (ntr (ntr e69.next e75.next) e88.next) e96.next) e108.next) e117.next))) (Dj.app (i166.djn (h_Weight.lt.le (ntr (ntr (ntr (ntr (ntr (ntr (ntr e69.next e75.next) e88.next) e96.next) e108.next) e117.next) e136.next) e149.next))) (Dj.app (i202.djn (h_Weight.lt.le (ntr (ntr (ntr (ntr (ntr (ntr (ntr (ntr (ntr e69.next e75.next) e88.next) e96.next) e108.next) e117.next) e136.next) e149.next) e163.next) e176.next))) (hf97.djn (h_Weight.lt.le (ntr (ntr e69.next e75.next) e88.next)))))))))).fr e299 (Dj.app (i140.djn (h_Weight.lt.le (ntr (ntr (ntr (ntr (ntr e69.next e75.next) e88.next) e96.next) e108.next) e117.next))) (Dj.app (i253.dj (i202.djn (h_Weight.lt.le (ntr (ntr (ntr (ntr (ntr (ntr (ntr (ntr (ntr e69.next e75.next) e88.next) e96.next) e108.next) e117.next) e136.next) e149.next) e163.next) e176.next))) (h_Weight.lt.le (ntr (ntr (ntr (ntr (ntr (ntr (ntr (ntr (ntr (ntr e69.next e75.next) e88.next) e96.next) e108.next) e117.next) e136.next) e149.next) e163.next) e176.next) e195.next))) (i139.djn (h_Weight.lt.le (ntr (ntr (ntr (ntr (ntr e69.next e75.next) e88.next) e96.next) e108.next) e117.next))))))
       have u313 := (m246.fr e299 (Dj.app (Dj.symm (i166.djn (m138.ltF.le e149.next))) (Dj.app (i253.dj (i202.djn (m164.lt.le e176.next)) (m164.lt.le (ntr e176.next e195.next))) (Dj.symm (i166.djn (m137.lt.le e149.next))))))
       have u314 := (m248.frS e299 (Dj.app (Dj.symm (i167.djn (m138.ltF.le e149.next))) (Dj.app (i253.dj (i202.djn (m165.ltF.le e176.next)) (m165.ltF.le (ntr e176.next e195.next))) (Dj.symm (i167.djn (m137.lt.le e149.next))))))
       have u315 := (m250.fr e299 (Dj.app (i140.djn (hm98.lt.le (ntr e108.next e117.next))) (Dj.app (i253.dj (i202.djn (hm98.lt.le (ntr (ntr (ntr (ntr (ntr e108.next e117.next) e136.next) e149.next) e163.next) e176.next))) (hm98.lt.le (ntr (ntr (ntr (ntr (ntr (ntr e108.next e117.next) e136.next) e149.next) e163.next) e176.next) e195.next))) (i139.djn (hm98.lt.le (ntr e108.next e117.next))))))
       have u316 := (m252.fr e299 (Dj.app (i140.djn (hm110.lt.le e117.next)) (Dj.app (i253.dj (i202.djn (hm110.lt.le (ntr (ntr (ntr (ntr e117.next e136.next) e149.next) e163.next) e176.next))) (hm110.lt.le (ntr (ntr (ntr (ntr (ntr e117.next e136.next) e149.next) e163.next) e176.next) e195.next))) (i139.djn (hm110.lt.le e117.next)))))
       have u317 := (u272.frS e299 (Dj.app (i140.djn r119.ltF) (Dj.app (i253.dj (i202.djn (r119.ltF.le (ntr (ntr (ntr e136.next e149.next) e163.next) e176.next))) (r119.ltF.le (ntr (ntr (ntr (ntr e136.next e149.next) e163.next) e176.next) e195.next))) (i139.djn r119.ltF))))
       obtain ⟨y318, hy319, r320⟩ := bind_some r308
       refine s_ck 76 #[.pointer (some ⟨b115, 0, none⟩), .int .i64 y273.1, .int .u64 y273.2.1, .int .i64 hops] (by kernel_rfl) (c_search_state_settle e299.wf u310 u311 u312 m301 m300 m302 u313 u314 u315 u316 u317 (Dj.symm (hb118.djn hm110.lt)) (hf109.djn hm98.lt) (Dj.symm (i139.djn (hm110.lt.le e117.next))) (Dj.symm (i253.dj (i202.djn (hm110.lt.le (ntr (ntr (ntr (ntr e117.next e136.next) e149.next) e163.next) e176.next))) (hm110.lt.le (ntr (ntr (ntr (ntr (ntr e117.next e136.next) e149.next) e163.next) e176.next) e195.next)))) (Dj.symm (i140.djn (hm110.lt.le e117.next))) (Dj.symm (i166.djn (hm110.lt.le (ntr (ntr e117.next e136.next) e149.next)))) (Dj.symm (i167.djn (hm110.lt.le (ntr (ntr e117.next e136.next) e149.next)))) (hf109.djn (h_First.lt.le (ntr (ntr (ntr e69.next e75.next) e88.next) e96.next))) (hf109.djn (h_To.lt.le (ntr (ntr (ntr e69.next e75.next) e88.next) e96.next))) (hf109.djn (h_Weight.lt.le (ntr (ntr (ntr e69.next e75.next) e88.next) e96.next))) (Dj.symm d168) (i166.djn (r119.ltF.le (ntr e136.next e149.next))) (i167.djn (r119.ltF.le (ntr e136.next e149.next))) (i166.djn (hm98.lt.le (ntr (ntr (ntr e108.next e117.next) e136.next) e149.next))) (i167.djn (hm98.lt.le (ntr (ntr (ntr e108.next e117.next) e136.next) e149.next))) (Dj.symm (hb118.djn (hm98.lt.le e108.next))) (Dj.symm (i253.dj (i202.djn (m164.lt.le e176.next)) (m164.lt.le (ntr e176.next e195.next)))) (Dj.symm (i253.dj (i202.djn (m165.ltF.le e176.next)) (m165.ltF.le (ntr e176.next e195.next)))) (Dj.symm (i253.dj (i202.djn (hm98.lt.le (ntr (ntr (ntr (ntr (ntr e108.next e117.next) e136.next) e149.next) e163.next) e176.next))) (hm98.lt.le (ntr (ntr (ntr (ntr (ntr (ntr e108.next e117.next) e136.next) e149.next) e163.next) e176.next) e195.next)))) (i166.djn (m137.lt.le e149.next)) (i167.djn (m137.lt.le e149.next)) (Dj.symm (i139.djn (hm98.lt.le (ntr e108.next e117.next)))) (i166.djn (m138.ltF.le e149.next)) (i167.djn (m138.ltF.le e149.next)) (Dj.symm (i140.djn (hm98.lt.le (ntr e108.next e117.next)))) (i253.dj (i202.djn (m138.ltF.le (ntr (ntr e149.next e163.next) e176.next))) (m138.ltF.le (ntr (ntr (ntr e149.next e163.next) e176.next) e195.next))) (i253.dj (i202.djn (m137.lt.le (ntr (ntr e149.next e163.next) e176.next))) (m137.lt.le (ntr (ntr (ntr e149.next e163.next) e176.next) e195.next))) (Dj.symm d141) (i139.djn r119.ltF) (i253.dj (i202.djn (r119.ltF.le (ntr (ntr (ntr e136.next e149.next) e163.next) e176.next))) (r119.ltF.le (ntr (ntr (ntr (ntr e136.next e149.next) e163.next) e176.next) e195.next))) (i140.djn r119.ltF) (i166.djn (h_First.lt.le (ntr (ntr (ntr (ntr (ntr (ntr (ntr e69.next e75.next) e88.next) e96.next) e108.next) e117.next) e136.next) e149.next))) (i139.djn (h_First.lt.le (ntr (ntr (ntr (ntr (ntr e69.next e75.next) e88.next) e96.next) e108.next) e117.next))) (i253.dj (i202.djn (h_First.lt.le (ntr (ntr (ntr (ntr (ntr (ntr (ntr (ntr (ntr e69.next e75.next) e88.next) e96.next) e108.next) e117.next) e136.next) e149.next) e163.next) e176.next))) (h_First.lt.le (ntr (ntr (ntr (ntr (ntr (ntr (ntr (ntr (ntr (ntr e69.next e75.next) e88.next) e96.next) e108.next) e117.next) e136.next) e149.next) e163.next) e176.next) e195.next))) (hf97.djn (h_First.lt.le (ntr (ntr e69.next e75.next) e88.next))) (i167.djn (h_First.lt.le (ntr (ntr (ntr (ntr (ntr (ntr (ntr e69.next e75.next) e88.next) e96.next) e108.next) e117.next) e136.next) e149.next))) (i140.djn (h_First.lt.le (ntr (ntr (ntr (ntr (ntr e69.next e75.next) e88.next) e96.next) e108.next) e117.next))) (i166.djn (h_To.lt.le (ntr (ntr (ntr (ntr (ntr (ntr (ntr e69.next e75.next) e88.next) e96.next) e108.next) e117.next) e136.next) e149.next))) (i139.djn (h_To.lt.le (ntr (ntr (ntr (ntr (ntr e69.next e75.next) e88.next) e96.next) e108.next) e117.next))) (i253.dj (i202.djn (h_To.lt.le (ntr (ntr (ntr (ntr (ntr (ntr (ntr (ntr (ntr e69.next e75.next) e88.next) e96.next) e108.next) e117.next) e136.next) e149.next) e163.next) e176.next))) (h_To.lt.le (ntr (ntr (ntr (ntr (ntr (ntr (ntr (ntr (ntr (ntr e69.next e75.next) e88.next) e96.next) e108.next) e117.next) e136.next) e149.next) e163.next) e176.next) e195.next))) (hf97.djn (h_To.lt.le (ntr (ntr e69.next e75.next) e88.next))) (i167.djn (h_To.lt.le (ntr (ntr (ntr (ntr (ntr (ntr (ntr e69.next e75.next) e88.next) e96.next) e108.next) e117.next) e136.next) e149.next))) (i140.djn (h_To.lt.le (ntr (ntr (ntr (ntr (ntr e69.next e75.next) e88.next) e96.next) e108.next) e117.next))) (i166.djn (h_Weight.lt.le (ntr (ntr (ntr (ntr (ntr (ntr (ntr e69.next e75.next) e88.next) e96.next) e108.next) e117.next) e136.next) e149.next))) (i139.djn (h_Weight.lt.le (ntr (ntr (ntr (ntr (ntr e69.next e75.next) e88.next) e96.next) e108.next) e117.next))) (i253.dj (i202.djn (h_Weight.lt.le (ntr (ntr (ntr (ntr (ntr (ntr (ntr (ntr (ntr e69.next e75.next) e88.next) e96.next) e108.next) e117.next) e136.next) e149.next) e163.next) e176.next))) (h_Weight.lt.le (ntr (ntr (ntr (ntr (ntr (ntr (ntr (ntr (ntr (ntr e69.next e75.next) e88.next) e96.next) e108.next) e117.next) e136.next) e149.next) e163.next) e176.next) e195.next))) (hf97.djn (h_Weight.lt.le (ntr (ntr e69.next e75.next) e88.next))) (i167.djn (h_Weight.lt.le (ntr (ntr (ntr (ntr (ntr (ntr (ntr e69.next e75.next) e88.next) e96.next) e108.next) e117.next) e136.next) e149.next))) (i140.djn (h_Weight.lt.le (ntr (ntr (ntr (ntr (ntr e69.next e75.next) e88.next) e96.next) e108.next) e117.next))) (i166.djn (hm110.lt.le (ntr (ntr e117.next e136.next) e149.next))) (i139.djn (hm110.lt.le e117.next)) (i253.dj (i202.djn (hm110.lt.le (ntr (ntr (ntr (ntr e117.next e136.next) e149.next) e163.next) e176.next))) (hm110.lt.le (ntr (ntr (ntr (ntr (ntr e117.next e136.next) e149.next) e163.next) e176.next) e195.next))) (i167.djn (hm110.lt.le (ntr (ntr e117.next e136.next) e149.next))) (i140.djn (hm110.lt.le e117.next)) (i253.dj (i202.djn (m164.lt.le e176.next)) (m164.lt.le (ntr e176.next e195.next))) (i253.dj (i202.djn (m165.ltF.le e176.next)) (m165.ltF.le (ntr e176.next e195.next))) (i253.dj (i202.djn (hm98.lt.le (ntr (ntr (ntr (ntr (ntr e108.next e117.next) e136.next) e149.next) e163.next) e176.next))) (hm98.lt.le (ntr (ntr (ntr (ntr (ntr (ntr e108.next e117.next) e136.next) e149.next) e163.next) e176.next) e195.next))) hy319) ?_
       rintro _ H323 ⟨s321, f322, rfl, e324, m325, m326, m327, m328, m329, m330, m331, i332⟩
       obtain ⟨a334, n335, c336, rfl⟩ := m326.form
       refine s_nil ?_
       refine k270 _ _ ?_
       refine w_reg (by kernel_rfl) ?_
       refine s_qk (.int .i64 count6) (by kernel_rfl) ?_
       obtain ⟨g337, r338⟩ := G_some r320
       refine s_w ((count6 + 1)) (k := .i64) (x := (count6 + 1)) (by kernel_rfl) (wrap64 g337) ?_
       refine s_qk (.int .i64 (count6 + 1)) (by kernel_rfl) ?_
       refine s_nil ?_
       obtain rfl := Option.some.inj r338
       exact k261 n256 _ _ (Nat.lt_succ_self _) ⟨y318.2.1, y318.1, y318.2.2.1, y318.2.2.2.1, y318.2.2.2.2.1, y318.2.2.2.2.2, (count6 + 1), (.slice a334 n335 c336), f322, hn259, ⟨by kernel_rfl, by kernel_rfl, by kernel_rfl, trivial⟩, (FrS.step e195.wf (FrS.step e195.wf (FrS.step e195.wf (FrS.refl (W := ([b134] ++ ([b161] ++ (f106 ++ (f133 ++ (f160 ++ (f193 ++ f94))))))) e195.wf) e236 (Inn.app Inn.left (Inn.app (Inn.right Inn.left) (Inn.app (Inn.right (Inn.right Inn.left)) (Inn.app (Inn.right (Inn.right (Inn.right Inn.left))) (Inn.app (Inn.right (Inn.right (Inn.right (Inn.right Inn.left)))) (Inn.app (Inn.right (Inn.right (Inn.right (Inn.right (Inn.right Inn.left))))) (Inn.right (Inn.right (Inn.right (Inn.right (Inn.right (Inn.right Inn.refl'))))))))))))) e299 (Inn.app Inn.left (Inn.app (Inn.trans (Inn.right (Inn.right (Inn.right (Inn.right (Inn.right Inn.left))))) (Nat.le_refl _) i253) (Inn.right (Inn.right (Inn.right Inn.left)))))) e324 (Inn.app Inn.left (Inn.app (Inn.right Inn.left) (Inn.app (Inn.right (Inn.right (Inn.right (Inn.right (Inn.right (Inn.right Inn.refl')))))) (Inn.app (Inn.right (Inn.right Inn.left)) (Inn.app (Inn.trans (Inn.right (Inn.right (Inn.right (Inn.right (Inn.right Inn.left))))) (Nat.le_refl _) i253) (Inn.app (Inn.right (Inn.right (Inn.right Inn.left))) (Inn.right (Inn.right (Inn.right (Inn.right Inn.left))))))))))), m326, m325, m327, m328, m329, m330, m331, (Inn.trans (Inn.trans Inn.refl' (Nat.le_refl _) i253) (ntr e236.next e299.next) i332)⟩
    ·have r339 := ite_f h268 hz258
     refine w_exit (th_exit (th_exit (bl_eq ?_)))
     obtain rfl := Option.some.inj r339
     obtain rfl := it_inr hn259
     exact k231 _ _ ⟨(.slice a262 n263 c264), f240, ⟨by kernel_rfl, trivial⟩, (FrS.step e195.wf (FrS.refl (W := ([b134] ++ ([b161] ++ (f106 ++ (f133 ++ (f160 ++ (f193 ++ f94))))))) e195.wf) e236 (Inn.app Inn.left (Inn.app (Inn.right Inn.left) (Inn.app (Inn.right (Inn.right Inn.left)) (Inn.app (Inn.right (Inn.right (Inn.right Inn.left))) (Inn.app (Inn.right (Inn.right (Inn.right (Inn.right Inn.left)))) (Inn.app (Inn.right (Inn.right (Inn.right (Inn.right (Inn.right Inn.left))))) (Inn.right (Inn.right (Inn.right (Inn.right (Inn.right (Inn.right Inn.refl'))))))))))))), m238, m242, m244, m246, m248, m250, m252, (Inn.trans Inn.refl' (Nat.le_refl _) i253)⟩
   ·obtain ⟨s216, f217, hh232, e213, m215, m219, m221, m223, m225, m227, m229, i230⟩ := hM
    obtain ⟨β, rfl⟩ := has_ex hh232
    clear hh232
    obtain ⟨a340, n341, c342, rfl⟩ := m215.form
    refine k207 _ _ ?_
    refine w_seqk fun K343 k343 => ?_
    refine w_reg (by kernel_rfl) ?_
    refine s_qk (.pointer (some ⟨b115, 0, none⟩)) (by kernel_rfl) ?_
    refine s_qk (.pointer (some ⟨b115, 0, none⟩)) (by kernel_rfl) ?_
    refine s_nil ?_
    refine k343 _ _ ?_
    refine w_ret ?_
    refine b_ret (fn := Try.f50) (vs := [.pointer (some ⟨b115, 0, none⟩)]) (aRes_tmp (by kernel_rfl) (rfl)) ?_
    have u344 := ((r177.frS e195 (Dj.app (i140.djn r119.ltF) (Dj.app (i167.djn (r119.ltF.le (ntr e136.next e149.next))) (Dj.app (Dj.symm (hb118.djn (hm98.lt.le e108.next))) (Dj.app Dj.nil_l (Dj.app (i139.djn r119.ltF) (i166.djn (r119.ltF.le (ntr e136.next e149.next))))))))).frS e213 (Dj.app (i140.djn r119.ltF) (Dj.app (i167.djn (r119.ltF.le (ntr e136.next e149.next))) (Dj.app (Dj.symm (hb118.djn hm110.lt)) (Dj.app (i139.djn r119.ltF) (Dj.app (i166.djn (r119.ltF.le (ntr e136.next e149.next))) (Dj.app (i202.djn (r119.ltF.le (ntr (ntr (ntr e136.next e149.next) e163.next) e176.next))) (Dj.symm (hb118.djn (hm98.lt.le e108.next))))))))))
    obtain rfl := Option.some.inj r211
    exact ⟨(.slice a340 n341 c342), f217, (.slice a144 n145 c146), f133, b134, (.slice a171 n172 c173), f160, b161, (.slice a99 n100 c101), f94, (.slice a111 n112 c113), f106, b115, rfl, (FrS.step wf (FrS.step wf (FrS.step wf (FrS.step wf (FrS.step wf (FrS.step wf ((((FrS.step wf (((FrS.refl (W := []) wf).extR e69).extR e75) e88 Inn.nil).extR e96).extR e108).extR e117) e136 Inn.nil) e149 (hb118.fresh (ntr (ntr (ntr (ntr e69.next e75.next) e88.next) e96.next) e108.next))) e163 Inn.nil) e176 (hb118.fresh (ntr (ntr (ntr (ntr e69.next e75.next) e88.next) e96.next) e108.next))) e195 (Inn.app (i140.fresh (ntr (ntr (ntr (ntr (ntr e69.next e75.next) e88.next) e96.next) e108.next) e117.next)) (Inn.app (i167.fresh (ntr (ntr (ntr (ntr (ntr (ntr (ntr e69.next e75.next) e88.next) e96.next) e108.next) e117.next) e136.next) e149.next)) (Inn.app (hf97.fresh (ntr (ntr e69.next e75.next) e88.next)) (Inn.app Inn.nil (Inn.app (i139.fresh (ntr (ntr (ntr (ntr (ntr e69.next e75.next) e88.next) e96.next) e108.next) e117.next)) (i166.fresh (ntr (ntr (ntr (ntr (ntr (ntr (ntr e69.next e75.next) e88.next) e96.next) e108.next) e117.next) e136.next) e149.next)))))))) e213 (Inn.app (i140.fresh (ntr (ntr (ntr (ntr (ntr e69.next e75.next) e88.next) e96.next) e108.next) e117.next)) (Inn.app (i167.fresh (ntr (ntr (ntr (ntr (ntr (ntr (ntr e69.next e75.next) e88.next) e96.next) e108.next) e117.next) e136.next) e149.next)) (Inn.app (hf109.fresh (ntr (ntr (ntr e69.next e75.next) e88.next) e96.next)) (Inn.app (i139.fresh (ntr (ntr (ntr (ntr (ntr e69.next e75.next) e88.next) e96.next) e108.next) e117.next)) (Inn.app (i166.fresh (ntr (ntr (ntr (ntr (ntr (ntr (ntr e69.next e75.next) e88.next) e96.next) e108.next) e117.next) e136.next) e149.next)) (Inn.app (i202.fresh (ntr (ntr (ntr (ntr (ntr (ntr (ntr (ntr (ntr e69.next e75.next) e88.next) e96.next) e108.next) e117.next) e136.next) e149.next) e163.next) e176.next)) (hf97.fresh (ntr (ntr e69.next e75.next) e88.next))))))))), m215, m219, m221, m223, m225, m227, m229, u344, (Inn.trans (i202.fresh (ntr (ntr (ntr (ntr (ntr (ntr (ntr (ntr (ntr e69.next e75.next) e88.next) e96.next) e108.next) e117.next) e136.next) e149.next) e163.next) e176.next)) (ntr (ntr (ntr (ntr (ntr (ntr (ntr (ntr (ntr (ntr e69.next e75.next) e88.next) e96.next) e108.next) e117.next) e136.next) e149.next) e163.next) e176.next) e195.next) i230), (i139.fresh (ntr (ntr (ntr (ntr (ntr e69.next e75.next) e88.next) e96.next) e108.next) e117.next)), (i140.fresh (ntr (ntr (ntr (ntr (ntr e69.next e75.next) e88.next) e96.next) e108.next) e117.next)), (i166.fresh (ntr (ntr (ntr (ntr (ntr (ntr (ntr e69.next e75.next) e88.next) e96.next) e108.next) e117.next) e136.next) e149.next)), (i167.fresh (ntr (ntr (ntr (ntr (ntr (ntr (ntr e69.next e75.next) e88.next) e96.next) e108.next) e117.next) e136.next) e149.next)), (hf97.fresh (ntr (ntr e69.next e75.next) e88.next)), (hf109.fresh (ntr (ntr (ntr e69.next e75.next) e88.next) e96.next)), (hb118.fresh (ntr (ntr (ntr (ntr e69.next e75.next) e88.next) e96.next) e108.next)), (i230.dj (i202.djn (m137.lt.le (ntr (ntr e149.next e163.next) e176.next))) (m137.lt.le (ntr (ntr (ntr e149.next e163.next) e176.next) e195.next))), (i230.dj (i202.djn (m138.ltF.le (ntr (ntr e149.next e163.next) e176.next))) (m138.ltF.le (ntr (ntr (ntr e149.next e163.next) e176.next) e195.next))), d141, (i230.dj (i202.djn (m164.lt.le e176.next)) (m164.lt.le (ntr e176.next e195.next))), (Dj.symm (i166.djn (m137.lt.le e149.next))), (Dj.symm (i166.djn (m138.ltF.le e149.next))), (i230.dj (i202.djn (m165.ltF.le e176.next)) (m165.ltF.le (ntr e176.next e195.next))), (Dj.symm (i167.djn (m137.lt.le e149.next))), (Dj.symm (i167.djn (m138.ltF.le e149.next))), d168, (i230.dj (i202.djn (hm98.lt.le (ntr (ntr (ntr (ntr (ntr e108.next e117.next) e136.next) e149.next) e163.next) e176.next))) (hm98.lt.le (ntr (ntr (ntr (ntr (ntr (ntr e108.next e117.next) e136.next) e149.next) e163.next) e176.next) e195.next))), (i139.djn (hm98.lt.le (ntr e108.next e117.next))), (i140.djn (hm98.lt.le (ntr e108.next e117.next))), (i166.djn (hm98.lt.le (ntr (ntr (ntr e108.next e117.next) e136.next) e149.next))), (i167.djn (hm98.lt.le (ntr (ntr (ntr e108.next e117.next) e136.next) e149.next))), (i230.dj (i202.djn (hm110.lt.le (ntr (ntr (ntr (ntr e117.next e136.next) e149.next) e163.next) e176.next))) (hm110.lt.le (ntr (ntr (ntr (ntr (ntr e117.next e136.next) e149.next) e163.next) e176.next) e195.next))), (i139.djn (hm110.lt.le e117.next)), (i140.djn (hm110.lt.le e117.next)), (i166.djn (hm110.lt.le (ntr (ntr e117.next e136.next) e149.next))), (i167.djn (hm110.lt.le (ntr (ntr e117.next e136.next) e149.next))), (Dj.symm (hf109.djn hm98.lt)), (i230.dj (i202.djn (r119.ltF.le (ntr (ntr (ntr e136.next e149.next) e163.next) e176.next))) (r119.ltF.le (ntr (ntr (ntr (ntr e136.next e149.next) e163.next) e176.next) e195.next))), (i139.djn r119.ltF), (i140.djn r119.ltF), (i166.djn (r119.ltF.le (ntr e136.next e149.next))), (i167.djn (r119.ltF.le (ntr e136.next e149.next))), (Dj.symm (hb118.djn (hm98.lt.le e108.next))), (Dj.symm (hb118.djn hm110.lt))⟩

theorem c_search_state_all {H : AH} {b_st : Nat} {hd_st_ : Value} {fp_st_ : Fp} {hd_st_2 : Value} {fp_st_2 : Fp} {hd_st_3 : Value} {fp_st_3 : Fp} {b_st_4 : Nat} {hd_st_5 : Value} {fp_st_5 : Fp} {hd_st_6 : Value} {fp_st_6 : Fp} {b_st_7 : Nat} {hd_st_8 : Value} {fp_st_8 : Fp} {hd_st_11 : Value} {fp_st_11 : Fp} {hd_st_12 : Value} {fp_st_12 : Fp} {st_ : List (Int)} {st_2 : List (Int)} {st_3 : List (Int)} {st_5 : List (Int × Int)} {st_6 : List (Int)} {st_8 : List (Int × Int)} {st_9 : Int} {st_10 : Int} {st_11 : List (Int)} {st_12 : List (Bool)} {r : List (Int)}
  (wf : WF H) (h_st_ : Sq (encI .i64) 1 H hd_st_ st_ fp_st_) (h_st_2 : Sq (encI .i64) 1 H hd_st_2 st_2 fp_st_2) (h_st_3 : Sq (encI .i64) 1 H hd_st_3 st_3 fp_st_3) (h_st_5 : Sq enc_u64_u32 2 H hd_st_5 st_5 fp_st_5) (h_st_6 : Sq (encI .i64) 1 H hd_st_6 st_6 fp_st_6) (h_st_4 : Row H b_st_4 [hd_st_5, hd_st_6]) (h_st_8 : Sq enc_u64_u32 2 H hd_st_8 st_8 fp_st_8) (h_st_7 : Row H b_st_7 [hd_st_8, .int .u32 st_9, .int .i64 st_10]) (h_st_11 : Sq (encI .i64) 1 H hd_st_11 st_11 fp_st_11) (h_st_12 : Sq encB 1 H hd_st_12 st_12 fp_st_12) (h_st : Row H b_st [hd_st_, hd_st_2, hd_st_3, .pointer (some ⟨b_st_4, 0, none⟩), .pointer (some ⟨b_st_7, 0, none⟩), hd_st_11, hd_st_12]) (hr : z_search_state_all st_ st_2 st_3 st_5 st_6 st_8 st_9 st_10 st_11 st_12 = some r) :
  ACalls Try.prog 52 #[.pointer (some ⟨b_st, 0, none⟩)] H fun v H' => ∃ (s3 : Value) (f4 : Fp), v = s3 ∧ FrS [] H H' ∧ Ow (encI .u64) 1 H' s3 r f4 ∧ Inn [] H f4 := by
 refine acalls_of_body mixed Try.func52 rfl (Nat.le_of_ble_eq_true rfl) ?_
 unfold z_search_state_all at hr
 refine w_seqk fun K6 k6 => ?_
 refine w_reg (by kernel_rfl) ?_
 refine s_qk (.slice none 0 0) (by kernel_rfl) ?_
 refine s_nil ?_
 refine k6 _ _ ?_
 refine w_seqk fun K7 k7 => ?_
 refine w_reg (by kernel_rfl) ?_
 refine s_qk (.pointer (some ⟨b_st, 0, none⟩)) (by kernel_rfl) ?_
 refine s_qk (.pointer (some ⟨b_st, 0, none⟩)) (by kernel_rfl) ?_
 refine s_qk (.pointer (some ⟨b_st, 0, none⟩)) (by kernel_rfl) ?_
 refine s_ql (.agg #[hd_st_, hd_st_2, hd_st_3]) (x := aLoad Try.prog 34 (.pointer (some ⟨b_st, 0, none⟩)) H) (by kernel_rfl) (h_st.ld (by kernel_rfl)) ?_
 obtain ⟨y8, hy9, r10⟩ := bind_some hr
 refine s_ck 53 #[.agg #[hd_st_, hd_st_2, hd_st_3]] (by kernel_rfl) (c_search_nodes wf h_st_ h_st_2 h_st_3 hy9) ?_
 rintro _ H11 ⟨rfl, e12⟩
 obtain ⟨g13, r14⟩ := G_some r10
 refine s_mks (t := 45) (m := 8) (l := y8) (c := y8) (enc := (encI .u64)) (sz := 1) e12.wf (0 : Int) (by kernel_rfl) (by decide) g13.1 (Int.le_refl _) (by omega) (by have := g13; omega) (by kernel_rfl) fun s15 f16 H17 e18 hf19 hm20 => ?_
 obtain ⟨a21, n22, c23, rfl⟩ := hm20.form
 have hm20 : Ow (encI .u64) 1 H17 (.slice a21 n22 c23) (List.replicate y8.toNat (0 : Int)) f16 := hm20
 refine s_qk (.slice a21 n22 c23) (by kernel_rfl) ?_
 refine s_nil ?_
 refine k7 _ _ ?_
 refine w_seqk fun K25 k25 => ?_
 refine w_seqk fun K26 k26 => ?_
 refine w_reg (by kernel_rfl) ?_
 refine s_qk (.slice a21 n22 c23) (by kernel_rfl) ?_
 refine s_ql (.int .i64 ((List.replicate y8.toNat (0 : Int)).length : Int)) (x := aLen Try.prog 45 (.slice a21 n22 c23) H17) (by kernel_rfl) (hm20.sq.lenb (by kernel_rfl)) ?_
 refine s_qk (.int .i64 0) (by kernel_rfl) ?_
 refine s_nil ?_
 refine k26 _ _ ?_
 obtain ⟨o27, hx28, r29⟩ := bind_some r14
 refine w_mid (fun α H30 => Has α [(3, .slice a21 n22 c23)] ∧ FrS f16 H17 H30 ∧ Ow (encI .u64) 1 H30 (.slice a21 n22 c23) o27 f16) (fun K34 k34 => ?_) (fun α H30 hM => ?_)
 ·refine w_block ?_
  obtain ⟨n36, hn37⟩ := loopO_iff.1 hx28
  refine w_loopn (fun n α H38 => ∃ (i0 : Int), ∃ (l1 : List (Int)), iterO (fun zz_ => z_search_state_all_l0 st_8 st_9 st_10 y8 zz_.1 zz_.2) n (i0, l1) = some o27 ∧ Has α [(0, .pointer (some ⟨b_st, 0, none⟩)), (3, .slice a21 n22 c23), (14, .int .i64 ((List.replicate y8.toNat (0 : Int)).length : Int)), (15, .int .i64 i0)] ∧ FrS f16 H17 H38 ∧ Ow (encI .u64) 1 H38 (.slice a21 n22 c23) l1 f16) n36 ⟨0, (List.replicate y8.toNat (0 : Int)), hn37, ⟨by kernel_rfl, by kernel_rfl, by kernel_rfl, by kernel_rfl, trivial⟩, (FrS.refl (W := f16) e18.wf), hm20⟩ ?_
  rintro n36 α H38 ⟨i0, l1, hi43, hh42, e39, m41⟩ K48 k48
  obtain ⟨n44, z45, rfl, hz46, hn47⟩ := iter_succ hi43
  obtain ⟨β, rfl⟩ := has_ex hh42
  clear hh42
  replace hz46 : z_search_state_all_l0 st_8 st_9 st_10 y8 i0 l1 = some z45 := hz46
  unfold z_search_state_all_l0 at hz46
  refine w_seqk fun K49 k49 => ?_
  refine w_reg (by kernel_rfl) ?_
  refine s_qk (.bool (decide (i0 < ((List.replicate y8.toNat (0 : Int)).length : Int)))) (by kernel_rfl) ?_
  refine s_nil ?_
  refine k49 _ _ ?_
  refine w_seqk fun K50 k50 => ?_
  refine w_condp (i0 < ((List.replicate y8.toNat (0 : Int)).length : Int)) (by kernel_rfl) rfl (fun h51 => ?_) (fun h51 => ?_)
  ·have r52 := ite_t h51 hz46
   refine w_skip ?_
   refine k50 _ _ ?_
   refine w_seqk fun K53 k53 => ?_
   refine w_block ?_
   refine w_seqk fun K54 k54 => ?_
   refine w_reg (by kernel_rfl) ?_
   refine s_qk (.int .i64 i0) (by kernel_rfl) ?_
   refine s_qk (.int .i64 i0) (by kernel_rfl) ?_
   refine s_nil ?_
   refine k54 _ _ ?_
   refine w_seqk fun K55 k55 => ?_
   refine w_reg (by kernel_rfl) ?_
   refine s_qk (.pointer (some ⟨b_st, 0, none⟩)) (by kernel_rfl) ?_
   refine s_qk (.pointer (some ⟨b_st, 0, none⟩)) (by kernel_rfl) ?_
   refine s_qk (.pointer (some ⟨b_st, 4, none⟩)) (by kernel_rfl) ?_
   have u56 := (((h_st.frS e12 Dj.nil_l).ext e18).frS e39 (hf19.djn (h_st.ltF.le e12.next)))
   refine s_ql (.pointer (some ⟨b_st_7, 0, none⟩)) (x := aLoad Try.prog 100 (.pointer (some ⟨b_st, 4, none⟩)) H38) (by kernel_rfl) (u56.ld (by kernel_rfl)) ?_
   refine s_qk (.int .i64 i0) (by kernel_rfl) ?_
   have u57 := (((h_st_8.fr e12 Dj.nil_l).ext e18).fr e39 (hf19.djn (h_st_8.lt.le e12.next)))
   have u58 := (((h_st_7.frS e12 Dj.nil_l).ext e18).frS e39 (hf19.djn (h_st_7.ltF.le e12.next)))
   obtain ⟨y59, hy60, r61⟩ := bind_some r52
   refine s_ck 56 #[.pointer (some ⟨b_st_7, 0, none⟩), .int .i64 i0] (by kernel_rfl) (c_stamp_Stamp_Get e39.wf u57 u58 hy60) ?_
   rintro _ _ ⟨rfl, rfl⟩
   refine s_qk (.tuple #[.int .u64 y59.1, .bool y59.2]) (by kernel_rfl) ?_
   refine s_qk (.int .u64 y59.1) (by kernel_rfl) ?_
   refine s_qk (.bool y59.2) (by kernel_rfl) ?_
   refine s_qk (.int .u64 y59.1) (by kernel_rfl) ?_
   refine s_qk (.bool y59.2) (by kernel_rfl) ?_
   refine s_nil ?_
   refine k55 _ _ ?_
   refine w_seqk fun K64 k64 => ?_
   refine w_seqk fun K65 k65 => ?_
   refine w_reg (by kernel_rfl) ?_
   refine s_qk (.bool y59.2) (by kernel_rfl) ?_
   refine s_qk (.bool (!y59.2)) (by kernel_rfl) ?_
   refine s_nil ?_
   refine k65 _ _ ?_
   refine w_cond ((!y59.2)) (by kernel_rfl) rfl (fun h66 => ?_) (fun h66 => ?_)
   ·have r67 := ite_t h66 r61
    refine w_reg (by kernel_rfl) ?_
    refine s_qk (.int .u64 18446744073709551615) (by kernel_rfl) ?_
    refine s_nil ?_
    refine k64 _ _ ?_
    refine w_reg (by kernel_rfl) ?_
    refine s_qk (.slice a21 n22 c23) (by kernel_rfl) ?_
    refine s_qk (.int .i64 i0) (by kernel_rfl) ?_
    refine s_qk (.int .u64 18446744073709551615) (by kernel_rfl) ?_
    obtain ⟨g68, r69⟩ := G_some r67
    refine s_ql (elp (.slice a21 n22 c23) 1 i0.toNat 0) (x := aIndexAddr Try.prog 45 (.slice a21 n22 c23) (.int .i64 i0)) (by kernel_rfl) (m41.sq.idxb (by kernel_rfl) g68.1 g68.2) ?_
    obtain ⟨H70, q71, e72, hm73⟩ := Ow.store (P := Try.prog) (t := 29) (off := 0) e39.wf m41 g68.1 g68.2 (.int .u64 18446744073709551615) [.int .u64 18446744073709551615] (by kernel_rfl) (by kernel_rfl) rfl 18446744073709551615 (Nat.le_of_ble_eq_true rfl) (by kernel_rfl)
    refine s_ek (undef) (by kernel_rfl) (map_ok q71) ?_
    refine s_nil ?_
    refine k53 _ _ ?_
    refine w_reg (by kernel_rfl) ?_
    obtain ⟨g74, r75⟩ := G_some r69
    refine s_w ((i0 + 1)) (k := .i64) (x := (i0 + 1)) (by kernel_rfl) (wrap64 (by have := g74; omega)) ?_
    refine s_qk (.int .i64 (i0 + 1)) (by kernel_rfl) ?_
    refine s_nil ?_
    obtain rfl := Option.some.inj r75
    exact k48 n44 _ _ (Nat.lt_succ_self _) ⟨(i0 + 1), (l1.set i0.toNat 18446744073709551615), hn47, ⟨by kernel_rfl, by kernel_rfl, by kernel_rfl, by kernel_rfl, trivial⟩, (FrS.step e18.wf (FrS.step e18.wf (FrS.refl (W := f16) e18.wf) e39 Inn.refl') e72 Inn.refl'), hm73⟩
   ·have r76 := ite_bf h66 r61
    refine w_skip ?_
    refine k64 _ _ ?_
    refine w_reg (by kernel_rfl) ?_
    refine s_qk (.slice a21 n22 c23) (by kernel_rfl) ?_
    refine s_qk (.int .i64 i0) (by kernel_rfl) ?_
    refine s_qk (.int .u64 y59.1) (by kernel_rfl) ?_
    obtain ⟨g77, r78⟩ := G_some r76
    refine s_ql (elp (.slice a21 n22 c23) 1 i0.toNat 0) (x := aIndexAddr Try.prog 45 (.slice a21 n22 c23) (.int .i64 i0)) (by kernel_rfl) (m41.sq.idxb (by kernel_rfl) g77.1 g77.2) ?_
    obtain ⟨H79, q80, e81, hm82⟩ := Ow.store (P := Try.prog) (t := 29) (off := 0) e39.wf m41 g77.1 g77.2 (.int .u64 y59.1) [.int .u64 y59.1] (by kernel_rfl) (by kernel_rfl) rfl y59.1 (Nat.le_of_ble_eq_true rfl) (by kernel_rfl)
    refine s_ek (undef) (by kernel_rfl) (map_ok q80) ?_
    refine s_nil ?_
    refine k53 _ _ ?_
    refine w_reg (by kernel_rfl) ?_
    obtain ⟨g83, r84⟩ := G_some r78
    refine s_w ((i0 + 1)) (k := .i64) (x := (i0 + 1)) (by kernel_rfl) (wrap64 (by have := g83; omega)) ?_
    refine s_qk (.int .i64 (i0 + 1)) (by kernel_rfl) ?_
    refine s_nil ?_
    obtain rfl := Option.some.inj r84
    exact k48 n44 _ _ (Nat.lt_succ_self _) ⟨(i0 + 1), (l1.set i0.toNat y59.1), hn47, ⟨by kernel_rfl, by kernel_rfl, by kernel_rfl, by kernel_rfl, trivial⟩, (FrS.step e18.wf (FrS.step e18.wf (FrS.refl (W := f16) e18.wf) e39 Inn.refl') e81 Inn.refl'), hm82⟩
  ·have r85 := ite_f h51 hz46
   refine w_exit (th_exit (th_exit (bl_eq ?_)))
   obtain rfl := Option.some.inj r85
   obtain rfl := it_inr hn47
   exact k34 _ _ ⟨⟨by kernel_rfl, trivial⟩, (FrS.step e18.wf (FrS.refl (W := f16) e18.wf) e39 Inn.refl'), m41⟩
 ·obtain ⟨hh35, e31, m33⟩ := hM
  obtain ⟨β, rfl⟩ := has_ex hh35
  clear hh35
  refine k25 _ _ ?_
  refine w_seqk fun K86 k86 => ?_
  refine w_reg (by kernel_rfl) ?_
  refine s_qk (.slice a21 n22 c23) (by kernel_rfl) ?_
  refine s_qk (.slice a21 n22 c23) (by kernel_rfl) ?_
  refine s_nil ?_
  refine k86 _ _ ?_
  refine w_ret ?_
  refine b_ret (fn := Try.f52) (vs := [.slice a21 n22 c23]) (aRes_tmp (by kernel_rfl) (rfl)) ?_
  obtain rfl := Option.some.inj r29
  exact ⟨(.slice a21 n22 c23), f16, rfl, (FrS.step wf ((FrS.step wf (FrS.refl (W := []) wf) e12 Inn.nil).extR e18) e31 (hf19.fresh e12.next)), m33, (hf19.fresh e12.next)⟩


end Go.Vd

/-! (KSm5) -/

set_option maxRecDepth 100000
set_option maxHeartbeats 4000000
set_option linter.unusedVariables false
namespace Go.Vd
open Go.Proofs
attribute [local irreducible] wpSeq wpOrd aWp
theorem c_search_Matrix {H : AH} {hd_First : Value} {fp_First : Fp} {hd_To : Value} {fp_To : Fp} {hd_Weight : Value} {fp_Weight : Fp} {First : List (Int)} {To : List (Int)} {Weight : List (Int)} {r : List (List (Int)) × Er}
  (wf : WF H) (h_First : Sq (encI .i64) 1 H hd_First First fp_First) (h_To : Sq (encI .i64) 1 H hd_To To fp_To) (h_Weight : Sq (encI .i64) 1 H hd_Weight Weight fp_Weight) (hr : z_search_Matrix First To Weight = some r) :
  ACalls Try.prog 24 #[.agg #[hd_First, hd_To, hd_Weight]] H fun v H' => ∃ (s3 : Value) (f4 : Fp) (v7 : Value) (f8 : Fp), v = .tuple #[s3, v7] ∧ FrS [] H H' ∧ Nst (CR.sl (encI .u64) 1) H' s3 r.1 f4 ∧ Ev 82 123 H' v7 r.2 f8 ∧ Inn [] H f4 ∧ Inn [] H f8 ∧ Dj f4 f8 := by
 refine acalls_of_body mixed Try.func24 rfl (Nat.le_of_ble_eq_true rfl) ?_
 unfold z_search_Matrix at hr
 refine w_seqk fun K12 k12 => ?_
 refine w_reg (by kernel_rfl) ?_
 refine s_rwl wf [hd_First, hd_To, hd_Weight] (one_cons (h_First.one1) (one_cons (h_To.one1) (one_cons (h_Weight.one1) (one_nil)))) (by kernel_rfl) fun b13 H14 e15 hb16 r17 => ?_
 refine s_qk (.slice none 0 0) (by kernel_rfl) ?_
 refine s_qk (.nilIface) (by kernel_rfl) ?_
 refine s_nil ?_
 refine k12 _ _ ?_
 refine w_seqk fun K19 k19 => ?_
 refine w_seqk fun K20 k20 => ?_
 refine w_reg (by kernel_rfl) ?_
 refine s_ql (.agg #[hd_First, hd_To, hd_Weight]) (x := aLoad Try.prog 34 (.pointer (some ⟨b13, 0, none⟩)) H14) (by kernel_rfl) (r17.ld (by kernel_rfl)) ?_
 have u21 := (h_First.ext e15)
 have u22 := (h_To.ext e15)
 have u23 := (h_Weight.ext e15)
 obtain ⟨y24, hy25, r26⟩ := bind_some hr
 refine s_ck 41 #[.agg #[hd_First, hd_To, hd_Weight]] (by kernel_rfl) (c_csr_Check e15.wf u21 u22 u23 hy25) ?_
 rintro v27 H29 ⟨_, f28, rfl, e30, m31, i32⟩
 refine s_qk (v27) (by kernel_rfl) ?_
 refine s_nil ?_
 refine k20 _ _ ?_
 refine w_seqk fun K34 k34 => ?_
 refine w_reg (by kernel_rfl) ?_
 refine s_qk (v27) (by kernel_rfl) ?_
 rcases (m31).cases with ⟨h35, rfl⟩ | ⟨h35, t36, x37, rfl⟩
 ·have r38 := ite_t h35 r26
  refine s_qk (.bool false) (by kernel_rfl) ?_
  refine s_nil ?_
  refine k34 _ _ ?_
  refine w_cond false (by kernel_rfl) rfl (fun h => by cases h) (fun _ => ?_)
  refine w_skip ?_
  refine k19 _ _ ?_
  refine w_seqk fun K39 k39 => ?_
  refine w_reg (by kernel_rfl) ?_
  have u40 := (r17.frS e30 Dj.nil_l)
  refine s_ql (.agg #[hd_First, hd_To, hd_Weight]) (x := aLoad Try.prog 34 (.pointer (some ⟨b13, 0, none⟩)) H29) (by kernel_rfl) (u40.ld (by kernel_rfl)) ?_
  have u41 := (u21.fr e30 Dj.nil_l)
  have u42 := (u22.fr e30 Dj.nil_l)
  have u43 := (u23.fr e30 Dj.nil_l)
  obtain ⟨y44, hy45, r46⟩ := bind_some r38
  refine s_ck 53 #[.agg #[hd_First, hd_To, hd_Weight]] (by kernel_rfl) (c_search_nodes e30.wf u41 u42 u43 hy45) ?_
  rintro _ H47 ⟨rfl, e48⟩
  refine s_qk (.int .i64 y44) (by kernel_rfl) ?_
  refine s_nil ?_
  refine k39 _ _ ?_
  refine w_seqk fun K49 k49 => ?_
  refine w_seqk fun K50 k50 => ?_
  refine w_reg (by kernel_rfl) ?_
  refine s_qk (.int .i64 y44) (by kernel_rfl) ?_
  refine s_qk (.int .i64 y44) (by kernel_rfl) ?_
  obtain ⟨g51, r52⟩ := G_some r46
  refine s_w ((y44 * y44)) (k := .i64) (x := (y44 * y44)) (by kernel_rfl) (wrap64 g51) ?_
  refine s_qk (.bool (decide ((y44 * y44) > 1048576))) (by kernel_rfl) ?_
  refine s_nil ?_
  refine k50 _ _ ?_
  refine w_condp ((y44 * y44) > 1048576) (by kernel_rfl) rfl (fun h53 => ?_) (fun h53 => ?_)
  ·have r54 := ite_t h53 r52
   refine w_seqk fun K55 k55 => ?_
   refine w_reg (by kernel_rfl) ?_
   refine s_qk (.iface 82 (.int .i64 9)) (by kernel_rfl) ?_
   refine s_qk (.slice none 0 0) (by kernel_rfl) ?_
   refine s_qk (.iface 82 (.int .i64 9)) (by kernel_rfl) ?_
   refine s_nil ?_
   refine k55 _ _ ?_
   refine w_ret (th_ret ?_)
   refine b_ret (fn := Try.f24) (vs := [.slice none 0 0, .iface 82 (.int .i64 9)]) (aRes_tmp (by kernel_rfl) (aRes_tmp (by kernel_rfl) (rfl))) ?_
   obtain rfl := Option.some.inj r54
   exact ⟨(.slice none 0 0), [], (.iface 82 (.int .i64 9)), [], rfl, (FrS.step wf (FrS.step wf ((FrS.refl (W := []) wf).extR e15) e30 Inn.nil) e48 Inn.nil), Nst.nil, Ev.no, Inn.nil, Inn.nil, Dj.nil_l⟩
  ·have r56 := ite_f h53 r52
   refine w_skip ?_
   refine k49 _ _ ?_
   refine w_seqk fun K57 k57 => ?_
   refine w_reg (by kernel_rfl) ?_
   refine s_qk (.slice none 0 0) (by kernel_rfl) ?_
   refine s_nil ?_
   refine k57 _ _ ?_
   refine w_seqk fun K58 k58 => ?_
   refine w_seqk fun K59 k59 => ?_
   refine w_reg (by kernel_rfl) ?_
   refine s_qk (.int .i64 y44) (by kernel_rfl) ?_
   refine s_qk (.int .i64 0) (by kernel_rfl) ?_
   refine s_nil ?_
   refine k59 _ _ ?_
   obtain ⟨o60, hx61, r62⟩ := bind_some r56
   refine w_mid (fun α H63 => ∃ (s67 : Value) (f68 : Fp), Has α [(6, s67)] ∧ FrS [] H47 H63 ∧ Nst (CR.sl (encI .u64) 1) H63 s67 o60 f68 ∧ Inn [] H47 f68) (fun K70 k70 => ?_) (fun α H63 hM => ?_)
   ·refine w_block ?_
    obtain ⟨n72, hn73⟩ := loopO_iff.1 hx61
    refine w_loopn (fun n α H74 => ∃ (i0 : Int), ∃ (l1 : List (List (Int))), ∃ (s78 : Value), ∃ (f79 : Fp), iterO (fun zz_ => z_search_Matrix_l0 First To Weight y44 zz_.1 zz_.2) n (i0, l1) = some o60 ∧ Has α [(1, .pointer (some ⟨b13, 0, none⟩)), (6, s78), (20, .int .i64 y44), (21, .int .i64 i0)] ∧ FrS [] H47 H74 ∧ Nst (CR.sl (encI .u64) 1) H74 s78 l1 f79 ∧ Inn [] H47 f79) n72 ⟨0, [], (.slice none 0 0), [], hn73, ⟨by kernel_rfl, by kernel_rfl, by kernel_rfl, by kernel_rfl, trivial⟩, (FrS.refl (W := []) e48.wf), Nst.nil, Inn.nil⟩ ?_
    rintro n72 α H74 ⟨i0, l1, s78, f79, hi82, hh81, e75, m77, i80⟩ K87 k87
    obtain ⟨n83, z84, rfl, hz85, hn86⟩ := iter_succ hi82
    obtain ⟨β, rfl⟩ := has_ex hh81
    clear hh81
    replace hz85 : z_search_Matrix_l0 First To Weight y44 i0 l1 = some z84 := hz85
    unfold z_search_Matrix_l0 at hz85
    obtain ⟨a88, n89, c90, rfl⟩ := m77.form
    refine w_seqk fun K91 k91 => ?_
    refine w_reg (by kernel_rfl) ?_
    refine s_qk (.bool (decide (i0 < y44))) (by kernel_rfl) ?_
    refine s_nil ?_
    refine k91 _ _ ?_
    refine w_seqk fun K92 k92 => ?_
    refine w_condp (i0 < y44) (by kernel_rfl) rfl (fun h93 => ?_) (fun h93 => ?_)
    ·have r94 := ite_t h93 hz85
     refine w_skip ?_
     refine k92 _ _ ?_
     refine w_seqk fun K95 k95 => ?_
     refine w_block ?_
     refine w_seqk fun K96 k96 => ?_
     refine w_reg (by kernel_rfl) ?_
     refine s_qk (.int .i64 i0) (by kernel_rfl) ?_
     refine s_qk (.int .i64 i0) (by kernel_rfl) ?_
     refine s_nil ?_
     refine k96 _ _ ?_
     refine w_draw [0, 1, 2, 3, 4, 5, 6, 7, 8] (by kernel_rfl) ?_
     refine d_qk (.slice a88 n89 c90) (by kernel_rfl) ?_
     have u97 := ((u40.frS e48 Dj.nil_l).frS e75 Dj.nil_l)
     refine d_fl (.agg #[hd_First, hd_To, hd_Weight]) (x := aLoad Try.prog 34 (.pointer (some ⟨b13, 0, none⟩)) H74) (by kernel_rfl) (u97.ld (by kernel_rfl)) ?_
     refine d_qk (.int .i64 i0) (by kernel_rfl) ?_
     obtain ⟨y98, hy99, r100⟩ := bind_some r94
     refine d_ck 51 #[] (by kernel_rfl) (c_search_free e75.wf hy99) ?_
     rintro _ H101 ⟨rfl, e102⟩
     have u103 := (u97.frS e102 Dj.nil_l)
     refine ⟨st_ql (y := aLoad Try.prog 34 (.pointer (some ⟨b13, 0, none⟩)) H101) (by kernel_rfl) (u103.ld (by kernel_rfl)) (st_nil), ?_⟩
     have u104 := (((u41.fr e48 Dj.nil_l).fr e75 Dj.nil_l).fr e102 Dj.nil_l)
     have u105 := (((u42.fr e48 Dj.nil_l).fr e75 Dj.nil_l).fr e102 Dj.nil_l)
     have u106 := (((u43.fr e48 Dj.nil_l).fr e75 Dj.nil_l).fr e102 Dj.nil_l)
     obtain ⟨y107, hy108, r109⟩ := bind_some r100
     refine d_ck 50 #[.agg #[hd_First, hd_To, hd_Weight], .int .i64 i0, .agg #[.int .i64 4611686018427387904, .int .i64 4611686018427387904, .int .u64 18446744073709551615]] (by kernel_rfl) (c_search_run e102.wf u104 u105 u106 hy108) ?_
     rintro _ H123 ⟨s110, f111, s112, f113, b114, s115, f116, b117, s118, f119, s120, f121, b122, rfl, e124, m125, m126, m127, m128, m129, m130, m131, m132, i133, i134, i135, i136, i137, i138, i139, i140, d141, d142, d143, d144, d145, d146, d147, d148, d149, d150, d151, d152, d153, d154, d155, d156, d157, d158, d159, d160, d161, d162, d163, d164, d165, d166, d167, d168⟩
     obtain ⟨a177, n178, c179, rfl⟩ := m125.form
     obtain ⟨a180, n181, c182, rfl⟩ := m126.form
     obtain ⟨a183, n184, c185, rfl⟩ := m128.form
     obtain ⟨a186, n187, c188, rfl⟩ := m130.form
     obtain ⟨a189, n190, c191, rfl⟩ := m131.form
     refine ⟨st_anc (by kernel_rfl) (st_nil), ?_⟩
     have u192 := (u104.fr e124 Dj.nil_l)
     have u193 := (u105.fr e124 Dj.nil_l)
     have u194 := (u106.fr e124 Dj.nil_l)
     obtain ⟨y195, hy196, r197⟩ := bind_some r109
     refine d_ck 52 #[.pointer (some ⟨b122, 0, none⟩)] (by kernel_rfl) (c_search_state_all e124.wf u192 u193 u194 m125.sq m126.sq m127 m128.sq m129 m130.sq m131.sq m132 hy196) ?_
     rintro s198 H200 ⟨_, f199, rfl, e201, m202, i203⟩
     obtain ⟨a205, n206, c207, rfl⟩ := m202.form
     refine ⟨st_anc (by kernel_rfl) (st_nil), ?_⟩
     refine d_lsl e201.wf [.slice a205 n206 c207] 1 (one_cons (m202.one1) (one_nil)) (by kernel_rfl) fun b208 H209 e210 hb211 r212 => ?_
     have u214 := ((((m77.fr e102 Dj.nil_l).fr e124 Dj.nil_l).fr e201 Dj.nil_l).ext e210)
     have u215 := (m202.ext e210)
     obtain ⟨g216, r217⟩ := G_some r197
     obtain ⟨s218, H219, f220, q224, e221, hm222, hf223⟩ := Nst.append1 (P := Try.prog) (C := (CR.sl (encI .u64) 1)) 24 e210.wf u214 r212 (cr_sl_mk u215) (Dj.symm (i203.djn (m77.lt.le (ntr e102.next e124.next)))) (at_ := #[48, 48]) rfl rfl (by kernel_rfl) (by kernel_rfl) (by decide) (by have := g216; first | omega | (simp at this ⊢; omega))
     obtain ⟨a225, n226, c227, rfl⟩ := hm222.form
     have w229 := hf223.grow2 (i203.fresh (Nat.le_refl _)) (ntr e201.next e210.next)
     refine d_ek (.slice a225 n226 c227) (by kernel_rfl) (q224) (st_anc (by kernel_rfl) (st_nil)) ?_
     refine d_qk (.slice a225 n226 c227) (by kernel_rfl) ?_
     refine d_nil ?_
     refine k95 _ _ ?_
     refine w_reg (by kernel_rfl) ?_
     obtain ⟨g230, r231⟩ := G_some r217
     refine s_w ((i0 + 1)) (k := .i64) (x := (i0 + 1)) (by kernel_rfl) (wrap64 g230) ?_
     refine s_qk (.int .i64 (i0 + 1)) (by kernel_rfl) ?_
     refine s_nil ?_
     obtain rfl := Option.some.inj r231
     exact k87 n83 _ _ (Nat.lt_succ_self _) ⟨(i0 + 1), (l1 ++ [y195]), (.slice a225 n226 c227), f220, hn86, ⟨by kernel_rfl, by kernel_rfl, by kernel_rfl, by kernel_rfl, trivial⟩, (FrS.step e48.wf ((FrS.step e48.wf (FrS.step e48.wf (FrS.step e48.wf (FrS.step e48.wf (FrS.refl (W := []) e48.wf) e75 Inn.nil) e102 Inn.nil) e124 Inn.nil) e201 Inn.nil).extR e210) e221 (i80.fresh (Nat.le_refl _))), hm222, (Inn.trans (i80.fresh (Nat.le_refl _)) (ntr (ntr e75.next e102.next) e124.next) w229)⟩
    ·have r232 := ite_f h93 hz85
     refine w_exit (th_exit (th_exit (bl_eq ?_)))
     obtain rfl := Option.some.inj r232
     obtain rfl := it_inr hn86
     exact k70 _ _ ⟨(.slice a88 n89 c90), f79, ⟨by kernel_rfl, trivial⟩, (FrS.step e48.wf (FrS.refl (W := []) e48.wf) e75 Inn.nil), m77, (i80.fresh (Nat.le_refl _))⟩
   ·obtain ⟨s67, f68, hh71, e64, m66, i69⟩ := hM
    obtain ⟨β, rfl⟩ := has_ex hh71
    clear hh71
    obtain ⟨a233, n234, c235, rfl⟩ := m66.form
    refine k58 _ _ ?_
    refine w_seqk fun K236 k236 => ?_
    refine w_reg (by kernel_rfl) ?_
    refine s_qk (.slice a233 n234 c235) (by kernel_rfl) ?_
    refine s_qk (.slice a233 n234 c235) (by kernel_rfl) ?_
    refine s_qk (.nilIface) (by kernel_rfl) ?_
    refine s_nil ?_
    refine k236 _ _ ?_
    refine w_ret ?_
    refine b_ret (fn := Try.f24) (vs := [.slice a233 n234 c235, .nilIface]) (aRes_tmp (by kernel_rfl) (aRes_tmp (by kernel_rfl) (rfl))) ?_
    obtain rfl := Option.some.inj r62
    exact ⟨(.slice a233 n234 c235), f68, (.nilIface), [], rfl, (FrS.step wf (FrS.step wf (FrS.step wf ((FrS.refl (W := []) wf).extR e15) e30 Inn.nil) e48 Inn.nil) e64 Inn.nil), m66, Ev.nil, (i69.fresh (ntr (ntr e15.next e30.next) e48.next)), Inn.nil, Dj.nil_r⟩
 ·have r237 := ite_f h35 r26
  refine s_ql (.bool true) (x := aBin Try.prog .neq 31 (.tmp 10) (.const .nilIface) (.iface t36 x37) .nilIface) (by kernel_rfl) (aBin_nnil (by kernel_rfl)) ?_
  refine s_nil ?_
  refine k34 _ _ ?_
  refine w_cond true (by kernel_rfl) rfl (fun _ => ?_) (fun h => by cases h)
  refine w_seqk fun K238 k238 => ?_
  refine w_reg (by kernel_rfl) ?_
  refine s_qk (.iface t36 x37) (by kernel_rfl) ?_
  refine s_qk (.slice none 0 0) (by kernel_rfl) ?_
  refine s_qk (.iface t36 x37) (by kernel_rfl) ?_
  refine s_nil ?_
  refine k238 _ _ ?_
  refine w_ret (th_ret ?_)
  refine b_ret (fn := Try.f24) (vs := [.slice none 0 0, .iface t36 x37]) (aRes_tmp (by kernel_rfl) (aRes_tmp (by kernel_rfl) (rfl))) ?_
  obtain rfl := Option.some.inj r237
  exact ⟨(.slice none 0 0), [], (.iface t36 x37), f28, rfl, (FrS.step wf ((FrS.refl (W := []) wf).extR e15) e30 Inn.nil), Nst.nil, m31, Inn.nil, (i32.fresh e15.next), Dj.nil_l⟩


end Go.Vd

/-! (KSm6) -/

set_option maxRecDepth 100000
set_option maxHeartbeats 4000000
set_option linter.unusedVariables false
namespace Go.Vd
open Go.Proofs
attribute [local irreducible] wpSeq wpOrd aWp
theorem c_viaductlaw08_SearchMetric {H : AH} {hd_Arcs : Value} {fp_Arcs : Fp} {N_ : Int} {Arcs : List (Int × Int × Int)} {r : Bool}
  (wf : WF H) (h_Arcs : Sq enc_i64_i64_i64 3 H hd_Arcs Arcs fp_Arcs) (hr : z_viaductlaw08_SearchMetric N_ Arcs = some r) :
  ACalls Try.prog 6 #[.agg #[.int .i64 N_, hd_Arcs]] H fun v H' => v = .bool r ∧ FrS [] H H' := by
 refine acalls_of_body mixed Try.func6 rfl (Nat.le_of_ble_eq_true rfl) ?_
 unfold z_viaductlaw08_SearchMetric at hr
 refine w_seqk fun K1 k1 => ?_
 refine w_reg (by kernel_rfl) ?_
 refine s_rwl wf [.int .i64 N_, hd_Arcs] (one_cons (rfl) (one_cons (h_Arcs.one1) (one_nil))) (by kernel_rfl) fun b2 H3 e4 hb5 r6 => ?_
 refine s_qk (.bool false) (by kernel_rfl) ?_
 refine s_nil ?_
 refine k1 _ _ ?_
 refine w_seqk fun K8 k8 => ?_
 refine w_seqk fun K9 k9 => ?_
 refine w_reg (by kernel_rfl) ?_
 refine s_ck 20 #[] (by kernel_rfl) c_viaductlaw08_awake ?_
 rintro _ _ ⟨rfl, rfl⟩
 refine s_qk (.bool false) (by kernel_rfl) ?_
 refine s_nil ?_
 refine k9 _ _ ?_
 refine w_cond false (by kernel_rfl) rfl (fun h => by cases h) (fun _ => ?_)
 refine w_skip ?_
 refine k8 _ _ ?_
 refine w_seqk fun K10 k10 => ?_
 refine w_seqk fun K11 k11 => ?_
 refine w_reg (by kernel_rfl) ?_
 refine s_ql (.agg #[.int .i64 N_, hd_Arcs]) (x := aLoad Try.prog 68 (.pointer (some ⟨b2, 0, none⟩)) H3) (by kernel_rfl) (r6.ld (by kernel_rfl)) ?_
 have u12 := (h_Arcs.ext e4)
 obtain ⟨y13, hy14, r15⟩ := bind_some hr
 refine s_ck 34 #[.agg #[.int .i64 N_, hd_Arcs], .int .i64 12] (by kernel_rfl) (c_viaductref04_Few e4.wf u12 hy14) ?_
 rintro _ H16 ⟨rfl, e17⟩
 refine s_qk (.bool (!y13)) (by kernel_rfl) ?_
 refine s_nil ?_
 refine k11 _ _ ?_
 refine w_cond ((!y13)) (by kernel_rfl) rfl (fun h18 => ?_) (fun h18 => ?_)
 ·have r19 := ite_t h18 r15
  refine w_seqk fun K20 k20 => ?_
  refine w_reg (by kernel_rfl) ?_
  refine s_qk (.bool true) (by kernel_rfl) ?_
  refine s_nil ?_
  refine k20 _ _ ?_
  refine w_ret (th_ret ?_)
  refine b_ret (fn := Try.f6) (vs := [.bool true]) (aRes_tmp (by kernel_rfl) (rfl)) ?_
  obtain rfl := Option.some.inj r19
  exact ⟨rfl, (FrS.step wf ((FrS.refl (W := []) wf).extR e4) e17 Inn.nil)⟩
 ·have r21 := ite_bf h18 r15
  refine w_skip ?_
  refine k10 _ _ ?_
  refine w_seqk fun K22 k22 => ?_
  refine w_reg (by kernel_rfl) ?_
  have u23 := (r6.frS e17 Dj.nil_l)
  refine s_ql (.agg #[.int .i64 N_, hd_Arcs]) (x := aLoad Try.prog 68 (.pointer (some ⟨b2, 0, none⟩)) H16) (by kernel_rfl) (u23.ld (by kernel_rfl)) ?_
  have u24 := (u12.fr e17 Dj.nil_l)
  obtain ⟨y25, hy26, r27⟩ := bind_some r21
  refine s_ck 35 #[.agg #[.int .i64 N_, hd_Arcs]] (by kernel_rfl) (c_csr_Build e17.wf u24 hy26) ?_
  rintro _ H36 ⟨s28, f29, s30, f31, s32, f33, v34, f35, rfl, e37, m38, m39, m40, m41, i42, i43, i44, i45, d46, d47, d48, d49, d50, d51⟩
  obtain ⟨a56, n57, c58, rfl⟩ := m38.form
  obtain ⟨a59, n60, c61, rfl⟩ := m39.form
  obtain ⟨a62, n63, c64, rfl⟩ := m40.form
  refine s_qk (.tuple #[.agg #[.slice a56 n57 c58, .slice a59 n60 c61, .slice a62 n63 c64], v34]) (by kernel_rfl) ?_
  refine s_qk (.agg #[.slice a56 n57 c58, .slice a59 n60 c61, .slice a62 n63 c64]) (by kernel_rfl) ?_
  refine s_qk (v34) (by kernel_rfl) ?_
  refine s_rwk e37.wf [.slice none 0 0, .slice none 0 0, .slice none 0 0] (by kernel_rfl) fun b65 H66 e67 hb68 r69 => ?_
  have u75 := (m40.ext e67)
  have u76 := (m39.ext e67)
  have u77 := (m38.ext e67)
  obtain ⟨H71, q72, e73, r74⟩ := Row.store (P := Try.prog) (t := 34) (p := 0) e67.wf r69 (.agg #[.slice a56 n57 c58, .slice a59 n60 c61, .slice a62 n63 c64]) [.slice a56 n57 c58, .slice a59 n60 c61, .slice a62 n63 c64] (by kernel_rfl) (by kernel_rfl) (one_cons (u77.one1) (one_cons (u76.one1) (one_cons (u75.one1) (one_nil)))) (Nat.le_of_ble_eq_true (by kernel_rfl)) [.slice a56 n57 c58, .slice a59 n60 c61, .slice a62 n63 c64] (by kernel_rfl)
  refine s_ek (undef) (by kernel_rfl) (map_ok q72) ?_
  refine s_qk (v34) (by kernel_rfl) ?_
  refine s_nil ?_
  refine k22 _ _ ?_
  refine w_seqk fun K78 k78 => ?_
  refine w_reg (by kernel_rfl) ?_
  refine s_ql (.agg #[.slice a56 n57 c58, .slice a59 n60 c61, .slice a62 n63 c64]) (x := aLoad Try.prog 34 (.pointer (some ⟨b65, 0, none⟩)) H71) (by kernel_rfl) (r74.ld (by kernel_rfl)) ?_
  have u79 := (u77.fr e73 (hb68.djn m38.lt))
  have u80 := (u76.fr e73 (hb68.djn m39.lt))
  have u81 := (u75.fr e73 (hb68.djn m40.lt))
  obtain ⟨y82, hy83, r84⟩ := bind_some r27
  refine s_ck 24 #[.agg #[.slice a56 n57 c58, .slice a59 n60 c61, .slice a62 n63 c64]] (by kernel_rfl) (c_search_Matrix e73.wf u79.sq u80.sq u81.sq hy83) ?_
  rintro _ H89 ⟨s85, f86, v87, f88, rfl, e90, m91, m92, i93, i94, d95⟩
  obtain ⟨a98, n99, c100, rfl⟩ := m91.form
  refine s_qk (.tuple #[.slice a98 n99 c100, v87]) (by kernel_rfl) ?_
  refine s_qk (.slice a98 n99 c100) (by kernel_rfl) ?_
  refine s_qk (v87) (by kernel_rfl) ?_
  refine s_qk (.slice a98 n99 c100) (by kernel_rfl) ?_
  refine s_qk (v87) (by kernel_rfl) ?_
  refine s_nil ?_
  refine k78 _ _ ?_
  refine w_seqk fun K101 k101 => ?_
  refine w_seqk fun K102 k102 => ?_
  obtain ⟨o103, hx104, r105⟩ := bind_some r84
  refine w_mid (fun α H106 => Has α [(1, .pointer (some ⟨b2, 0, none⟩)), (5, .slice a98 n99 c100), (43, .bool o103)] ∧ H89 = H106) (fun K108 k108 => ?_) (fun α H106 hM => ?_)
  ·refine w_reg (by kernel_rfl) ?_
   refine s_qk (v34) (by kernel_rfl) ?_
   have u113 := (((m41.ext e67).fr e73 (hb68.djn m41.lt)).fr e90 Dj.nil_l)
   rcases (u113).cases with ⟨h110, rfl⟩ | ⟨h110, t111, x112, rfl⟩
   ·have r114 := ite_t h110 hx104
    refine s_qk (.bool false) (by kernel_rfl) ?_
    refine s_qk (.bool false) (by kernel_rfl) ?_
    refine s_qk (v87) (by kernel_rfl) ?_
    rcases (m92).cases with ⟨h115, rfl⟩ | ⟨h115, t116, x117, rfl⟩
    ·have r118 := ite_t h115 r114
     refine s_qk (.bool false) (by kernel_rfl) ?_
     refine s_qk (.bool false) (by kernel_rfl) ?_
     refine s_qk (.bool false) (by kernel_rfl) ?_
     refine s_qk (.slice a98 n99 c100) (by kernel_rfl) ?_
     refine s_ql (.int .i64 (y82.1.length : Int)) (x := aLen Try.prog 48 (.slice a98 n99 c100) H89) (by kernel_rfl) (m91.lenb (by kernel_rfl)) ?_
     refine s_qk (.pointer (some ⟨b2, 0, none⟩)) (by kernel_rfl) ?_
     have u119 := ((((u23.frS e37 Dj.nil_l).ext e67).frS e73 (hb68.djn (r6.ltF.le (ntr e17.next e37.next)))).frS e90 Dj.nil_l)
     refine s_ql (.int .i64 N_) (x := aLoad Try.prog 3 (.pointer (some ⟨b2, 0, none⟩)) H89) (by kernel_rfl) (u119.ld (by kernel_rfl)) ?_
     refine s_qk (.bool (!decide ((y82.1.length : Int) = N_))) (by kernel_rfl) ?_
     refine s_qk (.bool (!decide ((y82.1.length : Int) = N_))) (by kernel_rfl) ?_
     refine s_nil ?_
     obtain rfl := Option.some.inj r118
     exact k108 _ _ ⟨⟨by kernel_rfl, by kernel_rfl, by kernel_rfl, trivial⟩, rfl⟩
    ·have r120 := ite_f h115 r114
     refine s_ql (.bool true) (x := aBin Try.prog .neq 31 (.tmp 34) (.const .nilIface) (.iface t116 x117) .nilIface) (by kernel_rfl) (aBin_nnil (by kernel_rfl)) ?_
     refine s_qk (.bool true) (by kernel_rfl) ?_
     refine s_qk (.bool true) (by kernel_rfl) ?_
     refine s_no (by kernel_rfl) ?_
     refine s_no (by kernel_rfl) ?_
     refine s_no (by kernel_rfl) ?_
     refine s_no (by kernel_rfl) ?_
     refine s_no (by kernel_rfl) ?_
     refine s_qk (.bool true) (by kernel_rfl) ?_
     refine s_nil ?_
     obtain rfl := Option.some.inj r120
     exact k108 _ _ ⟨⟨by kernel_rfl, by kernel_rfl, by kernel_rfl, trivial⟩, rfl⟩
   ·have r121 := ite_f h110 hx104
    refine s_ql (.bool true) (x := aBin Try.prog .neq 31 (.tmp 31) (.const .nilIface) (.iface t111 x112) .nilIface) (by kernel_rfl) (aBin_nnil (by kernel_rfl)) ?_
    refine s_qk (.bool true) (by kernel_rfl) ?_
    refine s_no (by kernel_rfl) ?_
    refine s_no (by kernel_rfl) ?_
    refine s_qk (.bool true) (by kernel_rfl) ?_
    refine s_qk (.bool true) (by kernel_rfl) ?_
    refine s_no (by kernel_rfl) ?_
    refine s_no (by kernel_rfl) ?_
    refine s_no (by kernel_rfl) ?_
    refine s_no (by kernel_rfl) ?_
    refine s_no (by kernel_rfl) ?_
    refine s_qk (.bool true) (by kernel_rfl) ?_
    refine s_nil ?_
    obtain rfl := Option.some.inj r121
    exact k108 _ _ ⟨⟨by kernel_rfl, by kernel_rfl, by kernel_rfl, trivial⟩, rfl⟩
  ·obtain ⟨hh109, rfl⟩ := hM
   obtain ⟨β, rfl⟩ := has_ex hh109
   clear hh109
   refine k102 _ _ ?_
   refine w_cond (o103) (by kernel_rfl) rfl (fun h122 => ?_) (fun h122 => ?_)
   ·have r123 := ite_t h122 r105
    refine w_seqk fun K124 k124 => ?_
    refine w_reg (by kernel_rfl) ?_
    refine s_qk (.bool false) (by kernel_rfl) ?_
    refine s_nil ?_
    refine k124 _ _ ?_
    refine w_ret (th_ret ?_)
    refine b_ret (fn := Try.f6) (vs := [.bool false]) (aRes_tmp (by kernel_rfl) (rfl)) ?_
    obtain rfl := Option.some.inj r123
    exact ⟨rfl, (FrS.step wf (FrS.step wf ((FrS.step wf (FrS.step wf ((FrS.refl (W := []) wf).extR e4) e17 Inn.nil) e37 Inn.nil).extR e67) e73 (hb68.fresh (ntr (ntr e4.next e17.next) e37.next))) e90 Inn.nil)⟩
   ·have r125 := ite_bf h122 r105
    refine w_skip ?_
    refine k101 _ _ ?_
    refine w_seqk fun K126 k126 => ?_
    refine w_seqk fun K127 k127 => ?_
    refine w_reg (by kernel_rfl) ?_
    refine s_qk (.slice a98 n99 c100) (by kernel_rfl) ?_
    refine s_ql (.int .i64 (y82.1.length : Int)) (x := aLen Try.prog 48 (.slice a98 n99 c100) H89) (by kernel_rfl) (m91.lenb (by kernel_rfl)) ?_
    refine s_qk (.int .i64 0) (by kernel_rfl) ?_
    refine s_nil ?_
    refine k127 _ _ ?_
    obtain ⟨z131, hx129, r130⟩ := bind_some r125
    refine w_mid (fun α H132 => ∃ o128, z131 = Sum.inr o128 ∧ Has α [(1, .pointer (some ⟨b2, 0, none⟩)), (5, .slice a98 n99 c100)] ∧ H89 = H132) (fun K134 k134 => ?_) (fun α H132 hM => ?_)
    ·refine w_block ?_
     obtain ⟨n136, hn137⟩ := loopO_iff.1 hx129
     refine w_loopn (fun n α H138 => ∃ (i0 : Int), iterO (fun zz_ => z_viaductlaw08_SearchMetric_l0 N_ y82 zz_) n i0 = some z131 ∧ Has α [(1, .pointer (some ⟨b2, 0, none⟩)), (5, .slice a98 n99 c100), (45, .int .i64 (y82.1.length : Int)), (46, .int .i64 i0)] ∧ H89 = H138) n136 ⟨0, hn137, ⟨by kernel_rfl, by kernel_rfl, by kernel_rfl, by kernel_rfl, trivial⟩, rfl⟩ ?_
     rintro n136 α H138 ⟨i0, hi141, hh140, rfl⟩ K146 k146
     obtain ⟨n142, z143, rfl, hz144, hn145⟩ := iter_succ hi141
     obtain ⟨β, rfl⟩ := has_ex hh140
     clear hh140
     replace hz144 : z_viaductlaw08_SearchMetric_l0 N_ y82 i0 = some z143 := hz144
     unfold z_viaductlaw08_SearchMetric_l0 at hz144
     refine w_seqk fun K147 k147 => ?_
     refine w_reg (by kernel_rfl) ?_
     refine s_qk (.bool (decide (i0 < (y82.1.length : Int)))) (by kernel_rfl) ?_
     refine s_nil ?_
     refine k147 _ _ ?_
     refine w_seqk fun K148 k148 => ?_
     refine w_condp (i0 < (y82.1.length : Int)) (by kernel_rfl) rfl (fun h149 => ?_) (fun h149 => ?_)
     ·have r150 := ite_t h149 hz144
      refine w_skip ?_
      refine k148 _ _ ?_
      refine w_seqk fun K151 k151 => ?_
      refine w_block ?_
      refine w_seqk fun K152 k152 => ?_
      refine w_reg (by kernel_rfl) ?_
      refine s_qk (.int .i64 i0) (by kernel_rfl) ?_
      refine s_qk (.int .i64 i0) (by kernel_rfl) ?_
      refine s_nil ?_
      refine k152 _ _ ?_
      refine w_seqk fun K153 k153 => ?_
      refine w_draw [0, 1, 2, 3, 4, 5, 6, 7, 8, 9, 10, 11, 12, 13, 14, 15, 16, 17] (by kernel_rfl) ?_
      refine d_qk (.slice a98 n99 c100) (by kernel_rfl) ?_
      refine d_qk (.int .i64 i0) (by kernel_rfl) ?_
      obtain ⟨g154, r155⟩ := G_some r150
      refine d_ql (elp (.slice a98 n99 c100) 1 i0.toNat 0) (x := aIndexAddr Try.prog 48 (.slice a98 n99 c100) (.int .i64 i0)) (by kernel_rfl) (m91.idxb (by kernel_rfl) g154 h149) ?_
      obtain ⟨cs156, f157, hk158, hs159, hl160, hq161⟩ := m91.kid g154 h149
      obtain ⟨s162, rfl, ho164⟩ := cr_sl_open hk158
      have kd165 : KdS (encI .u64) 1 H89 s162 (gt y82.1 i0) f86 (.slice a98 n99 c100) 1 i0.toNat 0 := ⟨ho164.sq.up hs159 m91.lt, hq161 0 _ rfl (by decide)⟩
      obtain ⟨a166, n167, c168, rfl⟩ := kd165.sq.form
      refine d_ql (.slice a166 n167 c168) (x := aLoad Try.prog 45 (elp (.slice a98 n99 c100) 1 i0.toNat 0) H89) (by kernel_rfl) (hl160 _ _ _ _ (by kernel_rfl)) ?_
      refine d_ql (.int .i64 ((gt y82.1 i0).length : Int)) (x := aLen Try.prog 45 (.slice a166 n167 c168) H89) (by kernel_rfl) (kd165.sq.lenb (by kernel_rfl)) ?_
      refine d_qk (.pointer (some ⟨b2, 0, none⟩)) (by kernel_rfl) ?_
      have u170 := ((((u23.frS e37 Dj.nil_l).ext e67).frS e73 (hb68.djn (r6.ltF.le (ntr e17.next e37.next)))).frS e90 Dj.nil_l)
      refine d_ql (.int .i64 N_) (x := aLoad Try.prog 3 (.pointer (some ⟨b2, 0, none⟩)) H89) (by kernel_rfl) (u170.ld (by kernel_rfl)) ?_
      refine d_bn (((gt y82.1 i0).length : Int) = N_) (by kernel_rfl) (fun h171 => ?_) (fun h171 => ?_)
      ·have r172 := ite_t h171 r155
       refine d_qk (.bool false) (by kernel_rfl) ?_
       refine d_qk (.slice a98 n99 c100) (by kernel_rfl) ?_
       refine d_qk (.int .i64 i0) (by kernel_rfl) ?_
       refine d_ql (elp (.slice a98 n99 c100) 1 i0.toNat 0) (x := aIndexAddr Try.prog 48 (.slice a98 n99 c100) (.int .i64 i0)) (by kernel_rfl) (m91.idxb (by kernel_rfl) g154 h149) ?_
       obtain ⟨cs173, f174, hk175, hs176, hl177, hq178⟩ := m91.kid g154 h149
       obtain ⟨s179, rfl, ho181⟩ := cr_sl_open hk175
       have kd182 : KdS (encI .u64) 1 H89 s179 (gt y82.1 i0) f86 (.slice a98 n99 c100) 1 i0.toNat 0 := ⟨ho181.sq.up hs176 m91.lt, hq178 0 _ rfl (by decide)⟩
       obtain ⟨a183, n184, c185, rfl⟩ := kd182.sq.form
       refine d_ql (.slice a183 n184 c185) (x := aLoad Try.prog 45 (elp (.slice a98 n99 c100) 1 i0.toNat 0) H89) (by kernel_rfl) (hl177 _ _ _ _ (by kernel_rfl)) ?_
       refine d_qk (.int .i64 i0) (by kernel_rfl) ?_
       obtain ⟨g187, r188⟩ := G_some r172
       refine d_ql (elp (.slice a183 n184 c185) 1 i0.toNat 0) (x := aIndexAddr Try.prog 45 (.slice a183 n184 c185) (.int .i64 i0)) (by kernel_rfl) (kd182.sq.idxb (by kernel_rfl) g154 g187) ?_
       refine d_ql (.int .u64 (gt (gt y82.1 i0) i0)) (x := aLoad Try.prog 29 (elp (.slice a183 n184 c185) 1 i0.toNat 0) H89) (by kernel_rfl) (kd182.sq.ld g154 g187 (by kernel_rfl)) ?_
       refine d_qk (.bool (!decide ((gt (gt y82.1 i0) i0) = 0))) (by kernel_rfl) ?_
       refine d_qk (.bool (!decide ((gt (gt y82.1 i0) i0) = 0))) (by kernel_rfl) ?_
       refine d_nil ?_
       refine k153 _ _ ?_
       refine w_condn ((gt (gt y82.1 i0) i0) = 0) (by kernel_rfl) rfl (fun h189 => ?_) (fun h189 => ?_)
       ·have r190 := ite_f h189 r188
        refine w_seqk fun K191 k191 => ?_
        refine w_reg (by kernel_rfl) ?_
        refine s_qk (.bool false) (by kernel_rfl) ?_
        refine s_nil ?_
        refine k191 _ _ ?_
        refine w_ret (bl_ret (th_ret (th_ret (bl_ret (th_ret (th_ret ?_))))))
        obtain ⟨v192, hv193, hz194⟩ := map_some r190
        subst hz194
        obtain rfl := it_inr hn145
        have hq195 := elim_inl r130
        rw [hq195] at hv193
        refine b_ret (fn := Try.f6) (vs := [.bool false]) (aRes_tmp (by kernel_rfl) (rfl)) ?_
        obtain rfl := Option.some.inj hv193
        exact ⟨rfl, (FrS.step wf (FrS.step wf ((FrS.step wf (FrS.step wf ((FrS.refl (W := []) wf).extR e4) e17 Inn.nil) e37 Inn.nil).extR e67) e73 (hb68.fresh (ntr (ntr e4.next e17.next) e37.next))) e90 Inn.nil)⟩
       ·have r196 := ite_t h189 r188
        refine w_skip ?_
        refine k151 _ _ ?_
        refine w_reg (by kernel_rfl) ?_
        obtain ⟨g197, r198⟩ := G_some r196
        refine s_w ((i0 + 1)) (k := .i64) (x := (i0 + 1)) (by kernel_rfl) (wrap64 (by have := g197; omega)) ?_
        refine s_qk (.int .i64 (i0 + 1)) (by kernel_rfl) ?_
        refine s_nil ?_
        obtain rfl := Option.some.inj r198
        exact k146 n142 _ _ (Nat.lt_succ_self _) ⟨(i0 + 1), hn145, ⟨by kernel_rfl, by kernel_rfl, by kernel_rfl, by kernel_rfl, trivial⟩, rfl⟩
      ·have r199 := ite_f h171 r155
       refine d_qk (.bool true) (by kernel_rfl) ?_
       refine d_idle (by kernel_rfl) ?_
       refine d_idle (by kernel_rfl) ?_
       refine d_idle (by kernel_rfl) ?_
       refine d_idle (by kernel_rfl) ?_
       refine d_idle (by kernel_rfl) ?_
       refine d_idle (by kernel_rfl) ?_
       refine d_idle (by kernel_rfl) ?_
       refine d_idle (by kernel_rfl) ?_
       refine d_qk (.bool true) (by kernel_rfl) ?_
       refine d_nil ?_
       refine k153 _ _ ?_
       refine w_cond true (by kernel_rfl) rfl (fun _ => ?_) (fun h => by cases h)
       refine w_seqk fun K200 k200 => ?_
       refine w_reg (by kernel_rfl) ?_
       refine s_qk (.bool false) (by kernel_rfl) ?_
       refine s_nil ?_
       refine k200 _ _ ?_
       refine w_ret (bl_ret (th_ret (th_ret (bl_ret (th_ret (th_ret ?_))))))
       obtain ⟨v201, hv202, hz203⟩ := map_some r199
       subst hz203
       obtain rfl := it_inr hn145
       have hq204 := elim_inl r130
       rw [hq204] at hv202
       refine b_ret (fn := Try.f6) (vs := [.bool false]) (aRes_tmp (by kernel_rfl) (rfl)) ?_
       obtain rfl := Option.some.inj hv202
       exact ⟨rfl, (FrS.step wf (FrS.step wf ((FrS.step wf (FrS.step wf ((FrS.refl (W := []) wf).extR e4) e17 Inn.nil) e37 Inn.nil).extR e67) e73 (hb68.fresh (ntr (ntr e4.next e17.next) e37.next))) e90 Inn.nil)⟩
     ·have r205 := ite_f h149 hz144
      refine w_exit (th_exit (th_exit (bl_eq ?_)))
      obtain rfl := Option.some.inj r205
      obtain rfl := it_inr hn145
      exact k134 _ _ ⟨_, rfl, ⟨by kernel_rfl, by kernel_rfl, trivial⟩, rfl⟩
    ·obtain ⟨o128, rfl, hh135, rfl⟩ := hM
     have r206 := elim_inr r130
     obtain ⟨β, rfl⟩ := has_ex hh135
     clear hh135
     refine k126 _ _ ?_
     refine w_seqk fun K207 k207 => ?_
     refine w_seqk fun K208 k208 => ?_
     refine w_reg (by kernel_rfl) ?_
     refine s_qk (.pointer (some ⟨b2, 1, none⟩)) (by kernel_rfl) ?_
     have u209 := ((((u23.frS e37 Dj.nil_l).ext e67).frS e73 (hb68.djn (r6.ltF.le (ntr e17.next e37.next)))).frS e90 Dj.nil_l)
     refine s_ql (hd_Arcs) (x := aLoad Try.prog 66 (.pointer (some ⟨b2, 1, none⟩)) H89) (by kernel_rfl) (u209.ld (by kernel_rfl)) ?_
     have u210 := ((((u24.fr e37 Dj.nil_l).ext e67).fr e73 (hb68.djn (h_Arcs.lt.le (ntr (ntr e4.next e17.next) e37.next)))).fr e90 Dj.nil_l)
     refine s_ql (.int .i64 (Arcs.length : Int)) (x := aLen Try.prog 66 hd_Arcs H89) (by kernel_rfl) (u210.lenb (by kernel_rfl)) ?_
     refine s_qk (.int .i64 0) (by kernel_rfl) ?_
     refine s_nil ?_
     refine k208 _ _ ?_
     obtain ⟨z214, hx212, r213⟩ := bind_some r206
     refine w_mid (fun α H215 => ∃ o211, z214 = Sum.inr o211 ∧ Has α [(1, .pointer (some ⟨b2, 0, none⟩)), (5, .slice a98 n99 c100)] ∧ FrS [] H89 H215) (fun K217 k217 => ?_) (fun α H215 hM => ?_)
     ·refine w_block ?_
      obtain ⟨n219, hn220⟩ := loopO_iff.1 hx212
      refine w_loopn (fun n α H221 => ∃ (i1 : Int), iterO (fun zz_ => z_viaductlaw08_SearchMetric_l1 Arcs y82 zz_) n i1 = some z214 ∧ Has α [(1, .pointer (some ⟨b2, 0, none⟩)), (5, .slice a98 n99 c100), (69, hd_Arcs), (70, .int .i64 (Arcs.length : Int)), (71, .int .i64 i1)] ∧ FrS [] H89 H221) n219 ⟨0, hn220, ⟨by kernel_rfl, by kernel_rfl, by kernel_rfl, by kernel_rfl, by kernel_rfl, trivial⟩, (FrS.refl (W := []) e90.wf)⟩ ?_
      rintro n219 α H221 ⟨i1, hi224, hh223, e222⟩ K229 k229
      obtain ⟨n225, z226, rfl, hz227, hn228⟩ := iter_succ hi224
      obtain ⟨β, rfl⟩ := has_ex hh223
      clear hh223
      replace hz227 : z_viaductlaw08_SearchMetric_l1 Arcs y82 i1 = some z226 := hz227
      unfold z_viaductlaw08_SearchMetric_l1 at hz227
      refine w_seqk fun K230 k230 => ?_
      refine w_reg (by kernel_rfl) ?_
      refine s_qk (.bool (decide (i1 < (Arcs.length : Int)))) (by kernel_rfl) ?_
      refine s_nil ?_
      refine k230 _ _ ?_
      refine w_seqk fun K231 k231 => ?_
      refine w_condp (i1 < (Arcs.length : Int)) (by kernel_rfl) rfl (fun h232 => ?_) (fun h232 => ?_)
      ·have r233 := ite_t h232 hz227
       refine w_skip ?_
       refine k231 _ _ ?_
       refine w_seqk fun K234 k234 => ?_
       refine w_block ?_
       refine w_seqk fun K235 k235 => ?_
       refine w_reg (by kernel_rfl) ?_
       obtain ⟨g236, r237⟩ := G_some r233
       have u238 := (u210.fr e222 Dj.nil_l)
       refine s_ql (elp hd_Arcs 3 i1.toNat 0) (x := aIndexAddr Try.prog 66 hd_Arcs (.int .i64 i1)) (by kernel_rfl) (u238.idxb (by kernel_rfl) g236 h232) ?_
       refine s_ql (.agg #[.int .i64 ((gt Arcs i1).1), .int .i64 ((gt Arcs i1).2.1), .int .i64 ((gt Arcs i1).2.2)]) (x := aLoad Try.prog 73 (elp hd_Arcs 3 i1.toNat 0) H221) (by kernel_rfl) (u238.ld g236 h232 (by kernel_rfl)) ?_
       refine s_rwk e222.wf [.int .i64 0, .int .i64 0, .int .i64 0] (by kernel_rfl) fun b239 H240 e241 hb242 r243 => ?_
       obtain ⟨H245, q246, e247, r248⟩ := Row.store (P := Try.prog) (t := 73) (p := 0) e241.wf r243 (.agg #[.int .i64 ((gt Arcs i1).1), .int .i64 ((gt Arcs i1).2.1), .int .i64 ((gt Arcs i1).2.2)]) [.int .i64 ((gt Arcs i1).1), .int .i64 ((gt Arcs i1).2.1), .int .i64 ((gt Arcs i1).2.2)] (by kernel_rfl) (by kernel_rfl) (one_cons (rfl) (one_cons (rfl) (one_cons (rfl) (one_nil)))) (Nat.le_of_ble_eq_true (by kernel_rfl)) [.int .i64 ((gt Arcs i1).1), .int .i64 ((gt Arcs i1).2.1), .int .i64 ((gt Arcs i1).2.2)] (by kernel_rfl)
       refine s_ek (undef) (by kernel_rfl) (map_ok q246) ?_
       refine s_nil ?_
       refine k235 _ _ ?_
       refine w_seqk fun K249 k249 => ?_
       refine w_draw [0, 1, 2, 3, 4, 5, 6, 7, 8, 9, 10, 11, 12] (by kernel_rfl) ?_
       refine d_qk (.slice a98 n99 c100) (by kernel_rfl) ?_
       refine d_qk (.pointer (some ⟨b239, 0, none⟩)) (by kernel_rfl) ?_
       refine d_ql (.int .i64 ((gt Arcs i1).1)) (x := aLoad Try.prog 3 (.pointer (some ⟨b239, 0, none⟩)) H245) (by kernel_rfl) (r248.ld (by kernel_rfl)) ?_
       obtain ⟨g250, r251⟩ := G_some r237
       have u252 := (((m91.fr e222 Dj.nil_l).ext e241).fr e247 (hb242.djn (m91.lt.le e222.next)))
       refine d_ql (elp (.slice a98 n99 c100) 1 ((gt Arcs i1).1).toNat 0) (x := aIndexAddr Try.prog 48 (.slice a98 n99 c100) (.int .i64 ((gt Arcs i1).1))) (by kernel_rfl) (u252.idxb (by kernel_rfl) g250.1 g250.2) ?_
       obtain ⟨cs253, f254, hk255, hs256, hl257, hq258⟩ := u252.kid g250.1 g250.2
       obtain ⟨s259, rfl, ho261⟩ := cr_sl_open hk255
       have kd262 : KdS (encI .u64) 1 H245 s259 (gt y82.1 ((gt Arcs i1).1)) f86 (.slice a98 n99 c100) 1 ((gt Arcs i1).1).toNat 0 := ⟨ho261.sq.up hs256 u252.lt, hq258 0 _ rfl (by decide)⟩
       obtain ⟨a263, n264, c265, rfl⟩ := kd262.sq.form
       refine d_ql (.slice a263 n264 c265) (x := aLoad Try.prog 45 (elp (.slice a98 n99 c100) 1 ((gt Arcs i1).1).toNat 0) H245) (by kernel_rfl) (hl257 _ _ _ _ (by kernel_rfl)) ?_
       refine d_qk (.pointer (some ⟨b239, 1, none⟩)) (by kernel_rfl) ?_
       refine d_ql (.int .i64 ((gt Arcs i1).2.1)) (x := aLoad Try.prog 3 (.pointer (some ⟨b239, 1, none⟩)) H245) (by kernel_rfl) (r248.ld (by kernel_rfl)) ?_
       obtain ⟨g267, r268⟩ := G_some r251
       refine d_ql (elp (.slice a263 n264 c265) 1 ((gt Arcs i1).2.1).toNat 0) (x := aIndexAddr Try.prog 45 (.slice a263 n264 c265) (.int .i64 ((gt Arcs i1).2.1))) (by kernel_rfl) (kd262.sq.idxb (by kernel_rfl) g267.1 g267.2) ?_
       refine d_ql (.int .u64 (gt (gt y82.1 ((gt Arcs i1).1)) ((gt Arcs i1).2.1))) (x := aLoad Try.prog 29 (elp (.slice a263 n264 c265) 1 ((gt Arcs i1).2.1).toNat 0) H245) (by kernel_rfl) (kd262.sq.ld g267.1 g267.2 (by kernel_rfl)) ?_
       refine d_qk (.pointer (some ⟨b239, 2, none⟩)) (by kernel_rfl) ?_
       refine d_ql (.int .i64 ((gt Arcs i1).2.2)) (x := aLoad Try.prog 3 (.pointer (some ⟨b239, 2, none⟩)) H245) (by kernel_rfl) (r248.ld (by kernel_rfl)) ?_
       obtain ⟨g269, r270⟩ := G_some r268
       refine d_w ((gt Arcs i1).2.2) (k := .u64) (x := (gt Arcs i1).2.2) (by kernel_rfl) (wrapu64 g269) ?_
       refine d_qk (.bool (decide ((gt (gt y82.1 ((gt Arcs i1).1)) ((gt Arcs i1).2.1)) > ((gt Arcs i1).2.2)))) (by kernel_rfl) ?_
       refine d_nil ?_
       refine k249 _ _ ?_
       refine w_condp ((gt (gt y82.1 ((gt Arcs i1).1)) ((gt Arcs i1).2.1)) > ((gt Arcs i1).2.2)) (by kernel_rfl) rfl (fun h271 => ?_) (fun h271 => ?_)
       ·have r272 := ite_t h271 r270
        refine w_seqk fun K273 k273 => ?_
        refine w_reg (by kernel_rfl) ?_
        refine s_qk (.bool false) (by kernel_rfl) ?_
        refine s_nil ?_
        refine k273 _ _ ?_
        refine w_ret (bl_ret (th_ret (th_ret (bl_ret (th_ret (th_ret ?_))))))
        obtain ⟨v274, hv275, hz276⟩ := map_some r272
        subst hz276
        obtain rfl := it_inr hn228
        have hq277 := elim_inl r213
        rw [hq277] at hv275
        refine b_ret (fn := Try.f6) (vs := [.bool false]) (aRes_tmp (by kernel_rfl) (rfl)) ?_
        obtain rfl := Option.some.inj hv275
        exact ⟨rfl, (FrS.step wf ((FrS.step wf (FrS.step wf (FrS.step wf ((FrS.step wf (FrS.step wf ((FrS.refl (W := []) wf).extR e4) e17 Inn.nil) e37 Inn.nil).extR e67) e73 (hb68.fresh (ntr (ntr e4.next e17.next) e37.next))) e90 Inn.nil) e222 Inn.nil).extR e241) e247 (hb242.fresh (ntr (ntr (ntr (ntr (ntr (ntr e4.next e17.next) e37.next) e67.next) e73.next) e90.next) e222.next)))⟩
       ·have r278 := ite_f h271 r270
        refine w_skip ?_
        refine k234 _ _ ?_
        refine w_reg (by kernel_rfl) ?_
        obtain ⟨g279, r280⟩ := G_some r278
        refine s_w ((i1 + 1)) (k := .i64) (x := (i1 + 1)) (by kernel_rfl) (wrap64 (by have := g279; omega)) ?_
        refine s_qk (.int .i64 (i1 + 1)) (by kernel_rfl) ?_
        refine s_nil ?_
        obtain rfl := Option.some.inj r280
        exact k229 n225 _ _ (Nat.lt_succ_self _) ⟨(i1 + 1), hn228, ⟨by kernel_rfl, by kernel_rfl, by kernel_rfl, by kernel_rfl, by kernel_rfl, trivial⟩, (FrS.step e90.wf ((FrS.step e90.wf (FrS.refl (W := []) e90.wf) e222 Inn.nil).extR e241) e247 (hb242.fresh e222.next))⟩
      ·have r281 := ite_f h232 hz227
       refine w_exit (th_exit (th_exit (bl_eq ?_)))
       obtain rfl := Option.some.inj r281
       obtain rfl := it_inr hn228
       exact k217 _ _ ⟨_, rfl, ⟨by kernel_rfl, by kernel_rfl, trivial⟩, (FrS.step e90.wf (FrS.refl (W := []) e90.wf) e222 Inn.nil)⟩
     ·obtain ⟨o211, rfl, hh218, e216⟩ := hM
      have r282 := elim_inr r213
      obtain ⟨β, rfl⟩ := has_ex hh218
      clear hh218
      refine k207 _ _ ?_
      refine w_seqk fun K283 k283 => ?_
      refine w_seqk fun K284 k284 => ?_
      refine w_reg (by kernel_rfl) ?_
      refine s_qk (.slice a98 n99 c100) (by kernel_rfl) ?_
      have u285 := (m91.fr e216 Dj.nil_l)
      refine s_ql (.int .i64 (y82.1.length : Int)) (x := aLen Try.prog 48 (.slice a98 n99 c100) H215) (by kernel_rfl) (u285.lenb (by kernel_rfl)) ?_
      refine s_qk (.int .i64 0) (by kernel_rfl) ?_
      refine s_nil ?_
      refine k284 _ _ ?_
      obtain ⟨z289, hx287, r288⟩ := bind_some r282
      refine w_mid (fun α H290 => ∃ o286, z289 = Sum.inr o286 ∧ Has α [] ∧ FrS [] H215 H290) (fun K292 k292 => ?_) (fun α H290 hM => ?_)
      ·refine w_block ?_
       obtain ⟨n294, hn295⟩ := loopO_iff.1 hx287
       refine w_loopn (fun n α H296 => ∃ (i6 : Int), iterO (fun zz_ => z_viaductlaw08_SearchMetric_l5 Arcs y82 zz_) n i6 = some z289 ∧ Has α [(1, .pointer (some ⟨b2, 0, none⟩)), (5, .slice a98 n99 c100), (90, .int .i64 (y82.1.length : Int)), (91, .int .i64 i6)] ∧ FrS [] H215 H296) n294 ⟨0, hn295, ⟨by kernel_rfl, by kernel_rfl, by kernel_rfl, by kernel_rfl, trivial⟩, (FrS.refl (W := []) e216.wf)⟩ ?_
       rintro n294 α H296 ⟨i6, hi299, hh298, e297⟩ K304 k304
       obtain ⟨n300, z301, rfl, hz302, hn303⟩ := iter_succ hi299
       obtain ⟨β, rfl⟩ := has_ex hh298
       clear hh298
       replace hz302 : z_viaductlaw08_SearchMetric_l5 Arcs y82 i6 = some z301 := hz302
       unfold z_viaductlaw08_SearchMetric_l5 at hz302
       refine w_seqk fun K305 k305 => ?_
       refine w_reg (by kernel_rfl) ?_
       refine s_qk (.bool (decide (i6 < (y82.1.length : Int)))) (by kernel_rfl) ?_
       refine s_nil ?_
       refine k305 _ _ ?_
       refine w_seqk fun K306 k306 => ?_
       refine w_condp (i6 < (y82.1.length : Int)) (by kernel_rfl) rfl (fun h307 => ?_) (fun h307 => ?_)
       ·have r308 := ite_t h307 hz302
        refine w_skip ?_
        refine k306 _ _ ?_
        refine w_seqk fun K309 k309 => ?_
        refine w_block ?_
        refine w_seqk fun K310 k310 => ?_
        refine w_reg (by kernel_rfl) ?_
        refine s_qk (.int .i64 i6) (by kernel_rfl) ?_
        refine s_qk (.int .i64 i6) (by kernel_rfl) ?_
        refine s_nil ?_
        refine k310 _ _ ?_
        refine w_seqk fun K311 k311 => ?_
        refine w_reg (by kernel_rfl) ?_
        refine s_qk (.slice a98 n99 c100) (by kernel_rfl) ?_
        have u312 := (u285.fr e297 Dj.nil_l)
        refine s_ql (.int .i64 (y82.1.length : Int)) (x := aLen Try.prog 48 (.slice a98 n99 c100) H296) (by kernel_rfl) (u312.lenb (by kernel_rfl)) ?_
        refine s_qk (.int .i64 0) (by kernel_rfl) ?_
        refine s_nil ?_
        refine k311 _ _ ?_
        obtain ⟨z316, hx314, r315⟩ := bind_some r308
        refine w_mid (fun α H317 => ∃ o313, z316 = Sum.inr o313 ∧ Has α [(1, .pointer (some ⟨b2, 0, none⟩)), (5, .slice a98 n99 c100), (90, .int .i64 (y82.1.length : Int)), (91, .int .i64 i6)] ∧ FrS [] H296 H317) (fun K319 k319 => ?_) (fun α H317 hM => ?_)
        ·refine w_block ?_
         obtain ⟨n321, hn322⟩ := loopO_iff.1 hx314
         refine w_loopn (fun n α H323 => ∃ (i3 : Int), iterO (fun zz_ => z_viaductlaw08_SearchMetric_l4 Arcs y82 i6 zz_) n i3 = some z316 ∧ Has α [(1, .pointer (some ⟨b2, 0, none⟩)), (5, .slice a98 n99 c100), (10, .int .i64 i6), (90, .int .i64 (y82.1.length : Int)), (91, .int .i64 i6), (95, .int .i64 (y82.1.length : Int)), (96, .int .i64 i3)] ∧ FrS [] H296 H323) n321 ⟨0, hn322, ⟨by kernel_rfl, by kernel_rfl, by kernel_rfl, by kernel_rfl, by kernel_rfl, by kernel_rfl, by kernel_rfl, trivial⟩, (FrS.refl (W := []) e297.wf)⟩ ?_
         rintro n321 α H323 ⟨i3, hi326, hh325, e324⟩ K331 k331
         obtain ⟨n327, z328, rfl, hz329, hn330⟩ := iter_succ hi326
         obtain ⟨β, rfl⟩ := has_ex hh325
         clear hh325
         replace hz329 : z_viaductlaw08_SearchMetric_l4 Arcs y82 i6 i3 = some z328 := hz329
         unfold z_viaductlaw08_SearchMetric_l4 at hz329
         refine w_seqk fun K332 k332 => ?_
         refine w_reg (by kernel_rfl) ?_
         refine s_qk (.bool (decide (i3 < (y82.1.length : Int)))) (by kernel_rfl) ?_
         refine s_nil ?_
         refine k332 _ _ ?_
         refine w_seqk fun K333 k333 => ?_
         refine w_condp (i3 < (y82.1.length : Int)) (by kernel_rfl) rfl (fun h334 => ?_) (fun h334 => ?_)
         ·have r335 := ite_t h334 hz329
          refine w_skip ?_
          refine k333 _ _ ?_
          refine w_seqk fun K336 k336 => ?_
          refine w_block ?_
          refine w_seqk fun K337 k337 => ?_
          refine w_reg (by kernel_rfl) ?_
          refine s_qk (.int .i64 i3) (by kernel_rfl) ?_
          refine s_qk (.int .i64 i3) (by kernel_rfl) ?_
          refine s_nil ?_
          refine k337 _ _ ?_
          refine w_seqk fun K338 k338 => ?_
          refine w_seqk fun K339 k339 => ?_
          refine w_reg (by kernel_rfl) ?_
          refine s_qk (.slice a98 n99 c100) (by kernel_rfl) ?_
          have u340 := (u312.fr e324 Dj.nil_l)
          refine s_ql (.int .i64 (y82.1.length : Int)) (x := aLen Try.prog 48 (.slice a98 n99 c100) H323) (by kernel_rfl) (u340.lenb (by kernel_rfl)) ?_
          refine s_qk (.int .i64 0) (by kernel_rfl) ?_
          refine s_nil ?_
          refine k339 _ _ ?_
          obtain ⟨z344, hx342, r343⟩ := bind_some r335
          refine w_mid (fun α H345 => ∃ o341, z344 = Sum.inr o341 ∧ Has α [(1, .pointer (some ⟨b2, 0, none⟩)), (5, .slice a98 n99 c100), (10, .int .i64 i6), (11, .int .i64 i3), (90, .int .i64 (y82.1.length : Int)), (91, .int .i64 i6), (95, .int .i64 (y82.1.length : Int)), (96, .int .i64 i3)] ∧ H323 = H345) (fun K347 k347 => ?_) (fun α H345 hM => ?_)
          ·refine w_block ?_
           obtain ⟨n349, hn350⟩ := loopO_iff.1 hx342
           refine w_loopn (fun n α H351 => ∃ (i2 : Int), iterO (fun zz_ => z_viaductlaw08_SearchMetric_l2 y82 i6 i3 zz_) n i2 = some z344 ∧ Has α [(1, .pointer (some ⟨b2, 0, none⟩)), (5, .slice a98 n99 c100), (10, .int .i64 i6), (11, .int .i64 i3), (90, .int .i64 (y82.1.length : Int)), (91, .int .i64 i6), (95, .int .i64 (y82.1.length : Int)), (96, .int .i64 i3), (100, .int .i64 (y82.1.length : Int)), (101, .int .i64 i2)] ∧ H323 = H351) n349 ⟨0, hn350, ⟨by kernel_rfl, by kernel_rfl, by kernel_rfl, by kernel_rfl, by kernel_rfl, by kernel_rfl, by kernel_rfl, by kernel_rfl, by kernel_rfl, by kernel_rfl, trivial⟩, rfl⟩ ?_
           rintro n349 α H351 ⟨i2, hi354, hh353, rfl⟩ K359 k359
           obtain ⟨n355, z356, rfl, hz357, hn358⟩ := iter_succ hi354
           obtain ⟨β, rfl⟩ := has_ex hh353
           clear hh353
           replace hz357 : z_viaductlaw08_SearchMetric_l2 y82 i6 i3 i2 = some z356 := hz357
           unfold z_viaductlaw08_SearchMetric_l2 at hz357
           refine w_seqk fun K360 k360 => ?_
           refine w_reg (by kernel_rfl) ?_
           refine s_qk (.bool (decide (i2 < (y82.1.length : Int)))) (by kernel_rfl) ?_
           refine s_nil ?_
           refine k360 _ _ ?_
           refine w_seqk fun K361 k361 => ?_
           refine w_condp (i2 < (y82.1.length : Int)) (by kernel_rfl) rfl (fun h362 => ?_) (fun h362 => ?_)
           ·have r363 := ite_t h362 hz357
            refine w_skip ?_
            refine k361 _ _ ?_
            refine w_seqk fun K364 k364 => ?_
            refine w_block ?_
            refine w_seqk fun K365 k365 => ?_
            refine w_reg (by kernel_rfl) ?_
            refine s_qk (.int .i64 i2) (by kernel_rfl) ?_
            refine s_qk (.int .i64 i2) (by kernel_rfl) ?_
            refine s_nil ?_
            refine k365 _ _ ?_
            refine w_seqk fun K366 k366 => ?_
            refine w_draw [0, 1, 2, 3, 4, 5, 6, 7, 8, 9, 10, 11, 12, 13, 14, 15, 16, 17, 18, 19, 20, 21, 22, 23, 24, 25, 26, 27, 28, 29, 30, 31, 32, 33, 34, 35, 36, 37, 38, 39, 40, 41, 42] (by kernel_rfl) ?_
            refine d_qk (.slice a98 n99 c100) (by kernel_rfl) ?_
            refine d_qk (.int .i64 i6) (by kernel_rfl) ?_
            obtain ⟨g367, r368⟩ := G_some r363
            refine d_ql (elp (.slice a98 n99 c100) 1 i6.toNat 0) (x := aIndexAddr Try.prog 48 (.slice a98 n99 c100) (.int .i64 i6)) (by kernel_rfl) (u340.idxb (by kernel_rfl) g367 h307) ?_
            obtain ⟨cs369, f370, hk371, hs372, hl373, hq374⟩ := u340.kid g367 h307
            obtain ⟨s375, rfl, ho377⟩ := cr_sl_open hk371
            have kd378 : KdS (encI .u64) 1 H323 s375 (gt y82.1 i6) f86 (.slice a98 n99 c100) 1 i6.toNat 0 := ⟨ho377.sq.up hs372 u340.lt, hq374 0 _ rfl (by decide)⟩
            obtain ⟨a379, n380, c381, rfl⟩ := kd378.sq.form
            refine d_ql (.slice a379 n380 c381) (x := aLoad Try.prog 45 (elp (.slice a98 n99 c100) 1 i6.toNat 0) H323) (by kernel_rfl) (hl373 _ _ _ _ (by kernel_rfl)) ?_
            refine d_qk (.int .i64 i2) (by kernel_rfl) ?_
            obtain ⟨g383, r384⟩ := G_some r368
            refine d_ql (elp (.slice a379 n380 c381) 1 i2.toNat 0) (x := aIndexAddr Try.prog 45 (.slice a379 n380 c381) (.int .i64 i2)) (by kernel_rfl) (kd378.sq.idxb (by kernel_rfl) g383.1 g383.2) ?_
            refine d_ql (.int .u64 (gt (gt y82.1 i6) i2)) (x := aLoad Try.prog 29 (elp (.slice a379 n380 c381) 1 i2.toNat 0) H323) (by kernel_rfl) (kd378.sq.ld g383.1 g383.2 (by kernel_rfl)) ?_
            refine d_bn ((gt (gt y82.1 i6) i2) = 18446744073709551615) (by kernel_rfl) (fun h385 => ?_) (fun h385 => ?_)
            ·have r386 := ite_t h385 r384
             refine d_qk (.bool false) (by kernel_rfl) ?_
             refine d_idle (by kernel_rfl) ?_
             refine d_idle (by kernel_rfl) ?_
             refine d_idle (by kernel_rfl) ?_
             refine d_idle (by kernel_rfl) ?_
             refine d_idle (by kernel_rfl) ?_
             refine d_idle (by kernel_rfl) ?_
             refine d_idle (by kernel_rfl) ?_
             refine d_idle (by kernel_rfl) ?_
             refine d_qk (.bool false) (by kernel_rfl) ?_
             refine d_qk (.bool false) (by kernel_rfl) ?_
             refine d_idle (by kernel_rfl) ?_
             refine d_idle (by kernel_rfl) ?_
             refine d_idle (by kernel_rfl) ?_
             refine d_idle (by kernel_rfl) ?_
             refine d_idle (by kernel_rfl) ?_
             refine d_idle (by kernel_rfl) ?_
             refine d_idle (by kernel_rfl) ?_
             refine d_idle (by kernel_rfl) ?_
             refine d_idle (by kernel_rfl) ?_
             refine d_idle (by kernel_rfl) ?_
             refine d_idle (by kernel_rfl) ?_
             refine d_idle (by kernel_rfl) ?_
             refine d_idle (by kernel_rfl) ?_
             refine d_idle (by kernel_rfl) ?_
             refine d_idle (by kernel_rfl) ?_
             refine d_idle (by kernel_rfl) ?_
             refine d_idle (by kernel_rfl) ?_
             refine d_idle (by kernel_rfl) ?_
             refine d_idle (by kernel_rfl) ?_
             refine d_idle (by kernel_rfl) ?_
             refine d_idle (by kernel_rfl) ?_
             refine d_idle (by kernel_rfl) ?_
             refine d_idle (by kernel_rfl) ?_
             refine d_qk (.bool false) (by kernel_rfl) ?_
             refine d_nil ?_
             refine k366 _ _ ?_
             refine w_cond false (by kernel_rfl) rfl (fun h => by cases h) (fun _ => ?_)
             refine w_skip ?_
             refine k364 _ _ ?_
             refine w_reg (by kernel_rfl) ?_
             obtain ⟨g387, r388⟩ := G_some r386
             refine s_w ((i2 + 1)) (k := .i64) (x := (i2 + 1)) (by kernel_rfl) (wrap64 (by have := g387; omega)) ?_
             refine s_qk (.int .i64 (i2 + 1)) (by kernel_rfl) ?_
             refine s_nil ?_
             obtain rfl := Option.some.inj r388
             exact k359 n355 _ _ (Nat.lt_succ_self _) ⟨(i2 + 1), hn358, ⟨by kernel_rfl, by kernel_rfl, by kernel_rfl, by kernel_rfl, by kernel_rfl, by kernel_rfl, by kernel_rfl, by kernel_rfl, by kernel_rfl, by kernel_rfl, trivial⟩, rfl⟩
            ·have r389 := ite_f h385 r384
             refine d_qk (.bool true) (by kernel_rfl) ?_
             refine d_qk (.slice a98 n99 c100) (by kernel_rfl) ?_
             refine d_qk (.int .i64 i2) (by kernel_rfl) ?_
             refine d_ql (elp (.slice a98 n99 c100) 1 i2.toNat 0) (x := aIndexAddr Try.prog 48 (.slice a98 n99 c100) (.int .i64 i2)) (by kernel_rfl) (u340.idxb (by kernel_rfl) g383.1 h362) ?_
             obtain ⟨cs390, f391, hk392, hs393, hl394, hq395⟩ := u340.kid g383.1 h362
             obtain ⟨s396, rfl, ho398⟩ := cr_sl_open hk392
             have kd399 : KdS (encI .u64) 1 H323 s396 (gt y82.1 i2) f86 (.slice a98 n99 c100) 1 i2.toNat 0 := ⟨ho398.sq.up hs393 u340.lt, hq395 0 _ rfl (by decide)⟩
             obtain ⟨a400, n401, c402, rfl⟩ := kd399.sq.form
             refine d_ql (.slice a400 n401 c402) (x := aLoad Try.prog 45 (elp (.slice a98 n99 c100) 1 i2.toNat 0) H323) (by kernel_rfl) (hl394 _ _ _ _ (by kernel_rfl)) ?_
             refine d_qk (.int .i64 i3) (by kernel_rfl) ?_
             obtain ⟨g404, r405⟩ := G_some r389
             refine d_ql (elp (.slice a400 n401 c402) 1 i3.toNat 0) (x := aIndexAddr Try.prog 45 (.slice a400 n401 c402) (.int .i64 i3)) (by kernel_rfl) (kd399.sq.idxb (by kernel_rfl) g404.1 g404.2) ?_
             refine d_ql (.int .u64 (gt (gt y82.1 i2) i3)) (x := aLoad Try.prog 29 (elp (.slice a400 n401 c402) 1 i3.toNat 0) H323) (by kernel_rfl) (kd399.sq.ld g404.1 g404.2 (by kernel_rfl)) ?_
             refine d_bn ((gt (gt y82.1 i2) i3) = 18446744073709551615) (by kernel_rfl) (fun h406 => ?_) (fun h406 => ?_)
             ·have r407 := ite_t h406 r405
              refine d_qk (.bool false) (by kernel_rfl) ?_
              refine d_qk (.bool false) (by kernel_rfl) ?_
              refine d_idle (by kernel_rfl) ?_
              refine d_idle (by kernel_rfl) ?_
              refine d_idle (by kernel_rfl) ?_
              refine d_idle (by kernel_rfl) ?_
              refine d_idle (by kernel_rfl) ?_
              refine d_idle (by kernel_rfl) ?_
              refine d_idle (by kernel_rfl) ?_
              refine d_idle (by kernel_rfl) ?_
              refine d_idle (by kernel_rfl) ?_
              refine d_idle (by kernel_rfl) ?_
              refine d_idle (by kernel_rfl) ?_
              refine d_idle (by kernel_rfl) ?_
              refine d_idle (by kernel_rfl) ?_
              refine d_idle (by kernel_rfl) ?_
              refine d_idle (by kernel_rfl) ?_
              refine d_idle (by kernel_rfl) ?_
              refine d_idle (by kernel_rfl) ?_
              refine d_idle (by kernel_rfl) ?_
              refine d_idle (by kernel_rfl) ?_
              refine d_idle (by kernel_rfl) ?_
              refine d_idle (by kernel_rfl) ?_
              refine d_idle (by kernel_rfl) ?_
              refine d_idle (by kernel_rfl) ?_
              refine d_qk (.bool false) (by kernel_rfl) ?_
              refine d_nil ?_
              refine k366 _ _ ?_
              refine w_cond false (by kernel_rfl) rfl (fun h => by cases h) (fun _ => ?_)
              refine w_skip ?_
              refine k364 _ _ ?_
              refine w_reg (by kernel_rfl) ?_
              obtain ⟨g408, r409⟩ := G_some r407
              refine s_w ((i2 + 1)) (k := .i64) (x := (i2 + 1)) (by kernel_rfl) (wrap64 (by have := g408; omega)) ?_
              refine s_qk (.int .i64 (i2 + 1)) (by kernel_rfl) ?_
              refine s_nil ?_
              obtain rfl := Option.some.inj r409
              exact k359 n355 _ _ (Nat.lt_succ_self _) ⟨(i2 + 1), hn358, ⟨by kernel_rfl, by kernel_rfl, by kernel_rfl, by kernel_rfl, by kernel_rfl, by kernel_rfl, by kernel_rfl, by kernel_rfl, by kernel_rfl, by kernel_rfl, trivial⟩, rfl⟩
             ·have r410 := ite_f h406 r405
              refine d_qk (.bool true) (by kernel_rfl) ?_
              refine d_qk (.bool true) (by kernel_rfl) ?_
              refine d_qk (.slice a98 n99 c100) (by kernel_rfl) ?_
              refine d_qk (.int .i64 i6) (by kernel_rfl) ?_
              refine d_ql (elp (.slice a98 n99 c100) 1 i6.toNat 0) (x := aIndexAddr Try.prog 48 (.slice a98 n99 c100) (.int .i64 i6)) (by kernel_rfl) (u340.idxb (by kernel_rfl) g367 h307) ?_
              obtain ⟨cs411, f412, hk413, hs414, hl415, hq416⟩ := u340.kid g367 h307
              obtain ⟨s417, rfl, ho419⟩ := cr_sl_open hk413
              have kd420 : KdS (encI .u64) 1 H323 s417 (gt y82.1 i6) f86 (.slice a98 n99 c100) 1 i6.toNat 0 := ⟨ho419.sq.up hs414 u340.lt, hq416 0 _ rfl (by decide)⟩
              obtain ⟨a421, n422, c423, rfl⟩ := kd420.sq.form
              refine d_ql (.slice a421 n422 c423) (x := aLoad Try.prog 45 (elp (.slice a98 n99 c100) 1 i6.toNat 0) H323) (by kernel_rfl) (hl415 _ _ _ _ (by kernel_rfl)) ?_
              refine d_qk (.int .i64 i3) (by kernel_rfl) ?_
              obtain ⟨g425, r426⟩ := G_some r410
              refine d_ql (elp (.slice a421 n422 c423) 1 i3.toNat 0) (x := aIndexAddr Try.prog 45 (.slice a421 n422 c423) (.int .i64 i3)) (by kernel_rfl) (kd420.sq.idxb (by kernel_rfl) g404.1 g425) ?_
              refine d_ql (.int .u64 (gt (gt y82.1 i6) i3)) (x := aLoad Try.prog 29 (elp (.slice a421 n422 c423) 1 i3.toNat 0) H323) (by kernel_rfl) (kd420.sq.ld g404.1 g425 (by kernel_rfl)) ?_
              refine d_qk (.slice a98 n99 c100) (by kernel_rfl) ?_
              refine d_qk (.int .i64 i6) (by kernel_rfl) ?_
              refine d_ql (elp (.slice a98 n99 c100) 1 i6.toNat 0) (x := aIndexAddr Try.prog 48 (.slice a98 n99 c100) (.int .i64 i6)) (by kernel_rfl) (u340.idxb (by kernel_rfl) g367 h307) ?_
              obtain ⟨cs427, f428, hk429, hs430, hl431, hq432⟩ := u340.kid g367 h307
              obtain ⟨s433, rfl, ho435⟩ := cr_sl_open hk429
              have kd436 : KdS (encI .u64) 1 H323 s433 (gt y82.1 i6) f86 (.slice a98 n99 c100) 1 i6.toNat 0 := ⟨ho435.sq.up hs430 u340.lt, hq432 0 _ rfl (by decide)⟩
              obtain ⟨a437, n438, c439, rfl⟩ := kd436.sq.form
              refine d_ql (.slice a437 n438 c439) (x := aLoad Try.prog 45 (elp (.slice a98 n99 c100) 1 i6.toNat 0) H323) (by kernel_rfl) (hl431 _ _ _ _ (by kernel_rfl)) ?_
              refine d_qk (.int .i64 i2) (by kernel_rfl) ?_
              refine d_ql (elp (.slice a437 n438 c439) 1 i2.toNat 0) (x := aIndexAddr Try.prog 45 (.slice a437 n438 c439) (.int .i64 i2)) (by kernel_rfl) (kd436.sq.idxb (by kernel_rfl) g383.1 g383.2) ?_
              refine d_ql (.int .u64 (gt (gt y82.1 i6) i2)) (x := aLoad Try.prog 29 (elp (.slice a437 n438 c439) 1 i2.toNat 0) H323) (by kernel_rfl) (kd436.sq.ld g383.1 g383.2 (by kernel_rfl)) ?_
              refine d_qk (.slice a98 n99 c100) (by kernel_rfl) ?_
              refine d_qk (.int .i64 i2) (by kernel_rfl) ?_
              refine d_ql (elp (.slice a98 n99 c100) 1 i2.toNat 0) (x := aIndexAddr Try.prog 48 (.slice a98 n99 c100) (.int .i64 i2)) (by kernel_rfl) (u340.idxb (by kernel_rfl) g383.1 h362) ?_
              obtain ⟨cs441, f442, hk443, hs444, hl445, hq446⟩ := u340.kid g383.1 h362
              obtain ⟨s447, rfl, ho449⟩ := cr_sl_open hk443
              have kd450 : KdS (encI .u64) 1 H323 s447 (gt y82.1 i2) f86 (.slice a98 n99 c100) 1 i2.toNat 0 := ⟨ho449.sq.up hs444 u340.lt, hq446 0 _ rfl (by decide)⟩
              obtain ⟨a451, n452, c453, rfl⟩ := kd450.sq.form
              refine d_ql (.slice a451 n452 c453) (x := aLoad Try.prog 45 (elp (.slice a98 n99 c100) 1 i2.toNat 0) H323) (by kernel_rfl) (hl445 _ _ _ _ (by kernel_rfl)) ?_
              refine d_qk (.int .i64 i3) (by kernel_rfl) ?_
              refine d_ql (elp (.slice a451 n452 c453) 1 i3.toNat 0) (x := aIndexAddr Try.prog 45 (.slice a451 n452 c453) (.int .i64 i3)) (by kernel_rfl) (kd450.sq.idxb (by kernel_rfl) g404.1 g404.2) ?_
              refine d_ql (.int .u64 (gt (gt y82.1 i2) i3)) (x := aLoad Try.prog 29 (elp (.slice a451 n452 c453) 1 i3.toNat 0) H323) (by kernel_rfl) (kd450.sq.ld g404.1 g404.2 (by kernel_rfl)) ?_
              obtain ⟨g455, r456⟩ := G_some r426
              refine d_w (((gt (gt y82.1 i6) i2) + (gt (gt y82.1 i2) i3))) (k := .u64) (x := ((gt (gt y82.1 i6) i2) + (gt (gt y82.1 i2) i3))) (by kernel_rfl) (wrapu64 g455) ?_
              refine d_qk (.bool (decide ((gt (gt y82.1 i6) i3) > ((gt (gt y82.1 i6) i2) + (gt (gt y82.1 i2) i3))))) (by kernel_rfl) ?_
              refine d_qk (.bool (decide ((gt (gt y82.1 i6) i3) > ((gt (gt y82.1 i6) i2) + (gt (gt y82.1 i2) i3))))) (by kernel_rfl) ?_
              refine d_nil ?_
              refine k366 _ _ ?_
              refine w_condp ((gt (gt y82.1 i6) i3) > ((gt (gt y82.1 i6) i2) + (gt (gt y82.1 i2) i3))) (by kernel_rfl) rfl (fun h457 => ?_) (fun h457 => ?_)
              ·have r458 := ite_t h457 r456
               refine w_seqk fun K459 k459 => ?_
               refine w_reg (by kernel_rfl) ?_
               refine s_qk (.bool false) (by kernel_rfl) ?_
               refine s_nil ?_
               refine k459 _ _ ?_
               refine w_ret (bl_ret (th_ret (th_ret (bl_ret (th_ret (th_ret (bl_ret (th_ret (th_ret (bl_ret (th_ret (bl_ret (th_ret (th_ret (bl_ret (th_ret (th_ret ?_)))))))))))))))))
               obtain ⟨v460, hv461, hz462⟩ := map_some r458
               subst hz462
               obtain rfl := it_inr hn358
               have hq463 := elim_inl r343
               rw [hq463] at hv461
               obtain ⟨v464, hv465, hz466⟩ := map_some hv461
               subst hz466
               obtain rfl := it_inr hn330
               have hq467 := elim_inl r315
               rw [hq467] at hv465
               obtain ⟨v468, hv469, hz470⟩ := map_some hv465
               subst hz470
               obtain rfl := it_inr hn303
               have hq471 := elim_inl r288
               rw [hq471] at hv469
               refine b_ret (fn := Try.f6) (vs := [.bool false]) (aRes_tmp (by kernel_rfl) (rfl)) ?_
               obtain rfl := Option.some.inj hv469
               exact ⟨rfl, (FrS.step wf (FrS.step wf (FrS.step wf (FrS.step wf (FrS.step wf ((FrS.step wf (FrS.step wf ((FrS.refl (W := []) wf).extR e4) e17 Inn.nil) e37 Inn.nil).extR e67) e73 (hb68.fresh (ntr (ntr e4.next e17.next) e37.next))) e90 Inn.nil) e216 Inn.nil) e297 Inn.nil) e324 Inn.nil)⟩
              ·have r472 := ite_f h457 r456
               refine w_skip ?_
               refine k364 _ _ ?_
               refine w_reg (by kernel_rfl) ?_
               obtain ⟨g473, r474⟩ := G_some r472
               refine s_w ((i2 + 1)) (k := .i64) (x := (i2 + 1)) (by kernel_rfl) (wrap64 (by have := g473; omega)) ?_
               refine s_qk (.int .i64 (i2 + 1)) (by kernel_rfl) ?_
               refine s_nil ?_
               obtain rfl := Option.some.inj r474
               exact k359 n355 _ _ (Nat.lt_succ_self _) ⟨(i2 + 1), hn358, ⟨by kernel_rfl, by kernel_rfl, by kernel_rfl, by kernel_rfl, by kernel_rfl, by kernel_rfl, by kernel_rfl, by kernel_rfl, by kernel_rfl, by kernel_rfl, trivial⟩, rfl⟩
           ·have r475 := ite_f h362 hz357
            refine w_exit (th_exit (th_exit (bl_eq ?_)))
            obtain rfl := Option.some.inj r475
            obtain rfl := it_inr hn358
            exact k347 _ _ ⟨_, rfl, ⟨by kernel_rfl, by kernel_rfl, by kernel_rfl, by kernel_rfl, by kernel_rfl, by kernel_rfl, by kernel_rfl, by kernel_rfl, trivial⟩, rfl⟩
          ·obtain ⟨o341, rfl, hh348, rfl⟩ := hM
           have r476 := elim_inr r343
           obtain ⟨β, rfl⟩ := has_ex hh348
           clear hh348
           refine k338 _ _ ?_
           refine w_seqk fun K477 k477 => ?_
           refine w_seqk fun K478 k478 => ?_
           obtain ⟨o479, hx480, r481⟩ := bind_some r476
           refine w_mid (fun α H482 => Has α [(1, .pointer (some ⟨b2, 0, none⟩)), (5, .slice a98 n99 c100), (10, .int .i64 i6), (11, .int .i64 i3), (90, .int .i64 (y82.1.length : Int)), (91, .int .i64 i6), (95, .int .i64 (y82.1.length : Int)), (96, .int .i64 i3), (160, .bool o479)] ∧ H323 = H482) (fun K484 k484 => ?_) (fun α H482 hM => ?_)
           ·refine w_reg (by kernel_rfl) ?_
            refine s_qk (.int .i64 i6) (by kernel_rfl) ?_
            refine s_qk (.int .i64 i3) (by kernel_rfl) ?_
            refine s_b (i6 = i3) (by kernel_rfl) (fun h486 => ?_) (fun h486 => ?_)
            ·have r487 := ite_t h486 hx480
             refine s_qk (.bool true) (by kernel_rfl) ?_
             refine s_no (by kernel_rfl) ?_
             refine s_no (by kernel_rfl) ?_
             refine s_no (by kernel_rfl) ?_
             refine s_no (by kernel_rfl) ?_
             refine s_no (by kernel_rfl) ?_
             refine s_no (by kernel_rfl) ?_
             refine s_no (by kernel_rfl) ?_
             refine s_no (by kernel_rfl) ?_
             refine s_qk (.bool true) (by kernel_rfl) ?_
             refine s_nil ?_
             obtain rfl := Option.some.inj r487
             exact k484 _ _ ⟨⟨by kernel_rfl, by kernel_rfl, by kernel_rfl, by kernel_rfl, by kernel_rfl, by kernel_rfl, by kernel_rfl, by kernel_rfl, by kernel_rfl, trivial⟩, rfl⟩
            ·have r488 := ite_f h486 hx480
             refine s_qk (.bool false) (by kernel_rfl) ?_
             refine s_qk (.slice a98 n99 c100) (by kernel_rfl) ?_
             refine s_qk (.int .i64 i6) (by kernel_rfl) ?_
             obtain ⟨g489, r490⟩ := G_some r488
             refine s_ql (elp (.slice a98 n99 c100) 1 i6.toNat 0) (x := aIndexAddr Try.prog 48 (.slice a98 n99 c100) (.int .i64 i6)) (by kernel_rfl) (u340.idxb (by kernel_rfl) g489 h307) ?_
             obtain ⟨cs491, f492, hk493, hs494, hl495, hq496⟩ := u340.kid g489 h307
             obtain ⟨s497, rfl, ho499⟩ := cr_sl_open hk493
             have kd500 : KdS (encI .u64) 1 H323 s497 (gt y82.1 i6) f86 (.slice a98 n99 c100) 1 i6.toNat 0 := ⟨ho499.sq.up hs494 u340.lt, hq496 0 _ rfl (by decide)⟩
             obtain ⟨a501, n502, c503, rfl⟩ := kd500.sq.form
             refine s_ql (.slice a501 n502 c503) (x := aLoad Try.prog 45 (elp (.slice a98 n99 c100) 1 i6.toNat 0) H323) (by kernel_rfl) (hl495 _ _ _ _ (by kernel_rfl)) ?_
             refine s_qk (.int .i64 i3) (by kernel_rfl) ?_
             obtain ⟨g505, r506⟩ := G_some r490
             refine s_ql (elp (.slice a501 n502 c503) 1 i3.toNat 0) (x := aIndexAddr Try.prog 45 (.slice a501 n502 c503) (.int .i64 i3)) (by kernel_rfl) (kd500.sq.idxb (by kernel_rfl) g505.1 g505.2) ?_
             refine s_ql (.int .u64 (gt (gt y82.1 i6) i3)) (x := aLoad Try.prog 29 (elp (.slice a501 n502 c503) 1 i3.toNat 0) H323) (by kernel_rfl) (kd500.sq.ld g505.1 g505.2 (by kernel_rfl)) ?_
             refine s_qk (.bool (decide ((gt (gt y82.1 i6) i3) = 18446744073709551615))) (by kernel_rfl) ?_
             refine s_qk (.bool (decide ((gt (gt y82.1 i6) i3) = 18446744073709551615))) (by kernel_rfl) ?_
             refine s_nil ?_
             obtain rfl := Option.some.inj r506
             exact k484 _ _ ⟨⟨by kernel_rfl, by kernel_rfl, by kernel_rfl, by kernel_rfl, by kernel_rfl, by kernel_rfl, by kernel_rfl, by kernel_rfl, by kernel_rfl, trivial⟩, rfl⟩
           ·obtain ⟨hh485, rfl⟩ := hM
            obtain ⟨β, rfl⟩ := has_ex hh485
            clear hh485
            refine k478 _ _ ?_
            refine w_cond (o479) (by kernel_rfl) rfl (fun h507 => ?_) (fun h507 => ?_)
            ·have r508 := ite_t h507 r481
             refine w_exit (th_exit (bl_eq ?_))
             refine k336 _ _ ?_
             refine w_reg (by kernel_rfl) ?_
             obtain ⟨g509, r510⟩ := G_some r508
             refine s_w ((i3 + 1)) (k := .i64) (x := (i3 + 1)) (by kernel_rfl) (wrap64 g509) ?_
             refine s_qk (.int .i64 (i3 + 1)) (by kernel_rfl) ?_
             refine s_nil ?_
             obtain rfl := Option.some.inj r510
             exact k331 n327 _ _ (Nat.lt_succ_self _) ⟨(i3 + 1), hn330, ⟨by kernel_rfl, by kernel_rfl, by kernel_rfl, by kernel_rfl, by kernel_rfl, by kernel_rfl, by kernel_rfl, trivial⟩, (FrS.step e297.wf (FrS.refl (W := []) e297.wf) e324 Inn.nil)⟩
            ·have r511 := ite_bf h507 r481
             refine w_skip ?_
             refine k477 _ _ ?_
             refine w_seqk fun K512 k512 => ?_
             refine w_reg (by kernel_rfl) ?_
             refine s_qk (.bool false) (by kernel_rfl) ?_
             refine s_nil ?_
             refine k512 _ _ ?_
             refine w_seqk fun K513 k513 => ?_
             refine w_seqk fun K514 k514 => ?_
             refine w_reg (by kernel_rfl) ?_
             refine s_qk (.pointer (some ⟨b2, 1, none⟩)) (by kernel_rfl) ?_
             have u515 := (((u209.frS e216 Dj.nil_l).frS e297 Dj.nil_l).frS e324 Dj.nil_l)
             refine s_ql (hd_Arcs) (x := aLoad Try.prog 66 (.pointer (some ⟨b2, 1, none⟩)) H323) (by kernel_rfl) (u515.ld (by kernel_rfl)) ?_
             have u516 := (((u210.fr e216 Dj.nil_l).fr e297 Dj.nil_l).fr e324 Dj.nil_l)
             refine s_ql (.int .i64 (Arcs.length : Int)) (x := aLen Try.prog 66 hd_Arcs H323) (by kernel_rfl) (u516.lenb (by kernel_rfl)) ?_
             refine s_qk (.int .i64 0) (by kernel_rfl) ?_
             refine s_nil ?_
             refine k514 _ _ ?_
             obtain ⟨o517, hx518, r519⟩ := bind_some r511
             refine w_mid (fun α H520 => Has α [(1, .pointer (some ⟨b2, 0, none⟩)), (5, .slice a98 n99 c100), (10, .int .i64 i6), (13, .bool o517), (90, .int .i64 (y82.1.length : Int)), (91, .int .i64 i6), (95, .int .i64 (y82.1.length : Int)), (96, .int .i64 i3)] ∧ FrS [] H323 H520) (fun K522 k522 => ?_) (fun α H520 hM => ?_)
             ·refine w_block ?_
              obtain ⟨n524, hn525⟩ := loopO_iff.1 hx518
              refine w_loopn (fun n α H526 => ∃ (last4 : Bool), ∃ (i5 : Int), iterO (fun zz_ => z_viaductlaw08_SearchMetric_l3 Arcs y82 i6 i3 zz_.1 zz_.2) n (last4, i5) = some o517 ∧ Has α [(1, .pointer (some ⟨b2, 0, none⟩)), (5, .slice a98 n99 c100), (10, .int .i64 i6), (11, .int .i64 i3), (13, .bool last4), (90, .int .i64 (y82.1.length : Int)), (91, .int .i64 i6), (95, .int .i64 (y82.1.length : Int)), (96, .int .i64 i3), (162, hd_Arcs), (163, .int .i64 (Arcs.length : Int)), (164, .int .i64 i5)] ∧ FrS [] H323 H526) n524 ⟨false, 0, hn525, ⟨by kernel_rfl, by kernel_rfl, by kernel_rfl, by kernel_rfl, by kernel_rfl, by kernel_rfl, by kernel_rfl, by kernel_rfl, by kernel_rfl, by kernel_rfl, by kernel_rfl, by kernel_rfl, trivial⟩, (FrS.refl (W := []) e324.wf)⟩ ?_
              rintro n524 α H526 ⟨last4, i5, hi529, hh528, e527⟩ K534 k534
              obtain ⟨n530, z531, rfl, hz532, hn533⟩ := iter_succ hi529
              obtain ⟨β, rfl⟩ := has_ex hh528
              clear hh528
              replace hz532 : z_viaductlaw08_SearchMetric_l3 Arcs y82 i6 i3 last4 i5 = some z531 := hz532
              unfold z_viaductlaw08_SearchMetric_l3 at hz532
              refine w_seqk fun K535 k535 => ?_
              refine w_reg (by kernel_rfl) ?_
              refine s_qk (.bool (decide (i5 < (Arcs.length : Int)))) (by kernel_rfl) ?_
              refine s_nil ?_
              refine k535 _ _ ?_
              refine w_seqk fun K536 k536 => ?_
              refine w_condp (i5 < (Arcs.length : Int)) (by kernel_rfl) rfl (fun h537 => ?_) (fun h537 => ?_)
              ·have r538 := ite_t h537 hz532
               refine w_skip ?_
               refine k536 _ _ ?_
               refine w_seqk fun K539 k539 => ?_
               refine w_block ?_
               refine w_seqk fun K540 k540 => ?_
               refine w_reg (by kernel_rfl) ?_
               obtain ⟨g541, r542⟩ := G_some r538
               have u543 := (u516.fr e527 Dj.nil_l)
               refine s_ql (elp hd_Arcs 3 i5.toNat 0) (x := aIndexAddr Try.prog 66 hd_Arcs (.int .i64 i5)) (by kernel_rfl) (u543.idxb (by kernel_rfl) g541 h537) ?_
               refine s_ql (.agg #[.int .i64 ((gt Arcs i5).1), .int .i64 ((gt Arcs i5).2.1), .int .i64 ((gt Arcs i5).2.2)]) (x := aLoad Try.prog 73 (elp hd_Arcs 3 i5.toNat 0) H526) (by kernel_rfl) (u543.ld g541 h537 (by kernel_rfl)) ?_
               refine s_rwk e527.wf [.int .i64 0, .int .i64 0, .int .i64 0] (by kernel_rfl) fun b544 H545 e546 hb547 r548 => ?_
               obtain ⟨H550, q551, e552, r553⟩ := Row.store (P := Try.prog) (t := 73) (p := 0) e546.wf r548 (.agg #[.int .i64 ((gt Arcs i5).1), .int .i64 ((gt Arcs i5).2.1), .int .i64 ((gt Arcs i5).2.2)]) [.int .i64 ((gt Arcs i5).1), .int .i64 ((gt Arcs i5).2.1), .int .i64 ((gt Arcs i5).2.2)] (by kernel_rfl) (by kernel_rfl) (one_cons (rfl) (one_cons (rfl) (one_cons (rfl) (one_nil)))) (Nat.le_of_ble_eq_true (by kernel_rfl)) [.int .i64 ((gt Arcs i5).1), .int .i64 ((gt Arcs i5).2.1), .int .i64 ((gt Arcs i5).2.2)] (by kernel_rfl)
               refine s_ek (undef) (by kernel_rfl) (map_ok q551) ?_
               refine s_nil ?_
               refine k540 _ _ ?_
               refine w_draw [0, 1, 2, 3, 4, 5, 6, 7, 8, 9, 10, 11, 12, 13, 14, 15, 16, 17, 18, 19, 20, 21, 22, 23, 24, 25, 26, 27, 28, 29, 30, 31, 32, 33, 34, 35, 36, 37, 38, 39, 40, 41, 42, 43, 44, 45, 46] (by kernel_rfl) ?_
               refine d_qk (.bool last4) (by kernel_rfl) ?_
               refine d_qk (.bool last4) (by kernel_rfl) ?_
               by_cases h554 : last4 = true
               ·have r555 := ite_t h554 r542
                rw [h554]
                refine d_idle (by kernel_rfl) ?_
                refine d_idle (by kernel_rfl) ?_
                refine d_idle (by kernel_rfl) ?_
                refine d_idle (by kernel_rfl) ?_
                refine d_idle (by kernel_rfl) ?_
                refine d_idle (by kernel_rfl) ?_
                refine d_idle (by kernel_rfl) ?_
                refine d_idle (by kernel_rfl) ?_
                refine d_idle (by kernel_rfl) ?_
                refine d_idle (by kernel_rfl) ?_
                refine d_idle (by kernel_rfl) ?_
                refine d_idle (by kernel_rfl) ?_
                refine d_idle (by kernel_rfl) ?_
                refine d_idle (by kernel_rfl) ?_
                refine d_idle (by kernel_rfl) ?_
                refine d_idle (by kernel_rfl) ?_
                refine d_idle (by kernel_rfl) ?_
                refine d_idle (by kernel_rfl) ?_
                refine d_idle (by kernel_rfl) ?_
                refine d_idle (by kernel_rfl) ?_
                refine d_idle (by kernel_rfl) ?_
                refine d_idle (by kernel_rfl) ?_
                refine d_idle (by kernel_rfl) ?_
                refine d_idle (by kernel_rfl) ?_
                refine d_idle (by kernel_rfl) ?_
                refine d_idle (by kernel_rfl) ?_
                refine d_idle (by kernel_rfl) ?_
                refine d_idle (by kernel_rfl) ?_
                refine d_idle (by kernel_rfl) ?_
                refine d_idle (by kernel_rfl) ?_
                refine d_idle (by kernel_rfl) ?_
                refine d_idle (by kernel_rfl) ?_
                refine d_idle (by kernel_rfl) ?_
                refine d_idle (by kernel_rfl) ?_
                refine d_idle (by kernel_rfl) ?_
                refine d_idle (by kernel_rfl) ?_
                refine d_idle (by kernel_rfl) ?_
                refine d_idle (by kernel_rfl) ?_
                refine d_idle (by kernel_rfl) ?_
                refine d_idle (by kernel_rfl) ?_
                refine d_idle (by kernel_rfl) ?_
                refine d_idle (by kernel_rfl) ?_
                refine d_idle (by kernel_rfl) ?_
                refine d_qk (.bool true) (by kernel_rfl) ?_
                refine d_qk (.bool true) (by kernel_rfl) ?_
                refine d_nil ?_
                refine k539 _ _ ?_
                refine w_reg (by kernel_rfl) ?_
                obtain ⟨g556, r557⟩ := G_some r555
                refine s_w ((i5 + 1)) (k := .i64) (x := (i5 + 1)) (by kernel_rfl) (wrap64 (by have := g556; omega)) ?_
                refine s_qk (.int .i64 (i5 + 1)) (by kernel_rfl) ?_
                refine s_nil ?_
                obtain rfl := Option.some.inj r557
                exact k534 n530 _ _ (Nat.lt_succ_self _) ⟨true, (i5 + 1), hn533, ⟨by kernel_rfl, by kernel_rfl, by kernel_rfl, by kernel_rfl, by kernel_rfl, by kernel_rfl, by kernel_rfl, by kernel_rfl, by kernel_rfl, by kernel_rfl, by kernel_rfl, by kernel_rfl, trivial⟩, (FrS.step e324.wf ((FrS.step e324.wf (FrS.refl (W := []) e324.wf) e527 Inn.nil).extR e546) e552 (hb547.fresh e527.next))⟩
               ·have r558 := ite_f h554 r542
                rw [nb h554]
                refine d_qk (.pointer (some ⟨b544, 1, none⟩)) (by kernel_rfl) ?_
                refine d_ql (.int .i64 ((gt Arcs i5).2.1)) (x := aLoad Try.prog 3 (.pointer (some ⟨b544, 1, none⟩)) H550) (by kernel_rfl) (r553.ld (by kernel_rfl)) ?_
                refine d_qk (.int .i64 i3) (by kernel_rfl) ?_
                refine d_b (((gt Arcs i5).2.1) = i3) (by kernel_rfl) (fun h559 => ?_) (fun h559 => ?_)
                ·have r560 := ite_t h559 r558
                 refine d_qk (.bool true) (by kernel_rfl) ?_
                 refine d_qk (.pointer (some ⟨b544, 0, none⟩)) (by kernel_rfl) ?_
                 refine d_ql (.int .i64 ((gt Arcs i5).1)) (x := aLoad Try.prog 3 (.pointer (some ⟨b544, 0, none⟩)) H550) (by kernel_rfl) (r553.ld (by kernel_rfl)) ?_
                 refine d_qk (.int .i64 i3) (by kernel_rfl) ?_
                 refine d_bn (((gt Arcs i5).1) = i3) (by kernel_rfl) (fun h561 => ?_) (fun h561 => ?_)
                 ·have r562 := ite_t h561 r560
                  refine d_qk (.bool false) (by kernel_rfl) ?_
                  refine d_qk (.bool false) (by kernel_rfl) ?_
                  refine d_idle (by kernel_rfl) ?_
                  refine d_idle (by kernel_rfl) ?_
                  refine d_idle (by kernel_rfl) ?_
                  refine d_idle (by kernel_rfl) ?_
                  refine d_idle (by kernel_rfl) ?_
                  refine d_idle (by kernel_rfl) ?_
                  refine d_idle (by kernel_rfl) ?_
                  refine d_idle (by kernel_rfl) ?_
                  refine d_idle (by kernel_rfl) ?_
                  refine d_qk (.bool false) (by kernel_rfl) ?_
                  refine d_qk (.bool false) (by kernel_rfl) ?_
                  refine d_idle (by kernel_rfl) ?_
                  refine d_idle (by kernel_rfl) ?_
                  refine d_idle (by kernel_rfl) ?_
                  refine d_idle (by kernel_rfl) ?_
                  refine d_idle (by kernel_rfl) ?_
                  refine d_idle (by kernel_rfl) ?_
                  refine d_idle (by kernel_rfl) ?_
                  refine d_idle (by kernel_rfl) ?_
                  refine d_idle (by kernel_rfl) ?_
                  refine d_idle (by kernel_rfl) ?_
                  refine d_idle (by kernel_rfl) ?_
                  refine d_idle (by kernel_rfl) ?_
                  refine d_idle (by kernel_rfl) ?_
                  refine d_idle (by kernel_rfl) ?_
                  refine d_idle (by kernel_rfl) ?_
                  refine d_idle (by kernel_rfl) ?_
                  refine d_idle (by kernel_rfl) ?_
                  refine d_idle (by kernel_rfl) ?_
                  refine d_idle (by kernel_rfl) ?_
                  refine d_idle (by kernel_rfl) ?_
                  refine d_qk (.bool false) (by kernel_rfl) ?_
                  refine d_qk (.bool false) (by kernel_rfl) ?_
                  refine d_qk (.bool false) (by kernel_rfl) ?_
                  refine d_nil ?_
                  refine k539 _ _ ?_
                  refine w_reg (by kernel_rfl) ?_
                  obtain ⟨g563, r564⟩ := G_some r562
                  refine s_w ((i5 + 1)) (k := .i64) (x := (i5 + 1)) (by kernel_rfl) (wrap64 (by have := g563; omega)) ?_
                  refine s_qk (.int .i64 (i5 + 1)) (by kernel_rfl) ?_
                  refine s_nil ?_
                  obtain rfl := Option.some.inj r564
                  exact k534 n530 _ _ (Nat.lt_succ_self _) ⟨false, (i5 + 1), hn533, ⟨by kernel_rfl, by kernel_rfl, by kernel_rfl, by kernel_rfl, by kernel_rfl, by kernel_rfl, by kernel_rfl, by kernel_rfl, by kernel_rfl, by kernel_rfl, by kernel_rfl, by kernel_rfl, trivial⟩, (FrS.step e324.wf ((FrS.step e324.wf (FrS.refl (W := []) e324.wf) e527 Inn.nil).extR e546) e552 (hb547.fresh e527.next))⟩
                 ·have r565 := ite_f h561 r560
                  refine d_qk (.bool true) (by kernel_rfl) ?_
                  refine d_qk (.bool true) (by kernel_rfl) ?_
                  refine d_qk (.slice a98 n99 c100) (by kernel_rfl) ?_
                  refine d_qk (.int .i64 i6) (by kernel_rfl) ?_
                  obtain ⟨g566, r567⟩ := G_some r565
                  have u568 := (((u340.fr e527 Dj.nil_l).ext e546).fr e552 (hb547.djn (m91.lt.le (ntr (ntr (ntr e216.next e297.next) e324.next) e527.next))))
                  refine d_ql (elp (.slice a98 n99 c100) 1 i6.toNat 0) (x := aIndexAddr Try.prog 48 (.slice a98 n99 c100) (.int .i64 i6)) (by kernel_rfl) (u568.idxb (by kernel_rfl) g566 h307) ?_
                  obtain ⟨cs569, f570, hk571, hs572, hl573, hq574⟩ := u568.kid g566 h307
                  obtain ⟨s575, rfl, ho577⟩ := cr_sl_open hk571
                  have kd578 : KdS (encI .u64) 1 H550 s575 (gt y82.1 i6) f86 (.slice a98 n99 c100) 1 i6.toNat 0 := ⟨ho577.sq.up hs572 u568.lt, hq574 0 _ rfl (by decide)⟩
                  obtain ⟨a579, n580, c581, rfl⟩ := kd578.sq.form
                  refine d_ql (.slice a579 n580 c581) (x := aLoad Try.prog 45 (elp (.slice a98 n99 c100) 1 i6.toNat 0) H550) (by kernel_rfl) (hl573 _ _ _ _ (by kernel_rfl)) ?_
                  refine d_qk (.pointer (some ⟨b544, 0, none⟩)) (by kernel_rfl) ?_
                  refine d_ql (.int .i64 ((gt Arcs i5).1)) (x := aLoad Try.prog 3 (.pointer (some ⟨b544, 0, none⟩)) H550) (by kernel_rfl) (r553.ld (by kernel_rfl)) ?_
                  obtain ⟨g583, r584⟩ := G_some r567
                  refine d_ql (elp (.slice a579 n580 c581) 1 ((gt Arcs i5).1).toNat 0) (x := aIndexAddr Try.prog 45 (.slice a579 n580 c581) (.int .i64 ((gt Arcs i5).1))) (by kernel_rfl) (kd578.sq.idxb (by kernel_rfl) g583.1 g583.2) ?_
                  refine d_ql (.int .u64 (gt (gt y82.1 i6) ((gt Arcs i5).1))) (x := aLoad Try.prog 29 (elp (.slice a579 n580 c581) 1 ((gt Arcs i5).1).toNat 0) H550) (by kernel_rfl) (kd578.sq.ld g583.1 g583.2 (by kernel_rfl)) ?_
                  refine d_bn ((gt (gt y82.1 i6) ((gt Arcs i5).1)) = 18446744073709551615) (by kernel_rfl) (fun h585 => ?_) (fun h585 => ?_)
                  ·have r586 := ite_t h585 r584
                   refine d_qk (.bool false) (by kernel_rfl) ?_
                   refine d_qk (.bool false) (by kernel_rfl) ?_
                   refine d_idle (by kernel_rfl) ?_
                   refine d_idle (by kernel_rfl) ?_
                   refine d_idle (by kernel_rfl) ?_
                   refine d_idle (by kernel_rfl) ?_
                   refine d_idle (by kernel_rfl) ?_
                   refine d_idle (by kernel_rfl) ?_
                   refine d_idle (by kernel_rfl) ?_
                   refine d_idle (by kernel_rfl) ?_
                   refine d_idle (by kernel_rfl) ?_
                   refine d_idle (by kernel_rfl) ?_
                   refine d_idle (by kernel_rfl) ?_
                   refine d_idle (by kernel_rfl) ?_
                   refine d_idle (by kernel_rfl) ?_
                   refine d_idle (by kernel_rfl) ?_
                   refine d_idle (by kernel_rfl) ?_
                   refine d_idle (by kernel_rfl) ?_
                   refine d_idle (by kernel_rfl) ?_
                   refine d_idle (by kernel_rfl) ?_
                   refine d_idle (by kernel_rfl) ?_
                   refine d_idle (by kernel_rfl) ?_
                   refine d_qk (.bool false) (by kernel_rfl) ?_
                   refine d_qk (.bool false) (by kernel_rfl) ?_
                   refine d_qk (.bool false) (by kernel_rfl) ?_
                   refine d_nil ?_
                   refine k539 _ _ ?_
                   refine w_reg (by kernel_rfl) ?_
                   obtain ⟨g587, r588⟩ := G_some r586
                   refine s_w ((i5 + 1)) (k := .i64) (x := (i5 + 1)) (by kernel_rfl) (wrap64 (by have := g587; omega)) ?_
                   refine s_qk (.int .i64 (i5 + 1)) (by kernel_rfl) ?_
                   refine s_nil ?_
                   obtain rfl := Option.some.inj r588
                   exact k534 n530 _ _ (Nat.lt_succ_self _) ⟨false, (i5 + 1), hn533, ⟨by kernel_rfl, by kernel_rfl, by kernel_rfl, by kernel_rfl, by kernel_rfl, by kernel_rfl, by kernel_rfl, by kernel_rfl, by kernel_rfl, by kernel_rfl, by kernel_rfl, by kernel_rfl, trivial⟩, (FrS.step e324.wf ((FrS.step e324.wf (FrS.refl (W := []) e324.wf) e527 Inn.nil).extR e546) e552 (hb547.fresh e527.next))⟩
                  ·have r589 := ite_f h585 r584
                   refine d_qk (.bool true) (by kernel_rfl) ?_
                   refine d_qk (.bool true) (by kernel_rfl) ?_
                   refine d_qk (.slice a98 n99 c100) (by kernel_rfl) ?_
                   refine d_qk (.int .i64 i6) (by kernel_rfl) ?_
                   refine d_ql (elp (.slice a98 n99 c100) 1 i6.toNat 0) (x := aIndexAddr Try.prog 48 (.slice a98 n99 c100) (.int .i64 i6)) (by kernel_rfl) (u568.idxb (by kernel_rfl) g566 h307) ?_
                   obtain ⟨cs590, f591, hk592, hs593, hl594, hq595⟩ := u568.kid g566 h307
                   obtain ⟨s596, rfl, ho598⟩ := cr_sl_open hk592
                   have kd599 : KdS (encI .u64) 1 H550 s596 (gt y82.1 i6) f86 (.slice a98 n99 c100) 1 i6.toNat 0 := ⟨ho598.sq.up hs593 u568.lt, hq595 0 _ rfl (by decide)⟩
                   obtain ⟨a600, n601, c602, rfl⟩ := kd599.sq.form
                   refine d_ql (.slice a600 n601 c602) (x := aLoad Try.prog 45 (elp (.slice a98 n99 c100) 1 i6.toNat 0) H550) (by kernel_rfl) (hl594 _ _ _ _ (by kernel_rfl)) ?_
                   refine d_qk (.pointer (some ⟨b544, 0, none⟩)) (by kernel_rfl) ?_
                   refine d_ql (.int .i64 ((gt Arcs i5).1)) (x := aLoad Try.prog 3 (.pointer (some ⟨b544, 0, none⟩)) H550) (by kernel_rfl) (r553.ld (by kernel_rfl)) ?_
                   refine d_ql (elp (.slice a600 n601 c602) 1 ((gt Arcs i5).1).toNat 0) (x := aIndexAddr Try.prog 45 (.slice a600 n601 c602) (.int .i64 ((gt Arcs i5).1))) (by kernel_rfl) (kd599.sq.idxb (by kernel_rfl) g583.1 g583.2) ?_
                   refine d_ql (.int .u64 (gt (gt y82.1 i6) ((gt Arcs i5).1))) (x := aLoad Try.prog 29 (elp (.slice a600 n601 c602) 1 ((gt Arcs i5).1).toNat 0) H550) (by kernel_rfl) (kd599.sq.ld g583.1 g583.2 (by kernel_rfl)) ?_
                   refine d_qk (.pointer (some ⟨b544, 2, none⟩)) (by kernel_rfl) ?_
                   refine d_ql (.int .i64 ((gt Arcs i5).2.2)) (x := aLoad Try.prog 3 (.pointer (some ⟨b544, 2, none⟩)) H550) (by kernel_rfl) (r553.ld (by kernel_rfl)) ?_
                   obtain ⟨g604, r605⟩ := G_some r589
                   refine d_w ((gt Arcs i5).2.2) (k := .u64) (x := (gt Arcs i5).2.2) (by kernel_rfl) (wrapu64 g604) ?_
                   obtain ⟨g606, r607⟩ := G_some r605
                   refine d_w (((gt (gt y82.1 i6) ((gt Arcs i5).1)) + ((gt Arcs i5).2.2))) (k := .u64) (x := ((gt (gt y82.1 i6) ((gt Arcs i5).1)) + ((gt Arcs i5).2.2))) (by kernel_rfl) (wrapu64 g606) ?_
                   refine d_qk (.slice a98 n99 c100) (by kernel_rfl) ?_
                   refine d_qk (.int .i64 i6) (by kernel_rfl) ?_
                   refine d_ql (elp (.slice a98 n99 c100) 1 i6.toNat 0) (x := aIndexAddr Try.prog 48 (.slice a98 n99 c100) (.int .i64 i6)) (by kernel_rfl) (u568.idxb (by kernel_rfl) g566 h307) ?_
                   obtain ⟨cs608, f609, hk610, hs611, hl612, hq613⟩ := u568.kid g566 h307
                   obtain ⟨s614, rfl, ho616⟩ := cr_sl_open hk610
                   have kd617 : KdS (encI .u64) 1 H550 s614 (gt y82.1 i6) f86 (.slice a98 n99 c100) 1 i6.toNat 0 := ⟨ho616.sq.up hs611 u568.lt, hq613 0 _ rfl (by decide)⟩
                   obtain ⟨a618, n619, c620, rfl⟩ := kd617.sq.form
                   refine d_ql (.slice a618 n619 c620) (x := aLoad Try.prog 45 (elp (.slice a98 n99 c100) 1 i6.toNat 0) H550) (by kernel_rfl) (hl612 _ _ _ _ (by kernel_rfl)) ?_
                   refine d_qk (.int .i64 i3) (by kernel_rfl) ?_
                   obtain ⟨g622, r623⟩ := G_some r607
                   refine d_ql (elp (.slice a618 n619 c620) 1 i3.toNat 0) (x := aIndexAddr Try.prog 45 (.slice a618 n619 c620) (.int .i64 i3)) (by kernel_rfl) (kd617.sq.idxb (by kernel_rfl) g622.1 g622.2) ?_
                   refine d_ql (.int .u64 (gt (gt y82.1 i6) i3)) (x := aLoad Try.prog 29 (elp (.slice a618 n619 c620) 1 i3.toNat 0) H550) (by kernel_rfl) (kd617.sq.ld g622.1 g622.2 (by kernel_rfl)) ?_
                   refine d_b (((gt (gt y82.1 i6) ((gt Arcs i5).1)) + ((gt Arcs i5).2.2)) = (gt (gt y82.1 i6) i3)) (by kernel_rfl) (fun h624 => ?_) (fun h624 => ?_)
                   ·have r625 := ite_t h624 r623
                    refine d_qk (.bool true) (by kernel_rfl) ?_
                    refine d_qk (.bool true) (by kernel_rfl) ?_
                    refine d_qk (.bool true) (by kernel_rfl) ?_
                    refine d_nil ?_
                    refine k539 _ _ ?_
                    refine w_reg (by kernel_rfl) ?_
                    obtain ⟨g626, r627⟩ := G_some r625
                    refine s_w ((i5 + 1)) (k := .i64) (x := (i5 + 1)) (by kernel_rfl) (wrap64 (by have := g626; omega)) ?_
                    refine s_qk (.int .i64 (i5 + 1)) (by kernel_rfl) ?_
                    refine s_nil ?_
                    obtain rfl := Option.some.inj r627
                    exact k534 n530 _ _ (Nat.lt_succ_self _) ⟨true, (i5 + 1), hn533, ⟨by kernel_rfl, by kernel_rfl, by kernel_rfl, by kernel_rfl, by kernel_rfl, by kernel_rfl, by kernel_rfl, by kernel_rfl, by kernel_rfl, by kernel_rfl, by kernel_rfl, by kernel_rfl, trivial⟩, (FrS.step e324.wf ((FrS.step e324.wf (FrS.refl (W := []) e324.wf) e527 Inn.nil).extR e546) e552 (hb547.fresh e527.next))⟩
                   ·have r628 := ite_f h624 r623
                    refine d_qk (.bool false) (by kernel_rfl) ?_
                    refine d_qk (.bool false) (by kernel_rfl) ?_
                    refine d_qk (.bool false) (by kernel_rfl) ?_
                    refine d_nil ?_
                    refine k539 _ _ ?_
                    refine w_reg (by kernel_rfl) ?_
                    obtain ⟨g629, r630⟩ := G_some r628
                    refine s_w ((i5 + 1)) (k := .i64) (x := (i5 + 1)) (by kernel_rfl) (wrap64 (by have := g629; omega)) ?_
                    refine s_qk (.int .i64 (i5 + 1)) (by kernel_rfl) ?_
                    refine s_nil ?_
                    obtain rfl := Option.some.inj r630
                    exact k534 n530 _ _ (Nat.lt_succ_self _) ⟨false, (i5 + 1), hn533, ⟨by kernel_rfl, by kernel_rfl, by kernel_rfl, by kernel_rfl, by kernel_rfl, by kernel_rfl, by kernel_rfl, by kernel_rfl, by kernel_rfl, by kernel_rfl, by kernel_rfl, by kernel_rfl, trivial⟩, (FrS.step e324.wf ((FrS.step e324.wf (FrS.refl (W := []) e324.wf) e527 Inn.nil).extR e546) e552 (hb547.fresh e527.next))⟩
                ·have r631 := ite_f h559 r558
                 refine d_qk (.bool false) (by kernel_rfl) ?_
                 refine d_idle (by kernel_rfl) ?_
                 refine d_idle (by kernel_rfl) ?_
                 refine d_idle (by kernel_rfl) ?_
                 refine d_idle (by kernel_rfl) ?_
                 refine d_qk (.bool false) (by kernel_rfl) ?_
                 refine d_qk (.bool false) (by kernel_rfl) ?_
                 refine d_idle (by kernel_rfl) ?_
                 refine d_idle (by kernel_rfl) ?_
                 refine d_idle (by kernel_rfl) ?_
                 refine d_idle (by kernel_rfl) ?_
                 refine d_idle (by kernel_rfl) ?_
                 refine d_idle (by kernel_rfl) ?_
                 refine d_idle (by kernel_rfl) ?_
                 refine d_idle (by kernel_rfl) ?_
                 refine d_idle (by kernel_rfl) ?_
                 refine d_qk (.bool false) (by kernel_rfl) ?_
                 refine d_qk (.bool false) (by kernel_rfl) ?_
                 refine d_idle (by kernel_rfl) ?_
                 refine d_idle (by kernel_rfl) ?_
                 refine d_idle (by kernel_rfl) ?_
                 refine d_idle (by kernel_rfl) ?_
                 refine d_idle (by kernel_rfl) ?_
                 refine d_idle (by kernel_rfl) ?_
                 refine d_idle (by kernel_rfl) ?_
                 refine d_idle (by kernel_rfl) ?_
                 refine d_idle (by kernel_rfl) ?_
                 refine d_idle (by kernel_rfl) ?_
                 refine d_idle (by kernel_rfl) ?_
                 refine d_idle (by kernel_rfl) ?_
                 refine d_idle (by kernel_rfl) ?_
                 refine d_idle (by kernel_rfl) ?_
                 refine d_idle (by kernel_rfl) ?_
                 refine d_idle (by kernel_rfl) ?_
                 refine d_idle (by kernel_rfl) ?_
                 refine d_idle (by kernel_rfl) ?_
                 refine d_idle (by kernel_rfl) ?_
                 refine d_idle (by kernel_rfl) ?_
                 refine d_qk (.bool false) (by kernel_rfl) ?_
                 refine d_qk (.bool false) (by kernel_rfl) ?_
                 refine d_qk (.bool false) (by kernel_rfl) ?_
                 refine d_nil ?_
                 refine k539 _ _ ?_
                 refine w_reg (by kernel_rfl) ?_
                 obtain ⟨g632, r633⟩ := G_some r631
                 refine s_w ((i5 + 1)) (k := .i64) (x := (i5 + 1)) (by kernel_rfl) (wrap64 (by have := g632; omega)) ?_
                 refine s_qk (.int .i64 (i5 + 1)) (by kernel_rfl) ?_
                 refine s_nil ?_
                 obtain rfl := Option.some.inj r633
                 exact k534 n530 _ _ (Nat.lt_succ_self _) ⟨false, (i5 + 1), hn533, ⟨by kernel_rfl, by kernel_rfl, by kernel_rfl, by kernel_rfl, by kernel_rfl, by kernel_rfl, by kernel_rfl, by kernel_rfl, by kernel_rfl, by kernel_rfl, by kernel_rfl, by kernel_rfl, trivial⟩, (FrS.step e324.wf ((FrS.step e324.wf (FrS.refl (W := []) e324.wf) e527 Inn.nil).extR e546) e552 (hb547.fresh e527.next))⟩
              ·have r634 := ite_f h537 hz532
               refine w_exit (th_exit (th_exit (bl_eq ?_)))
               obtain rfl := Option.some.inj r634
               obtain rfl := it_inr hn533
               exact k522 _ _ ⟨⟨by kernel_rfl, by kernel_rfl, by kernel_rfl, by kernel_rfl, by kernel_rfl, by kernel_rfl, by kernel_rfl, by kernel_rfl, trivial⟩, (FrS.step e324.wf (FrS.refl (W := []) e324.wf) e527 Inn.nil)⟩
             ·obtain ⟨hh523, e521⟩ := hM
              obtain ⟨β, rfl⟩ := has_ex hh523
              clear hh523
              refine k513 _ _ ?_
              refine w_seqk fun K635 k635 => ?_
              refine w_reg (by kernel_rfl) ?_
              refine s_qk (.bool o517) (by kernel_rfl) ?_
              refine s_qk (.bool (!o517)) (by kernel_rfl) ?_
              refine s_nil ?_
              refine k635 _ _ ?_
              refine w_cond ((!o517)) (by kernel_rfl) rfl (fun h636 => ?_) (fun h636 => ?_)
              ·have r637 := ite_t h636 r519
               refine w_seqk fun K638 k638 => ?_
               refine w_reg (by kernel_rfl) ?_
               refine s_qk (.bool false) (by kernel_rfl) ?_
               refine s_nil ?_
               refine k638 _ _ ?_
               refine w_ret (bl_ret (th_ret (th_ret (bl_ret (th_ret (bl_ret (th_ret (th_ret (bl_ret (th_ret (th_ret ?_)))))))))))
               obtain ⟨v639, hv640, hz641⟩ := map_some r637
               subst hz641
               obtain rfl := it_inr hn330
               have hq642 := elim_inl r315
               rw [hq642] at hv640
               obtain ⟨v643, hv644, hz645⟩ := map_some hv640
               subst hz645
               obtain rfl := it_inr hn303
               have hq646 := elim_inl r288
               rw [hq646] at hv644
               refine b_ret (fn := Try.f6) (vs := [.bool false]) (aRes_tmp (by kernel_rfl) (rfl)) ?_
               obtain rfl := Option.some.inj hv644
               exact ⟨rfl, (FrS.step wf (FrS.step wf (FrS.step wf (FrS.step wf (FrS.step wf (FrS.step wf ((FrS.step wf (FrS.step wf ((FrS.refl (W := []) wf).extR e4) e17 Inn.nil) e37 Inn.nil).extR e67) e73 (hb68.fresh (ntr (ntr e4.next e17.next) e37.next))) e90 Inn.nil) e216 Inn.nil) e297 Inn.nil) e324 Inn.nil) e521 Inn.nil)⟩
              ·have r647 := ite_bf h636 r519
               refine w_skip ?_
               refine k336 _ _ ?_
               refine w_reg (by kernel_rfl) ?_
               obtain ⟨g648, r649⟩ := G_some r647
               refine s_w ((i3 + 1)) (k := .i64) (x := (i3 + 1)) (by kernel_rfl) (wrap64 g648) ?_
               refine s_qk (.int .i64 (i3 + 1)) (by kernel_rfl) ?_
               refine s_nil ?_
               obtain rfl := Option.some.inj r649
               exact k331 n327 _ _ (Nat.lt_succ_self _) ⟨(i3 + 1), hn330, ⟨by kernel_rfl, by kernel_rfl, by kernel_rfl, by kernel_rfl, by kernel_rfl, by kernel_rfl, by kernel_rfl, trivial⟩, (FrS.step e297.wf (FrS.step e297.wf (FrS.refl (W := []) e297.wf) e324 Inn.nil) e521 Inn.nil)⟩
         ·have r650 := ite_f h334 hz329
          refine w_exit (th_exit (th_exit (bl_eq ?_)))
          obtain rfl := Option.some.inj r650
          obtain rfl := it_inr hn330
          exact k319 _ _ ⟨_, rfl, ⟨by kernel_rfl, by kernel_rfl, by kernel_rfl, by kernel_rfl, trivial⟩, (FrS.step e297.wf (FrS.refl (W := []) e297.wf) e324 Inn.nil)⟩
        ·obtain ⟨o313, rfl, hh320, e318⟩ := hM
         have r651 := elim_inr r315
         obtain ⟨β, rfl⟩ := has_ex hh320
         clear hh320
         refine k309 _ _ ?_
         refine w_reg (by kernel_rfl) ?_
         obtain ⟨g652, r653⟩ := G_some r651
         refine s_w ((i6 + 1)) (k := .i64) (x := (i6 + 1)) (by kernel_rfl) (wrap64 g652) ?_
         refine s_qk (.int .i64 (i6 + 1)) (by kernel_rfl) ?_
         refine s_nil ?_
         obtain rfl := Option.some.inj r653
         exact k304 n300 _ _ (Nat.lt_succ_self _) ⟨(i6 + 1), hn303, ⟨by kernel_rfl, by kernel_rfl, by kernel_rfl, by kernel_rfl, trivial⟩, (FrS.step e216.wf (FrS.step e216.wf (FrS.refl (W := []) e216.wf) e297 Inn.nil) e318 Inn.nil)⟩
       ·have r654 := ite_f h307 hz302
        refine w_exit (th_exit (th_exit (bl_eq ?_)))
        obtain rfl := Option.some.inj r654
        obtain rfl := it_inr hn303
        exact k292 _ _ ⟨_, rfl, trivial, (FrS.step e216.wf (FrS.refl (W := []) e216.wf) e297 Inn.nil)⟩
      ·obtain ⟨o286, rfl, hh293, e291⟩ := hM
       have r655 := elim_inr r288
       obtain ⟨β, rfl⟩ := has_ex hh293
       clear hh293
       refine k283 _ _ ?_
       refine w_seqk fun K656 k656 => ?_
       refine w_reg (by kernel_rfl) ?_
       refine s_qk (.bool true) (by kernel_rfl) ?_
       refine s_nil ?_
       refine k656 _ _ ?_
       refine w_ret ?_
       refine b_ret (fn := Try.f6) (vs := [.bool true]) (aRes_tmp (by kernel_rfl) (rfl)) ?_
       obtain rfl := Option.some.inj r655
       exact ⟨rfl, (FrS.step wf (FrS.step wf (FrS.step wf (FrS.step wf ((FrS.step wf (FrS.step wf ((FrS.refl (W := []) wf).extR e4) e17 Inn.nil) e37 Inn.nil).extR e67) e73 (hb68.fresh (ntr (ntr e4.next e17.next) e37.next))) e90 Inn.nil) e216 Inn.nil) e291 Inn.nil)⟩


end Go.Vd
