/- The walks of the functions (printed by a program of ours). -/
import Derived.Test.YtbjamignglibpaaDoorPkl2
import Derived.Test.YtbjamignglibpaaDoorIWn
/-! (KWn3) -/

set_option maxRecDepth 100000
set_option maxHeartbeats 4000000
set_option linter.unusedVariables false
namespace Go.Vd
open Go.Proofs
attribute [local irreducible] wpSeq wpOrd aWp
theorem c_stamp_Stamp_Set_1 {H : AH} {b_s : Nat} {hd_s_ : Value} {fp_s_ : Fp} {s_ : List (Int × Int)} {s_2 : Int} {s_3 : Int} {i : Int} {v_ : Int} {r : Er × List (Int × Int) × Int}
  (wf : WF H) (h_s_ : Ow enc_u64_u32 2 H hd_s_ s_ fp_s_) (h_s : Row H b_s [hd_s_, .int .u32 s_2, .int .i64 s_3]) (dj_b_s_fp_s_ : Dj [b_s] fp_s_) (hr : z_stamp_Stamp_Set_1 s_ s_2 s_3 i v_ = some r) :
  ACalls Tryd.prog 89 #[.pointer (some ⟨b_s, 0, none⟩), .int .i64 i, .int .u64 v_] H fun v H' => ∃ (v3 : Value) (f4 : Fp), v = v3 ∧ FrS ([b_s] ++ fp_s_) H H' ∧ Ev 80 86 H' v3 r.1 f4 ∧ Ow enc_u64_u32 2 H' hd_s_ r.2.1 fp_s_ ∧ Row H' b_s [hd_s_, .int .u32 s_2, .int .i64 r.2.2] ∧ Inn [] H f4 := by
 refine acalls_of_body mixed Tryd.func89 rfl (Nat.le_of_ble_eq_true rfl) ?_
 unfold z_stamp_Stamp_Set_1 at hr
 refine w_seqk fun K10 k10 => ?_
 refine w_reg (by kernel_rfl) ?_
 refine s_qk (.nilIface) (by kernel_rfl) ?_
 refine s_nil ?_
 refine k10 _ _ ?_
 refine w_seqk fun K11 k11 => ?_
 refine w_seqk fun K12 k12 => ?_
 refine w_reg (by kernel_rfl) ?_
 refine s_qk (.pointer (some ⟨b_s, 0, none⟩)) (by kernel_rfl) ?_
 refine s_qk (.bool false) (by kernel_rfl) ?_
 refine s_nil ?_
 refine k12 _ _ ?_
 refine w_cond false (by kernel_rfl) rfl (fun h => by cases h) (fun _ => ?_)
 refine w_skip ?_
 refine k11 _ _ ?_
 refine w_seqk fun K13 k13 => ?_
 refine w_seqk fun K14 k14 => ?_
 obtain ⟨o15, hx16, r17⟩ := bind_some hr
 refine w_mid (fun α H18 => Has α [(0, .pointer (some ⟨b_s, 0, none⟩)), (1, .int .i64 i), (2, .int .u64 v_), (20, .bool o15)] ∧ H = H18) (fun K20 k20 => ?_) (fun α H18 hM => ?_)
 ·refine w_reg (by kernel_rfl) ?_
  refine s_qk (.int .i64 i) (by kernel_rfl) ?_
  refine s_b (i < 0) (by kernel_rfl) (fun h22 => ?_) (fun h22 => ?_)
  ·have r23 := ite_t h22 hx16
   refine s_qk (.bool true) (by kernel_rfl) ?_
   refine s_no (by kernel_rfl) ?_
   refine s_no (by kernel_rfl) ?_
   refine s_no (by kernel_rfl) ?_
   refine s_no (by kernel_rfl) ?_
   refine s_no (by kernel_rfl) ?_
   refine s_no (by kernel_rfl) ?_
   refine s_no (by kernel_rfl) ?_
   refine s_qk (.bool true) (by kernel_rfl) ?_
   refine s_nil ?_
   obtain rfl := Option.some.inj r23
   exact k20 _ _ ⟨⟨by kernel_rfl, by kernel_rfl, by kernel_rfl, by kernel_rfl, trivial⟩, rfl⟩
  ·have r24 := ite_f h22 hx16
   refine s_qk (.bool false) (by kernel_rfl) ?_
   refine s_qk (.int .i64 i) (by kernel_rfl) ?_
   refine s_qk (.pointer (some ⟨b_s, 0, none⟩)) (by kernel_rfl) ?_
   refine s_qk (.pointer (some ⟨b_s, 0, none⟩)) (by kernel_rfl) ?_
   refine s_qk (.pointer (some ⟨b_s, 0, none⟩)) (by kernel_rfl) ?_
   refine s_ql (hd_s_) (x := aLoad Tryd.prog 165 (.pointer (some ⟨b_s, 0, none⟩)) H) (by kernel_rfl) (h_s.ld (by kernel_rfl)) ?_
   refine s_ql (.int .i64 (s_.length : Int)) (x := aLen Tryd.prog 165 hd_s_ H) (by kernel_rfl) (h_s_.sq.lenb (by kernel_rfl)) ?_
   refine s_qk (.bool (decide (i ≥ (s_.length : Int)))) (by kernel_rfl) ?_
   refine s_qk (.bool (decide (i ≥ (s_.length : Int)))) (by kernel_rfl) ?_
   refine s_nil ?_
   obtain rfl := Option.some.inj r24
   exact k20 _ _ ⟨⟨by kernel_rfl, by kernel_rfl, by kernel_rfl, by kernel_rfl, trivial⟩, rfl⟩
 ·obtain ⟨hh21, rfl⟩ := hM
  obtain ⟨β, rfl⟩ := has_ex hh21
  clear hh21
  refine k14 _ _ ?_
  refine w_cond (o15) (by kernel_rfl) rfl (fun h25 => ?_) (fun h25 => ?_)
  ·have r26 := ite_t h25 r17
   refine w_seqk fun K27 k27 => ?_
   refine w_reg (by kernel_rfl) ?_
   refine s_qk (.iface 80 (.int .i64 7)) (by kernel_rfl) ?_
   refine s_qk (.iface 80 (.int .i64 7)) (by kernel_rfl) ?_
   refine s_nil ?_
   refine k27 _ _ ?_
   refine w_ret (th_ret ?_)
   refine b_ret (fn := Tryd.f89) (vs := [.iface 80 (.int .i64 7)]) (aRes_tmp (by kernel_rfl) (rfl)) ?_
   obtain rfl := Option.some.inj r26
   exact ⟨(.iface 80 (.int .i64 7)), [], rfl, (FrS.refl (W := ([b_s] ++ fp_s_)) wf), Ev.no, h_s_, h_s, Inn.nil⟩
  ·have r28 := ite_bf h25 r17
   refine w_skip ?_
   refine k13 _ _ ?_
   refine w_seqk fun K29 k29 => ?_
   refine w_seqk fun K30 k30 => ?_
   refine w_draw [0, 1, 2, 3, 4, 5, 6, 7, 8, 9, 10, 11, 12] (by kernel_rfl) ?_
   refine d_qk (.pointer (some ⟨b_s, 0, none⟩)) (by kernel_rfl) ?_
   refine d_qk (.pointer (some ⟨b_s, 0, none⟩)) (by kernel_rfl) ?_
   refine d_qk (.pointer (some ⟨b_s, 0, none⟩)) (by kernel_rfl) ?_
   refine d_ql (hd_s_) (x := aLoad Tryd.prog 165 (.pointer (some ⟨b_s, 0, none⟩)) H) (by kernel_rfl) (h_s.ld (by kernel_rfl)) ?_
   refine d_qk (.int .i64 i) (by kernel_rfl) ?_
   obtain ⟨g31, r32⟩ := G_some r28
   refine d_ql (elp hd_s_ 2 i.toNat 0) (x := aIndexAddr Tryd.prog 165 hd_s_ (.int .i64 i)) (by kernel_rfl) (h_s_.sq.idxb (by kernel_rfl) g31.1 g31.2) ?_
   refine d_ql (elp hd_s_ 2 i.toNat 1) (x := aFieldAddr Tryd.prog 169 (elp hd_s_ 2 i.toNat 0) 1) (by kernel_rfl) (Sq.fldq (d := 1) h_s_.sq g31.1 g31.2 (by kernel_rfl)) ?_
   refine d_ql (.int .u32 ((gt s_ i).2)) (x := aLoad Tryd.prog 156 (elp hd_s_ 2 i.toNat 1) H) (by kernel_rfl) (h_s_.sq.ld g31.1 g31.2 (by kernel_rfl)) ?_
   refine d_qk (.pointer (some ⟨b_s, 0, none⟩)) (by kernel_rfl) ?_
   refine d_qk (.pointer (some ⟨b_s, 0, none⟩)) (by kernel_rfl) ?_
   refine d_qk (.pointer (some ⟨b_s, 1, none⟩)) (by kernel_rfl) ?_
   refine d_ql (.int .u32 s_2) (x := aLoad Tryd.prog 156 (.pointer (some ⟨b_s, 1, none⟩)) H) (by kernel_rfl) (h_s.ld (by kernel_rfl)) ?_
   refine d_qk (.bool (!decide (((gt s_ i).2) = s_2))) (by kernel_rfl) ?_
   refine d_nil ?_
   refine k30 _ _ ?_
   obtain ⟨o33, hx34, r35⟩ := bind_some r32
   refine w_mid (fun α H36 => Has α [(0, .pointer (some ⟨b_s, 0, none⟩)), (1, .int .i64 i), (2, .int .u64 v_)] ∧ FrS [b_s] H H36 ∧ Row H36 b_s [hd_s_, .int .u32 s_2, .int .i64 o33]) (fun K40 k40 => ?_) (fun α H36 hM => ?_)
   ·refine w_condn (((gt s_ i).2) = s_2) (by kernel_rfl) rfl (fun h42 => ?_) (fun h42 => ?_)
    ·have r43 := ite_f h42 hx34
     refine w_reg (by kernel_rfl) ?_
     refine s_qk (.pointer (some ⟨b_s, 0, none⟩)) (by kernel_rfl) ?_
     refine s_qk (.pointer (some ⟨b_s, 0, none⟩)) (by kernel_rfl) ?_
     refine s_qk (.pointer (some ⟨b_s, 2, none⟩)) (by kernel_rfl) ?_
     refine s_ql (.int .i64 s_3) (x := aLoad Tryd.prog 3 (.pointer (some ⟨b_s, 2, none⟩)) H) (by kernel_rfl) (h_s.ld (by kernel_rfl)) ?_
     obtain ⟨g44, r45⟩ := G_some r43
     refine s_w ((s_3 + 1)) (k := .i64) (x := (s_3 + 1)) (by kernel_rfl) (wrap64 g44) ?_
     refine s_qk (.pointer (some ⟨b_s, 0, none⟩)) (by kernel_rfl) ?_
     refine s_qk (.pointer (some ⟨b_s, 2, none⟩)) (by kernel_rfl) ?_
     obtain ⟨H46, q47, e48, r49⟩ := Row.store (P := Tryd.prog) (t := 3) (p := 2) wf h_s (.int .i64 (s_3 + 1)) [.int .i64 (s_3 + 1)] (by kernel_rfl) (by kernel_rfl) (one_cons (rfl) (one_nil)) (Nat.le_of_ble_eq_true (by kernel_rfl)) [hd_s_, .int .u32 s_2, .int .i64 (s_3 + 1)] (by kernel_rfl)
     refine s_ek (undef) (by kernel_rfl) (map_ok q47) ?_
     refine s_nil ?_
     obtain rfl := Option.some.inj r45
     exact k40 _ _ ⟨⟨by kernel_rfl, by kernel_rfl, by kernel_rfl, trivial⟩, (FrS.step wf (FrS.refl (W := [b_s]) wf) e48 Inn.refl'), r49⟩
    ·have r50 := ite_t h42 hx34
     refine w_skip ?_
     obtain rfl := Option.some.inj r50
     exact k40 _ _ ⟨⟨by kernel_rfl, by kernel_rfl, by kernel_rfl, trivial⟩, (FrS.refl (W := [b_s]) wf), h_s⟩
   ·obtain ⟨hh41, e37, m39⟩ := hM
    obtain ⟨β, rfl⟩ := has_ex hh41
    clear hh41
    refine k29 _ _ ?_
    refine w_seqk fun K51 k51 => ?_
    refine w_draw [0, 1, 2, 3, 4, 5, 6, 7, 8, 9, 10, 11, 12] (by kernel_rfl) ?_
    refine d_qk (.pointer (some ⟨b_s, 0, none⟩)) (by kernel_rfl) ?_
    refine d_qk (.pointer (some ⟨b_s, 0, none⟩)) (by kernel_rfl) ?_
    refine d_qk (.pointer (some ⟨b_s, 0, none⟩)) (by kernel_rfl) ?_
    refine d_ql (hd_s_) (x := aLoad Tryd.prog 165 (.pointer (some ⟨b_s, 0, none⟩)) H36) (by kernel_rfl) (m39.ld (by kernel_rfl)) ?_
    refine d_qk (.int .i64 i) (by kernel_rfl) ?_
    refine d_qk (.int .u64 v_) (by kernel_rfl) ?_
    refine d_qk (.pointer (some ⟨b_s, 0, none⟩)) (by kernel_rfl) ?_
    refine d_qk (.pointer (some ⟨b_s, 0, none⟩)) (by kernel_rfl) ?_
    refine d_qk (.pointer (some ⟨b_s, 1, none⟩)) (by kernel_rfl) ?_
    refine d_ql (.int .u32 s_2) (x := aLoad Tryd.prog 156 (.pointer (some ⟨b_s, 1, none⟩)) H36) (by kernel_rfl) (m39.ld (by kernel_rfl)) ?_
    refine d_qk (.agg #[.int .u64 v_, .int .u32 s_2]) (by kernel_rfl) ?_
    have u52 := (h_s_.fr e37 dj_b_s_fp_s_)
    refine d_ql (elp hd_s_ 2 i.toNat 0) (x := aIndexAddr Tryd.prog 165 hd_s_ (.int .i64 i)) (by kernel_rfl) (u52.sq.idxb (by kernel_rfl) g31.1 g31.2) ?_
    obtain ⟨H53, q54, e55, hm56⟩ := Ow.store (P := Tryd.prog) (t := 169) (off := 0) e37.wf u52 g31.1 g31.2 (.agg #[.int .u64 v_, .int .u32 s_2]) [.int .u64 v_, .int .u32 s_2] (by kernel_rfl) (by kernel_rfl) rfl (v_, s_2) (Nat.le_of_ble_eq_true rfl) (by kernel_rfl)
    refine d_ek (undef) (by kernel_rfl) (map_ok q54) (st_nil) ?_
    refine d_nil ?_
    refine k51 _ _ ?_
    refine w_seqk fun K57 k57 => ?_
    refine w_reg (by kernel_rfl) ?_
    refine s_qk (.nilIface) (by kernel_rfl) ?_
    refine s_nil ?_
    refine k57 _ _ ?_
    refine w_ret ?_
    refine b_ret (fn := Tryd.f89) (vs := [.nilIface]) (aRes_tmp (by kernel_rfl) (rfl)) ?_
    have u58 := (m39.frS e55 (Dj.symm dj_b_s_fp_s_))
    obtain rfl := Option.some.inj r35
    exact ⟨(.nilIface), [], rfl, (FrS.step wf (FrS.step wf (FrS.refl (W := ([b_s] ++ fp_s_)) wf) e37 Inn.left) e55 (Inn.right Inn.refl')), Ev.nil, hm56, u58, Inn.nil⟩

theorem c_search_state_label_1 {H : AH} {b_st : Nat} {hd_st_ : Value} {fp_st_ : Fp} {hd_st_2 : Value} {fp_st_2 : Fp} {hd_st_3 : Value} {fp_st_3 : Fp} {b_st_4 : Nat} {hd_st_5 : Value} {fp_st_5 : Fp} {hd_st_8 : Value} {fp_st_8 : Fp} {hd_st_9 : Value} {fp_st_9 : Fp} {st_ : List (Int)} {st_2 : List (Int)} {st_3 : List (Int)} {st_5 : List (Int × Int)} {st_6 : Int} {st_7 : Int} {st_8 : List (Int)} {st_9 : List (Bool)} {v_ : Int} {d : Int} {hops : Int} {r : List (Int × Int) × Int × List (Int)}
  (wf : WF H) (h_st_ : Sq (encI .i64) 1 H hd_st_ st_ fp_st_) (h_st_2 : Sq (encI .i64) 1 H hd_st_2 st_2 fp_st_2) (h_st_3 : Sq (encI .i64) 1 H hd_st_3 st_3 fp_st_3) (h_st_5 : Ow enc_u64_u32 2 H hd_st_5 st_5 fp_st_5) (h_st_4 : Row H b_st_4 [hd_st_5, .int .u32 st_6, .int .i64 st_7]) (h_st_8 : Ow (encI .i64) 1 H hd_st_8 st_8 fp_st_8) (h_st_9 : Sq encB 1 H hd_st_9 st_9 fp_st_9) (h_st : Row H b_st [hd_st_, hd_st_2, hd_st_3, .pointer none, .pointer (some ⟨b_st_4, 0, none⟩), hd_st_8, hd_st_9]) (dj_b_st_4_fp_st_5 : Dj [b_st_4] fp_st_5) (dj_fp_st_5_b_st : Dj fp_st_5 [b_st]) (dj_b_st_4_b_st : Dj [b_st_4] [b_st]) (dj_fp_st_5_fp_st_8 : Dj fp_st_5 fp_st_8) (dj_b_st_4_fp_st_8 : Dj [b_st_4] fp_st_8) (dj_fp_st_8_b_st : Dj fp_st_8 [b_st]) (hr : z_search_state_label_1 st_ st_2 st_3 st_5 st_6 st_7 st_8 st_9 v_ d hops = some r) :
  ACalls Tryd.prog 77 #[.pointer (some ⟨b_st, 0, none⟩), .int .i64 v_, .int .u64 d, .int .i64 hops] H fun v H' => v = .tuple #[] ∧ FrS ([b_st_4] ++ (fp_st_5 ++ fp_st_8)) H H' ∧ Ow enc_u64_u32 2 H' hd_st_5 r.1 fp_st_5 ∧ Row H' b_st_4 [hd_st_5, .int .u32 st_6, .int .i64 r.2.1] ∧ Ow (encI .i64) 1 H' hd_st_8 r.2.2 fp_st_8 := by
 refine acalls_of_body mixed Tryd.func77 rfl (Nat.le_of_ble_eq_true rfl) ?_
 unfold z_search_state_label_1 at hr
 refine w_seqk fun K7 k7 => ?_
 refine w_reg (by kernel_rfl) ?_
 refine s_qk (.pointer (some ⟨b_st, 0, none⟩)) (by kernel_rfl) ?_
 refine s_qk (.pointer (some ⟨b_st, 0, none⟩)) (by kernel_rfl) ?_
 refine s_qk (.pointer (some ⟨b_st, 4, none⟩)) (by kernel_rfl) ?_
 refine s_ql (.pointer (some ⟨b_st_4, 0, none⟩)) (x := aLoad Tryd.prog 103 (.pointer (some ⟨b_st, 4, none⟩)) H) (by kernel_rfl) (h_st.ld (by kernel_rfl)) ?_
 refine s_qk (.int .i64 v_) (by kernel_rfl) ?_
 refine s_qk (.int .u64 d) (by kernel_rfl) ?_
 obtain ⟨y8, hy9, r10⟩ := bind_some hr
 refine s_ck 89 #[.pointer (some ⟨b_st_4, 0, none⟩), .int .i64 v_, .int .u64 d] (by kernel_rfl) (c_stamp_Stamp_Set_1 wf h_st_5 h_st_4 dj_b_st_4_fp_st_5 hy9) ?_
 rintro v11 H13 ⟨_, f12, rfl, e14, m15, m16, m17, i18⟩
 refine s_nil ?_
 refine k7 _ _ ?_
 refine w_seqk fun K20 k20 => ?_
 refine w_reg (by kernel_rfl) ?_
 refine s_qk (.pointer (some ⟨b_st, 0, none⟩)) (by kernel_rfl) ?_
 refine s_qk (.pointer (some ⟨b_st, 0, none⟩)) (by kernel_rfl) ?_
 refine s_qk (.pointer (some ⟨b_st, 5, none⟩)) (by kernel_rfl) ?_
 have u21 := (h_st.frS e14 (Dj.app dj_b_st_4_b_st dj_fp_st_5_b_st))
 refine s_ql (hd_st_8) (x := aLoad Tryd.prog 22 (.pointer (some ⟨b_st, 5, none⟩)) H13) (by kernel_rfl) (u21.ld (by kernel_rfl)) ?_
 refine s_qk (.int .i64 v_) (by kernel_rfl) ?_
 refine s_qk (.int .i64 hops) (by kernel_rfl) ?_
 obtain ⟨g22, r23⟩ := G_some r10
 have u24 := (h_st_8.fr e14 (Dj.app dj_b_st_4_fp_st_8 dj_fp_st_5_fp_st_8))
 refine s_ql (elp hd_st_8 1 v_.toNat 0) (x := aIndexAddr Tryd.prog 22 hd_st_8 (.int .i64 v_)) (by kernel_rfl) (u24.sq.idxb (by kernel_rfl) g22.1 g22.2) ?_
 obtain ⟨H25, q26, e27, hm28⟩ := Ow.store (P := Tryd.prog) (t := 3) (off := 0) e14.wf u24 g22.1 g22.2 (.int .i64 hops) [.int .i64 hops] (by kernel_rfl) (by kernel_rfl) rfl hops (Nat.le_of_ble_eq_true rfl) (by kernel_rfl)
 refine s_ek (undef) (by kernel_rfl) (map_ok q26) ?_
 refine s_nil ?_
 refine k20 _ _ ?_
 refine w_reg (by kernel_rfl) ?_
 refine s_qk (.pointer (some ⟨b_st, 0, none⟩)) (by kernel_rfl) ?_
 refine s_qk (.pointer (some ⟨b_st, 0, none⟩)) (by kernel_rfl) ?_
 refine s_qk (.pointer (some ⟨b_st, 3, none⟩)) (by kernel_rfl) ?_
 have u29 := (u21.frS e27 dj_fp_st_8_b_st)
 refine s_ql (.pointer none) (x := aLoad Tryd.prog 102 (.pointer (some ⟨b_st, 3, none⟩)) H25) (by kernel_rfl) (u29.ld (by kernel_rfl)) ?_
 refine s_qk (.int .i64 v_) (by kernel_rfl) ?_
 obtain ⟨g30, r31⟩ := G_some r23
 refine s_w (v_) (k := .u32) (x := v_) (by kernel_rfl) (wrapu32 (by have := g30; omega)) ?_
 refine s_qk (.int .u64 d) (by kernel_rfl) ?_
 obtain ⟨y32, hy33, r34⟩ := bind_some r31
 refine s_ck 90 #[.pointer none, .int .u32 v_, .int .u64 d] (by kernel_rfl) (c_heap_Heap_Set e27.wf hy33) ?_
 rintro _ _ ⟨rfl, rfl⟩
 refine s_nil ?_
 refine b_nrm (fn := Tryd.f77) (vs := []) (rfl) ?_
 have u37 := (m16.fr e27 (Dj.symm dj_fp_st_5_fp_st_8))
 have u38 := (m17.frS e27 (Dj.symm dj_b_st_4_fp_st_8))
 obtain rfl := Option.some.inj r34
 exact ⟨rfl, (FrS.step wf (FrS.step wf (FrS.refl (W := ([b_st_4] ++ (fp_st_5 ++ fp_st_8))) wf) e14 (Inn.app Inn.left (Inn.right Inn.left))) e27 (Inn.right (Inn.right Inn.refl'))), u37, u38, hm28⟩

theorem c_heap_Heap_check_1 {H : AH} {b_h : Nat} {hd_h_ : Value} {fp_h_ : Fp} {hd_h_2 : Value} {fp_h_2 : Fp} {h_ : List (Int × Int)} {h_2 : List (Int)} {id : Int} {r : Er}
  (wf : WF H) (h_h_ : Sq enc_u64_u32 2 H hd_h_ h_ fp_h_) (h_h_2 : Sq (encI .i64) 1 H hd_h_2 h_2 fp_h_2) (h_h : Row H b_h [hd_h_, hd_h_2]) (hr : z_heap_Heap_check_1 h_ h_2 id = some r) :
  ACalls Tryd.prog 94 #[.pointer (some ⟨b_h, 0, none⟩), .int .u32 id] H fun v H' => ∃ (v3 : Value) (f4 : Fp), v = v3 ∧ H = H' ∧ Ev 80 86 H' v3 r f4 ∧ Inn [] H f4 := by
 refine acalls_of_body mixed Tryd.func94 rfl (Nat.le_of_ble_eq_true rfl) ?_
 unfold z_heap_Heap_check_1 at hr
 refine w_seqk fun K6 k6 => ?_
 refine w_reg (by kernel_rfl) ?_
 refine s_qk (.nilIface) (by kernel_rfl) ?_
 refine s_nil ?_
 refine k6 _ _ ?_
 refine w_seqk fun K7 k7 => ?_
 refine w_seqk fun K8 k8 => ?_
 refine w_reg (by kernel_rfl) ?_
 refine s_qk (.pointer (some ⟨b_h, 0, none⟩)) (by kernel_rfl) ?_
 refine s_qk (.bool false) (by kernel_rfl) ?_
 refine s_nil ?_
 refine k8 _ _ ?_
 refine w_cond false (by kernel_rfl) rfl (fun h => by cases h) (fun _ => ?_)
 refine w_skip ?_
 refine k7 _ _ ?_
 refine w_seqk fun K9 k9 => ?_
 refine w_seqk fun K10 k10 => ?_
 refine w_reg (by kernel_rfl) ?_
 refine s_qk (.int .u32 id) (by kernel_rfl) ?_
 obtain ⟨g11, r12⟩ := G_some hr
 refine s_w (id) (k := .i64) (x := id) (by kernel_rfl) (wrap64 g11) ?_
 refine s_qk (.pointer (some ⟨b_h, 0, none⟩)) (by kernel_rfl) ?_
 refine s_qk (.pointer (some ⟨b_h, 0, none⟩)) (by kernel_rfl) ?_
 refine s_qk (.pointer (some ⟨b_h, 1, none⟩)) (by kernel_rfl) ?_
 refine s_ql (hd_h_2) (x := aLoad Tryd.prog 22 (.pointer (some ⟨b_h, 1, none⟩)) H) (by kernel_rfl) (h_h.ld (by kernel_rfl)) ?_
 refine s_ql (.int .i64 (h_2.length : Int)) (x := aLen Tryd.prog 22 hd_h_2 H) (by kernel_rfl) (h_h_2.lenb (by kernel_rfl)) ?_
 refine s_qk (.bool (decide (id ≥ (h_2.length : Int)))) (by kernel_rfl) ?_
 refine s_nil ?_
 refine k10 _ _ ?_
 refine w_condp (id ≥ (h_2.length : Int)) (by kernel_rfl) rfl (fun h13 => ?_) (fun h13 => ?_)
 ·have r14 := ite_t h13 r12
  refine w_seqk fun K15 k15 => ?_
  refine w_reg (by kernel_rfl) ?_
  refine s_qk (.iface 80 (.int .i64 7)) (by kernel_rfl) ?_
  refine s_qk (.iface 80 (.int .i64 7)) (by kernel_rfl) ?_
  refine s_nil ?_
  refine k15 _ _ ?_
  refine w_ret (th_ret ?_)
  refine b_ret (fn := Tryd.f94) (vs := [.iface 80 (.int .i64 7)]) (aRes_tmp (by kernel_rfl) (rfl)) ?_
  obtain rfl := Option.some.inj r14
  exact ⟨(.iface 80 (.int .i64 7)), [], rfl, rfl, Ev.no, Inn.nil⟩
 ·have r16 := ite_f h13 r12
  refine w_skip ?_
  refine k9 _ _ ?_
  refine w_seqk fun K17 k17 => ?_
  refine w_reg (by kernel_rfl) ?_
  refine s_qk (.nilIface) (by kernel_rfl) ?_
  refine s_nil ?_
  refine k17 _ _ ?_
  refine w_ret ?_
  refine b_ret (fn := Tryd.f94) (vs := [.nilIface]) (aRes_tmp (by kernel_rfl) (rfl)) ?_
  obtain rfl := Option.some.inj r16
  exact ⟨(.nilIface), [], rfl, rfl, Ev.nil, Inn.nil⟩

theorem c_heap_Heap_put {H : AH} {b_h : Nat} {hd_h_ : Value} {fp_h_ : Fp} {hd_h_2 : Value} {fp_h_2 : Fp} {h_ : List (Int × Int)} {h_2 : List (Int)} {i : Int} {key : Int} {id : Int} {r : List (Int × Int) × List (Int)}
  (wf : WF H) (h_h_ : Ow enc_u64_u32 2 H hd_h_ h_ fp_h_) (h_h_2 : Ow (encI .i64) 1 H hd_h_2 h_2 fp_h_2) (h_h : Row H b_h [hd_h_, hd_h_2]) (dj_fp_h__b_h : Dj fp_h_ [b_h]) (dj_fp_h__fp_h_2 : Dj fp_h_ fp_h_2) (hr : z_heap_Heap_put h_ h_2 i key id = some r) :
  ACalls Tryd.prog 95 #[.pointer (some ⟨b_h, 0, none⟩), .int .i64 i, .agg #[.int .u64 key, .int .u32 id]] H fun v H' => v = .tuple #[] ∧ FrS (fp_h_ ++ fp_h_2) H H' ∧ Ow enc_u64_u32 2 H' hd_h_ r.1 fp_h_ ∧ Ow (encI .i64) 1 H' hd_h_2 r.2 fp_h_2 := by
 refine acalls_of_body mixed Tryd.func95 rfl (Nat.le_of_ble_eq_true rfl) ?_
 unfold z_heap_Heap_put at hr
 refine w_seqk fun K5 k5 => ?_
 refine w_reg (by kernel_rfl) ?_
 refine s_rwl wf [.int .u64 key, .int .u32 id] (one_cons (rfl) (one_cons (rfl) (one_nil))) (by kernel_rfl) fun b6 H7 e8 hb9 r10 => ?_
 refine s_nil ?_
 refine k5 _ _ ?_
 refine w_seqk fun K12 k12 => ?_
 refine w_draw [0, 1, 2, 3, 4, 5, 6, 7] (by kernel_rfl) ?_
 refine d_qk (.pointer (some ⟨b_h, 0, none⟩)) (by kernel_rfl) ?_
 refine d_qk (.pointer (some ⟨b_h, 0, none⟩)) (by kernel_rfl) ?_
 refine d_qk (.pointer (some ⟨b_h, 0, none⟩)) (by kernel_rfl) ?_
 have u13 := (h_h.ext e8)
 refine d_ql (hd_h_) (x := aLoad Tryd.prog 188 (.pointer (some ⟨b_h, 0, none⟩)) H7) (by kernel_rfl) (u13.ld (by kernel_rfl)) ?_
 refine d_qk (.int .i64 i) (by kernel_rfl) ?_
 refine d_ql (.agg #[.int .u64 key, .int .u32 id]) (x := aLoad Tryd.prog 194 (.pointer (some ⟨b6, 0, none⟩)) H7) (by kernel_rfl) (r10.ld (by kernel_rfl)) ?_
 obtain ⟨g14, r15⟩ := G_some hr
 have u16 := (h_h_.ext e8)
 refine d_ql (elp hd_h_ 2 i.toNat 0) (x := aIndexAddr Tryd.prog 188 hd_h_ (.int .i64 i)) (by kernel_rfl) (u16.sq.idxb (by kernel_rfl) g14.1 g14.2) ?_
 obtain ⟨H17, q18, e19, hm20⟩ := Ow.store (P := Tryd.prog) (t := 194) (off := 0) e8.wf u16 g14.1 g14.2 (.agg #[.int .u64 key, .int .u32 id]) [.int .u64 key, .int .u32 id] (by kernel_rfl) (by kernel_rfl) rfl (key, id) (Nat.le_of_ble_eq_true rfl) (by kernel_rfl)
 refine d_ek (undef) (by kernel_rfl) (map_ok q18) (st_nil) ?_
 refine d_nil ?_
 refine k12 _ _ ?_
 refine w_draw [0, 1, 2, 3, 4, 5, 6, 7, 8, 9] (by kernel_rfl) ?_
 refine d_qk (.pointer (some ⟨b_h, 0, none⟩)) (by kernel_rfl) ?_
 refine d_qk (.pointer (some ⟨b_h, 0, none⟩)) (by kernel_rfl) ?_
 refine d_qk (.pointer (some ⟨b_h, 1, none⟩)) (by kernel_rfl) ?_
 have u21 := (u13.frS e19 dj_fp_h__b_h)
 refine d_ql (hd_h_2) (x := aLoad Tryd.prog 22 (.pointer (some ⟨b_h, 1, none⟩)) H17) (by kernel_rfl) (u21.ld (by kernel_rfl)) ?_
 refine d_qk (.pointer (some ⟨b6, 1, none⟩)) (by kernel_rfl) ?_
 have u22 := (r10.frS e19 (Dj.symm (hb9.djn h_h_.lt)))
 refine d_ql (.int .u32 id) (x := aLoad Tryd.prog 156 (.pointer (some ⟨b6, 1, none⟩)) H17) (by kernel_rfl) (u22.ld (by kernel_rfl)) ?_
 refine d_qk (.int .i64 i) (by kernel_rfl) ?_
 obtain ⟨g23, r24⟩ := G_some r15
 refine d_w ((i + 1)) (k := .i64) (x := (i + 1)) (by kernel_rfl) (wrap64 (by have := g23; omega)) ?_
 obtain ⟨g25, r26⟩ := G_some r24
 have u27 := ((h_h_2.ext e8).fr e19 dj_fp_h__fp_h_2)
 refine d_ql (elp hd_h_2 1 id.toNat 0) (x := aIndexAddr Tryd.prog 22 hd_h_2 (.int .u32 id)) (by kernel_rfl) (u27.sq.idxb (by kernel_rfl) g25.1 g25.2) ?_
 obtain ⟨H28, q29, e30, hm31⟩ := Ow.store (P := Tryd.prog) (t := 3) (off := 0) e19.wf u27 g25.1 g25.2 (.int .i64 (i + 1)) [.int .i64 (i + 1)] (by kernel_rfl) (by kernel_rfl) rfl (i + 1) (Nat.le_of_ble_eq_true rfl) (by kernel_rfl)
 refine d_ek (undef) (by kernel_rfl) (map_ok q29) (st_nil) ?_
 refine d_nil ?_
 refine b_nrm (fn := Tryd.f95) (vs := []) (rfl) ?_
 have u32 := (hm20.fr e30 (Dj.symm dj_fp_h__fp_h_2))
 obtain rfl := Option.some.inj r26
 exact ⟨rfl, (FrS.step wf (FrS.step wf ((FrS.refl (W := (fp_h_ ++ fp_h_2)) wf).extR e8) e19 Inn.left) e30 (Inn.right Inn.refl')), u32, hm31⟩

theorem c_heap_item_less {H : AH} {key : Int} {id : Int} {key_ : Int} {id_ : Int} {r : Bool}
  (wf : WF H) (hr : z_heap_item_less key id key_ id_ = some r) :
  ACalls Tryd.prog 100 #[.agg #[.int .u64 key, .int .u32 id], .agg #[.int .u64 key_, .int .u32 id_]] H fun v H' => v = .bool r ∧ FrS [] H H' := by
 refine acalls_of_body mixed Tryd.func100 rfl (Nat.le_of_ble_eq_true rfl) ?_
 unfold z_heap_item_less at hr
 refine w_seqk fun K1 k1 => ?_
 refine w_reg (by kernel_rfl) ?_
 refine s_rwl wf [.int .u64 key, .int .u32 id] (one_cons (rfl) (one_cons (rfl) (one_nil))) (by kernel_rfl) fun b2 H3 e4 hb5 r6 => ?_
 refine s_rwl e4.wf [.int .u64 key_, .int .u32 id_] (one_cons (rfl) (one_cons (rfl) (one_nil))) (by kernel_rfl) fun b8 H9 e10 hb11 r12 => ?_
 refine s_qk (.bool false) (by kernel_rfl) ?_
 refine s_nil ?_
 refine k1 _ _ ?_
 refine w_seqk fun K14 k14 => ?_
 refine w_reg (by kernel_rfl) ?_
 refine s_qk (.pointer (some ⟨b2, 0, none⟩)) (by kernel_rfl) ?_
 have u15 := (r6.ext e10)
 refine s_ql (.int .u64 key) (x := aLoad Tryd.prog 42 (.pointer (some ⟨b2, 0, none⟩)) H9) (by kernel_rfl) (u15.ld (by kernel_rfl)) ?_
 refine s_qk (.pointer (some ⟨b8, 0, none⟩)) (by kernel_rfl) ?_
 refine s_ql (.int .u64 key_) (x := aLoad Tryd.prog 42 (.pointer (some ⟨b8, 0, none⟩)) H9) (by kernel_rfl) (r12.ld (by kernel_rfl)) ?_
 refine s_b (key < key_) (by kernel_rfl) (fun h16 => ?_) (fun h16 => ?_)
 ·have r17 := ite_t h16 hr
  refine s_qk (.bool true) (by kernel_rfl) ?_
  refine s_no (by kernel_rfl) ?_
  refine s_no (by kernel_rfl) ?_
  refine s_no (by kernel_rfl) ?_
  refine s_no (by kernel_rfl) ?_
  refine s_no (by kernel_rfl) ?_
  refine s_no (by kernel_rfl) ?_
  refine s_no (by kernel_rfl) ?_
  refine s_no (by kernel_rfl) ?_
  refine s_no (by kernel_rfl) ?_
  refine s_no (by kernel_rfl) ?_
  refine s_no (by kernel_rfl) ?_
  refine s_no (by kernel_rfl) ?_
  refine s_qk (.bool true) (by kernel_rfl) ?_
  refine s_qk (.bool true) (by kernel_rfl) ?_
  refine s_nil ?_
  refine k14 _ _ ?_
  refine w_ret ?_
  refine b_ret (fn := Tryd.f100) (vs := [.bool true]) (aRes_tmp (by kernel_rfl) (rfl)) ?_
  obtain rfl := Option.some.inj r17
  exact ⟨rfl, (((FrS.refl (W := []) wf).extR e4).extR e10)⟩
 ·have r18 := ite_f h16 hr
  refine s_qk (.bool false) (by kernel_rfl) ?_
  refine s_qk (.pointer (some ⟨b2, 0, none⟩)) (by kernel_rfl) ?_
  refine s_ql (.int .u64 key) (x := aLoad Tryd.prog 42 (.pointer (some ⟨b2, 0, none⟩)) H9) (by kernel_rfl) (u15.ld (by kernel_rfl)) ?_
  refine s_qk (.pointer (some ⟨b8, 0, none⟩)) (by kernel_rfl) ?_
  refine s_ql (.int .u64 key_) (x := aLoad Tryd.prog 42 (.pointer (some ⟨b8, 0, none⟩)) H9) (by kernel_rfl) (r12.ld (by kernel_rfl)) ?_
  refine s_b (key = key_) (by kernel_rfl) (fun h19 => ?_) (fun h19 => ?_)
  ·have r20 := ite_t h19 r18
   refine s_qk (.bool true) (by kernel_rfl) ?_
   refine s_qk (.pointer (some ⟨b2, 1, none⟩)) (by kernel_rfl) ?_
   refine s_ql (.int .u32 id) (x := aLoad Tryd.prog 156 (.pointer (some ⟨b2, 1, none⟩)) H9) (by kernel_rfl) (u15.ld (by kernel_rfl)) ?_
   refine s_qk (.pointer (some ⟨b8, 1, none⟩)) (by kernel_rfl) ?_
   refine s_ql (.int .u32 id_) (x := aLoad Tryd.prog 156 (.pointer (some ⟨b8, 1, none⟩)) H9) (by kernel_rfl) (r12.ld (by kernel_rfl)) ?_
   refine s_qk (.bool (decide (id < id_))) (by kernel_rfl) ?_
   refine s_qk (.bool (decide (id < id_))) (by kernel_rfl) ?_
   refine s_qk (.bool (decide (id < id_))) (by kernel_rfl) ?_
   refine s_qk (.bool (decide (id < id_))) (by kernel_rfl) ?_
   refine s_nil ?_
   refine k14 _ _ ?_
   refine w_ret ?_
   refine b_ret (fn := Tryd.f100) (vs := [.bool (decide (id < id_))]) (aRes_tmp (by kernel_rfl) (rfl)) ?_
   obtain rfl := Option.some.inj r20
   exact ⟨rfl, (((FrS.refl (W := []) wf).extR e4).extR e10)⟩
  ·have r21 := ite_f h19 r18
   refine s_qk (.bool false) (by kernel_rfl) ?_
   refine s_no (by kernel_rfl) ?_
   refine s_no (by kernel_rfl) ?_
   refine s_no (by kernel_rfl) ?_
   refine s_no (by kernel_rfl) ?_
   refine s_no (by kernel_rfl) ?_
   refine s_qk (.bool false) (by kernel_rfl) ?_
   refine s_qk (.bool false) (by kernel_rfl) ?_
   refine s_qk (.bool false) (by kernel_rfl) ?_
   refine s_nil ?_
   refine k14 _ _ ?_
   refine w_ret ?_
   refine b_ret (fn := Tryd.f100) (vs := [.bool false]) (aRes_tmp (by kernel_rfl) (rfl)) ?_
   obtain rfl := Option.some.inj r21
   exact ⟨rfl, (((FrS.refl (W := []) wf).extR e4).extR e10)⟩

theorem c_heap_Heap_up {H : AH} {b_h : Nat} {hd_h_ : Value} {fp_h_ : Fp} {hd_h_2 : Value} {fp_h_2 : Fp} {h_ : List (Int × Int)} {h_2 : List (Int)} {i : Int} {r : List (Int × Int) × List (Int)}
  (wf : WF H) (h_h_ : Ow enc_u64_u32 2 H hd_h_ h_ fp_h_) (h_h_2 : Ow (encI .i64) 1 H hd_h_2 h_2 fp_h_2) (h_h : Row H b_h [hd_h_, hd_h_2]) (dj_fp_h__b_h : Dj fp_h_ [b_h]) (dj_fp_h__fp_h_2 : Dj fp_h_ fp_h_2) (dj_fp_h_2_b_h : Dj fp_h_2 [b_h]) (hr : z_heap_Heap_up h_ h_2 i = some r) :
  ACalls Tryd.prog 96 #[.pointer (some ⟨b_h, 0, none⟩), .int .i64 i] H fun v H' => v = .tuple #[] ∧ FrS (fp_h_ ++ fp_h_2) H H' ∧ Ow enc_u64_u32 2 H' hd_h_ r.1 fp_h_ ∧ Ow (encI .i64) 1 H' hd_h_2 r.2 fp_h_2 := by
 refine acalls_of_body mixed Tryd.func96 rfl (Nat.le_of_ble_eq_true rfl) ?_
 unfold z_heap_Heap_up at hr
 refine w_seqk fun K5 k5 => ?_
 refine w_reg (by kernel_rfl) ?_
 refine s_qk (.pointer (some ⟨b_h, 0, none⟩)) (by kernel_rfl) ?_
 refine s_qk (.pointer (some ⟨b_h, 0, none⟩)) (by kernel_rfl) ?_
 refine s_qk (.pointer (some ⟨b_h, 0, none⟩)) (by kernel_rfl) ?_
 refine s_ql (hd_h_) (x := aLoad Tryd.prog 188 (.pointer (some ⟨b_h, 0, none⟩)) H) (by kernel_rfl) (h_h.ld (by kernel_rfl)) ?_
 refine s_qk (.int .i64 i) (by kernel_rfl) ?_
 obtain ⟨g6, r7⟩ := G_some hr
 refine s_ql (elp hd_h_ 2 i.toNat 0) (x := aIndexAddr Tryd.prog 188 hd_h_ (.int .i64 i)) (by kernel_rfl) (h_h_.sq.idxb (by kernel_rfl) g6.1 g6.2) ?_
 refine s_ql (.agg #[.int .u64 ((gt h_ i).1), .int .u32 ((gt h_ i).2)]) (x := aLoad Tryd.prog 194 (elp hd_h_ 2 i.toNat 0) H) (by kernel_rfl) (h_h_.sq.ld g6.1 g6.2 (by kernel_rfl)) ?_
 refine s_rwk wf [.int .u64 0, .int .u32 0] (by kernel_rfl) fun b8 H9 e10 hb11 r12 => ?_
 obtain ⟨H14, q15, e16, r17⟩ := Row.store (P := Tryd.prog) (t := 194) (p := 0) e10.wf r12 (.agg #[.int .u64 ((gt h_ i).1), .int .u32 ((gt h_ i).2)]) [.int .u64 ((gt h_ i).1), .int .u32 ((gt h_ i).2)] (by kernel_rfl) (by kernel_rfl) (one_cons (rfl) (one_cons (rfl) (one_nil))) (Nat.le_of_ble_eq_true (by kernel_rfl)) [.int .u64 ((gt h_ i).1), .int .u32 ((gt h_ i).2)] (by kernel_rfl)
 refine s_ek (undef) (by kernel_rfl) (map_ok q15) ?_
 refine s_nil ?_
 refine k5 _ _ ?_
 refine w_seqk fun K18 k18 => ?_
 obtain ⟨o19, hx20, r21⟩ := bind_some r7
 refine w_mid (fun α H22 => Has α [(0, .pointer (some ⟨b_h, 0, none⟩)), (1, .int .i64 o19.2.2), (4, .pointer (some ⟨b8, 0, none⟩))] ∧ FrS (fp_h_ ++ fp_h_2) H14 H22 ∧ Ow enc_u64_u32 2 H22 hd_h_ o19.1 fp_h_ ∧ Ow (encI .i64) 1 H22 hd_h_2 o19.2.1 fp_h_2) (fun K28 k28 => ?_) (fun α H22 hM => ?_)
 ·refine w_block ?_
  obtain ⟨n30, hn31⟩ := loopO_iff.1 hx20
  have u44 := ((h_h_.ext e10).fr e16 (hb11.djn h_h_.lt))
  have u45 := ((h_h_2.ext e10).fr e16 (hb11.djn h_h_2.lt))
  refine w_loopn (fun n α H32 => ∃ (h0 : List (Int × Int)), ∃ (h1 : List (Int)), ∃ (i2 : Int), iterO (fun zz_ => z_heap_Heap_up_l0 h_ i zz_.1 zz_.2.1 zz_.2.2) n (h0, h1, i2) = some o19 ∧ Has α [(0, .pointer (some ⟨b_h, 0, none⟩)), (1, .int .i64 i2), (4, .pointer (some ⟨b8, 0, none⟩))] ∧ FrS (fp_h_ ++ fp_h_2) H14 H32 ∧ Ow enc_u64_u32 2 H32 hd_h_ h0 fp_h_ ∧ Ow (encI .i64) 1 H32 hd_h_2 h1 fp_h_2) n30 ⟨h_, h_2, i, hn31, ⟨by kernel_rfl, by kernel_rfl, by kernel_rfl, trivial⟩, (FrS.refl (W := (fp_h_ ++ fp_h_2)) e16.wf), u44, u45⟩ ?_
  rintro n30 α H32 ⟨h0, h1, i2, hi39, hh38, e33, m35, m37⟩ K46 k46
  obtain ⟨n40, z41, rfl, hz42, hn43⟩ := iter_succ hi39
  obtain ⟨β, rfl⟩ := has_ex hh38
  clear hh38
  replace hz42 : z_heap_Heap_up_l0 h_ i h0 h1 i2 = some z41 := hz42
  unfold z_heap_Heap_up_l0 at hz42
  refine w_seqk fun K47 k47 => ?_
  refine w_seqk fun K48 k48 => ?_
  refine w_reg (by kernel_rfl) ?_
  refine s_qk (.int .i64 i2) (by kernel_rfl) ?_
  refine s_qk (.bool (decide (i2 > 0))) (by kernel_rfl) ?_
  refine s_nil ?_
  refine k48 _ _ ?_
  refine w_condp (i2 > 0) (by kernel_rfl) rfl (fun h49 => ?_) (fun h49 => ?_)
  ·have r50 := ite_t h49 hz42
   refine w_skip ?_
   refine k47 _ _ ?_
   refine w_block ?_
   refine w_seqk fun K51 k51 => ?_
   refine w_reg (by kernel_rfl) ?_
   refine s_qk (.int .i64 i2) (by kernel_rfl) ?_
   obtain ⟨g52, r53⟩ := G_some r50
   refine s_w ((i2 - 1)) (k := .i64) (x := (i2 - 1)) (by kernel_rfl) (wrap64 g52) ?_
   obtain ⟨g54, r55⟩ := G_some r53
   refine s_w ((Int.tdiv (i2 - 1) 4)) (k := .i64) (x := (Int.tdiv (i2 - 1) 4)) (by kernel_rfl) (wrap64 g54) ?_
   refine s_qk (.int .i64 (Int.tdiv (i2 - 1) 4)) (by kernel_rfl) ?_
   refine s_nil ?_
   refine k51 _ _ ?_
   refine w_seqk fun K56 k56 => ?_
   refine w_seqk fun K57 k57 => ?_
   refine w_draw [0, 1, 2, 3, 4, 5, 6, 7, 8, 9] (by kernel_rfl) ?_
   have u58 := (r17.frS e33 (Dj.app (Dj.symm (hb11.djn h_h_.lt)) (Dj.symm (hb11.djn h_h_2.lt))))
   refine d_ql (.agg #[.int .u64 ((gt h_ i).1), .int .u32 ((gt h_ i).2)]) (x := aLoad Tryd.prog 194 (.pointer (some ⟨b8, 0, none⟩)) H32) (by kernel_rfl) (u58.ld (by kernel_rfl)) ?_
   refine d_qk (.pointer (some ⟨b_h, 0, none⟩)) (by kernel_rfl) ?_
   refine d_qk (.pointer (some ⟨b_h, 0, none⟩)) (by kernel_rfl) ?_
   refine d_qk (.pointer (some ⟨b_h, 0, none⟩)) (by kernel_rfl) ?_
   have u59 := (((h_h.ext e10).frS e16 (hb11.djn h_h.ltF)).frS e33 (Dj.app dj_fp_h__b_h dj_fp_h_2_b_h))
   refine d_ql (hd_h_) (x := aLoad Tryd.prog 188 (.pointer (some ⟨b_h, 0, none⟩)) H32) (by kernel_rfl) (u59.ld (by kernel_rfl)) ?_
   refine d_qk (.int .i64 (Int.tdiv (i2 - 1) 4)) (by kernel_rfl) ?_
   obtain ⟨g60, r61⟩ := G_some r55
   refine d_ql (elp hd_h_ 2 (Int.tdiv (i2 - 1) 4).toNat 0) (x := aIndexAddr Tryd.prog 188 hd_h_ (.int .i64 (Int.tdiv (i2 - 1) 4))) (by kernel_rfl) (m35.sq.idxb (by kernel_rfl) g60.1 g60.2) ?_
   refine d_ql (.agg #[.int .u64 ((gt h0 (Int.tdiv (i2 - 1) 4)).1), .int .u32 ((gt h0 (Int.tdiv (i2 - 1) 4)).2)]) (x := aLoad Tryd.prog 194 (elp hd_h_ 2 (Int.tdiv (i2 - 1) 4).toNat 0) H32) (by kernel_rfl) (m35.sq.ld g60.1 g60.2 (by kernel_rfl)) ?_
   obtain ⟨y62, hy63, r64⟩ := bind_some r61
   refine d_ck 100 #[.agg #[.int .u64 ((gt h_ i).1), .int .u32 ((gt h_ i).2)], .agg #[.int .u64 ((gt h0 (Int.tdiv (i2 - 1) 4)).1), .int .u32 ((gt h0 (Int.tdiv (i2 - 1) 4)).2)]] (by kernel_rfl) (c_heap_item_less e33.wf hy63) ?_
   rintro _ H65 ⟨rfl, e66⟩
   refine ⟨st_nil, ?_⟩
   refine d_qk (.bool (!y62)) (by kernel_rfl) ?_
   refine d_nil ?_
   refine k57 _ _ ?_
   refine w_cond ((!y62)) (by kernel_rfl) rfl (fun h67 => ?_) (fun h67 => ?_)
   ·have r68 := ite_t h67 r64
    refine w_exit (th_exit (bl_ne (by decide) (th_exit (bl_eq ?_))))
    have u69 := (m35.fr e66 Dj.nil_l)
    have u70 := (m37.fr e66 Dj.nil_l)
    obtain rfl := Option.some.inj r68
    obtain rfl := it_inr hn43
    exact k28 _ _ ⟨⟨by kernel_rfl, by kernel_rfl, by kernel_rfl, trivial⟩, (FrS.step e16.wf (FrS.step e16.wf (FrS.refl (W := (fp_h_ ++ fp_h_2)) e16.wf) e33 (Inn.app Inn.left (Inn.right Inn.refl'))) e66 Inn.nil), u69, u70⟩
   ·have r71 := ite_bf h67 r64
    refine w_skip ?_
    refine k56 _ _ ?_
    refine w_seqk fun K72 k72 => ?_
    refine w_reg (by kernel_rfl) ?_
    refine s_qk (.pointer (some ⟨b_h, 0, none⟩)) (by kernel_rfl) ?_
    refine s_qk (.int .i64 i2) (by kernel_rfl) ?_
    refine s_qk (.pointer (some ⟨b_h, 0, none⟩)) (by kernel_rfl) ?_
    refine s_qk (.pointer (some ⟨b_h, 0, none⟩)) (by kernel_rfl) ?_
    refine s_qk (.pointer (some ⟨b_h, 0, none⟩)) (by kernel_rfl) ?_
    have u73 := (u59.frS e66 Dj.nil_l)
    refine s_ql (hd_h_) (x := aLoad Tryd.prog 188 (.pointer (some ⟨b_h, 0, none⟩)) H65) (by kernel_rfl) (u73.ld (by kernel_rfl)) ?_
    refine s_qk (.int .i64 (Int.tdiv (i2 - 1) 4)) (by kernel_rfl) ?_
    have u74 := (m35.fr e66 Dj.nil_l)
    refine s_ql (elp hd_h_ 2 (Int.tdiv (i2 - 1) 4).toNat 0) (x := aIndexAddr Tryd.prog 188 hd_h_ (.int .i64 (Int.tdiv (i2 - 1) 4))) (by kernel_rfl) (u74.sq.idxb (by kernel_rfl) g60.1 g60.2) ?_
    refine s_ql (.agg #[.int .u64 ((gt h0 (Int.tdiv (i2 - 1) 4)).1), .int .u32 ((gt h0 (Int.tdiv (i2 - 1) 4)).2)]) (x := aLoad Tryd.prog 194 (elp hd_h_ 2 (Int.tdiv (i2 - 1) 4).toNat 0) H65) (by kernel_rfl) (u74.sq.ld g60.1 g60.2 (by kernel_rfl)) ?_
    have u75 := (m37.fr e66 Dj.nil_l)
    obtain ⟨y76, hy77, r78⟩ := bind_some r71
    refine s_ck 95 #[.pointer (some ⟨b_h, 0, none⟩), .int .i64 i2, .agg #[.int .u64 ((gt h0 (Int.tdiv (i2 - 1) 4)).1), .int .u32 ((gt h0 (Int.tdiv (i2 - 1) 4)).2)]] (by kernel_rfl) (c_heap_Heap_put e66.wf u74 u75 u73 dj_fp_h__b_h dj_fp_h__fp_h_2 hy77) ?_
    rintro _ H79 ⟨rfl, e80, m81, m82⟩
    refine s_nil ?_
    refine k72 _ _ ?_
    refine w_reg (by kernel_rfl) ?_
    refine s_qk (.int .i64 (Int.tdiv (i2 - 1) 4)) (by kernel_rfl) ?_
    refine s_qk (.int .i64 (Int.tdiv (i2 - 1) 4)) (by kernel_rfl) ?_
    refine s_nil ?_
    obtain rfl := Option.some.inj r78
    exact k46 n40 _ _ (Nat.lt_succ_self _) ⟨y76.1, y76.2, (Int.tdiv (i2 - 1) 4), hn43, ⟨by kernel_rfl, by kernel_rfl, by kernel_rfl, trivial⟩, (FrS.step e16.wf (FrS.step e16.wf (FrS.step e16.wf (FrS.refl (W := (fp_h_ ++ fp_h_2)) e16.wf) e33 (Inn.app Inn.left (Inn.right Inn.refl'))) e66 Inn.nil) e80 (Inn.app Inn.left (Inn.right Inn.refl'))), m81, m82⟩
  ·have r83 := ite_f h49 hz42
   refine w_exit (th_exit (th_exit (bl_eq ?_)))
   obtain rfl := Option.some.inj r83
   obtain rfl := it_inr hn43
   exact k28 _ _ ⟨⟨by kernel_rfl, by kernel_rfl, by kernel_rfl, trivial⟩, (FrS.step e16.wf (FrS.refl (W := (fp_h_ ++ fp_h_2)) e16.wf) e33 (Inn.app Inn.left (Inn.right Inn.refl'))), m35, m37⟩
 ·obtain ⟨hh29, e23, m25, m27⟩ := hM
  obtain ⟨β, rfl⟩ := has_ex hh29
  clear hh29
  refine k18 _ _ ?_
  refine w_reg (by kernel_rfl) ?_
  refine s_qk (.pointer (some ⟨b_h, 0, none⟩)) (by kernel_rfl) ?_
  refine s_qk (.int .i64 o19.2.2) (by kernel_rfl) ?_
  have u84 := (r17.frS e23 (Dj.app (Dj.symm (hb11.djn h_h_.lt)) (Dj.symm (hb11.djn h_h_2.lt))))
  refine s_ql (.agg #[.int .u64 ((gt h_ i).1), .int .u32 ((gt h_ i).2)]) (x := aLoad Tryd.prog 194 (.pointer (some ⟨b8, 0, none⟩)) H22) (by kernel_rfl) (u84.ld (by kernel_rfl)) ?_
  have u85 := (((h_h.ext e10).frS e16 (hb11.djn h_h.ltF)).frS e23 (Dj.app dj_fp_h__b_h dj_fp_h_2_b_h))
  obtain ⟨y86, hy87, r88⟩ := bind_some r21
  refine s_ck 95 #[.pointer (some ⟨b_h, 0, none⟩), .int .i64 o19.2.2, .agg #[.int .u64 ((gt h_ i).1), .int .u32 ((gt h_ i).2)]] (by kernel_rfl) (c_heap_Heap_put e23.wf m25 m27 u85 dj_fp_h__b_h dj_fp_h__fp_h_2 hy87) ?_
  rintro _ H89 ⟨rfl, e90, m91, m92⟩
  refine s_nil ?_
  refine b_nrm (fn := Tryd.f96) (vs := []) (rfl) ?_
  obtain rfl := Option.some.inj r88
  exact ⟨rfl, (FrS.step wf (FrS.step wf (FrS.step wf ((FrS.refl (W := (fp_h_ ++ fp_h_2)) wf).extR e10) e16 (hb11.fresh (Nat.le_refl _))) e23 (Inn.app Inn.left (Inn.right Inn.refl'))) e90 (Inn.app Inn.left (Inn.right Inn.refl'))), m91, m92⟩

theorem c_heap_Heap_down {H : AH} {b_h : Nat} {hd_h_ : Value} {fp_h_ : Fp} {hd_h_2 : Value} {fp_h_2 : Fp} {h_ : List (Int × Int)} {h_2 : List (Int)} {i : Int} {r : List (Int × Int) × List (Int)}
  (wf : WF H) (h_h_ : Ow enc_u64_u32 2 H hd_h_ h_ fp_h_) (h_h_2 : Ow (encI .i64) 1 H hd_h_2 h_2 fp_h_2) (h_h : Row H b_h [hd_h_, hd_h_2]) (dj_fp_h__b_h : Dj fp_h_ [b_h]) (dj_fp_h__fp_h_2 : Dj fp_h_ fp_h_2) (dj_fp_h_2_b_h : Dj fp_h_2 [b_h]) (hr : z_heap_Heap_down h_ h_2 i = some r) :
  ACalls Tryd.prog 97 #[.pointer (some ⟨b_h, 0, none⟩), .int .i64 i] H fun v H' => v = .tuple #[] ∧ FrS (fp_h_ ++ fp_h_2) H H' ∧ Ow enc_u64_u32 2 H' hd_h_ r.1 fp_h_ ∧ Ow (encI .i64) 1 H' hd_h_2 r.2 fp_h_2 := by
 refine acalls_of_body mixed Tryd.func97 rfl (Nat.le_of_ble_eq_true rfl) ?_
 unfold z_heap_Heap_down at hr
 refine w_seqk fun K5 k5 => ?_
 refine w_reg (by kernel_rfl) ?_
 refine s_qk (.pointer (some ⟨b_h, 0, none⟩)) (by kernel_rfl) ?_
 refine s_qk (.pointer (some ⟨b_h, 0, none⟩)) (by kernel_rfl) ?_
 refine s_qk (.pointer (some ⟨b_h, 0, none⟩)) (by kernel_rfl) ?_
 refine s_ql (hd_h_) (x := aLoad Tryd.prog 188 (.pointer (some ⟨b_h, 0, none⟩)) H) (by kernel_rfl) (h_h.ld (by kernel_rfl)) ?_
 refine s_qk (.int .i64 i) (by kernel_rfl) ?_
 obtain ⟨g6, r7⟩ := G_some hr
 refine s_ql (elp hd_h_ 2 i.toNat 0) (x := aIndexAddr Tryd.prog 188 hd_h_ (.int .i64 i)) (by kernel_rfl) (h_h_.sq.idxb (by kernel_rfl) g6.1 g6.2) ?_
 refine s_ql (.agg #[.int .u64 ((gt h_ i).1), .int .u32 ((gt h_ i).2)]) (x := aLoad Tryd.prog 194 (elp hd_h_ 2 i.toNat 0) H) (by kernel_rfl) (h_h_.sq.ld g6.1 g6.2 (by kernel_rfl)) ?_
 refine s_rwk wf [.int .u64 0, .int .u32 0] (by kernel_rfl) fun b8 H9 e10 hb11 r12 => ?_
 obtain ⟨H14, q15, e16, r17⟩ := Row.store (P := Tryd.prog) (t := 194) (p := 0) e10.wf r12 (.agg #[.int .u64 ((gt h_ i).1), .int .u32 ((gt h_ i).2)]) [.int .u64 ((gt h_ i).1), .int .u32 ((gt h_ i).2)] (by kernel_rfl) (by kernel_rfl) (one_cons (rfl) (one_cons (rfl) (one_nil))) (Nat.le_of_ble_eq_true (by kernel_rfl)) [.int .u64 ((gt h_ i).1), .int .u32 ((gt h_ i).2)] (by kernel_rfl)
 refine s_ek (undef) (by kernel_rfl) (map_ok q15) ?_
 refine s_nil ?_
 refine k5 _ _ ?_
 refine w_seqk fun K18 k18 => ?_
 obtain ⟨o19, hx20, r21⟩ := bind_some r7
 refine w_mid (fun α H22 => Has α [(0, .pointer (some ⟨b_h, 0, none⟩)), (1, .int .i64 o19.2.2), (4, .pointer (some ⟨b8, 0, none⟩))] ∧ FrS (fp_h_ ++ fp_h_2) H14 H22 ∧ Ow enc_u64_u32 2 H22 hd_h_ o19.1 fp_h_ ∧ Ow (encI .i64) 1 H22 hd_h_2 o19.2.1 fp_h_2) (fun K28 k28 => ?_) (fun α H22 hM => ?_)
 ·refine w_block ?_
  obtain ⟨n30, hn31⟩ := loopO_iff.1 hx20
  have u44 := ((h_h_.ext e10).fr e16 (hb11.djn h_h_.lt))
  have u45 := ((h_h_2.ext e10).fr e16 (hb11.djn h_h_2.lt))
  refine w_loopn (fun n α H32 => ∃ (h2 : List (Int × Int)), ∃ (h3 : List (Int)), ∃ (i4 : Int), iterO (fun zz_ => z_heap_Heap_down_l1 h_ i zz_.1 zz_.2.1 zz_.2.2) n (h2, h3, i4) = some o19 ∧ Has α [(0, .pointer (some ⟨b_h, 0, none⟩)), (1, .int .i64 i4), (4, .pointer (some ⟨b8, 0, none⟩))] ∧ FrS (fp_h_ ++ fp_h_2) H14 H32 ∧ Ow enc_u64_u32 2 H32 hd_h_ h2 fp_h_ ∧ Ow (encI .i64) 1 H32 hd_h_2 h3 fp_h_2) n30 ⟨h_, h_2, i, hn31, ⟨by kernel_rfl, by kernel_rfl, by kernel_rfl, trivial⟩, (FrS.refl (W := (fp_h_ ++ fp_h_2)) e16.wf), u44, u45⟩ ?_
  rintro n30 α H32 ⟨h2, h3, i4, hi39, hh38, e33, m35, m37⟩ K46 k46
  obtain ⟨n40, z41, rfl, hz42, hn43⟩ := iter_succ hi39
  obtain ⟨β, rfl⟩ := has_ex hh38
  clear hh38
  replace hz42 : z_heap_Heap_down_l1 h_ i h2 h3 i4 = some z41 := hz42
  unfold z_heap_Heap_down_l1 at hz42
  refine w_block ?_
  refine w_seqk fun K47 k47 => ?_
  refine w_reg (by kernel_rfl) ?_
  refine s_qk (.int .i64 (-1)) (by kernel_rfl) ?_
  refine s_nil ?_
  refine k47 _ _ ?_
  refine w_seqk fun K48 k48 => ?_
  refine w_seqk fun K49 k49 => ?_
  refine w_reg (by kernel_rfl) ?_
  refine s_qk (.int .i64 0) (by kernel_rfl) ?_
  refine s_nil ?_
  refine k49 _ _ ?_
  obtain ⟨o50, hx51, r52⟩ := bind_some hz42
  refine w_mid (fun α H53 => Has α [(0, .pointer (some ⟨b_h, 0, none⟩)), (1, .int .i64 i4), (4, .pointer (some ⟨b8, 0, none⟩)), (5, .int .i64 o50)] ∧ FrS [] H32 H53) (fun K55 k55 => ?_) (fun α H53 hM => ?_)
  ·refine w_block ?_
   obtain ⟨n57, hn58⟩ := loopO_iff.1 hx51
   refine w_loopn (fun n α H59 => ∃ (i0 : Int), ∃ (best1 : Int), iterO (fun zz_ => z_heap_Heap_down_l0 h2 i4 zz_.1 zz_.2) n (i0, best1) = some o50 ∧ Has α [(0, .pointer (some ⟨b_h, 0, none⟩)), (1, .int .i64 i4), (4, .pointer (some ⟨b8, 0, none⟩)), (5, .int .i64 best1), (15, .int .i64 i0)] ∧ FrS [] H32 H59) n57 ⟨0, (-1), hn58, ⟨by kernel_rfl, by kernel_rfl, by kernel_rfl, by kernel_rfl, by kernel_rfl, trivial⟩, (FrS.refl (W := []) e33.wf)⟩ ?_
   rintro n57 α H59 ⟨i0, best1, hi62, hh61, e60⟩ K67 k67
   obtain ⟨n63, z64, rfl, hz65, hn66⟩ := iter_succ hi62
   obtain ⟨β, rfl⟩ := has_ex hh61
   clear hh61
   replace hz65 : z_heap_Heap_down_l0 h2 i4 i0 best1 = some z64 := hz65
   unfold z_heap_Heap_down_l0 at hz65
   refine w_seqk fun K68 k68 => ?_
   refine w_reg (by kernel_rfl) ?_
   refine s_qk (.bool (decide (i0 < 4))) (by kernel_rfl) ?_
   refine s_nil ?_
   refine k68 _ _ ?_
   refine w_seqk fun K69 k69 => ?_
   refine w_condp (i0 < 4) (by kernel_rfl) rfl (fun h70 => ?_) (fun h70 => ?_)
   ·have r71 := ite_t h70 hz65
    refine w_skip ?_
    refine k69 _ _ ?_
    refine w_seqk fun K72 k72 => ?_
    refine w_block ?_
    refine w_seqk fun K73 k73 => ?_
    refine w_reg (by kernel_rfl) ?_
    refine s_qk (.int .i64 i0) (by kernel_rfl) ?_
    refine s_qk (.int .i64 i0) (by kernel_rfl) ?_
    refine s_nil ?_
    refine k73 _ _ ?_
    refine w_seqk fun K74 k74 => ?_
    refine w_reg (by kernel_rfl) ?_
    refine s_qk (.int .i64 i4) (by kernel_rfl) ?_
    obtain ⟨g75, r76⟩ := G_some r71
    refine s_w ((i4 * 4)) (k := .i64) (x := (i4 * 4)) (by kernel_rfl) (wrap64 g75) ?_
    obtain ⟨g77, r78⟩ := G_some r76
    refine s_w (((i4 * 4) + 1)) (k := .i64) (x := ((i4 * 4) + 1)) (by kernel_rfl) (wrap64 g77) ?_
    refine s_qk (.int .i64 i0) (by kernel_rfl) ?_
    obtain ⟨g79, r80⟩ := G_some r78
    refine s_w ((((i4 * 4) + 1) + i0)) (k := .i64) (x := (((i4 * 4) + 1) + i0)) (by kernel_rfl) (wrap64 g79) ?_
    refine s_qk (.int .i64 (((i4 * 4) + 1) + i0)) (by kernel_rfl) ?_
    refine s_nil ?_
    refine k74 _ _ ?_
    refine w_seqk fun K81 k81 => ?_
    refine w_draw [0, 1, 2, 3, 4, 5, 6, 7, 8, 9, 10, 11, 12, 13, 14, 15, 16, 17, 18, 19, 20, 21, 22, 23, 24, 25, 26, 27] (by kernel_rfl) ?_
    refine d_qk (.int .i64 (((i4 * 4) + 1) + i0)) (by kernel_rfl) ?_
    refine d_qk (.pointer (some ⟨b_h, 0, none⟩)) (by kernel_rfl) ?_
    refine d_qk (.pointer (some ⟨b_h, 0, none⟩)) (by kernel_rfl) ?_
    refine d_qk (.pointer (some ⟨b_h, 0, none⟩)) (by kernel_rfl) ?_
    have u82 := ((((h_h.ext e10).frS e16 (hb11.djn h_h.ltF)).frS e33 (Dj.app dj_fp_h__b_h dj_fp_h_2_b_h)).frS e60 Dj.nil_l)
    refine d_ql (hd_h_) (x := aLoad Tryd.prog 188 (.pointer (some ⟨b_h, 0, none⟩)) H59) (by kernel_rfl) (u82.ld (by kernel_rfl)) ?_
    have u83 := (m35.fr e60 Dj.nil_l)
    refine d_ql (.int .i64 (h2.length : Int)) (x := aLen Tryd.prog 188 hd_h_ H59) (by kernel_rfl) (u83.sq.lenb (by kernel_rfl)) ?_
    refine d_b ((((i4 * 4) + 1) + i0) < (h2.length : Int)) (by kernel_rfl) (fun h84 => ?_) (fun h84 => ?_)
    ·have r85 := ite_t h84 r80
     refine d_qk (.bool true) (by kernel_rfl) ?_
     refine d_qk (.int .i64 best1) (by kernel_rfl) ?_
     refine d_b (best1 < 0) (by kernel_rfl) (fun h86 => ?_) (fun h86 => ?_)
     ·have r87 := ite_t h86 r85
      refine d_qk (.bool true) (by kernel_rfl) ?_
      refine d_idle (by kernel_rfl) ?_
      refine d_idle (by kernel_rfl) ?_
      refine d_idle (by kernel_rfl) ?_
      refine d_idle (by kernel_rfl) ?_
      refine d_idle (by kernel_rfl) ?_
      refine d_idle (by kernel_rfl) ?_
      refine d_idle (by kernel_rfl) ?_
      refine d_idle (by kernel_rfl) ?_
      refine d_idle (by kernel_rfl) ?_
      refine d_idle (by kernel_rfl) ?_
      refine d_idle (by kernel_rfl) ?_
      refine d_idle (by kernel_rfl) ?_
      refine d_idle (by kernel_rfl) ?_
      refine d_idle (by kernel_rfl) ?_
      refine d_idle (by kernel_rfl) ?_
      refine d_qk (.bool true) (by kernel_rfl) ?_
      refine d_qk (.bool true) (by kernel_rfl) ?_
      refine d_nil ?_
      refine k81 _ _ ?_
      refine w_cond true (by kernel_rfl) rfl (fun _ => ?_) (fun h => by cases h)
      refine w_reg (by kernel_rfl) ?_
      refine s_qk (.int .i64 (((i4 * 4) + 1) + i0)) (by kernel_rfl) ?_
      refine s_qk (.int .i64 (((i4 * 4) + 1) + i0)) (by kernel_rfl) ?_
      refine s_nil ?_
      refine k72 _ _ ?_
      refine w_reg (by kernel_rfl) ?_
      obtain ⟨g88, r89⟩ := G_some r87
      refine s_w ((i0 + 1)) (k := .i64) (x := (i0 + 1)) (by kernel_rfl) (wrap64 g88) ?_
      refine s_qk (.int .i64 (i0 + 1)) (by kernel_rfl) ?_
      refine s_nil ?_
      obtain rfl := Option.some.inj r89
      exact k67 n63 _ _ (Nat.lt_succ_self _) ⟨(i0 + 1), (((i4 * 4) + 1) + i0), hn66, ⟨by kernel_rfl, by kernel_rfl, by kernel_rfl, by kernel_rfl, by kernel_rfl, trivial⟩, (FrS.step e33.wf (FrS.refl (W := []) e33.wf) e60 Inn.nil)⟩
     ·have r90 := ite_f h86 r85
      refine d_qk (.bool false) (by kernel_rfl) ?_
      refine d_qk (.pointer (some ⟨b_h, 0, none⟩)) (by kernel_rfl) ?_
      refine d_qk (.pointer (some ⟨b_h, 0, none⟩)) (by kernel_rfl) ?_
      refine d_qk (.pointer (some ⟨b_h, 0, none⟩)) (by kernel_rfl) ?_
      refine d_ql (hd_h_) (x := aLoad Tryd.prog 188 (.pointer (some ⟨b_h, 0, none⟩)) H59) (by kernel_rfl) (u82.ld (by kernel_rfl)) ?_
      refine d_qk (.int .i64 (((i4 * 4) + 1) + i0)) (by kernel_rfl) ?_
      obtain ⟨g91, r92⟩ := G_some r90
      refine d_ql (elp hd_h_ 2 (((i4 * 4) + 1) + i0).toNat 0) (x := aIndexAddr Tryd.prog 188 hd_h_ (.int .i64 (((i4 * 4) + 1) + i0))) (by kernel_rfl) (u83.sq.idxb (by kernel_rfl) g91 h84) ?_
      refine d_ql (.agg #[.int .u64 ((gt h2 (((i4 * 4) + 1) + i0)).1), .int .u32 ((gt h2 (((i4 * 4) + 1) + i0)).2)]) (x := aLoad Tryd.prog 194 (elp hd_h_ 2 (((i4 * 4) + 1) + i0).toNat 0) H59) (by kernel_rfl) (u83.sq.ld g91 h84 (by kernel_rfl)) ?_
      refine d_qk (.pointer (some ⟨b_h, 0, none⟩)) (by kernel_rfl) ?_
      refine d_qk (.pointer (some ⟨b_h, 0, none⟩)) (by kernel_rfl) ?_
      refine d_qk (.pointer (some ⟨b_h, 0, none⟩)) (by kernel_rfl) ?_
      refine d_ql (hd_h_) (x := aLoad Tryd.prog 188 (.pointer (some ⟨b_h, 0, none⟩)) H59) (by kernel_rfl) (u82.ld (by kernel_rfl)) ?_
      refine d_qk (.int .i64 best1) (by kernel_rfl) ?_
      obtain ⟨g93, r94⟩ := G_some r92
      refine d_ql (elp hd_h_ 2 best1.toNat 0) (x := aIndexAddr Tryd.prog 188 hd_h_ (.int .i64 best1)) (by kernel_rfl) (u83.sq.idxb (by kernel_rfl) g93.1 g93.2) ?_
      refine d_ql (.agg #[.int .u64 ((gt h2 best1).1), .int .u32 ((gt h2 best1).2)]) (x := aLoad Tryd.prog 194 (elp hd_h_ 2 best1.toNat 0) H59) (by kernel_rfl) (u83.sq.ld g93.1 g93.2 (by kernel_rfl)) ?_
      obtain ⟨y95, hy96, r97⟩ := bind_some r94
      refine d_ck 100 #[.agg #[.int .u64 ((gt h2 (((i4 * 4) + 1) + i0)).1), .int .u32 ((gt h2 (((i4 * 4) + 1) + i0)).2)], .agg #[.int .u64 ((gt h2 best1).1), .int .u32 ((gt h2 best1).2)]] (by kernel_rfl) (c_heap_item_less e60.wf hy96) ?_
      rintro _ H98 ⟨rfl, e99⟩
      refine ⟨st_nil, ?_⟩
      refine d_qk (.bool y95) (by kernel_rfl) ?_
      refine d_qk (.bool y95) (by kernel_rfl) ?_
      refine d_nil ?_
      refine k81 _ _ ?_
      refine w_cond (y95) (by kernel_rfl) rfl (fun h100 => ?_) (fun h100 => ?_)
      ·have r101 := ite_t h100 r97
       refine w_reg (by kernel_rfl) ?_
       refine s_qk (.int .i64 (((i4 * 4) + 1) + i0)) (by kernel_rfl) ?_
       refine s_qk (.int .i64 (((i4 * 4) + 1) + i0)) (by kernel_rfl) ?_
       refine s_nil ?_
       refine k72 _ _ ?_
       refine w_reg (by kernel_rfl) ?_
       obtain ⟨g102, r103⟩ := G_some r101
       refine s_w ((i0 + 1)) (k := .i64) (x := (i0 + 1)) (by kernel_rfl) (wrap64 g102) ?_
       refine s_qk (.int .i64 (i0 + 1)) (by kernel_rfl) ?_
       refine s_nil ?_
       obtain rfl := Option.some.inj r103
       exact k67 n63 _ _ (Nat.lt_succ_self _) ⟨(i0 + 1), (((i4 * 4) + 1) + i0), hn66, ⟨by kernel_rfl, by kernel_rfl, by kernel_rfl, by kernel_rfl, by kernel_rfl, trivial⟩, (FrS.step e33.wf (FrS.step e33.wf (FrS.refl (W := []) e33.wf) e60 Inn.nil) e99 Inn.nil)⟩
      ·have r104 := ite_bf h100 r97
       refine w_skip ?_
       refine k72 _ _ ?_
       refine w_reg (by kernel_rfl) ?_
       obtain ⟨g105, r106⟩ := G_some r104
       refine s_w ((i0 + 1)) (k := .i64) (x := (i0 + 1)) (by kernel_rfl) (wrap64 g105) ?_
       refine s_qk (.int .i64 (i0 + 1)) (by kernel_rfl) ?_
       refine s_nil ?_
       obtain rfl := Option.some.inj r106
       exact k67 n63 _ _ (Nat.lt_succ_self _) ⟨(i0 + 1), best1, hn66, ⟨by kernel_rfl, by kernel_rfl, by kernel_rfl, by kernel_rfl, by kernel_rfl, trivial⟩, (FrS.step e33.wf (FrS.step e33.wf (FrS.refl (W := []) e33.wf) e60 Inn.nil) e99 Inn.nil)⟩
    ·have r107 := ite_f h84 r80
     refine d_qk (.bool false) (by kernel_rfl) ?_
     refine d_idle (by kernel_rfl) ?_
     refine d_idle (by kernel_rfl) ?_
     refine d_idle (by kernel_rfl) ?_
     refine d_idle (by kernel_rfl) ?_
     refine d_idle (by kernel_rfl) ?_
     refine d_idle (by kernel_rfl) ?_
     refine d_idle (by kernel_rfl) ?_
     refine d_idle (by kernel_rfl) ?_
     refine d_idle (by kernel_rfl) ?_
     refine d_idle (by kernel_rfl) ?_
     refine d_idle (by kernel_rfl) ?_
     refine d_idle (by kernel_rfl) ?_
     refine d_idle (by kernel_rfl) ?_
     refine d_idle (by kernel_rfl) ?_
     refine d_idle (by kernel_rfl) ?_
     refine d_idle (by kernel_rfl) ?_
     refine d_idle (by kernel_rfl) ?_
     refine d_idle (by kernel_rfl) ?_
     refine d_idle (by kernel_rfl) ?_
     refine d_qk (.bool false) (by kernel_rfl) ?_
     refine d_nil ?_
     refine k81 _ _ ?_
     refine w_cond false (by kernel_rfl) rfl (fun h => by cases h) (fun _ => ?_)
     refine w_skip ?_
     refine k72 _ _ ?_
     refine w_reg (by kernel_rfl) ?_
     obtain ⟨g108, r109⟩ := G_some r107
     refine s_w ((i0 + 1)) (k := .i64) (x := (i0 + 1)) (by kernel_rfl) (wrap64 g108) ?_
     refine s_qk (.int .i64 (i0 + 1)) (by kernel_rfl) ?_
     refine s_nil ?_
     obtain rfl := Option.some.inj r109
     exact k67 n63 _ _ (Nat.lt_succ_self _) ⟨(i0 + 1), best1, hn66, ⟨by kernel_rfl, by kernel_rfl, by kernel_rfl, by kernel_rfl, by kernel_rfl, trivial⟩, (FrS.step e33.wf (FrS.refl (W := []) e33.wf) e60 Inn.nil)⟩
   ·have r110 := ite_f h70 hz65
    refine w_exit (th_exit (th_exit (bl_eq ?_)))
    obtain rfl := Option.some.inj r110
    obtain rfl := it_inr hn66
    exact k55 _ _ ⟨⟨by kernel_rfl, by kernel_rfl, by kernel_rfl, by kernel_rfl, trivial⟩, (FrS.step e33.wf (FrS.refl (W := []) e33.wf) e60 Inn.nil)⟩
  ·obtain ⟨hh56, e54⟩ := hM
   obtain ⟨β, rfl⟩ := has_ex hh56
   clear hh56
   refine k48 _ _ ?_
   refine w_seqk fun K111 k111 => ?_
   refine w_seqk fun K112 k112 => ?_
   obtain ⟨o113, hx114, r115⟩ := bind_some r52
   refine w_mid (fun α H116 => Has α [(0, .pointer (some ⟨b_h, 0, none⟩)), (1, .int .i64 i4), (4, .pointer (some ⟨b8, 0, none⟩)), (5, .int .i64 o50), (66, .bool o113)] ∧ FrS [] H53 H116) (fun K118 k118 => ?_) (fun α H116 hM => ?_)
   ·refine w_draw [0, 1, 2, 3, 4, 5, 6, 7, 8, 9, 10, 11, 12, 13] (by kernel_rfl) ?_
    refine d_qk (.int .i64 o50) (by kernel_rfl) ?_
    refine d_b (o50 < 0) (by kernel_rfl) (fun h120 => ?_) (fun h120 => ?_)
    ·have r121 := ite_t h120 hx114
     refine d_qk (.bool true) (by kernel_rfl) ?_
     refine d_idle (by kernel_rfl) ?_
     refine d_idle (by kernel_rfl) ?_
     refine d_idle (by kernel_rfl) ?_
     refine d_idle (by kernel_rfl) ?_
     refine d_idle (by kernel_rfl) ?_
     refine d_idle (by kernel_rfl) ?_
     refine d_idle (by kernel_rfl) ?_
     refine d_idle (by kernel_rfl) ?_
     refine d_idle (by kernel_rfl) ?_
     refine d_idle (by kernel_rfl) ?_
     refine d_qk (.bool true) (by kernel_rfl) ?_
     refine d_nil ?_
     obtain rfl := Option.some.inj r121
     exact k118 _ _ ⟨⟨by kernel_rfl, by kernel_rfl, by kernel_rfl, by kernel_rfl, by kernel_rfl, trivial⟩, (FrS.refl (W := []) e54.wf)⟩
    ·have r122 := ite_f h120 hx114
     refine d_qk (.bool false) (by kernel_rfl) ?_
     refine d_qk (.pointer (some ⟨b_h, 0, none⟩)) (by kernel_rfl) ?_
     refine d_qk (.pointer (some ⟨b_h, 0, none⟩)) (by kernel_rfl) ?_
     refine d_qk (.pointer (some ⟨b_h, 0, none⟩)) (by kernel_rfl) ?_
     have u123 := ((((h_h.ext e10).frS e16 (hb11.djn h_h.ltF)).frS e33 (Dj.app dj_fp_h__b_h dj_fp_h_2_b_h)).frS e54 Dj.nil_l)
     refine d_ql (hd_h_) (x := aLoad Tryd.prog 188 (.pointer (some ⟨b_h, 0, none⟩)) H53) (by kernel_rfl) (u123.ld (by kernel_rfl)) ?_
     refine d_qk (.int .i64 o50) (by kernel_rfl) ?_
     obtain ⟨g124, r125⟩ := G_some r122
     have u126 := (m35.fr e54 Dj.nil_l)
     refine d_ql (elp hd_h_ 2 o50.toNat 0) (x := aIndexAddr Tryd.prog 188 hd_h_ (.int .i64 o50)) (by kernel_rfl) (u126.sq.idxb (by kernel_rfl) g124.1 g124.2) ?_
     refine d_ql (.agg #[.int .u64 ((gt h2 o50).1), .int .u32 ((gt h2 o50).2)]) (x := aLoad Tryd.prog 194 (elp hd_h_ 2 o50.toNat 0) H53) (by kernel_rfl) (u126.sq.ld g124.1 g124.2 (by kernel_rfl)) ?_
     have u127 := ((r17.frS e33 (Dj.app (Dj.symm (hb11.djn h_h_.lt)) (Dj.symm (hb11.djn h_h_2.lt)))).frS e54 Dj.nil_l)
     refine d_ql (.agg #[.int .u64 ((gt h_ i).1), .int .u32 ((gt h_ i).2)]) (x := aLoad Tryd.prog 194 (.pointer (some ⟨b8, 0, none⟩)) H53) (by kernel_rfl) (u127.ld (by kernel_rfl)) ?_
     obtain ⟨y128, hy129, r130⟩ := bind_some r125
     refine d_ck 100 #[.agg #[.int .u64 ((gt h2 o50).1), .int .u32 ((gt h2 o50).2)], .agg #[.int .u64 ((gt h_ i).1), .int .u32 ((gt h_ i).2)]] (by kernel_rfl) (c_heap_item_less e54.wf hy129) ?_
     rintro _ H131 ⟨rfl, e132⟩
     refine ⟨st_nil, ?_⟩
     refine d_qk (.bool (!y128)) (by kernel_rfl) ?_
     refine d_qk (.bool (!y128)) (by kernel_rfl) ?_
     refine d_nil ?_
     obtain rfl := Option.some.inj r130
     exact k118 _ _ ⟨⟨by kernel_rfl, by kernel_rfl, by kernel_rfl, by kernel_rfl, by kernel_rfl, trivial⟩, (FrS.step e54.wf (FrS.refl (W := []) e54.wf) e132 Inn.nil)⟩
   ·obtain ⟨hh119, e117⟩ := hM
    obtain ⟨β, rfl⟩ := has_ex hh119
    clear hh119
    refine k112 _ _ ?_
    refine w_cond (o113) (by kernel_rfl) rfl (fun h133 => ?_) (fun h133 => ?_)
    ·have r134 := ite_t h133 r115
     refine w_exit (th_exit (bl_ne (by decide) (th_exit (bl_eq ?_))))
     have u135 := ((m35.fr e54 Dj.nil_l).fr e117 Dj.nil_l)
     have u136 := ((m37.fr e54 Dj.nil_l).fr e117 Dj.nil_l)
     obtain rfl := Option.some.inj r134
     obtain rfl := it_inr hn43
     exact k28 _ _ ⟨⟨by kernel_rfl, by kernel_rfl, by kernel_rfl, trivial⟩, (FrS.step e16.wf (FrS.step e16.wf (FrS.step e16.wf (FrS.refl (W := (fp_h_ ++ fp_h_2)) e16.wf) e33 (Inn.app Inn.left (Inn.right Inn.refl'))) e54 Inn.nil) e117 Inn.nil), u135, u136⟩
    ·have r137 := ite_bf h133 r115
     refine w_skip ?_
     refine k111 _ _ ?_
     refine w_seqk fun K138 k138 => ?_
     refine w_reg (by kernel_rfl) ?_
     refine s_qk (.pointer (some ⟨b_h, 0, none⟩)) (by kernel_rfl) ?_
     refine s_qk (.int .i64 i4) (by kernel_rfl) ?_
     refine s_qk (.pointer (some ⟨b_h, 0, none⟩)) (by kernel_rfl) ?_
     refine s_qk (.pointer (some ⟨b_h, 0, none⟩)) (by kernel_rfl) ?_
     refine s_qk (.pointer (some ⟨b_h, 0, none⟩)) (by kernel_rfl) ?_
     have u139 := (((((h_h.ext e10).frS e16 (hb11.djn h_h.ltF)).frS e33 (Dj.app dj_fp_h__b_h dj_fp_h_2_b_h)).frS e54 Dj.nil_l).frS e117 Dj.nil_l)
     refine s_ql (hd_h_) (x := aLoad Tryd.prog 188 (.pointer (some ⟨b_h, 0, none⟩)) H116) (by kernel_rfl) (u139.ld (by kernel_rfl)) ?_
     refine s_qk (.int .i64 o50) (by kernel_rfl) ?_
     obtain ⟨g140, r141⟩ := G_some r137
     have u142 := ((m35.fr e54 Dj.nil_l).fr e117 Dj.nil_l)
     refine s_ql (elp hd_h_ 2 o50.toNat 0) (x := aIndexAddr Tryd.prog 188 hd_h_ (.int .i64 o50)) (by kernel_rfl) (u142.sq.idxb (by kernel_rfl) g140.1 g140.2) ?_
     refine s_ql (.agg #[.int .u64 ((gt h2 o50).1), .int .u32 ((gt h2 o50).2)]) (x := aLoad Tryd.prog 194 (elp hd_h_ 2 o50.toNat 0) H116) (by kernel_rfl) (u142.sq.ld g140.1 g140.2 (by kernel_rfl)) ?_
     have u143 := ((m37.fr e54 Dj.nil_l).fr e117 Dj.nil_l)
     obtain ⟨y144, hy145, r146⟩ := bind_some r141
     refine s_ck 95 #[.pointer (some ⟨b_h, 0, none⟩), .int .i64 i4, .agg #[.int .u64 ((gt h2 o50).1), .int .u32 ((gt h2 o50).2)]] (by kernel_rfl) (c_heap_Heap_put e117.wf u142 u143 u139 dj_fp_h__b_h dj_fp_h__fp_h_2 hy145) ?_
     rintro _ H147 ⟨rfl, e148, m149, m150⟩
     refine s_nil ?_
     refine k138 _ _ ?_
     refine w_reg (by kernel_rfl) ?_
     refine s_qk (.int .i64 o50) (by kernel_rfl) ?_
     refine s_qk (.int .i64 o50) (by kernel_rfl) ?_
     refine s_nil ?_
     obtain rfl := Option.some.inj r146
     exact k46 n40 _ _ (Nat.lt_succ_self _) ⟨y144.1, y144.2, o50, hn43, ⟨by kernel_rfl, by kernel_rfl, by kernel_rfl, trivial⟩, (FrS.step e16.wf (FrS.step e16.wf (FrS.step e16.wf (FrS.step e16.wf (FrS.refl (W := (fp_h_ ++ fp_h_2)) e16.wf) e33 (Inn.app Inn.left (Inn.right Inn.refl'))) e54 Inn.nil) e117 Inn.nil) e148 (Inn.app Inn.left (Inn.right Inn.refl'))), m149, m150⟩
 ·obtain ⟨hh29, e23, m25, m27⟩ := hM
  obtain ⟨β, rfl⟩ := has_ex hh29
  clear hh29
  refine k18 _ _ ?_
  refine w_reg (by kernel_rfl) ?_
  refine s_qk (.pointer (some ⟨b_h, 0, none⟩)) (by kernel_rfl) ?_
  refine s_qk (.int .i64 o19.2.2) (by kernel_rfl) ?_
  have u151 := (r17.frS e23 (Dj.app (Dj.symm (hb11.djn h_h_.lt)) (Dj.symm (hb11.djn h_h_2.lt))))
  refine s_ql (.agg #[.int .u64 ((gt h_ i).1), .int .u32 ((gt h_ i).2)]) (x := aLoad Tryd.prog 194 (.pointer (some ⟨b8, 0, none⟩)) H22) (by kernel_rfl) (u151.ld (by kernel_rfl)) ?_
  have u152 := (((h_h.ext e10).frS e16 (hb11.djn h_h.ltF)).frS e23 (Dj.app dj_fp_h__b_h dj_fp_h_2_b_h))
  obtain ⟨y153, hy154, r155⟩ := bind_some r21
  refine s_ck 95 #[.pointer (some ⟨b_h, 0, none⟩), .int .i64 o19.2.2, .agg #[.int .u64 ((gt h_ i).1), .int .u32 ((gt h_ i).2)]] (by kernel_rfl) (c_heap_Heap_put e23.wf m25 m27 u152 dj_fp_h__b_h dj_fp_h__fp_h_2 hy154) ?_
  rintro _ H156 ⟨rfl, e157, m158, m159⟩
  refine s_nil ?_
  refine b_nrm (fn := Tryd.f97) (vs := []) (rfl) ?_
  obtain rfl := Option.some.inj r155
  exact ⟨rfl, (FrS.step wf (FrS.step wf (FrS.step wf ((FrS.refl (W := (fp_h_ ++ fp_h_2)) wf).extR e10) e16 (hb11.fresh (Nat.le_refl _))) e23 (Inn.app Inn.left (Inn.right Inn.refl'))) e157 (Inn.app Inn.left (Inn.right Inn.refl'))), m158, m159⟩

theorem c_heap_Heap_Set_1 {H : AH} {b_h : Nat} {hd_h_ : Value} {fp_h_ : Fp} {hd_h_2 : Value} {fp_h_2 : Fp} {h_ : List (Int × Int)} {h_2 : List (Int)} {id : Int} {key : Int} {r : Er × List (Int) × List (Int × Int)}
  (wf : WF H) (h_h_ : Ow enc_u64_u32 2 H hd_h_ h_ fp_h_) (h_h_2 : Ow (encI .i64) 1 H hd_h_2 h_2 fp_h_2) (h_h : Row H b_h [hd_h_, hd_h_2]) (dj_fp_h__b_h : Dj fp_h_ [b_h]) (dj_fp_h__fp_h_2 : Dj fp_h_ fp_h_2) (dj_b_h_fp_h_2 : Dj [b_h] fp_h_2) (hr : z_heap_Heap_Set_1 h_ h_2 id key = some r) :
  ACalls Tryd.prog 90 #[.pointer (some ⟨b_h, 0, none⟩), .int .u32 id, .int .u64 key] H fun v H' => ∃ (v3 : Value) (f4 : Fp) (s9 : Value) (f10 : Fp), v = v3 ∧ FrS ([b_h] ++ (fp_h_ ++ fp_h_2)) H H' ∧ Ev 80 86 H' v3 r.1 f4 ∧ Ow (encI .i64) 1 H' hd_h_2 r.2.1 fp_h_2 ∧ Ow enc_u64_u32 2 H' s9 r.2.2 f10 ∧ Row H' b_h [s9, hd_h_2] ∧ Inn [] H f4 ∧ Inn fp_h_ H f10 ∧ Dj f4 f10 := by
 refine acalls_of_body mixed Tryd.func90 rfl (Nat.le_of_ble_eq_true rfl) ?_
 unfold z_heap_Heap_Set_1 at hr
 refine w_seqk fun K16 k16 => ?_
 refine w_reg (by kernel_rfl) ?_
 refine s_qk (.nilIface) (by kernel_rfl) ?_
 refine s_nil ?_
 refine k16 _ _ ?_
 refine w_seqk fun K17 k17 => ?_
 refine w_seqk fun K18 k18 => ?_
 refine w_reg (by kernel_rfl) ?_
 refine s_qk (.pointer (some ⟨b_h, 0, none⟩)) (by kernel_rfl) ?_
 refine s_qk (.int .u32 id) (by kernel_rfl) ?_
 obtain ⟨y19, hy20, r21⟩ := bind_some hr
 refine s_ck 94 #[.pointer (some ⟨b_h, 0, none⟩), .int .u32 id] (by kernel_rfl) (c_heap_Heap_check_1 wf h_h_.sq h_h_2.sq h_h hy20) ?_
 rintro v22 _ ⟨_, f23, rfl, rfl, m26, i27⟩
 refine s_qk (v22) (by kernel_rfl) ?_
 refine s_nil ?_
 refine k18 _ _ ?_
 refine w_seqk fun K29 k29 => ?_
 refine w_reg (by kernel_rfl) ?_
 refine s_qk (v22) (by kernel_rfl) ?_
 rcases (m26).cases with ⟨h30, rfl⟩ | ⟨h30, t31, x32, rfl⟩
 ·have r33 := ite_t h30 r21
  refine s_qk (.bool false) (by kernel_rfl) ?_
  refine s_nil ?_
  refine k29 _ _ ?_
  refine w_cond false (by kernel_rfl) rfl (fun h => by cases h) (fun _ => ?_)
  refine w_skip ?_
  refine k17 _ _ ?_
  refine w_seqk fun K34 k34 => ?_
  refine w_reg (by kernel_rfl) ?_
  refine s_qk (.pointer (some ⟨b_h, 0, none⟩)) (by kernel_rfl) ?_
  refine s_qk (.pointer (some ⟨b_h, 0, none⟩)) (by kernel_rfl) ?_
  refine s_qk (.pointer (some ⟨b_h, 1, none⟩)) (by kernel_rfl) ?_
  refine s_ql (hd_h_2) (x := aLoad Tryd.prog 22 (.pointer (some ⟨b_h, 1, none⟩)) H) (by kernel_rfl) (h_h.ld (by kernel_rfl)) ?_
  refine s_qk (.int .u32 id) (by kernel_rfl) ?_
  obtain ⟨g35, r36⟩ := G_some r33
  refine s_ql (elp hd_h_2 1 id.toNat 0) (x := aIndexAddr Tryd.prog 22 hd_h_2 (.int .u32 id)) (by kernel_rfl) (h_h_2.sq.idxb (by kernel_rfl) g35.1 g35.2) ?_
  refine s_ql (.int .i64 (gt h_2 id)) (x := aLoad Tryd.prog 3 (elp hd_h_2 1 id.toNat 0) H) (by kernel_rfl) (h_h_2.sq.ld g35.1 g35.2 (by kernel_rfl)) ?_
  obtain ⟨g37, r38⟩ := G_some r36
  refine s_w (((gt h_2 id) - 1)) (k := .i64) (x := ((gt h_2 id) - 1)) (by kernel_rfl) (wrap64 g37) ?_
  refine s_qk (.int .i64 ((gt h_2 id) - 1)) (by kernel_rfl) ?_
  refine s_nil ?_
  refine k34 _ _ ?_
  refine w_seqk fun K39 k39 => ?_
  refine w_seqk fun K40 k40 => ?_
  refine w_reg (by kernel_rfl) ?_
  refine s_qk (.int .i64 ((gt h_2 id) - 1)) (by kernel_rfl) ?_
  refine s_qk (.bool (decide (((gt h_2 id) - 1) < 0))) (by kernel_rfl) ?_
  refine s_nil ?_
  refine k40 _ _ ?_
  obtain ⟨o41, hx42, r43⟩ := bind_some r38
  refine w_mid (fun α H44 => ∃ (s48 : Value) (f49 : Fp), Has α [(0, .pointer (some ⟨b_h, 0, none⟩)), (1, .int .u32 id), (2, .int .u64 key), (8, .int .i64 o41.2)] ∧ FrS ([b_h] ++ fp_h_) H H44 ∧ Ow enc_u64_u32 2 H44 s48 o41.1 f49 ∧ Row H44 b_h [s48, hd_h_2] ∧ Inn fp_h_ H f49) (fun K53 k53 => ?_) (fun α H44 hM => ?_)
  ·refine w_condp (((gt h_2 id) - 1) < 0) (by kernel_rfl) rfl (fun h55 => ?_) (fun h55 => ?_)
   ·have r56 := ite_t h55 hx42
    refine w_seqk fun K57 k57 => ?_
    refine w_reg (by kernel_rfl) ?_
    refine s_qk (.pointer (some ⟨b_h, 0, none⟩)) (by kernel_rfl) ?_
    refine s_qk (.pointer (some ⟨b_h, 0, none⟩)) (by kernel_rfl) ?_
    refine s_qk (.pointer (some ⟨b_h, 0, none⟩)) (by kernel_rfl) ?_
    refine s_ql (hd_h_) (x := aLoad Tryd.prog 188 (.pointer (some ⟨b_h, 0, none⟩)) H) (by kernel_rfl) (h_h.ld (by kernel_rfl)) ?_
    refine s_ql (.int .i64 (h_.length : Int)) (x := aLen Tryd.prog 188 hd_h_ H) (by kernel_rfl) (h_h_.sq.lenb (by kernel_rfl)) ?_
    refine s_qk (.int .i64 (h_.length : Int)) (by kernel_rfl) ?_
    refine s_nil ?_
    refine k57 _ _ ?_
    refine w_reg (by kernel_rfl) ?_
    refine s_qk (.pointer (some ⟨b_h, 0, none⟩)) (by kernel_rfl) ?_
    refine s_qk (.pointer (some ⟨b_h, 0, none⟩)) (by kernel_rfl) ?_
    refine s_qk (.pointer (some ⟨b_h, 0, none⟩)) (by kernel_rfl) ?_
    refine s_qk (.pointer (some ⟨b_h, 0, none⟩)) (by kernel_rfl) ?_
    refine s_ql (hd_h_) (x := aLoad Tryd.prog 188 (.pointer (some ⟨b_h, 0, none⟩)) H) (by kernel_rfl) (h_h.ld (by kernel_rfl)) ?_
    refine s_qk (.agg #[.int .u64 0, .int .u32 0]) (by kernel_rfl) ?_
    refine s_owk (enc := enc_u64_u32) (sz := 2) wf [(0, 0)] 1 (by decide) (fun _ _ => rfl) (fun _ _ => rfl) rfl (by kernel_rfl) fun s58 f59 H60 e61 hf62 hm63 => ?_
    obtain ⟨a64, n65, c66, rfl⟩ := hm63.form
    have u68 := (h_h_.ext e61)
    obtain ⟨g69, r70⟩ := G_some r56
    obtain ⟨s71, H72, f73, q77, e74, hm75, hf76⟩ := Ow.append (P := Tryd.prog) 16 e61.wf u68 hm63.sq (fun _ _ => rfl) (at_ := #[188, 188]) rfl rfl (by kernel_rfl) (by kernel_rfl) (by decide) (by have := g69; first | omega | (simp only [List.length_cons, List.length_nil] at this ⊢; omega) | (simp at this ⊢; omega))
    obtain ⟨a78, n79, c80, rfl⟩ := hm75.form
    refine s_ek (.slice a78 n79 c80) (by kernel_rfl) (q77) ?_
    refine s_qk (.pointer (some ⟨b_h, 0, none⟩)) (by kernel_rfl) ?_
    refine s_qk (.pointer (some ⟨b_h, 0, none⟩)) (by kernel_rfl) ?_
    have u86 := ((h_h.ext e61).frS e74 dj_fp_h__b_h)
    obtain ⟨H82, q83, e84, r85⟩ := Row.store (P := Tryd.prog) (t := 188) (p := 0) e74.wf u86 (.slice a78 n79 c80) [.slice a78 n79 c80] (by kernel_rfl) (by kernel_rfl) (one_cons (hm75.one1) (one_nil)) (Nat.le_of_ble_eq_true (by kernel_rfl)) [.slice a78 n79 c80, hd_h_2] (by kernel_rfl)
    refine s_ek (undef) (by kernel_rfl) (map_ok q83) ?_
    refine s_nil ?_
    have u87 := (hm75.fr e84 (Dj.symm (hf76.dj dj_fp_h__b_h (h_h.ltF.le e61.next))))
    obtain rfl := Option.some.inj r70
    exact k53 _ _ ⟨(.slice a78 n79 c80), f73, ⟨by kernel_rfl, by kernel_rfl, by kernel_rfl, by kernel_rfl, trivial⟩, (FrS.step wf (FrS.step wf ((FrS.refl (W := ([b_h] ++ fp_h_)) wf).extR e61) e74 (Inn.right Inn.refl')) e84 Inn.left), u87, r85, (Inn.trans Inn.refl' e61.next hf76)⟩
   ·have r88 := ite_f h55 hx42
    refine w_skip ?_
    obtain rfl := Option.some.inj r88
    exact k53 _ _ ⟨(hd_h_), fp_h_, ⟨by kernel_rfl, by kernel_rfl, by kernel_rfl, by kernel_rfl, trivial⟩, (FrS.refl (W := ([b_h] ++ fp_h_)) wf), h_h_, h_h, Inn.refl'⟩
  ·obtain ⟨s48, f49, hh54, e45, m47, m51, i52⟩ := hM
   obtain ⟨β, rfl⟩ := has_ex hh54
   clear hh54
   obtain ⟨a89, n90, c91, rfl⟩ := m47.form
   refine k39 _ _ ?_
   refine w_seqk fun K92 k92 => ?_
   refine w_reg (by kernel_rfl) ?_
   refine s_qk (.pointer (some ⟨b_h, 0, none⟩)) (by kernel_rfl) ?_
   refine s_qk (.int .i64 o41.2) (by kernel_rfl) ?_
   refine s_qk (.int .u64 key) (by kernel_rfl) ?_
   refine s_qk (.int .u32 id) (by kernel_rfl) ?_
   refine s_qk (.agg #[.int .u64 key, .int .u32 id]) (by kernel_rfl) ?_
   have u93 := (h_h_2.fr e45 (Dj.app dj_b_h_fp_h_2 dj_fp_h__fp_h_2))
   obtain ⟨y94, hy95, r96⟩ := bind_some r43
   refine s_ck 95 #[.pointer (some ⟨b_h, 0, none⟩), .int .i64 o41.2, .agg #[.int .u64 key, .int .u32 id]] (by kernel_rfl) (c_heap_Heap_put e45.wf m47 u93 m51 (i52.dj dj_fp_h__b_h h_h.ltF) (i52.dj dj_fp_h__fp_h_2 h_h_2.lt) hy95) ?_
   rintro _ H97 ⟨rfl, e98, m99, m100⟩
   refine s_nil ?_
   refine k92 _ _ ?_
   refine w_seqk fun K101 k101 => ?_
   refine w_reg (by kernel_rfl) ?_
   refine s_qk (.pointer (some ⟨b_h, 0, none⟩)) (by kernel_rfl) ?_
   refine s_qk (.int .i64 o41.2) (by kernel_rfl) ?_
   have u102 := (m51.frS e98 (Dj.app (i52.dj dj_fp_h__b_h h_h.ltF) (Dj.symm dj_b_h_fp_h_2)))
   obtain ⟨y103, hy104, r105⟩ := bind_some r96
   refine s_ck 96 #[.pointer (some ⟨b_h, 0, none⟩), .int .i64 o41.2] (by kernel_rfl) (c_heap_Heap_up e98.wf m99 m100 u102 (i52.dj dj_fp_h__b_h h_h.ltF) (i52.dj dj_fp_h__fp_h_2 h_h_2.lt) (Dj.symm dj_b_h_fp_h_2) hy104) ?_
   rintro _ H106 ⟨rfl, e107, m108, m109⟩
   refine s_nil ?_
   refine k101 _ _ ?_
   refine w_seqk fun K110 k110 => ?_
   refine w_reg (by kernel_rfl) ?_
   refine s_qk (.pointer (some ⟨b_h, 0, none⟩)) (by kernel_rfl) ?_
   refine s_qk (.pointer (some ⟨b_h, 0, none⟩)) (by kernel_rfl) ?_
   refine s_qk (.pointer (some ⟨b_h, 0, none⟩)) (by kernel_rfl) ?_
   refine s_qk (.pointer (some ⟨b_h, 1, none⟩)) (by kernel_rfl) ?_
   have u111 := (u102.frS e107 (Dj.app (i52.dj dj_fp_h__b_h h_h.ltF) (Dj.symm dj_b_h_fp_h_2)))
   refine s_ql (hd_h_2) (x := aLoad Tryd.prog 22 (.pointer (some ⟨b_h, 1, none⟩)) H106) (by kernel_rfl) (u111.ld (by kernel_rfl)) ?_
   refine s_qk (.int .u32 id) (by kernel_rfl) ?_
   obtain ⟨g112, r113⟩ := G_some r105
   refine s_ql (elp hd_h_2 1 id.toNat 0) (x := aIndexAddr Tryd.prog 22 hd_h_2 (.int .u32 id)) (by kernel_rfl) (m109.sq.idxb (by kernel_rfl) g35.1 g112) ?_
   refine s_ql (.int .i64 (gt y103.2 id)) (x := aLoad Tryd.prog 3 (elp hd_h_2 1 id.toNat 0) H106) (by kernel_rfl) (m109.sq.ld g35.1 g112 (by kernel_rfl)) ?_
   obtain ⟨g114, r115⟩ := G_some r113
   refine s_w (((gt y103.2 id) - 1)) (k := .i64) (x := ((gt y103.2 id) - 1)) (by kernel_rfl) (wrap64 g114) ?_
   obtain ⟨y116, hy117, r118⟩ := bind_some r115
   refine s_ck 97 #[.pointer (some ⟨b_h, 0, none⟩), .int .i64 ((gt y103.2 id) - 1)] (by kernel_rfl) (c_heap_Heap_down e107.wf m108 m109 u111 (i52.dj dj_fp_h__b_h h_h.ltF) (i52.dj dj_fp_h__fp_h_2 h_h_2.lt) (Dj.symm dj_b_h_fp_h_2) hy117) ?_
   rintro _ H119 ⟨rfl, e120, m121, m122⟩
   refine s_nil ?_
   refine k110 _ _ ?_
   refine w_seqk fun K123 k123 => ?_
   refine w_reg (by kernel_rfl) ?_
   refine s_qk (.nilIface) (by kernel_rfl) ?_
   refine s_nil ?_
   refine k123 _ _ ?_
   refine w_ret ?_
   refine b_ret (fn := Tryd.f90) (vs := [.nilIface]) (aRes_tmp (by kernel_rfl) (rfl)) ?_
   have u124 := (u111.frS e120 (Dj.app (i52.dj dj_fp_h__b_h h_h.ltF) (Dj.symm dj_b_h_fp_h_2)))
   obtain rfl := Option.some.inj r118
   exact ⟨(.nilIface), [], (.slice a89 n90 c91), f49, rfl, (FrS.step wf (FrS.step wf (FrS.step wf (FrS.step wf (FrS.refl (W := ([b_h] ++ (fp_h_ ++ fp_h_2))) wf) e45 (Inn.app Inn.left (Inn.right Inn.left))) e98 (Inn.app (Inn.trans (Inn.right Inn.left) (Nat.le_refl _) i52) (Inn.right (Inn.right Inn.refl')))) e107 (Inn.app (Inn.trans (Inn.right Inn.left) (Nat.le_refl _) i52) (Inn.right (Inn.right Inn.refl')))) e120 (Inn.app (Inn.trans (Inn.right Inn.left) (Nat.le_refl _) i52) (Inn.right (Inn.right Inn.refl')))), Ev.nil, m122, m121, u124, Inn.nil, (Inn.trans Inn.refl' (Nat.le_refl _) i52), Dj.nil_l⟩
 ·have r125 := ite_f h30 r21
  refine s_ql (.bool true) (x := aBin Tryd.prog .neq 25 (.tmp 12) (.const .nilIface) (.iface t31 x32) .nilIface) (by kernel_rfl) (aBin_nnil (by kernel_rfl)) ?_
  refine s_nil ?_
  refine k29 _ _ ?_
  refine w_cond true (by kernel_rfl) rfl (fun _ => ?_) (fun h => by cases h)
  refine w_seqk fun K126 k126 => ?_
  refine w_reg (by kernel_rfl) ?_
  refine s_qk (.iface t31 x32) (by kernel_rfl) ?_
  refine s_qk (.iface t31 x32) (by kernel_rfl) ?_
  refine s_nil ?_
  refine k126 _ _ ?_
  refine w_ret (th_ret ?_)
  refine b_ret (fn := Tryd.f90) (vs := [.iface t31 x32]) (aRes_tmp (by kernel_rfl) (rfl)) ?_
  obtain rfl := Option.some.inj r125
  exact ⟨(.iface t31 x32), f23, (hd_h_), fp_h_, rfl, (FrS.refl (W := ([b_h] ++ (fp_h_ ++ fp_h_2))) wf), m26, h_h_2, h_h_, h_h, (i27.fresh (Nat.le_refl _)), Inn.refl', (i27.djn h_h_.lt)⟩

theorem c_search_state_label_2 {H : AH} {b_st : Nat} {hd_st_ : Value} {fp_st_ : Fp} {hd_st_2 : Value} {fp_st_2 : Fp} {hd_st_3 : Value} {fp_st_3 : Fp} {b_st_4 : Nat} {hd_st_5 : Value} {fp_st_5 : Fp} {hd_st_6 : Value} {fp_st_6 : Fp} {hd_st_7 : Value} {fp_st_7 : Fp} {hd_st_8 : Value} {fp_st_8 : Fp} {st_ : List (Int)} {st_2 : List (Int)} {st_3 : List (Int)} {st_5 : List (Int × Int)} {st_6 : List (Int)} {st_7 : List (Int)} {st_8 : List (Bool)} {v_ : Int} {d : Int} {hops : Int} {r : List (Int) × List (Int × Int) × List (Int)}
  (wf : WF H) (h_st_ : Sq (encI .i64) 1 H hd_st_ st_ fp_st_) (h_st_2 : Sq (encI .i64) 1 H hd_st_2 st_2 fp_st_2) (h_st_3 : Sq (encI .i64) 1 H hd_st_3 st_3 fp_st_3) (h_st_5 : Ow enc_u64_u32 2 H hd_st_5 st_5 fp_st_5) (h_st_6 : Ow (encI .i64) 1 H hd_st_6 st_6 fp_st_6) (h_st_4 : Row H b_st_4 [hd_st_5, hd_st_6]) (h_st_7 : Ow (encI .i64) 1 H hd_st_7 st_7 fp_st_7) (h_st_8 : Sq encB 1 H hd_st_8 st_8 fp_st_8) (h_st : Row H b_st [hd_st_, hd_st_2, hd_st_3, .pointer (some ⟨b_st_4, 0, none⟩), .pointer none, hd_st_7, hd_st_8]) (dj_fp_st_7_b_st : Dj fp_st_7 [b_st]) (dj_fp_st_7_fp_st_5 : Dj fp_st_7 fp_st_5) (dj_fp_st_7_fp_st_6 : Dj fp_st_7 fp_st_6) (dj_fp_st_7_b_st_4 : Dj fp_st_7 [b_st_4]) (dj_fp_st_5_b_st_4 : Dj fp_st_5 [b_st_4]) (dj_fp_st_5_fp_st_6 : Dj fp_st_5 fp_st_6) (dj_b_st_4_fp_st_6 : Dj [b_st_4] fp_st_6) (hr : z_search_state_label_2 st_ st_2 st_3 st_5 st_6 st_7 st_8 v_ d hops = some r) :
  ACalls Tryd.prog 77 #[.pointer (some ⟨b_st, 0, none⟩), .int .i64 v_, .int .u64 d, .int .i64 hops] H fun v H' => ∃ (s5 : Value) (f6 : Fp), v = .tuple #[] ∧ FrS ([b_st_4] ++ (fp_st_5 ++ (fp_st_6 ++ fp_st_7))) H H' ∧ Ow (encI .i64) 1 H' hd_st_6 r.1 fp_st_6 ∧ Ow enc_u64_u32 2 H' s5 r.2.1 f6 ∧ Row H' b_st_4 [s5, hd_st_6] ∧ Ow (encI .i64) 1 H' hd_st_7 r.2.2 fp_st_7 ∧ Inn fp_st_5 H f6 := by
 refine acalls_of_body mixed Tryd.func77 rfl (Nat.le_of_ble_eq_true rfl) ?_
 unfold z_search_state_label_2 at hr
 refine w_seqk fun K12 k12 => ?_
 refine w_reg (by kernel_rfl) ?_
 refine s_qk (.pointer (some ⟨b_st, 0, none⟩)) (by kernel_rfl) ?_
 refine s_qk (.pointer (some ⟨b_st, 0, none⟩)) (by kernel_rfl) ?_
 refine s_qk (.pointer (some ⟨b_st, 4, none⟩)) (by kernel_rfl) ?_
 refine s_ql (.pointer none) (x := aLoad Tryd.prog 103 (.pointer (some ⟨b_st, 4, none⟩)) H) (by kernel_rfl) (h_st.ld (by kernel_rfl)) ?_
 refine s_qk (.int .i64 v_) (by kernel_rfl) ?_
 refine s_qk (.int .u64 d) (by kernel_rfl) ?_
 obtain ⟨y13, hy14, r15⟩ := bind_some hr
 refine s_ck 89 #[.pointer none, .int .i64 v_, .int .u64 d] (by kernel_rfl) (c_stamp_Stamp_Set wf hy14) ?_
 rintro _ _ ⟨rfl, rfl⟩
 refine s_nil ?_
 refine k12 _ _ ?_
 refine w_seqk fun K18 k18 => ?_
 refine w_reg (by kernel_rfl) ?_
 refine s_qk (.pointer (some ⟨b_st, 0, none⟩)) (by kernel_rfl) ?_
 refine s_qk (.pointer (some ⟨b_st, 0, none⟩)) (by kernel_rfl) ?_
 refine s_qk (.pointer (some ⟨b_st, 5, none⟩)) (by kernel_rfl) ?_
 refine s_ql (hd_st_7) (x := aLoad Tryd.prog 22 (.pointer (some ⟨b_st, 5, none⟩)) H) (by kernel_rfl) (h_st.ld (by kernel_rfl)) ?_
 refine s_qk (.int .i64 v_) (by kernel_rfl) ?_
 refine s_qk (.int .i64 hops) (by kernel_rfl) ?_
 obtain ⟨g19, r20⟩ := G_some r15
 refine s_ql (elp hd_st_7 1 v_.toNat 0) (x := aIndexAddr Tryd.prog 22 hd_st_7 (.int .i64 v_)) (by kernel_rfl) (h_st_7.sq.idxb (by kernel_rfl) g19.1 g19.2) ?_
 obtain ⟨H21, q22, e23, hm24⟩ := Ow.store (P := Tryd.prog) (t := 3) (off := 0) wf h_st_7 g19.1 g19.2 (.int .i64 hops) [.int .i64 hops] (by kernel_rfl) (by kernel_rfl) rfl hops (Nat.le_of_ble_eq_true rfl) (by kernel_rfl)
 refine s_ek (undef) (by kernel_rfl) (map_ok q22) ?_
 refine s_nil ?_
 refine k18 _ _ ?_
 refine w_reg (by kernel_rfl) ?_
 refine s_qk (.pointer (some ⟨b_st, 0, none⟩)) (by kernel_rfl) ?_
 refine s_qk (.pointer (some ⟨b_st, 0, none⟩)) (by kernel_rfl) ?_
 refine s_qk (.pointer (some ⟨b_st, 3, none⟩)) (by kernel_rfl) ?_
 have u25 := (h_st.frS e23 dj_fp_st_7_b_st)
 refine s_ql (.pointer (some ⟨b_st_4, 0, none⟩)) (x := aLoad Tryd.prog 102 (.pointer (some ⟨b_st, 3, none⟩)) H21) (by kernel_rfl) (u25.ld (by kernel_rfl)) ?_
 refine s_qk (.int .i64 v_) (by kernel_rfl) ?_
 obtain ⟨g26, r27⟩ := G_some r20
 refine s_w (v_) (k := .u32) (x := v_) (by kernel_rfl) (wrapu32 (by have := g26; omega)) ?_
 refine s_qk (.int .u64 d) (by kernel_rfl) ?_
 have u28 := (h_st_5.fr e23 dj_fp_st_7_fp_st_5)
 have u29 := (h_st_6.fr e23 dj_fp_st_7_fp_st_6)
 have u30 := (h_st_4.frS e23 dj_fp_st_7_b_st_4)
 obtain ⟨y31, hy32, r33⟩ := bind_some r27
 refine s_ck 90 #[.pointer (some ⟨b_st_4, 0, none⟩), .int .u32 v_, .int .u64 d] (by kernel_rfl) (c_heap_Heap_Set_1 e23.wf u28 u29 u30 dj_fp_st_5_b_st_4 dj_fp_st_5_fp_st_6 dj_b_st_4_fp_st_6 hy32) ?_
 rintro v34 H38 ⟨_, f35, s36, f37, rfl, e39, m40, m41, m42, m43, i44, i45, d46⟩
 obtain ⟨a49, n50, c51, rfl⟩ := m42.form
 refine s_nil ?_
 refine b_nrm (fn := Tryd.f77) (vs := []) (rfl) ?_
 have u52 := (hm24.fr e39 (Dj.app (Dj.symm dj_fp_st_7_b_st_4) (Dj.app (Dj.symm dj_fp_st_7_fp_st_5) (Dj.symm dj_fp_st_7_fp_st_6))))
 obtain rfl := Option.some.inj r33
 exact ⟨(.slice a49 n50 c51), f37, rfl, (FrS.step wf (FrS.step wf (FrS.refl (W := ([b_st_4] ++ (fp_st_5 ++ (fp_st_6 ++ fp_st_7)))) wf) e23 (Inn.right (Inn.right (Inn.right Inn.refl')))) e39 (Inn.app Inn.left (Inn.app (Inn.right Inn.left) (Inn.right (Inn.right Inn.left))))), m41, m42, m43, u52, (Inn.trans Inn.refl' e23.next i45)⟩

theorem c_heap_Heap_Top_1 {H : AH} {b_h : Nat} {hd_h_ : Value} {fp_h_ : Fp} {hd_h_2 : Value} {fp_h_2 : Fp} {h_ : List (Int × Int)} {h_2 : List (Int)} {r : Int × Int × Bool}
  (wf : WF H) (h_h_ : Sq enc_u64_u32 2 H hd_h_ h_ fp_h_) (h_h_2 : Sq (encI .i64) 1 H hd_h_2 h_2 fp_h_2) (h_h : Row H b_h [hd_h_, hd_h_2]) (hr : z_heap_Heap_Top_1 h_ h_2 = some r) :
  ACalls Tryd.prog 78 #[.pointer (some ⟨b_h, 0, none⟩)] H fun v H' => v = .tuple #[.int .u32 r.1, .int .u64 r.2.1, .bool r.2.2] ∧ H = H' := by
 refine acalls_of_body mixed Tryd.func78 rfl (Nat.le_of_ble_eq_true rfl) ?_
 unfold z_heap_Heap_Top_1 at hr
 refine w_seqk fun K1 k1 => ?_
 refine w_reg (by kernel_rfl) ?_
 refine s_qk (.int .u32 0) (by kernel_rfl) ?_
 refine s_qk (.int .u64 0) (by kernel_rfl) ?_
 refine s_qk (.bool false) (by kernel_rfl) ?_
 refine s_nil ?_
 refine k1 _ _ ?_
 refine w_seqk fun K2 k2 => ?_
 refine w_seqk fun K3 k3 => ?_
 refine w_reg (by kernel_rfl) ?_
 refine s_qk (.pointer (some ⟨b_h, 0, none⟩)) (by kernel_rfl) ?_
 refine s_qk (.bool false) (by kernel_rfl) ?_
 refine s_qk (.bool false) (by kernel_rfl) ?_
 refine s_qk (.pointer (some ⟨b_h, 0, none⟩)) (by kernel_rfl) ?_
 refine s_qk (.pointer (some ⟨b_h, 0, none⟩)) (by kernel_rfl) ?_
 refine s_qk (.pointer (some ⟨b_h, 0, none⟩)) (by kernel_rfl) ?_
 refine s_ql (hd_h_) (x := aLoad Tryd.prog 188 (.pointer (some ⟨b_h, 0, none⟩)) H) (by kernel_rfl) (h_h.ld (by kernel_rfl)) ?_
 refine s_ql (.int .i64 (h_.length : Int)) (x := aLen Tryd.prog 188 hd_h_ H) (by kernel_rfl) (h_h_.lenb (by kernel_rfl)) ?_
 refine s_qk (.bool (decide ((h_.length : Int) = 0))) (by kernel_rfl) ?_
 refine s_qk (.bool (decide ((h_.length : Int) = 0))) (by kernel_rfl) ?_
 refine s_nil ?_
 refine k3 _ _ ?_
 refine w_condp ((h_.length : Int) = 0) (by kernel_rfl) rfl (fun h4 => ?_) (fun h4 => ?_)
 ·have r5 := ite_t h4 hr
  refine w_seqk fun K6 k6 => ?_
  refine w_reg (by kernel_rfl) ?_
  refine s_qk (.int .u32 0) (by kernel_rfl) ?_
  refine s_qk (.int .u64 0) (by kernel_rfl) ?_
  refine s_qk (.bool false) (by kernel_rfl) ?_
  refine s_nil ?_
  refine k6 _ _ ?_
  refine w_ret (th_ret ?_)
  refine b_ret (fn := Tryd.f78) (vs := [.int .u32 0, .int .u64 0, .bool false]) (aRes_tmp (by kernel_rfl) (aRes_tmp (by kernel_rfl) (aRes_tmp (by kernel_rfl) (rfl)))) ?_
  obtain rfl := Option.some.inj r5
  exact ⟨rfl, rfl⟩
 ·have r7 := ite_f h4 hr
  refine w_skip ?_
  refine k2 _ _ ?_
  refine w_seqk fun K8 k8 => ?_
  refine w_draw [0, 1, 2, 3, 4, 5, 6, 7, 8, 9, 10, 11, 12, 13, 14, 15, 16] (by kernel_rfl) ?_
  refine d_qk (.pointer (some ⟨b_h, 0, none⟩)) (by kernel_rfl) ?_
  refine d_qk (.pointer (some ⟨b_h, 0, none⟩)) (by kernel_rfl) ?_
  refine d_qk (.pointer (some ⟨b_h, 0, none⟩)) (by kernel_rfl) ?_
  refine d_ql (hd_h_) (x := aLoad Tryd.prog 188 (.pointer (some ⟨b_h, 0, none⟩)) H) (by kernel_rfl) (h_h.ld (by kernel_rfl)) ?_
  obtain ⟨g9, r10⟩ := G_some r7
  refine d_ql (elp hd_h_ 2 (0 : Int).toNat 0) (x := aIndexAddr Tryd.prog 188 hd_h_ (.int .i64 0)) (by kernel_rfl) (h_h_.idxb (by kernel_rfl) (by decide) g9) ?_
  refine d_ql (elp hd_h_ 2 (0 : Int).toNat 1) (x := aFieldAddr Tryd.prog 194 (elp hd_h_ 2 (0 : Int).toNat 0) 1) (by kernel_rfl) (Sq.fldq (d := 1) h_h_ (by decide) g9 (by kernel_rfl)) ?_
  refine d_ql (.int .u32 ((gt h_ 0).2)) (x := aLoad Tryd.prog 156 (elp hd_h_ 2 (0 : Int).toNat 1) H) (by kernel_rfl) (h_h_.ld (by decide) g9 (by kernel_rfl)) ?_
  refine d_qk (.pointer (some ⟨b_h, 0, none⟩)) (by kernel_rfl) ?_
  refine d_qk (.pointer (some ⟨b_h, 0, none⟩)) (by kernel_rfl) ?_
  refine d_qk (.pointer (some ⟨b_h, 0, none⟩)) (by kernel_rfl) ?_
  refine d_ql (hd_h_) (x := aLoad Tryd.prog 188 (.pointer (some ⟨b_h, 0, none⟩)) H) (by kernel_rfl) (h_h.ld (by kernel_rfl)) ?_
  refine d_ql (elp hd_h_ 2 (0 : Int).toNat 0) (x := aIndexAddr Tryd.prog 188 hd_h_ (.int .i64 0)) (by kernel_rfl) (h_h_.idxb (by kernel_rfl) (by decide) g9) ?_
  refine d_ql (elp hd_h_ 2 (0 : Int).toNat 0) (x := aFieldAddr Tryd.prog 194 (elp hd_h_ 2 (0 : Int).toNat 0) 0) (by kernel_rfl) (Sq.fldq (d := 0) h_h_ (by decide) g9 (by kernel_rfl)) ?_
  refine d_ql (.int .u64 ((gt h_ 0).1)) (x := aLoad Tryd.prog 42 (elp hd_h_ 2 (0 : Int).toNat 0) H) (by kernel_rfl) (h_h_.ld (by decide) g9 (by kernel_rfl)) ?_
  refine d_qk (.int .u32 ((gt h_ 0).2)) (by kernel_rfl) ?_
  refine d_qk (.int .u64 ((gt h_ 0).1)) (by kernel_rfl) ?_
  refine d_qk (.bool true) (by kernel_rfl) ?_
  refine d_nil ?_
  refine k8 _ _ ?_
  refine w_ret ?_
  refine b_ret (fn := Tryd.f78) (vs := [.int .u32 ((gt h_ 0).2), .int .u64 ((gt h_ 0).1), .bool true]) (aRes_tmp (by kernel_rfl) (aRes_tmp (by kernel_rfl) (aRes_tmp (by kernel_rfl) (rfl)))) ?_
  obtain rfl := Option.some.inj r10
  exact ⟨rfl, rfl⟩

theorem c_heap_Heap_Key {H : AH} {b_h : Nat} {hd_h_ : Value} {fp_h_ : Fp} {hd_h_2 : Value} {fp_h_2 : Fp} {h_ : List (Int × Int)} {h_2 : List (Int)} {id : Int} {r : Int × Bool}
  (wf : WF H) (h_h_ : Sq enc_u64_u32 2 H hd_h_ h_ fp_h_) (h_h_2 : Sq (encI .i64) 1 H hd_h_2 h_2 fp_h_2) (h_h : Row H b_h [hd_h_, hd_h_2]) (hr : z_heap_Heap_Key h_ h_2 id = some r) :
  ACalls Tryd.prog 98 #[.pointer (some ⟨b_h, 0, none⟩), .int .u32 id] H fun v H' => v = .tuple #[.int .u64 r.1, .bool r.2] ∧ H = H' := by
 refine acalls_of_body mixed Tryd.func98 rfl (Nat.le_of_ble_eq_true rfl) ?_
 unfold z_heap_Heap_Key at hr
 refine w_seqk fun K1 k1 => ?_
 refine w_reg (by kernel_rfl) ?_
 refine s_qk (.int .u64 0) (by kernel_rfl) ?_
 refine s_qk (.bool false) (by kernel_rfl) ?_
 refine s_nil ?_
 refine k1 _ _ ?_
 refine w_seqk fun K2 k2 => ?_
 refine w_seqk fun K3 k3 => ?_
 obtain ⟨o4, hx5, r6⟩ := bind_some hr
 refine w_mid (fun α H7 => Has α [(0, .pointer (some ⟨b_h, 0, none⟩)), (1, .int .u32 id), (19, .bool o4)] ∧ H = H7) (fun K9 k9 => ?_) (fun α H7 hM => ?_)
 ·refine w_reg (by kernel_rfl) ?_
  refine s_qk (.pointer (some ⟨b_h, 0, none⟩)) (by kernel_rfl) ?_
  refine s_qk (.int .u32 id) (by kernel_rfl) ?_
  obtain ⟨y11, hy12, r13⟩ := bind_some hx5
  refine s_ck 94 #[.pointer (some ⟨b_h, 0, none⟩), .int .u32 id] (by kernel_rfl) (c_heap_Heap_check_1 wf h_h_ h_h_2 h_h hy12) ?_
  rintro v14 _ ⟨_, f15, rfl, rfl, m18, i19⟩
  rcases (m18).cases with ⟨h21, rfl⟩ | ⟨h21, t22, x23, rfl⟩
  ·have r24 := ite_t h21 r13
   refine s_qk (.bool false) (by kernel_rfl) ?_
   refine s_qk (.bool false) (by kernel_rfl) ?_
   refine s_qk (.pointer (some ⟨b_h, 0, none⟩)) (by kernel_rfl) ?_
   refine s_qk (.pointer (some ⟨b_h, 0, none⟩)) (by kernel_rfl) ?_
   refine s_qk (.pointer (some ⟨b_h, 1, none⟩)) (by kernel_rfl) ?_
   refine s_ql (hd_h_2) (x := aLoad Tryd.prog 22 (.pointer (some ⟨b_h, 1, none⟩)) H) (by kernel_rfl) (h_h.ld (by kernel_rfl)) ?_
   refine s_qk (.int .u32 id) (by kernel_rfl) ?_
   obtain ⟨g25, r26⟩ := G_some r24
   refine s_ql (elp hd_h_2 1 id.toNat 0) (x := aIndexAddr Tryd.prog 22 hd_h_2 (.int .u32 id)) (by kernel_rfl) (h_h_2.idxb (by kernel_rfl) g25.1 g25.2) ?_
   refine s_ql (.int .i64 (gt h_2 id)) (x := aLoad Tryd.prog 3 (elp hd_h_2 1 id.toNat 0) H) (by kernel_rfl) (h_h_2.ld g25.1 g25.2 (by kernel_rfl)) ?_
   refine s_qk (.bool (decide ((gt h_2 id) = 0))) (by kernel_rfl) ?_
   refine s_qk (.bool (decide ((gt h_2 id) = 0))) (by kernel_rfl) ?_
   refine s_nil ?_
   obtain rfl := Option.some.inj r26
   exact k9 _ _ ⟨⟨by kernel_rfl, by kernel_rfl, by kernel_rfl, trivial⟩, rfl⟩
  ·have r27 := ite_f h21 r13
   refine s_ql (.bool true) (x := aBin Tryd.prog .neq 25 (.tmp 8) (.const .nilIface) (.iface t22 x23) .nilIface) (by kernel_rfl) (aBin_nnil (by kernel_rfl)) ?_
   refine s_qk (.bool true) (by kernel_rfl) ?_
   refine s_no (by kernel_rfl) ?_
   refine s_no (by kernel_rfl) ?_
   refine s_no (by kernel_rfl) ?_
   refine s_no (by kernel_rfl) ?_
   refine s_no (by kernel_rfl) ?_
   refine s_no (by kernel_rfl) ?_
   refine s_no (by kernel_rfl) ?_
   refine s_no (by kernel_rfl) ?_
   refine s_qk (.bool true) (by kernel_rfl) ?_
   refine s_nil ?_
   obtain rfl := Option.some.inj r27
   exact k9 _ _ ⟨⟨by kernel_rfl, by kernel_rfl, by kernel_rfl, trivial⟩, rfl⟩
 ·obtain ⟨hh10, rfl⟩ := hM
  obtain ⟨β, rfl⟩ := has_ex hh10
  clear hh10
  refine k3 _ _ ?_
  refine w_cond (o4) (by kernel_rfl) rfl (fun h28 => ?_) (fun h28 => ?_)
  ·have r29 := ite_t h28 r6
   refine w_seqk fun K30 k30 => ?_
   refine w_reg (by kernel_rfl) ?_
   refine s_qk (.int .u64 0) (by kernel_rfl) ?_
   refine s_qk (.bool false) (by kernel_rfl) ?_
   refine s_nil ?_
   refine k30 _ _ ?_
   refine w_ret (th_ret ?_)
   refine b_ret (fn := Tryd.f98) (vs := [.int .u64 0, .bool false]) (aRes_tmp (by kernel_rfl) (aRes_tmp (by kernel_rfl) (rfl))) ?_
   obtain rfl := Option.some.inj r29
   exact ⟨rfl, rfl⟩
  ·have r31 := ite_bf h28 r6
   refine w_skip ?_
   refine k2 _ _ ?_
   refine w_seqk fun K32 k32 => ?_
   refine w_draw [0, 1, 2, 3, 4, 5, 6, 7, 8, 9, 10, 11, 12, 13, 14, 15, 16] (by kernel_rfl) ?_
   refine d_qk (.pointer (some ⟨b_h, 0, none⟩)) (by kernel_rfl) ?_
   refine d_qk (.pointer (some ⟨b_h, 0, none⟩)) (by kernel_rfl) ?_
   refine d_qk (.pointer (some ⟨b_h, 0, none⟩)) (by kernel_rfl) ?_
   refine d_ql (hd_h_) (x := aLoad Tryd.prog 188 (.pointer (some ⟨b_h, 0, none⟩)) H) (by kernel_rfl) (h_h.ld (by kernel_rfl)) ?_
   refine d_qk (.pointer (some ⟨b_h, 0, none⟩)) (by kernel_rfl) ?_
   refine d_qk (.pointer (some ⟨b_h, 0, none⟩)) (by kernel_rfl) ?_
   refine d_qk (.pointer (some ⟨b_h, 1, none⟩)) (by kernel_rfl) ?_
   refine d_ql (hd_h_2) (x := aLoad Tryd.prog 22 (.pointer (some ⟨b_h, 1, none⟩)) H) (by kernel_rfl) (h_h.ld (by kernel_rfl)) ?_
   refine d_qk (.int .u32 id) (by kernel_rfl) ?_
   obtain ⟨g33, r34⟩ := G_some r31
   refine d_ql (elp hd_h_2 1 id.toNat 0) (x := aIndexAddr Tryd.prog 22 hd_h_2 (.int .u32 id)) (by kernel_rfl) (h_h_2.idxb (by kernel_rfl) g33.1 g33.2) ?_
   refine d_ql (.int .i64 (gt h_2 id)) (x := aLoad Tryd.prog 3 (elp hd_h_2 1 id.toNat 0) H) (by kernel_rfl) (h_h_2.ld g33.1 g33.2 (by kernel_rfl)) ?_
   obtain ⟨g35, r36⟩ := G_some r34
   refine d_w (((gt h_2 id) - 1)) (k := .i64) (x := ((gt h_2 id) - 1)) (by kernel_rfl) (wrap64 g35) ?_
   obtain ⟨g37, r38⟩ := G_some r36
   refine d_ql (elp hd_h_ 2 ((gt h_2 id) - 1).toNat 0) (x := aIndexAddr Tryd.prog 188 hd_h_ (.int .i64 ((gt h_2 id) - 1))) (by kernel_rfl) (h_h_.idxb (by kernel_rfl) g37.1 g37.2) ?_
   refine d_ql (elp hd_h_ 2 ((gt h_2 id) - 1).toNat 0) (x := aFieldAddr Tryd.prog 194 (elp hd_h_ 2 ((gt h_2 id) - 1).toNat 0) 0) (by kernel_rfl) (Sq.fldq (d := 0) h_h_ g37.1 g37.2 (by kernel_rfl)) ?_
   refine d_ql (.int .u64 ((gt h_ ((gt h_2 id) - 1)).1)) (x := aLoad Tryd.prog 42 (elp hd_h_ 2 ((gt h_2 id) - 1).toNat 0) H) (by kernel_rfl) (h_h_.ld g37.1 g37.2 (by kernel_rfl)) ?_
   refine d_qk (.int .u64 ((gt h_ ((gt h_2 id) - 1)).1)) (by kernel_rfl) ?_
   refine d_qk (.bool true) (by kernel_rfl) ?_
   refine d_nil ?_
   refine k32 _ _ ?_
   refine w_ret ?_
   refine b_ret (fn := Tryd.f98) (vs := [.int .u64 ((gt h_ ((gt h_2 id) - 1)).1), .bool true]) (aRes_tmp (by kernel_rfl) (aRes_tmp (by kernel_rfl) (rfl))) ?_
   obtain rfl := Option.some.inj r38
   exact ⟨rfl, rfl⟩


end Go.Vd

/-! (KWn4) -/

set_option maxRecDepth 100000
set_option maxHeartbeats 4000000
set_option linter.unusedVariables false
namespace Go.Vd
open Go.Proofs
attribute [local irreducible] wpSeq wpOrd aWp
theorem c_heap_Heap_Remove {H : AH} {b_h : Nat} {hd_h_ : Value} {fp_h_ : Fp} {hd_h_2 : Value} {fp_h_2 : Fp} {h_ : List (Int × Int)} {h_2 : List (Int)} {id : Int} {r : Bool × List (Int) × List (Int × Int)}
  (wf : WF H) (h_h_ : Ow enc_u64_u32 2 H hd_h_ h_ fp_h_) (h_h_2 : Ow (encI .i64) 1 H hd_h_2 h_2 fp_h_2) (h_h : Row H b_h [hd_h_, hd_h_2]) (dj_b_h_fp_h_2 : Dj [b_h] fp_h_2) (dj_b_h_fp_h_ : Dj [b_h] fp_h_) (dj_fp_h_2_fp_h_ : Dj fp_h_2 fp_h_) (hr : z_heap_Heap_Remove h_ h_2 id = some r) :
  ACalls Tryd.prog 91 #[.pointer (some ⟨b_h, 0, none⟩), .int .u32 id] H fun v H' => ∃ (s5 : Value), v = .bool r.1 ∧ FrS ([b_h] ++ (fp_h_ ++ fp_h_2)) H H' ∧ Ow (encI .i64) 1 H' hd_h_2 r.2.1 fp_h_2 ∧ Ow enc_u64_u32 2 H' s5 r.2.2 fp_h_ ∧ Row H' b_h [s5, hd_h_2] := by
 refine acalls_of_body mixed Tryd.func91 rfl (Nat.le_of_ble_eq_true rfl) ?_
 unfold z_heap_Heap_Remove at hr
 refine w_seqk fun K8 k8 => ?_
 refine w_reg (by kernel_rfl) ?_
 refine s_qk (.bool false) (by kernel_rfl) ?_
 refine s_nil ?_
 refine k8 _ _ ?_
 refine w_seqk fun K9 k9 => ?_
 refine w_seqk fun K10 k10 => ?_
 refine w_reg (by kernel_rfl) ?_
 refine s_qk (.pointer (some ⟨b_h, 0, none⟩)) (by kernel_rfl) ?_
 refine s_qk (.int .u32 id) (by kernel_rfl) ?_
 obtain ⟨y11, hy12, r13⟩ := bind_some hr
 refine s_ck 98 #[.pointer (some ⟨b_h, 0, none⟩), .int .u32 id] (by kernel_rfl) (c_heap_Heap_Key wf h_h_.sq h_h_2.sq h_h hy12) ?_
 rintro _ _ ⟨rfl, rfl⟩
 refine s_qk (.tuple #[.int .u64 y11.1, .bool y11.2]) (by kernel_rfl) ?_
 refine s_qk (.int .u64 y11.1) (by kernel_rfl) ?_
 refine s_qk (.bool y11.2) (by kernel_rfl) ?_
 refine s_qk (.int .u64 y11.1) (by kernel_rfl) ?_
 refine s_qk (.bool y11.2) (by kernel_rfl) ?_
 refine s_nil ?_
 refine k10 _ _ ?_
 refine w_seqk fun K16 k16 => ?_
 refine w_reg (by kernel_rfl) ?_
 refine s_qk (.bool y11.2) (by kernel_rfl) ?_
 refine s_qk (.bool (!y11.2)) (by kernel_rfl) ?_
 refine s_nil ?_
 refine k16 _ _ ?_
 refine w_cond ((!y11.2)) (by kernel_rfl) rfl (fun h17 => ?_) (fun h17 => ?_)
 ·have r18 := ite_t h17 r13
  refine w_seqk fun K19 k19 => ?_
  refine w_reg (by kernel_rfl) ?_
  refine s_qk (.bool false) (by kernel_rfl) ?_
  refine s_nil ?_
  refine k19 _ _ ?_
  refine w_ret (th_ret ?_)
  refine b_ret (fn := Tryd.f91) (vs := [.bool false]) (aRes_tmp (by kernel_rfl) (rfl)) ?_
  obtain rfl := Option.some.inj r18
  exact ⟨(hd_h_), rfl, (FrS.refl (W := ([b_h] ++ (fp_h_ ++ fp_h_2))) wf), h_h_2, h_h_, h_h⟩
 ·have r20 := ite_bf h17 r13
  refine w_skip ?_
  refine k9 _ _ ?_
  refine w_seqk fun K21 k21 => ?_
  refine w_draw [0, 1, 2, 3, 4, 5, 6, 7, 8, 9, 10, 11, 12, 13, 14, 15] (by kernel_rfl) ?_
  refine d_qk (.pointer (some ⟨b_h, 0, none⟩)) (by kernel_rfl) ?_
  refine d_qk (.pointer (some ⟨b_h, 0, none⟩)) (by kernel_rfl) ?_
  refine d_qk (.pointer (some ⟨b_h, 1, none⟩)) (by kernel_rfl) ?_
  refine d_ql (hd_h_2) (x := aLoad Tryd.prog 22 (.pointer (some ⟨b_h, 1, none⟩)) H) (by kernel_rfl) (h_h.ld (by kernel_rfl)) ?_
  refine d_qk (.int .u32 id) (by kernel_rfl) ?_
  obtain ⟨g22, r23⟩ := G_some r20
  refine d_ql (elp hd_h_2 1 id.toNat 0) (x := aIndexAddr Tryd.prog 22 hd_h_2 (.int .u32 id)) (by kernel_rfl) (h_h_2.sq.idxb (by kernel_rfl) g22.1 g22.2) ?_
  refine d_ql (.int .i64 (gt h_2 id)) (x := aLoad Tryd.prog 3 (elp hd_h_2 1 id.toNat 0) H) (by kernel_rfl) (h_h_2.sq.ld g22.1 g22.2 (by kernel_rfl)) ?_
  obtain ⟨g24, r25⟩ := G_some r23
  refine d_w (((gt h_2 id) - 1)) (k := .i64) (x := ((gt h_2 id) - 1)) (by kernel_rfl) (wrap64 g24) ?_
  refine d_qk (.pointer (some ⟨b_h, 0, none⟩)) (by kernel_rfl) ?_
  refine d_qk (.pointer (some ⟨b_h, 0, none⟩)) (by kernel_rfl) ?_
  refine d_qk (.pointer (some ⟨b_h, 0, none⟩)) (by kernel_rfl) ?_
  refine d_ql (hd_h_) (x := aLoad Tryd.prog 188 (.pointer (some ⟨b_h, 0, none⟩)) H) (by kernel_rfl) (h_h.ld (by kernel_rfl)) ?_
  refine d_ql (.int .i64 (h_.length : Int)) (x := aLen Tryd.prog 188 hd_h_ H) (by kernel_rfl) (h_h_.sq.lenb (by kernel_rfl)) ?_
  obtain ⟨g26, r27⟩ := G_some r25
  refine d_w (((h_.length : Int) - 1)) (k := .i64) (x := ((h_.length : Int) - 1)) (by kernel_rfl) (wrap64 g26) ?_
  refine d_qk (.int .i64 ((gt h_2 id) - 1)) (by kernel_rfl) ?_
  refine d_qk (.int .i64 ((h_.length : Int) - 1)) (by kernel_rfl) ?_
  refine d_nil ?_
  refine k21 _ _ ?_
  refine w_seqk fun K28 k28 => ?_
  refine w_reg (by kernel_rfl) ?_
  refine s_qk (.pointer (some ⟨b_h, 0, none⟩)) (by kernel_rfl) ?_
  refine s_qk (.pointer (some ⟨b_h, 0, none⟩)) (by kernel_rfl) ?_
  refine s_qk (.pointer (some ⟨b_h, 0, none⟩)) (by kernel_rfl) ?_
  refine s_ql (hd_h_) (x := aLoad Tryd.prog 188 (.pointer (some ⟨b_h, 0, none⟩)) H) (by kernel_rfl) (h_h.ld (by kernel_rfl)) ?_
  refine s_qk (.int .i64 ((h_.length : Int) - 1)) (by kernel_rfl) ?_
  obtain ⟨g29, r30⟩ := G_some r27
  refine s_ql (elp hd_h_ 2 ((h_.length : Int) - 1).toNat 0) (x := aIndexAddr Tryd.prog 188 hd_h_ (.int .i64 ((h_.length : Int) - 1))) (by kernel_rfl) (h_h_.sq.idxb (by kernel_rfl) g29.1 g29.2) ?_
  refine s_ql (.agg #[.int .u64 ((gt h_ ((h_.length : Int) - 1)).1), .int .u32 ((gt h_ ((h_.length : Int) - 1)).2)]) (x := aLoad Tryd.prog 194 (elp hd_h_ 2 ((h_.length : Int) - 1).toNat 0) H) (by kernel_rfl) (h_h_.sq.ld g29.1 g29.2 (by kernel_rfl)) ?_
  refine s_rwk wf [.int .u64 0, .int .u32 0] (by kernel_rfl) fun b31 H32 e33 hb34 r35 => ?_
  obtain ⟨H37, q38, e39, r40⟩ := Row.store (P := Tryd.prog) (t := 194) (p := 0) e33.wf r35 (.agg #[.int .u64 ((gt h_ ((h_.length : Int) - 1)).1), .int .u32 ((gt h_ ((h_.length : Int) - 1)).2)]) [.int .u64 ((gt h_ ((h_.length : Int) - 1)).1), .int .u32 ((gt h_ ((h_.length : Int) - 1)).2)] (by kernel_rfl) (by kernel_rfl) (one_cons (rfl) (one_cons (rfl) (one_nil))) (Nat.le_of_ble_eq_true (by kernel_rfl)) [.int .u64 ((gt h_ ((h_.length : Int) - 1)).1), .int .u32 ((gt h_ ((h_.length : Int) - 1)).2)] (by kernel_rfl)
  refine s_ek (undef) (by kernel_rfl) (map_ok q38) ?_
  refine s_nil ?_
  refine k28 _ _ ?_
  refine w_seqk fun K41 k41 => ?_
  refine w_reg (by kernel_rfl) ?_
  refine s_qk (.pointer (some ⟨b_h, 0, none⟩)) (by kernel_rfl) ?_
  refine s_qk (.pointer (some ⟨b_h, 0, none⟩)) (by kernel_rfl) ?_
  refine s_qk (.pointer (some ⟨b_h, 0, none⟩)) (by kernel_rfl) ?_
  refine s_qk (.pointer (some ⟨b_h, 0, none⟩)) (by kernel_rfl) ?_
  have u42 := ((h_h.ext e33).frS e39 (hb34.djn h_h.ltF))
  refine s_ql (hd_h_) (x := aLoad Tryd.prog 188 (.pointer (some ⟨b_h, 0, none⟩)) H37) (by kernel_rfl) (u42.ld (by kernel_rfl)) ?_
  refine s_qk (.int .i64 ((h_.length : Int) - 1)) (by kernel_rfl) ?_
  obtain ⟨g43, r44⟩ := G_some r30
  have u48 := ((h_h_.ext e33).fr e39 (hb34.djn h_h_.lt))
  obtain ⟨s45, q46, hs47⟩ := Ow.head (P := Tryd.prog) u48 (t := 188) (by kernel_rfl) (hi := (some (.int .i64 ((h_.length : Int) - 1)))) (r := ((h_.length : Int) - 1).toNat) (aBound_int _ (by have := g43; omega)) (by have := g43; omega)
  obtain ⟨a49, n50, c51, rfl⟩ := hs47.form
  refine s_ql (.slice a49 n50 c51) (by kernel_rfl) q46 ?_
  refine s_qk (.pointer (some ⟨b_h, 0, none⟩)) (by kernel_rfl) ?_
  refine s_qk (.pointer (some ⟨b_h, 0, none⟩)) (by kernel_rfl) ?_
  obtain ⟨H53, q54, e55, r56⟩ := Row.store (P := Tryd.prog) (t := 188) (p := 0) e39.wf u42 (.slice a49 n50 c51) [.slice a49 n50 c51] (by kernel_rfl) (by kernel_rfl) (one_cons (hs47.one1) (one_nil)) (Nat.le_of_ble_eq_true (by kernel_rfl)) [.slice a49 n50 c51, hd_h_2] (by kernel_rfl)
  refine s_ek (undef) (by kernel_rfl) (map_ok q54) ?_
  refine s_nil ?_
  refine k41 _ _ ?_
  refine w_seqk fun K57 k57 => ?_
  refine w_reg (by kernel_rfl) ?_
  refine s_qk (.pointer (some ⟨b_h, 0, none⟩)) (by kernel_rfl) ?_
  refine s_qk (.pointer (some ⟨b_h, 0, none⟩)) (by kernel_rfl) ?_
  refine s_qk (.pointer (some ⟨b_h, 1, none⟩)) (by kernel_rfl) ?_
  refine s_ql (hd_h_2) (x := aLoad Tryd.prog 22 (.pointer (some ⟨b_h, 1, none⟩)) H53) (by kernel_rfl) (r56.ld (by kernel_rfl)) ?_
  refine s_qk (.int .u32 id) (by kernel_rfl) ?_
  have u58 := (((h_h_2.ext e33).fr e39 (hb34.djn h_h_2.lt)).fr e55 dj_b_h_fp_h_2)
  refine s_ql (elp hd_h_2 1 id.toNat 0) (x := aIndexAddr Tryd.prog 22 hd_h_2 (.int .u32 id)) (by kernel_rfl) (u58.sq.idxb (by kernel_rfl) g22.1 g22.2) ?_
  obtain ⟨H59, q60, e61, hm62⟩ := Ow.store (P := Tryd.prog) (t := 3) (off := 0) e55.wf u58 g22.1 g22.2 (.int .i64 0) [.int .i64 0] (by kernel_rfl) (by kernel_rfl) rfl 0 (Nat.le_of_ble_eq_true rfl) (by kernel_rfl)
  refine s_ek (undef) (by kernel_rfl) (map_ok q60) ?_
  refine s_nil ?_
  refine k57 _ _ ?_
  refine w_seqk fun K63 k63 => ?_
  refine w_seqk fun K64 k64 => ?_
  refine w_reg (by kernel_rfl) ?_
  refine s_qk (.int .i64 ((gt h_2 id) - 1)) (by kernel_rfl) ?_
  refine s_qk (.int .i64 ((h_.length : Int) - 1)) (by kernel_rfl) ?_
  refine s_qk (.bool (decide (((gt h_2 id) - 1) < ((h_.length : Int) - 1)))) (by kernel_rfl) ?_
  refine s_nil ?_
  refine k64 _ _ ?_
  refine w_condp (((gt h_2 id) - 1) < ((h_.length : Int) - 1)) (by kernel_rfl) rfl (fun h65 => ?_) (fun h65 => ?_)
  ·have r66 := ite_t h65 r44
   refine w_seqk fun K67 k67 => ?_
   refine w_reg (by kernel_rfl) ?_
   refine s_qk (.pointer (some ⟨b_h, 0, none⟩)) (by kernel_rfl) ?_
   refine s_qk (.int .i64 ((gt h_2 id) - 1)) (by kernel_rfl) ?_
   have u68 := ((r40.frS e55 (Dj.symm (hb34.djn h_h.ltF))).frS e61 (Dj.symm (hb34.djn h_h_2.lt)))
   refine s_ql (.agg #[.int .u64 ((gt h_ ((h_.length : Int) - 1)).1), .int .u32 ((gt h_ ((h_.length : Int) - 1)).2)]) (x := aLoad Tryd.prog 194 (.pointer (some ⟨b31, 0, none⟩)) H59) (by kernel_rfl) (u68.ld (by kernel_rfl)) ?_
   have u69 := ((hs47.fr e55 dj_b_h_fp_h_).fr e61 dj_fp_h_2_fp_h_)
   have u70 := (r56.frS e61 (Dj.symm dj_b_h_fp_h_2))
   obtain ⟨y71, hy72, r73⟩ := bind_some r66
   refine s_ck 95 #[.pointer (some ⟨b_h, 0, none⟩), .int .i64 ((gt h_2 id) - 1), .agg #[.int .u64 ((gt h_ ((h_.length : Int) - 1)).1), .int .u32 ((gt h_ ((h_.length : Int) - 1)).2)]] (by kernel_rfl) (c_heap_Heap_put e61.wf u69 hm62 u70 (Dj.symm dj_b_h_fp_h_) (Dj.symm dj_fp_h_2_fp_h_) hy72) ?_
   rintro _ H74 ⟨rfl, e75, m76, m77⟩
   refine s_nil ?_
   refine k67 _ _ ?_
   refine w_seqk fun K78 k78 => ?_
   refine w_reg (by kernel_rfl) ?_
   refine s_qk (.pointer (some ⟨b_h, 0, none⟩)) (by kernel_rfl) ?_
   refine s_qk (.int .i64 ((gt h_2 id) - 1)) (by kernel_rfl) ?_
   have u79 := (u70.frS e75 (Dj.app (Dj.symm dj_b_h_fp_h_) (Dj.symm dj_b_h_fp_h_2)))
   obtain ⟨y80, hy81, r82⟩ := bind_some r73
   refine s_ck 96 #[.pointer (some ⟨b_h, 0, none⟩), .int .i64 ((gt h_2 id) - 1)] (by kernel_rfl) (c_heap_Heap_up e75.wf m76 m77 u79 (Dj.symm dj_b_h_fp_h_) (Dj.symm dj_fp_h_2_fp_h_) (Dj.symm dj_b_h_fp_h_2) hy81) ?_
   rintro _ H83 ⟨rfl, e84, m85, m86⟩
   refine s_nil ?_
   refine k78 _ _ ?_
   refine w_draw [0, 1, 2, 3, 4, 5, 6, 7, 8, 9, 10] (by kernel_rfl) ?_
   refine d_qk (.pointer (some ⟨b_h, 0, none⟩)) (by kernel_rfl) ?_
   refine d_qk (.pointer (some ⟨b_h, 0, none⟩)) (by kernel_rfl) ?_
   refine d_qk (.pointer (some ⟨b_h, 0, none⟩)) (by kernel_rfl) ?_
   refine d_qk (.pointer (some ⟨b_h, 1, none⟩)) (by kernel_rfl) ?_
   have u87 := (u79.frS e84 (Dj.app (Dj.symm dj_b_h_fp_h_) (Dj.symm dj_b_h_fp_h_2)))
   refine d_ql (hd_h_2) (x := aLoad Tryd.prog 22 (.pointer (some ⟨b_h, 1, none⟩)) H83) (by kernel_rfl) (u87.ld (by kernel_rfl)) ?_
   refine d_qk (.pointer (some ⟨b31, 1, none⟩)) (by kernel_rfl) ?_
   have u88 := ((u68.frS e75 (Dj.app (Dj.symm (hb34.djn h_h_.lt)) (Dj.symm (hb34.djn h_h_2.lt)))).frS e84 (Dj.app (Dj.symm (hb34.djn h_h_.lt)) (Dj.symm (hb34.djn h_h_2.lt))))
   refine d_ql (.int .u32 ((gt h_ ((h_.length : Int) - 1)).2)) (x := aLoad Tryd.prog 156 (.pointer (some ⟨b31, 1, none⟩)) H83) (by kernel_rfl) (u88.ld (by kernel_rfl)) ?_
   obtain ⟨g89, r90⟩ := G_some r82
   refine d_ql (elp hd_h_2 1 ((gt h_ ((h_.length : Int) - 1)).2).toNat 0) (x := aIndexAddr Tryd.prog 22 hd_h_2 (.int .u32 ((gt h_ ((h_.length : Int) - 1)).2))) (by kernel_rfl) (m86.sq.idxb (by kernel_rfl) g89.1 g89.2) ?_
   refine d_ql (.int .i64 (gt y80.2 ((gt h_ ((h_.length : Int) - 1)).2))) (x := aLoad Tryd.prog 3 (elp hd_h_2 1 ((gt h_ ((h_.length : Int) - 1)).2).toNat 0) H83) (by kernel_rfl) (m86.sq.ld g89.1 g89.2 (by kernel_rfl)) ?_
   obtain ⟨g91, r92⟩ := G_some r90
   refine d_w (((gt y80.2 ((gt h_ ((h_.length : Int) - 1)).2)) - 1)) (k := .i64) (x := ((gt y80.2 ((gt h_ ((h_.length : Int) - 1)).2)) - 1)) (by kernel_rfl) (wrap64 g91) ?_
   obtain ⟨y93, hy94, r95⟩ := bind_some r92
   refine d_ck 97 #[.pointer (some ⟨b_h, 0, none⟩), .int .i64 ((gt y80.2 ((gt h_ ((h_.length : Int) - 1)).2)) - 1)] (by kernel_rfl) (c_heap_Heap_down e84.wf m85 m86 u87 (Dj.symm dj_b_h_fp_h_) (Dj.symm dj_fp_h_2_fp_h_) (Dj.symm dj_b_h_fp_h_2) hy94) ?_
   rintro _ H96 ⟨rfl, e97, m98, m99⟩
   refine ⟨st_nil, ?_⟩
   refine d_nil ?_
   refine k63 _ _ ?_
   refine w_seqk fun K100 k100 => ?_
   refine w_reg (by kernel_rfl) ?_
   refine s_qk (.bool true) (by kernel_rfl) ?_
   refine s_nil ?_
   refine k100 _ _ ?_
   refine w_ret ?_
   refine b_ret (fn := Tryd.f91) (vs := [.bool true]) (aRes_tmp (by kernel_rfl) (rfl)) ?_
   have u101 := (u87.frS e97 (Dj.app (Dj.symm dj_b_h_fp_h_) (Dj.symm dj_b_h_fp_h_2)))
   obtain rfl := Option.some.inj r95
   exact ⟨(.slice a49 n50 c51), rfl, (FrS.step wf (FrS.step wf (FrS.step wf (FrS.step wf (FrS.step wf (FrS.step wf ((FrS.refl (W := ([b_h] ++ (fp_h_ ++ fp_h_2))) wf).extR e33) e39 (hb34.fresh (Nat.le_refl _))) e55 Inn.left) e61 (Inn.right (Inn.right Inn.refl'))) e75 (Inn.app (Inn.right Inn.left) (Inn.right (Inn.right Inn.refl')))) e84 (Inn.app (Inn.right Inn.left) (Inn.right (Inn.right Inn.refl')))) e97 (Inn.app (Inn.right Inn.left) (Inn.right (Inn.right Inn.refl')))), m99, m98, u101⟩
  ·have r102 := ite_f h65 r44
   refine w_skip ?_
   refine k63 _ _ ?_
   refine w_seqk fun K103 k103 => ?_
   refine w_reg (by kernel_rfl) ?_
   refine s_qk (.bool true) (by kernel_rfl) ?_
   refine s_nil ?_
   refine k103 _ _ ?_
   refine w_ret ?_
   refine b_ret (fn := Tryd.f91) (vs := [.bool true]) (aRes_tmp (by kernel_rfl) (rfl)) ?_
   have u104 := ((hs47.fr e55 dj_b_h_fp_h_).fr e61 dj_fp_h_2_fp_h_)
   have u105 := (r56.frS e61 (Dj.symm dj_b_h_fp_h_2))
   obtain rfl := Option.some.inj r102
   exact ⟨(.slice a49 n50 c51), rfl, (FrS.step wf (FrS.step wf (FrS.step wf ((FrS.refl (W := ([b_h] ++ (fp_h_ ++ fp_h_2))) wf).extR e33) e39 (hb34.fresh (Nat.le_refl _))) e55 Inn.left) e61 (Inn.right (Inn.right Inn.refl'))), hm62, u104, u105⟩

theorem c_heap_Heap_Pop {H : AH} {b_h : Nat} {hd_h_ : Value} {fp_h_ : Fp} {hd_h_2 : Value} {fp_h_2 : Fp} {h_ : List (Int × Int)} {h_2 : List (Int)} {r : Int × Int × Bool × List (Int) × List (Int × Int)}
  (wf : WF H) (h_h_ : Ow enc_u64_u32 2 H hd_h_ h_ fp_h_) (h_h_2 : Ow (encI .i64) 1 H hd_h_2 h_2 fp_h_2) (h_h : Row H b_h [hd_h_, hd_h_2]) (dj_b_h_fp_h_2 : Dj [b_h] fp_h_2) (dj_b_h_fp_h_ : Dj [b_h] fp_h_) (dj_fp_h_2_fp_h_ : Dj fp_h_2 fp_h_) (hr : z_heap_Heap_Pop h_ h_2 = some r) :
  ACalls Tryd.prog 79 #[.pointer (some ⟨b_h, 0, none⟩)] H fun v H' => ∃ (s5 : Value), v = .tuple #[.int .u32 r.1, .int .u64 r.2.1, .bool r.2.2.1] ∧ FrS ([b_h] ++ (fp_h_ ++ fp_h_2)) H H' ∧ Ow (encI .i64) 1 H' hd_h_2 r.2.2.2.1 fp_h_2 ∧ Ow enc_u64_u32 2 H' s5 r.2.2.2.2 fp_h_ ∧ Row H' b_h [s5, hd_h_2] := by
 refine acalls_of_body mixed Tryd.func79 rfl (Nat.le_of_ble_eq_true rfl) ?_
 unfold z_heap_Heap_Pop at hr
 refine w_seqk fun K8 k8 => ?_
 refine w_reg (by kernel_rfl) ?_
 refine s_qk (.int .u32 0) (by kernel_rfl) ?_
 refine s_qk (.int .u64 0) (by kernel_rfl) ?_
 refine s_qk (.bool false) (by kernel_rfl) ?_
 refine s_nil ?_
 refine k8 _ _ ?_
 refine w_seqk fun K9 k9 => ?_
 refine w_reg (by kernel_rfl) ?_
 refine s_qk (.pointer (some ⟨b_h, 0, none⟩)) (by kernel_rfl) ?_
 obtain ⟨y10, hy11, r12⟩ := bind_some hr
 refine s_ck 78 #[.pointer (some ⟨b_h, 0, none⟩)] (by kernel_rfl) (c_heap_Heap_Top_1 wf h_h_.sq h_h_2.sq h_h hy11) ?_
 rintro _ _ ⟨rfl, rfl⟩
 refine s_qk (.tuple #[.int .u32 y10.1, .int .u64 y10.2.1, .bool y10.2.2]) (by kernel_rfl) ?_
 refine s_qk (.int .u32 y10.1) (by kernel_rfl) ?_
 refine s_qk (.int .u64 y10.2.1) (by kernel_rfl) ?_
 refine s_qk (.bool y10.2.2) (by kernel_rfl) ?_
 refine s_qk (.int .u32 y10.1) (by kernel_rfl) ?_
 refine s_qk (.int .u64 y10.2.1) (by kernel_rfl) ?_
 refine s_qk (.bool y10.2.2) (by kernel_rfl) ?_
 refine s_nil ?_
 refine k9 _ _ ?_
 refine w_seqk fun K15 k15 => ?_
 refine w_seqk fun K16 k16 => ?_
 refine w_reg (by kernel_rfl) ?_
 refine s_qk (.bool y10.2.2) (by kernel_rfl) ?_
 refine s_nil ?_
 refine k16 _ _ ?_
 refine w_cond (y10.2.2) (by kernel_rfl) rfl (fun h17 => ?_) (fun h17 => ?_)
 ·have r18 := ite_t h17 r12
  refine w_reg (by kernel_rfl) ?_
  refine s_qk (.pointer (some ⟨b_h, 0, none⟩)) (by kernel_rfl) ?_
  refine s_qk (.int .u32 y10.1) (by kernel_rfl) ?_
  obtain ⟨y19, hy20, r21⟩ := bind_some r18
  refine s_ck 91 #[.pointer (some ⟨b_h, 0, none⟩), .int .u32 y10.1] (by kernel_rfl) (c_heap_Heap_Remove wf h_h_ h_h_2 h_h dj_b_h_fp_h_2 dj_b_h_fp_h_ dj_fp_h_2_fp_h_ hy20) ?_
  rintro _ H23 ⟨s22, rfl, e24, m25, m26, m27⟩
  obtain ⟨a29, n30, c31, rfl⟩ := m26.form
  refine s_nil ?_
  refine k15 _ _ ?_
  refine w_seqk fun K32 k32 => ?_
  refine w_reg (by kernel_rfl) ?_
  refine s_qk (.int .u32 y10.1) (by kernel_rfl) ?_
  refine s_qk (.int .u64 y10.2.1) (by kernel_rfl) ?_
  refine s_qk (.bool y10.2.2) (by kernel_rfl) ?_
  refine s_qk (.int .u32 y10.1) (by kernel_rfl) ?_
  refine s_qk (.int .u64 y10.2.1) (by kernel_rfl) ?_
  refine s_qk (.bool y10.2.2) (by kernel_rfl) ?_
  refine s_nil ?_
  refine k32 _ _ ?_
  refine w_ret ?_
  refine b_ret (fn := Tryd.f79) (vs := [.int .u32 y10.1, .int .u64 y10.2.1, .bool y10.2.2]) (aRes_tmp (by kernel_rfl) (aRes_tmp (by kernel_rfl) (aRes_tmp (by kernel_rfl) (rfl)))) ?_
  obtain rfl := Option.some.inj r21
  exact ⟨(.slice a29 n30 c31), rfl, (FrS.step wf (FrS.refl (W := ([b_h] ++ (fp_h_ ++ fp_h_2))) wf) e24 (Inn.app Inn.left (Inn.app (Inn.right Inn.left) (Inn.right (Inn.right Inn.refl'))))), m25, m26, m27⟩
 ·have r33 := ite_bf h17 r12
  refine w_skip ?_
  refine k15 _ _ ?_
  refine w_seqk fun K34 k34 => ?_
  refine w_reg (by kernel_rfl) ?_
  refine s_qk (.int .u32 y10.1) (by kernel_rfl) ?_
  refine s_qk (.int .u64 y10.2.1) (by kernel_rfl) ?_
  refine s_qk (.bool y10.2.2) (by kernel_rfl) ?_
  refine s_qk (.int .u32 y10.1) (by kernel_rfl) ?_
  refine s_qk (.int .u64 y10.2.1) (by kernel_rfl) ?_
  refine s_qk (.bool y10.2.2) (by kernel_rfl) ?_
  refine s_nil ?_
  refine k34 _ _ ?_
  refine w_ret ?_
  refine b_ret (fn := Tryd.f79) (vs := [.int .u32 y10.1, .int .u64 y10.2.1, .bool y10.2.2]) (aRes_tmp (by kernel_rfl) (aRes_tmp (by kernel_rfl) (aRes_tmp (by kernel_rfl) (rfl)))) ?_
  obtain rfl := Option.some.inj r33
  exact ⟨(hd_h_), rfl, (FrS.refl (W := ([b_h] ++ (fp_h_ ++ fp_h_2))) wf), h_h_2, h_h_, h_h⟩

theorem c_stamp_Stamp_Get {H : AH} {i : Int} {r : Unit}
  (wf : WF H) (hr : z_stamp_Stamp_Get i = some r) :
  ACalls Tryd.prog 62 #[.pointer none, .int .i64 i] H fun v H' => v = .tuple #[.int .u64 0, .bool false] ∧ H = H' := by
 refine acalls_of_body mixed Tryd.func62 rfl (Nat.le_of_ble_eq_true rfl) ?_
 unfold z_stamp_Stamp_Get at hr
 refine w_seqk fun K1 k1 => ?_
 refine w_reg (by kernel_rfl) ?_
 refine s_qk (.int .u64 0) (by kernel_rfl) ?_
 refine s_qk (.bool false) (by kernel_rfl) ?_
 refine s_nil ?_
 refine k1 _ _ ?_
 refine w_seqk fun K2 k2 => ?_
 refine w_seqk fun K3 k3 => ?_
 refine w_draw [0, 1, 2, 3, 4, 5, 6, 7, 8, 9, 10, 11, 12, 13, 14, 15, 16, 17, 18, 19, 20, 21, 22, 23, 24, 25, 26, 27, 28, 29] (by kernel_rfl) ?_
 refine d_qk (.pointer none) (by kernel_rfl) ?_
 refine d_qk (.bool true) (by kernel_rfl) ?_
 refine d_qk (.bool true) (by kernel_rfl) ?_
 refine d_idle (by kernel_rfl) ?_
 refine d_idle (by kernel_rfl) ?_
 refine d_qk (.bool true) (by kernel_rfl) ?_
 refine d_qk (.bool true) (by kernel_rfl) ?_
 refine d_idle (by kernel_rfl) ?_
 refine d_idle (by kernel_rfl) ?_
 refine d_idle (by kernel_rfl) ?_
 refine d_idle (by kernel_rfl) ?_
 refine d_idle (by kernel_rfl) ?_
 refine d_idle (by kernel_rfl) ?_
 refine d_idle (by kernel_rfl) ?_
 refine d_qk (.bool true) (by kernel_rfl) ?_
 refine d_qk (.bool true) (by kernel_rfl) ?_
 refine d_idle (by kernel_rfl) ?_
 refine d_idle (by kernel_rfl) ?_
 refine d_idle (by kernel_rfl) ?_
 refine d_idle (by kernel_rfl) ?_
 refine d_idle (by kernel_rfl) ?_
 refine d_idle (by kernel_rfl) ?_
 refine d_idle (by kernel_rfl) ?_
 refine d_idle (by kernel_rfl) ?_
 refine d_idle (by kernel_rfl) ?_
 refine d_idle (by kernel_rfl) ?_
 refine d_idle (by kernel_rfl) ?_
 refine d_idle (by kernel_rfl) ?_
 refine d_idle (by kernel_rfl) ?_
 refine d_qk (.bool true) (by kernel_rfl) ?_
 refine d_nil ?_
 refine k3 _ _ ?_
 refine w_cond true (by kernel_rfl) rfl (fun _ => ?_) (fun h => by cases h)
 refine w_seqk fun K4 k4 => ?_
 refine w_reg (by kernel_rfl) ?_
 refine s_qk (.int .u64 0) (by kernel_rfl) ?_
 refine s_qk (.bool false) (by kernel_rfl) ?_
 refine s_nil ?_
 refine k4 _ _ ?_
 refine w_ret (th_ret ?_)
 refine b_ret (fn := Tryd.f62) (vs := [.int .u64 0, .bool false]) (aRes_tmp (by kernel_rfl) (aRes_tmp (by kernel_rfl) (rfl))) ?_
 obtain rfl := Option.some.inj hr
 exact ⟨rfl, rfl⟩

theorem c_search_state_settle {H : AH} {b_st : Nat} {hd_st_ : Value} {fp_st_ : Fp} {hd_st_2 : Value} {fp_st_2 : Fp} {hd_st_3 : Value} {fp_st_3 : Fp} {b_st_4 : Nat} {hd_st_5 : Value} {fp_st_5 : Fp} {hd_st_6 : Value} {fp_st_6 : Fp} {hd_st_7 : Value} {fp_st_7 : Fp} {hd_st_8 : Value} {fp_st_8 : Fp} {st_ : List (Int)} {st_2 : List (Int)} {st_3 : List (Int)} {st_5 : List (Int × Int)} {st_6 : List (Int)} {st_7 : List (Int)} {st_8 : List (Bool)} {v_ : Int} {d : Int} {hops : Int} {r : List (Int) × List (Int × Int) × List (Int) × List (Bool)}
  (wf : WF H) (h_st_ : Sq (encI .i64) 1 H hd_st_ st_ fp_st_) (h_st_2 : Sq (encI .i64) 1 H hd_st_2 st_2 fp_st_2) (h_st_3 : Sq (encI .i64) 1 H hd_st_3 st_3 fp_st_3) (h_st_5 : Ow enc_u64_u32 2 H hd_st_5 st_5 fp_st_5) (h_st_6 : Ow (encI .i64) 1 H hd_st_6 st_6 fp_st_6) (h_st_4 : Row H b_st_4 [hd_st_5, hd_st_6]) (h_st_7 : Ow (encI .i64) 1 H hd_st_7 st_7 fp_st_7) (h_st_8 : Ow encB 1 H hd_st_8 st_8 fp_st_8) (h_st : Row H b_st [hd_st_, hd_st_2, hd_st_3, .pointer (some ⟨b_st_4, 0, none⟩), .pointer none, hd_st_7, hd_st_8]) (dj_fp_st_8_b_st : Dj fp_st_8 [b_st]) (dj_fp_st_8_fp_st_7 : Dj fp_st_8 fp_st_7) (dj_fp_st_8_fp_st_6 : Dj fp_st_8 fp_st_6) (dj_fp_st_8_fp_st_5 : Dj fp_st_8 fp_st_5) (dj_fp_st_8_b_st_4 : Dj fp_st_8 [b_st_4]) (dj_fp_st_8_fp_st_ : Dj fp_st_8 fp_st_) (dj_fp_st_8_fp_st_2 : Dj fp_st_8 fp_st_2) (dj_fp_st_8_fp_st_3 : Dj fp_st_8 fp_st_3) (dj_fp_st_7_b_st : Dj fp_st_7 [b_st]) (dj_fp_st_7_fp_st_5 : Dj fp_st_7 fp_st_5) (dj_fp_st_7_fp_st_6 : Dj fp_st_7 fp_st_6) (dj_fp_st_7_b_st_4 : Dj fp_st_7 [b_st_4]) (dj_fp_st_5_b_st_4 : Dj fp_st_5 [b_st_4]) (dj_fp_st_5_fp_st_6 : Dj fp_st_5 fp_st_6) (dj_b_st_4_fp_st_6 : Dj [b_st_4] fp_st_6) (dj_fp_st_6_b_st : Dj fp_st_6 [b_st]) (dj_fp_st_5_b_st : Dj fp_st_5 [b_st]) (dj_b_st_4_b_st : Dj [b_st_4] [b_st]) (dj_fp_st_7_fp_st_ : Dj fp_st_7 fp_st_) (dj_fp_st_6_fp_st_ : Dj fp_st_6 fp_st_) (dj_fp_st_5_fp_st_ : Dj fp_st_5 fp_st_) (dj_b_st_4_fp_st_ : Dj [b_st_4] fp_st_) (dj_fp_st_7_fp_st_2 : Dj fp_st_7 fp_st_2) (dj_fp_st_6_fp_st_2 : Dj fp_st_6 fp_st_2) (dj_fp_st_5_fp_st_2 : Dj fp_st_5 fp_st_2) (dj_b_st_4_fp_st_2 : Dj [b_st_4] fp_st_2) (dj_fp_st_7_fp_st_3 : Dj fp_st_7 fp_st_3) (dj_fp_st_6_fp_st_3 : Dj fp_st_6 fp_st_3) (dj_fp_st_5_fp_st_3 : Dj fp_st_5 fp_st_3) (dj_b_st_4_fp_st_3 : Dj [b_st_4] fp_st_3) (dj_fp_st_6_fp_st_8 : Dj fp_st_6 fp_st_8) (dj_fp_st_5_fp_st_8 : Dj fp_st_5 fp_st_8) (dj_b_st_4_fp_st_8 : Dj [b_st_4] fp_st_8) (dj_fp_st_5_fp_st_7 : Dj fp_st_5 fp_st_7) (hr : z_search_state_settle st_ st_2 st_3 st_5 st_6 st_7 st_8 v_ d hops = some r) :
  ACalls Tryd.prog 80 #[.pointer (some ⟨b_st, 0, none⟩), .int .i64 v_, .int .u64 d, .int .i64 hops] H fun v H' => ∃ (s5 : Value) (f6 : Fp), v = .tuple #[] ∧ FrS ([b_st_4] ++ (fp_st_5 ++ (fp_st_6 ++ (fp_st_7 ++ fp_st_8)))) H H' ∧ Ow (encI .i64) 1 H' hd_st_6 r.1 fp_st_6 ∧ Ow enc_u64_u32 2 H' s5 r.2.1 f6 ∧ Row H' b_st_4 [s5, hd_st_6] ∧ Ow (encI .i64) 1 H' hd_st_7 r.2.2.1 fp_st_7 ∧ Ow encB 1 H' hd_st_8 r.2.2.2 fp_st_8 ∧ Inn fp_st_5 H f6 := by
 refine acalls_of_body mixed Tryd.func80 rfl (Nat.le_of_ble_eq_true rfl) ?_
 unfold z_search_state_settle at hr
 refine w_seqk fun K14 k14 => ?_
 refine w_reg (by kernel_rfl) ?_
 refine s_qk (.pointer (some ⟨b_st, 0, none⟩)) (by kernel_rfl) ?_
 refine s_qk (.pointer (some ⟨b_st, 0, none⟩)) (by kernel_rfl) ?_
 refine s_qk (.pointer (some ⟨b_st, 6, none⟩)) (by kernel_rfl) ?_
 refine s_ql (hd_st_8) (x := aLoad Tryd.prog 104 (.pointer (some ⟨b_st, 6, none⟩)) H) (by kernel_rfl) (h_st.ld (by kernel_rfl)) ?_
 refine s_qk (.int .i64 v_) (by kernel_rfl) ?_
 obtain ⟨g15, r16⟩ := G_some hr
 refine s_ql (elp hd_st_8 1 v_.toNat 0) (x := aIndexAddr Tryd.prog 104 hd_st_8 (.int .i64 v_)) (by kernel_rfl) (h_st_8.sq.idxb (by kernel_rfl) g15.1 g15.2) ?_
 obtain ⟨H17, q18, e19, hm20⟩ := Ow.store (P := Tryd.prog) (t := 4) (off := 0) wf h_st_8 g15.1 g15.2 (.bool true) [.bool true] (by kernel_rfl) (by kernel_rfl) rfl true (Nat.le_of_ble_eq_true rfl) (by kernel_rfl)
 refine s_ek (undef) (by kernel_rfl) (map_ok q18) ?_
 refine s_nil ?_
 refine k14 _ _ ?_
 refine w_seqk fun K21 k21 => ?_
 refine w_seqk fun K22 k22 => ?_
 refine w_reg (by kernel_rfl) ?_
 refine s_qk (.pointer (some ⟨b_st, 0, none⟩)) (by kernel_rfl) ?_
 refine s_qk (.pointer (some ⟨b_st, 0, none⟩)) (by kernel_rfl) ?_
 refine s_qk (.pointer (some ⟨b_st, 5, none⟩)) (by kernel_rfl) ?_
 have u23 := (h_st.frS e19 dj_fp_st_8_b_st)
 refine s_ql (hd_st_7) (x := aLoad Tryd.prog 22 (.pointer (some ⟨b_st, 5, none⟩)) H17) (by kernel_rfl) (u23.ld (by kernel_rfl)) ?_
 refine s_qk (.int .i64 v_) (by kernel_rfl) ?_
 obtain ⟨g24, r25⟩ := G_some r16
 have u26 := (h_st_7.fr e19 dj_fp_st_8_fp_st_7)
 refine s_ql (elp hd_st_7 1 v_.toNat 0) (x := aIndexAddr Tryd.prog 22 hd_st_7 (.int .i64 v_)) (by kernel_rfl) (u26.sq.idxb (by kernel_rfl) g15.1 g24) ?_
 refine s_ql (.int .i64 (gt st_7 v_)) (x := aLoad Tryd.prog 3 (elp hd_st_7 1 v_.toNat 0) H17) (by kernel_rfl) (u26.sq.ld g15.1 g24 (by kernel_rfl)) ?_
 refine s_qk (.int .i64 hops) (by kernel_rfl) ?_
 refine s_qk (.bool (decide ((gt st_7 v_) ≥ hops))) (by kernel_rfl) ?_
 refine s_nil ?_
 refine k22 _ _ ?_
 refine w_condp ((gt st_7 v_) ≥ hops) (by kernel_rfl) rfl (fun h27 => ?_) (fun h27 => ?_)
 ·have r28 := ite_t h27 r25
  refine w_ret (th_ret ?_)
  refine b_ret (fn := Tryd.f80) (vs := []) (rfl) ?_
  have u29 := (h_st_6.fr e19 dj_fp_st_8_fp_st_6)
  have u30 := (h_st_5.fr e19 dj_fp_st_8_fp_st_5)
  have u31 := (h_st_4.frS e19 dj_fp_st_8_b_st_4)
  obtain rfl := Option.some.inj r28
  exact ⟨(hd_st_5), fp_st_5, rfl, (FrS.step wf (FrS.refl (W := ([b_st_4] ++ (fp_st_5 ++ (fp_st_6 ++ (fp_st_7 ++ fp_st_8))))) wf) e19 (Inn.right (Inn.right (Inn.right (Inn.right Inn.refl'))))), u29, u30, u31, u26, hm20, Inn.refl'⟩
 ·have r32 := ite_f h27 r25
  refine w_skip ?_
  refine k21 _ _ ?_
  refine w_seqk fun K33 k33 => ?_
  refine w_reg (by kernel_rfl) ?_
  refine s_qk (.pointer (some ⟨b_st, 0, none⟩)) (by kernel_rfl) ?_
  refine s_qk (.pointer (some ⟨b_st, 0, none⟩)) (by kernel_rfl) ?_
  refine s_qk (.pointer (some ⟨b_st, 0, none⟩)) (by kernel_rfl) ?_
  refine s_qk (.pointer (some ⟨b_st, 0, none⟩)) (by kernel_rfl) ?_
  refine s_ql (hd_st_) (x := aLoad Tryd.prog 22 (.pointer (some ⟨b_st, 0, none⟩)) H17) (by kernel_rfl) (u23.ld (by kernel_rfl)) ?_
  refine s_qk (.int .i64 v_) (by kernel_rfl) ?_
  obtain ⟨g34, r35⟩ := G_some r32
  have u36 := (h_st_.fr e19 dj_fp_st_8_fp_st_)
  refine s_ql (elp hd_st_ 1 v_.toNat 0) (x := aIndexAddr Tryd.prog 22 hd_st_ (.int .i64 v_)) (by kernel_rfl) (u36.idxb (by kernel_rfl) g15.1 g34) ?_
  refine s_ql (.int .i64 (gt st_ v_)) (x := aLoad Tryd.prog 3 (elp hd_st_ 1 v_.toNat 0) H17) (by kernel_rfl) (u36.ld g15.1 g34 (by kernel_rfl)) ?_
  refine s_qk (.int .i64 (gt st_ v_)) (by kernel_rfl) ?_
  refine s_nil ?_
  refine k33 _ _ ?_
  obtain ⟨o37, hx38, r39⟩ := bind_some r35
  refine w_mid (fun α H40 => ∃ (s46 : Value) (f47 : Fp), Has α [] ∧ FrS ([b_st_4] ++ (fp_st_5 ++ (fp_st_6 ++ fp_st_7))) H17 H40 ∧ Ow (encI .i64) 1 H40 hd_st_6 o37.1 fp_st_6 ∧ Ow enc_u64_u32 2 H40 s46 o37.2.1 f47 ∧ Row H40 b_st_4 [s46, hd_st_6] ∧ Ow (encI .i64) 1 H40 hd_st_7 o37.2.2 fp_st_7 ∧ Inn fp_st_5 H17 f47) (fun K53 k53 => ?_) (fun α H40 hM => ?_)
  ·refine w_block ?_
   obtain ⟨n55, hn56⟩ := loopO_iff.1 hx38
   have u76 := (h_st_5.fr e19 dj_fp_st_8_fp_st_5)
   have u77 := (h_st_6.fr e19 dj_fp_st_8_fp_st_6)
   have u78 := (h_st_4.frS e19 dj_fp_st_8_b_st_4)
   refine w_loopn (fun n α H57 => ∃ (st0 : List (Int × Int)), ∃ (st1 : List (Int)), ∃ (st2 : List (Int)), ∃ (i3 : Int), ∃ (s61 : Value), ∃ (f62 : Fp), iterO (fun zz_ => z_search_state_settle_l0 st_ st_2 st_3 st_8 v_ d zz_.1 zz_.2.1 zz_.2.2.1 zz_.2.2.2) n (st0, st1, st2, i3) = some o37 ∧ Has α [(0, .pointer (some ⟨b_st, 0, none⟩)), (1, .int .i64 v_), (2, .int .u64 d), (8, .int .i64 i3)] ∧ FrS ([b_st_4] ++ (fp_st_5 ++ (fp_st_6 ++ fp_st_7))) H17 H57 ∧ Ow enc_u64_u32 2 H57 s61 st0 f62 ∧ Ow (encI .i64) 1 H57 hd_st_6 st1 fp_st_6 ∧ Row H57 b_st_4 [s61, hd_st_6] ∧ Ow (encI .i64) 1 H57 hd_st_7 st2 fp_st_7 ∧ Inn fp_st_5 H17 f62) n55 ⟨st_5, st_6, st_7, (gt st_ v_), (hd_st_5), fp_st_5, hn56, ⟨by kernel_rfl, by kernel_rfl, by kernel_rfl, by kernel_rfl, trivial⟩, (FrS.refl (W := ([b_st_4] ++ (fp_st_5 ++ (fp_st_6 ++ fp_st_7)))) e19.wf), u76, u77, u78, u26, Inn.refl'⟩ ?_
   rintro n55 α H57 ⟨st0, st1, st2, i3, s61, f62, hi71, hh70, e58, m60, m64, m66, m68, i69⟩ K79 k79
   obtain ⟨n72, z73, rfl, hz74, hn75⟩ := iter_succ hi71
   obtain ⟨β, rfl⟩ := has_ex hh70
   clear hh70
   replace hz74 : z_search_state_settle_l0 st_ st_2 st_3 st_8 v_ d st0 st1 st2 i3 = some z73 := hz74
   unfold z_search_state_settle_l0 at hz74
   obtain ⟨a80, n81, c82, rfl⟩ := m60.form
   refine w_seqk fun K83 k83 => ?_
   refine w_seqk fun K84 k84 => ?_
   refine w_reg (by kernel_rfl) ?_
   refine s_qk (.int .i64 i3) (by kernel_rfl) ?_
   refine s_qk (.pointer (some ⟨b_st, 0, none⟩)) (by kernel_rfl) ?_
   refine s_qk (.pointer (some ⟨b_st, 0, none⟩)) (by kernel_rfl) ?_
   refine s_qk (.pointer (some ⟨b_st, 0, none⟩)) (by kernel_rfl) ?_
   refine s_qk (.pointer (some ⟨b_st, 0, none⟩)) (by kernel_rfl) ?_
   have u85 := (u23.frS e58 (Dj.app dj_b_st_4_b_st (Dj.app dj_fp_st_5_b_st (Dj.app dj_fp_st_6_b_st dj_fp_st_7_b_st))))
   refine s_ql (hd_st_) (x := aLoad Tryd.prog 22 (.pointer (some ⟨b_st, 0, none⟩)) H57) (by kernel_rfl) (u85.ld (by kernel_rfl)) ?_
   refine s_qk (.int .i64 v_) (by kernel_rfl) ?_
   obtain ⟨g86, r87⟩ := G_some hz74
   refine s_w ((v_ + 1)) (k := .i64) (x := (v_ + 1)) (by kernel_rfl) (wrap64 (by have := g86; omega)) ?_
   obtain ⟨g88, r89⟩ := G_some r87
   have u90 := (u36.fr e58 (Dj.app dj_b_st_4_fp_st_ (Dj.app dj_fp_st_5_fp_st_ (Dj.app dj_fp_st_6_fp_st_ dj_fp_st_7_fp_st_))))
   refine s_ql (elp hd_st_ 1 (v_ + 1).toNat 0) (x := aIndexAddr Tryd.prog 22 hd_st_ (.int .i64 (v_ + 1))) (by kernel_rfl) (u90.idxb (by kernel_rfl) g88.1 g88.2) ?_
   refine s_ql (.int .i64 (gt st_ (v_ + 1))) (x := aLoad Tryd.prog 3 (elp hd_st_ 1 (v_ + 1).toNat 0) H57) (by kernel_rfl) (u90.ld g88.1 g88.2 (by kernel_rfl)) ?_
   refine s_qk (.bool (decide (i3 < (gt st_ (v_ + 1))))) (by kernel_rfl) ?_
   refine s_nil ?_
   refine k84 _ _ ?_
   refine w_condp (i3 < (gt st_ (v_ + 1))) (by kernel_rfl) rfl (fun h91 => ?_) (fun h91 => ?_)
   ·have r92 := ite_t h91 r89
    refine w_skip ?_
    refine k83 _ _ ?_
    refine w_seqk fun K93 k93 => ?_
    refine w_block ?_
    refine w_seqk fun K94 k94 => ?_
    refine w_draw [0, 1, 2, 3, 4, 5, 6, 7, 8, 9, 10, 11, 12, 13, 14, 15, 16, 17, 18, 19, 20] (by kernel_rfl) ?_
    refine d_qk (.pointer (some ⟨b_st, 0, none⟩)) (by kernel_rfl) ?_
    refine d_qk (.pointer (some ⟨b_st, 0, none⟩)) (by kernel_rfl) ?_
    refine d_qk (.pointer (some ⟨b_st, 0, none⟩)) (by kernel_rfl) ?_
    refine d_qk (.pointer (some ⟨b_st, 1, none⟩)) (by kernel_rfl) ?_
    refine d_ql (hd_st_2) (x := aLoad Tryd.prog 22 (.pointer (some ⟨b_st, 1, none⟩)) H57) (by kernel_rfl) (u85.ld (by kernel_rfl)) ?_
    refine d_qk (.int .i64 i3) (by kernel_rfl) ?_
    obtain ⟨g95, r96⟩ := G_some r92
    have u97 := ((h_st_2.fr e19 dj_fp_st_8_fp_st_2).fr e58 (Dj.app dj_b_st_4_fp_st_2 (Dj.app dj_fp_st_5_fp_st_2 (Dj.app dj_fp_st_6_fp_st_2 dj_fp_st_7_fp_st_2))))
    refine d_ql (elp hd_st_2 1 i3.toNat 0) (x := aIndexAddr Tryd.prog 22 hd_st_2 (.int .i64 i3)) (by kernel_rfl) (u97.idxb (by kernel_rfl) g95.1 g95.2) ?_
    refine d_ql (.int .i64 (gt st_2 i3)) (x := aLoad Tryd.prog 3 (elp hd_st_2 1 i3.toNat 0) H57) (by kernel_rfl) (u97.ld g95.1 g95.2 (by kernel_rfl)) ?_
    refine d_qk (.int .u64 d) (by kernel_rfl) ?_
    refine d_qk (.pointer (some ⟨b_st, 0, none⟩)) (by kernel_rfl) ?_
    refine d_qk (.pointer (some ⟨b_st, 0, none⟩)) (by kernel_rfl) ?_
    refine d_qk (.pointer (some ⟨b_st, 0, none⟩)) (by kernel_rfl) ?_
    refine d_qk (.pointer (some ⟨b_st, 2, none⟩)) (by kernel_rfl) ?_
    refine d_ql (hd_st_3) (x := aLoad Tryd.prog 22 (.pointer (some ⟨b_st, 2, none⟩)) H57) (by kernel_rfl) (u85.ld (by kernel_rfl)) ?_
    refine d_qk (.int .i64 i3) (by kernel_rfl) ?_
    obtain ⟨g98, r99⟩ := G_some r96
    have u100 := ((h_st_3.fr e19 dj_fp_st_8_fp_st_3).fr e58 (Dj.app dj_b_st_4_fp_st_3 (Dj.app dj_fp_st_5_fp_st_3 (Dj.app dj_fp_st_6_fp_st_3 dj_fp_st_7_fp_st_3))))
    refine d_ql (elp hd_st_3 1 i3.toNat 0) (x := aIndexAddr Tryd.prog 22 hd_st_3 (.int .i64 i3)) (by kernel_rfl) (u100.idxb (by kernel_rfl) g95.1 g98) ?_
    refine d_ql (.int .i64 (gt st_3 i3)) (x := aLoad Tryd.prog 3 (elp hd_st_3 1 i3.toNat 0) H57) (by kernel_rfl) (u100.ld g95.1 g98 (by kernel_rfl)) ?_
    obtain ⟨g101, r102⟩ := G_some r99
    refine d_w ((gt st_3 i3)) (k := .u64) (x := (gt st_3 i3)) (by kernel_rfl) (wrapu64 g101) ?_
    obtain ⟨g103, r104⟩ := G_some r102
    refine d_w ((d + (gt st_3 i3))) (k := .u64) (x := (d + (gt st_3 i3))) (by kernel_rfl) (wrapu64 g103) ?_
    refine d_qk (.int .i64 (gt st_2 i3)) (by kernel_rfl) ?_
    refine d_qk (.int .u64 (d + (gt st_3 i3))) (by kernel_rfl) ?_
    refine d_nil ?_
    refine k94 _ _ ?_
    refine w_seqk fun K105 k105 => ?_
    refine w_reg (by kernel_rfl) ?_
    refine s_qk (.pointer (some ⟨b_st, 0, none⟩)) (by kernel_rfl) ?_
    refine s_qk (.pointer (some ⟨b_st, 0, none⟩)) (by kernel_rfl) ?_
    refine s_qk (.pointer (some ⟨b_st, 4, none⟩)) (by kernel_rfl) ?_
    refine s_ql (.pointer none) (x := aLoad Tryd.prog 103 (.pointer (some ⟨b_st, 4, none⟩)) H57) (by kernel_rfl) (u85.ld (by kernel_rfl)) ?_
    refine s_qk (.int .i64 (gt st_2 i3)) (by kernel_rfl) ?_
    obtain ⟨y106, hy107, r108⟩ := bind_some r104
    refine s_ck 62 #[.pointer none, .int .i64 (gt st_2 i3)] (by kernel_rfl) (c_stamp_Stamp_Get e58.wf hy107) ?_
    rintro _ _ ⟨rfl, rfl⟩
    refine s_qk (.tuple #[.int .u64 0, .bool false]) (by kernel_rfl) ?_
    refine s_qk (.int .u64 0) (by kernel_rfl) ?_
    refine s_qk (.bool false) (by kernel_rfl) ?_
    refine s_qk (.int .u64 0) (by kernel_rfl) ?_
    refine s_qk (.bool false) (by kernel_rfl) ?_
    refine s_nil ?_
    refine k105 _ _ ?_
    refine w_seqk fun K111 k111 => ?_
    obtain ⟨o112, hx113, r114⟩ := bind_some r108
    refine w_mid (fun α H115 => Has α [(0, .pointer (some ⟨b_st, 0, none⟩)), (1, .int .i64 v_), (2, .int .u64 d), (8, .int .i64 i3), (9, .int .i64 (gt st_2 i3)), (10, .int .u64 (d + (gt st_3 i3))), (93, .bool o112)] ∧ H57 = H115) (fun K117 k117 => ?_) (fun α H115 hM => ?_)
    ·refine w_reg (by kernel_rfl) ?_
     refine s_qk (.pointer (some ⟨b_st, 0, none⟩)) (by kernel_rfl) ?_
     refine s_qk (.pointer (some ⟨b_st, 0, none⟩)) (by kernel_rfl) ?_
     refine s_qk (.pointer (some ⟨b_st, 6, none⟩)) (by kernel_rfl) ?_
     refine s_ql (hd_st_8) (x := aLoad Tryd.prog 104 (.pointer (some ⟨b_st, 6, none⟩)) H57) (by kernel_rfl) (u85.ld (by kernel_rfl)) ?_
     refine s_qk (.int .i64 (gt st_2 i3)) (by kernel_rfl) ?_
     obtain ⟨g119, r120⟩ := G_some hx113
     have u121 := (hm20.fr e58 (Dj.app dj_b_st_4_fp_st_8 (Dj.app dj_fp_st_5_fp_st_8 (Dj.app dj_fp_st_6_fp_st_8 (Dj.symm dj_fp_st_8_fp_st_7)))))
     refine s_ql (elp hd_st_8 1 (gt st_2 i3).toNat 0) (x := aIndexAddr Tryd.prog 104 hd_st_8 (.int .i64 (gt st_2 i3))) (by kernel_rfl) (u121.sq.idxb (by kernel_rfl) g119.1 g119.2) ?_
     refine s_ql (.bool (gt (st_8.set v_.toNat true) (gt st_2 i3))) (x := aLoad Tryd.prog 4 (elp hd_st_8 1 (gt st_2 i3).toNat 0) H57) (by kernel_rfl) (u121.sq.ld g119.1 g119.2 (by kernel_rfl)) ?_
     refine s_qk (.bool (!(gt (st_8.set v_.toNat true) (gt st_2 i3)))) (by kernel_rfl) ?_
     refine s_qk (.bool (!(gt (st_8.set v_.toNat true) (gt st_2 i3)))) (by kernel_rfl) ?_
     by_cases h122 : (!(gt (st_8.set v_.toNat true) (gt st_2 i3))) = true
     ·have r123 := ite_t h122 r120
      rw [h122]
      refine s_qk (.bool false) (by kernel_rfl) ?_
      refine s_qk (.bool true) (by kernel_rfl) ?_
      refine s_qk (.bool true) (by kernel_rfl) ?_
      refine s_no (by kernel_rfl) ?_
      refine s_no (by kernel_rfl) ?_
      refine s_no (by kernel_rfl) ?_
      refine s_qk (.bool true) (by kernel_rfl) ?_
      refine s_qk (.bool true) (by kernel_rfl) ?_
      refine s_nil ?_
      obtain rfl := Option.some.inj r123
      exact k117 _ _ ⟨⟨by kernel_rfl, by kernel_rfl, by kernel_rfl, by kernel_rfl, by kernel_rfl, by kernel_rfl, by kernel_rfl, trivial⟩, rfl⟩
     ·have r124 := ite_f h122 r120
      rw [nb h122]
      refine s_no (by kernel_rfl) ?_
      refine s_no (by kernel_rfl) ?_
      refine s_no (by kernel_rfl) ?_
      refine s_no (by kernel_rfl) ?_
      refine s_no (by kernel_rfl) ?_
      refine s_no (by kernel_rfl) ?_
      refine s_no (by kernel_rfl) ?_
      refine s_qk (.bool false) (by kernel_rfl) ?_
      refine s_nil ?_
      obtain rfl := Option.some.inj r124
      exact k117 _ _ ⟨⟨by kernel_rfl, by kernel_rfl, by kernel_rfl, by kernel_rfl, by kernel_rfl, by kernel_rfl, by kernel_rfl, trivial⟩, rfl⟩
    ·obtain ⟨hh118, rfl⟩ := hM
     obtain ⟨β, rfl⟩ := has_ex hh118
     clear hh118
     refine k111 _ _ ?_
     refine w_cond (o112) (by kernel_rfl) rfl (fun h125 => ?_) (fun h125 => ?_)
     ·have r126 := ite_t h125 r114
      refine w_reg (by kernel_rfl) ?_
      refine s_qk (.pointer (some ⟨b_st, 0, none⟩)) (by kernel_rfl) ?_
      refine s_qk (.int .i64 (gt st_2 i3)) (by kernel_rfl) ?_
      refine s_qk (.int .u64 (d + (gt st_3 i3))) (by kernel_rfl) ?_
      refine s_qk (.pointer (some ⟨b_st, 0, none⟩)) (by kernel_rfl) ?_
      refine s_qk (.pointer (some ⟨b_st, 0, none⟩)) (by kernel_rfl) ?_
      refine s_qk (.pointer (some ⟨b_st, 5, none⟩)) (by kernel_rfl) ?_
      refine s_ql (hd_st_7) (x := aLoad Tryd.prog 22 (.pointer (some ⟨b_st, 5, none⟩)) H57) (by kernel_rfl) (u85.ld (by kernel_rfl)) ?_
      refine s_qk (.int .i64 v_) (by kernel_rfl) ?_
      obtain ⟨g127, r128⟩ := G_some r126
      refine s_ql (elp hd_st_7 1 v_.toNat 0) (x := aIndexAddr Tryd.prog 22 hd_st_7 (.int .i64 v_)) (by kernel_rfl) (m68.sq.idxb (by kernel_rfl) g15.1 g127) ?_
      refine s_ql (.int .i64 (gt st2 v_)) (x := aLoad Tryd.prog 3 (elp hd_st_7 1 v_.toNat 0) H57) (by kernel_rfl) (m68.sq.ld g15.1 g127 (by kernel_rfl)) ?_
      obtain ⟨g129, r130⟩ := G_some r128
      refine s_w (((gt st2 v_) + 1)) (k := .i64) (x := ((gt st2 v_) + 1)) (by kernel_rfl) (wrap64 g129) ?_
      have u131 := (hm20.fr e58 (Dj.app dj_b_st_4_fp_st_8 (Dj.app dj_fp_st_5_fp_st_8 (Dj.app dj_fp_st_6_fp_st_8 (Dj.symm dj_fp_st_8_fp_st_7)))))
      obtain ⟨y132, hy133, r134⟩ := bind_some r130
      refine s_ck 77 #[.pointer (some ⟨b_st, 0, none⟩), .int .i64 (gt st_2 i3), .int .u64 (d + (gt st_3 i3)), .int .i64 ((gt st2 v_) + 1)] (by kernel_rfl) (c_search_state_label_2 e58.wf u90 u97 u100 m60 m64 m66 m68 u131.sq u85 dj_fp_st_7_b_st (Dj.symm (i69.dj dj_fp_st_5_fp_st_7 (h_st_7.lt.le e19.next))) dj_fp_st_7_fp_st_6 dj_fp_st_7_b_st_4 (i69.dj dj_fp_st_5_b_st_4 (h_st_4.ltF.le e19.next)) (i69.dj dj_fp_st_5_fp_st_6 (h_st_6.lt.le e19.next)) dj_b_st_4_fp_st_6 hy133) ?_
      rintro _ H137 ⟨s135, f136, rfl, e138, m139, m140, m141, m142, i143⟩
      obtain ⟨a145, n146, c147, rfl⟩ := m140.form
      refine s_nil ?_
      refine k93 _ _ ?_
      refine w_reg (by kernel_rfl) ?_
      refine s_qk (.int .i64 i3) (by kernel_rfl) ?_
      obtain ⟨g148, r149⟩ := G_some r134
      refine s_w ((i3 + 1)) (k := .i64) (x := (i3 + 1)) (by kernel_rfl) (wrap64 (by have := g148; omega)) ?_
      refine s_qk (.int .i64 (i3 + 1)) (by kernel_rfl) ?_
      refine s_nil ?_
      obtain rfl := Option.some.inj r149
      exact k79 n72 _ _ (Nat.lt_succ_self _) ⟨y132.2.1, y132.1, y132.2.2, (i3 + 1), (.slice a145 n146 c147), f136, hn75, ⟨by kernel_rfl, by kernel_rfl, by kernel_rfl, by kernel_rfl, trivial⟩, (FrS.step e19.wf (FrS.step e19.wf (FrS.refl (W := ([b_st_4] ++ (fp_st_5 ++ (fp_st_6 ++ fp_st_7)))) e19.wf) e58 (Inn.app Inn.left (Inn.app (Inn.right Inn.left) (Inn.app (Inn.right (Inn.right Inn.left)) (Inn.right (Inn.right (Inn.right Inn.refl'))))))) e138 (Inn.app Inn.left (Inn.app (Inn.trans (Inn.right Inn.left) (Nat.le_refl _) i69) (Inn.app (Inn.right (Inn.right Inn.left)) (Inn.right (Inn.right (Inn.right Inn.refl'))))))), m140, m139, m141, m142, (Inn.trans (Inn.trans Inn.refl' (Nat.le_refl _) i69) e58.next i143)⟩
     ·have r150 := ite_bf h125 r114
      refine w_skip ?_
      refine k93 _ _ ?_
      refine w_reg (by kernel_rfl) ?_
      refine s_qk (.int .i64 i3) (by kernel_rfl) ?_
      obtain ⟨g151, r152⟩ := G_some r150
      refine s_w ((i3 + 1)) (k := .i64) (x := (i3 + 1)) (by kernel_rfl) (wrap64 (by have := g151; omega)) ?_
      refine s_qk (.int .i64 (i3 + 1)) (by kernel_rfl) ?_
      refine s_nil ?_
      obtain rfl := Option.some.inj r152
      exact k79 n72 _ _ (Nat.lt_succ_self _) ⟨st0, st1, st2, (i3 + 1), (.slice a80 n81 c82), f62, hn75, ⟨by kernel_rfl, by kernel_rfl, by kernel_rfl, by kernel_rfl, trivial⟩, (FrS.step e19.wf (FrS.refl (W := ([b_st_4] ++ (fp_st_5 ++ (fp_st_6 ++ fp_st_7)))) e19.wf) e58 (Inn.app Inn.left (Inn.app (Inn.right Inn.left) (Inn.app (Inn.right (Inn.right Inn.left)) (Inn.right (Inn.right (Inn.right Inn.refl'))))))), m60, m64, m66, m68, (Inn.trans Inn.refl' (Nat.le_refl _) i69)⟩
   ·have r153 := ite_f h91 r89
    refine w_exit (th_exit (th_exit (bl_eq ?_)))
    obtain rfl := Option.some.inj r153
    obtain rfl := it_inr hn75
    exact k53 _ _ ⟨(.slice a80 n81 c82), f62, trivial, (FrS.step e19.wf (FrS.refl (W := ([b_st_4] ++ (fp_st_5 ++ (fp_st_6 ++ fp_st_7)))) e19.wf) e58 (Inn.app Inn.left (Inn.app (Inn.right Inn.left) (Inn.app (Inn.right (Inn.right Inn.left)) (Inn.right (Inn.right (Inn.right Inn.refl'))))))), m64, m60, m66, m68, (Inn.trans Inn.refl' (Nat.le_refl _) i69)⟩
  ·obtain ⟨s46, f47, hh54, e41, m43, m45, m49, m51, i52⟩ := hM
   obtain ⟨β, rfl⟩ := has_ex hh54
   clear hh54
   obtain ⟨a154, n155, c156, rfl⟩ := m45.form
   refine b_nrm (fn := Tryd.f80) (vs := []) (rfl) ?_
   have u157 := (hm20.fr e41 (Dj.app dj_b_st_4_fp_st_8 (Dj.app dj_fp_st_5_fp_st_8 (Dj.app dj_fp_st_6_fp_st_8 (Dj.symm dj_fp_st_8_fp_st_7)))))
   obtain rfl := Option.some.inj r39
   exact ⟨(.slice a154 n155 c156), f47, rfl, (FrS.step wf (FrS.step wf (FrS.refl (W := ([b_st_4] ++ (fp_st_5 ++ (fp_st_6 ++ (fp_st_7 ++ fp_st_8))))) wf) e19 (Inn.right (Inn.right (Inn.right (Inn.right Inn.refl'))))) e41 (Inn.app Inn.left (Inn.app (Inn.right Inn.left) (Inn.app (Inn.right (Inn.right Inn.left)) (Inn.right (Inn.right (Inn.right Inn.left))))))), m43, m45, m49, m51, u157, (Inn.trans Inn.refl' e19.next i52)⟩

theorem c_search_state_label_3 {H : AH} {b_st : Nat} {hd_st_ : Value} {fp_st_ : Fp} {hd_st_2 : Value} {fp_st_2 : Fp} {hd_st_3 : Value} {fp_st_3 : Fp} {b_st_4 : Nat} {hd_st_5 : Value} {fp_st_5 : Fp} {hd_st_6 : Value} {fp_st_6 : Fp} {b_st_7 : Nat} {hd_st_8 : Value} {fp_st_8 : Fp} {hd_st_11 : Value} {fp_st_11 : Fp} {hd_st_12 : Value} {fp_st_12 : Fp} {st_ : List (Int)} {st_2 : List (Int)} {st_3 : List (Int)} {st_5 : List (Int × Int)} {st_6 : List (Int)} {st_8 : List (Int × Int)} {st_9 : Int} {st_10 : Int} {st_11 : List (Int)} {st_12 : List (Bool)} {v_ : Int} {d : Int} {hops : Int} {r : List (Int) × List (Int × Int) × List (Int × Int) × Int × List (Int)}
  (wf : WF H) (h_st_ : Sq (encI .i64) 1 H hd_st_ st_ fp_st_) (h_st_2 : Sq (encI .i64) 1 H hd_st_2 st_2 fp_st_2) (h_st_3 : Sq (encI .i64) 1 H hd_st_3 st_3 fp_st_3) (h_st_5 : Ow enc_u64_u32 2 H hd_st_5 st_5 fp_st_5) (h_st_6 : Ow (encI .i64) 1 H hd_st_6 st_6 fp_st_6) (h_st_4 : Row H b_st_4 [hd_st_5, hd_st_6]) (h_st_8 : Ow enc_u64_u32 2 H hd_st_8 st_8 fp_st_8) (h_st_7 : Row H b_st_7 [hd_st_8, .int .u32 st_9, .int .i64 st_10]) (h_st_11 : Ow (encI .i64) 1 H hd_st_11 st_11 fp_st_11) (h_st_12 : Sq encB 1 H hd_st_12 st_12 fp_st_12) (h_st : Row H b_st [hd_st_, hd_st_2, hd_st_3, .pointer (some ⟨b_st_4, 0, none⟩), .pointer (some ⟨b_st_7, 0, none⟩), hd_st_11, hd_st_12]) (dj_b_st_7_fp_st_8 : Dj [b_st_7] fp_st_8) (dj_fp_st_8_b_st : Dj fp_st_8 [b_st]) (dj_b_st_7_b_st : Dj [b_st_7] [b_st]) (dj_fp_st_8_fp_st_11 : Dj fp_st_8 fp_st_11) (dj_b_st_7_fp_st_11 : Dj [b_st_7] fp_st_11) (dj_fp_st_11_b_st : Dj fp_st_11 [b_st]) (dj_fp_st_8_fp_st_5 : Dj fp_st_8 fp_st_5) (dj_b_st_7_fp_st_5 : Dj [b_st_7] fp_st_5) (dj_fp_st_11_fp_st_5 : Dj fp_st_11 fp_st_5) (dj_fp_st_8_fp_st_6 : Dj fp_st_8 fp_st_6) (dj_b_st_7_fp_st_6 : Dj [b_st_7] fp_st_6) (dj_fp_st_11_fp_st_6 : Dj fp_st_11 fp_st_6) (dj_fp_st_8_b_st_4 : Dj fp_st_8 [b_st_4]) (dj_b_st_7_b_st_4 : Dj [b_st_7] [b_st_4]) (dj_fp_st_11_b_st_4 : Dj fp_st_11 [b_st_4]) (dj_fp_st_5_b_st_4 : Dj fp_st_5 [b_st_4]) (dj_fp_st_5_fp_st_6 : Dj fp_st_5 fp_st_6) (dj_b_st_4_fp_st_6 : Dj [b_st_4] fp_st_6) (hr : z_search_state_label_3 st_ st_2 st_3 st_5 st_6 st_8 st_9 st_10 st_11 st_12 v_ d hops = some r) :
  ACalls Tryd.prog 77 #[.pointer (some ⟨b_st, 0, none⟩), .int .i64 v_, .int .u64 d, .int .i64 hops] H fun v H' => ∃ (s5 : Value) (f6 : Fp), v = .tuple #[] ∧ FrS ([b_st_4] ++ ([b_st_7] ++ (fp_st_11 ++ (fp_st_5 ++ (fp_st_6 ++ fp_st_8))))) H H' ∧ Ow (encI .i64) 1 H' hd_st_6 r.1 fp_st_6 ∧ Ow enc_u64_u32 2 H' s5 r.2.1 f6 ∧ Row H' b_st_4 [s5, hd_st_6] ∧ Ow enc_u64_u32 2 H' hd_st_8 r.2.2.1 fp_st_8 ∧ Row H' b_st_7 [hd_st_8, .int .u32 st_9, .int .i64 r.2.2.2.1] ∧ Ow (encI .i64) 1 H' hd_st_11 r.2.2.2.2 fp_st_11 ∧ Inn fp_st_5 H f6 := by
 refine acalls_of_body mixed Tryd.func77 rfl (Nat.le_of_ble_eq_true rfl) ?_
 unfold z_search_state_label_3 at hr
 refine w_seqk fun K16 k16 => ?_
 refine w_reg (by kernel_rfl) ?_
 refine s_qk (.pointer (some ⟨b_st, 0, none⟩)) (by kernel_rfl) ?_
 refine s_qk (.pointer (some ⟨b_st, 0, none⟩)) (by kernel_rfl) ?_
 refine s_qk (.pointer (some ⟨b_st, 4, none⟩)) (by kernel_rfl) ?_
 refine s_ql (.pointer (some ⟨b_st_7, 0, none⟩)) (x := aLoad Tryd.prog 103 (.pointer (some ⟨b_st, 4, none⟩)) H) (by kernel_rfl) (h_st.ld (by kernel_rfl)) ?_
 refine s_qk (.int .i64 v_) (by kernel_rfl) ?_
 refine s_qk (.int .u64 d) (by kernel_rfl) ?_
 obtain ⟨y17, hy18, r19⟩ := bind_some hr
 refine s_ck 89 #[.pointer (some ⟨b_st_7, 0, none⟩), .int .i64 v_, .int .u64 d] (by kernel_rfl) (c_stamp_Stamp_Set_1 wf h_st_8 h_st_7 dj_b_st_7_fp_st_8 hy18) ?_
 rintro v20 H22 ⟨_, f21, rfl, e23, m24, m25, m26, i27⟩
 refine s_nil ?_
 refine k16 _ _ ?_
 refine w_seqk fun K29 k29 => ?_
 refine w_reg (by kernel_rfl) ?_
 refine s_qk (.pointer (some ⟨b_st, 0, none⟩)) (by kernel_rfl) ?_
 refine s_qk (.pointer (some ⟨b_st, 0, none⟩)) (by kernel_rfl) ?_
 refine s_qk (.pointer (some ⟨b_st, 5, none⟩)) (by kernel_rfl) ?_
 have u30 := (h_st.frS e23 (Dj.app dj_b_st_7_b_st dj_fp_st_8_b_st))
 refine s_ql (hd_st_11) (x := aLoad Tryd.prog 22 (.pointer (some ⟨b_st, 5, none⟩)) H22) (by kernel_rfl) (u30.ld (by kernel_rfl)) ?_
 refine s_qk (.int .i64 v_) (by kernel_rfl) ?_
 refine s_qk (.int .i64 hops) (by kernel_rfl) ?_
 obtain ⟨g31, r32⟩ := G_some r19
 have u33 := (h_st_11.fr e23 (Dj.app dj_b_st_7_fp_st_11 dj_fp_st_8_fp_st_11))
 refine s_ql (elp hd_st_11 1 v_.toNat 0) (x := aIndexAddr Tryd.prog 22 hd_st_11 (.int .i64 v_)) (by kernel_rfl) (u33.sq.idxb (by kernel_rfl) g31.1 g31.2) ?_
 obtain ⟨H34, q35, e36, hm37⟩ := Ow.store (P := Tryd.prog) (t := 3) (off := 0) e23.wf u33 g31.1 g31.2 (.int .i64 hops) [.int .i64 hops] (by kernel_rfl) (by kernel_rfl) rfl hops (Nat.le_of_ble_eq_true rfl) (by kernel_rfl)
 refine s_ek (undef) (by kernel_rfl) (map_ok q35) ?_
 refine s_nil ?_
 refine k29 _ _ ?_
 refine w_reg (by kernel_rfl) ?_
 refine s_qk (.pointer (some ⟨b_st, 0, none⟩)) (by kernel_rfl) ?_
 refine s_qk (.pointer (some ⟨b_st, 0, none⟩)) (by kernel_rfl) ?_
 refine s_qk (.pointer (some ⟨b_st, 3, none⟩)) (by kernel_rfl) ?_
 have u38 := (u30.frS e36 dj_fp_st_11_b_st)
 refine s_ql (.pointer (some ⟨b_st_4, 0, none⟩)) (x := aLoad Tryd.prog 102 (.pointer (some ⟨b_st, 3, none⟩)) H34) (by kernel_rfl) (u38.ld (by kernel_rfl)) ?_
 refine s_qk (.int .i64 v_) (by kernel_rfl) ?_
 obtain ⟨g39, r40⟩ := G_some r32
 refine s_w (v_) (k := .u32) (x := v_) (by kernel_rfl) (wrapu32 (by have := g39; omega)) ?_
 refine s_qk (.int .u64 d) (by kernel_rfl) ?_
 have u41 := ((h_st_5.fr e23 (Dj.app dj_b_st_7_fp_st_5 dj_fp_st_8_fp_st_5)).fr e36 dj_fp_st_11_fp_st_5)
 have u42 := ((h_st_6.fr e23 (Dj.app dj_b_st_7_fp_st_6 dj_fp_st_8_fp_st_6)).fr e36 dj_fp_st_11_fp_st_6)
 have u43 := ((h_st_4.frS e23 (Dj.app dj_b_st_7_b_st_4 dj_fp_st_8_b_st_4)).frS e36 dj_fp_st_11_b_st_4)
 obtain ⟨y44, hy45, r46⟩ := bind_some r40
 refine s_ck 90 #[.pointer (some ⟨b_st_4, 0, none⟩), .int .u32 v_, .int .u64 d] (by kernel_rfl) (c_heap_Heap_Set_1 e36.wf u41 u42 u43 dj_fp_st_5_b_st_4 dj_fp_st_5_fp_st_6 dj_b_st_4_fp_st_6 hy45) ?_
 rintro v47 H51 ⟨_, f48, s49, f50, rfl, e52, m53, m54, m55, m56, i57, i58, d59⟩
 obtain ⟨a62, n63, c64, rfl⟩ := m55.form
 refine s_nil ?_
 refine b_nrm (fn := Tryd.f77) (vs := []) (rfl) ?_
 have u65 := ((m25.fr e36 (Dj.symm dj_fp_st_8_fp_st_11)).fr e52 (Dj.app (Dj.symm dj_fp_st_8_b_st_4) (Dj.app (Dj.symm dj_fp_st_8_fp_st_5) (Dj.symm dj_fp_st_8_fp_st_6))))
 have u66 := ((m26.frS e36 (Dj.symm dj_b_st_7_fp_st_11)).frS e52 (Dj.app (Dj.symm dj_b_st_7_b_st_4) (Dj.app (Dj.symm dj_b_st_7_fp_st_5) (Dj.symm dj_b_st_7_fp_st_6))))
 have u67 := (hm37.fr e52 (Dj.app (Dj.symm dj_fp_st_11_b_st_4) (Dj.app (Dj.symm dj_fp_st_11_fp_st_5) (Dj.symm dj_fp_st_11_fp_st_6))))
 obtain rfl := Option.some.inj r46
 exact ⟨(.slice a62 n63 c64), f50, rfl, (FrS.step wf (FrS.step wf (FrS.step wf (FrS.refl (W := ([b_st_4] ++ ([b_st_7] ++ (fp_st_11 ++ (fp_st_5 ++ (fp_st_6 ++ fp_st_8)))))) wf) e23 (Inn.app (Inn.right Inn.left) (Inn.right (Inn.right (Inn.right (Inn.right (Inn.right Inn.refl'))))))) e36 (Inn.right (Inn.right Inn.left))) e52 (Inn.app Inn.left (Inn.app (Inn.right (Inn.right (Inn.right Inn.left))) (Inn.right (Inn.right (Inn.right (Inn.right Inn.left))))))), m54, m55, m56, u65, u66, u67, (Inn.trans Inn.refl' (ntr e23.next e36.next) i58)⟩

theorem c_stamp_Stamp_Get_1 {H : AH} {b_s : Nat} {hd_s_ : Value} {fp_s_ : Fp} {s_ : List (Int × Int)} {s_2 : Int} {s_3 : Int} {i : Int} {r : Int × Bool}
  (wf : WF H) (h_s_ : Sq enc_u64_u32 2 H hd_s_ s_ fp_s_) (h_s : Row H b_s [hd_s_, .int .u32 s_2, .int .i64 s_3]) (hr : z_stamp_Stamp_Get_1 s_ s_2 s_3 i = some r) :
  ACalls Tryd.prog 62 #[.pointer (some ⟨b_s, 0, none⟩), .int .i64 i] H fun v H' => v = .tuple #[.int .u64 r.1, .bool r.2] ∧ H = H' := by
 refine acalls_of_body mixed Tryd.func62 rfl (Nat.le_of_ble_eq_true rfl) ?_
 unfold z_stamp_Stamp_Get_1 at hr
 refine w_seqk fun K1 k1 => ?_
 refine w_reg (by kernel_rfl) ?_
 refine s_qk (.int .u64 0) (by kernel_rfl) ?_
 refine s_qk (.bool false) (by kernel_rfl) ?_
 refine s_nil ?_
 refine k1 _ _ ?_
 refine w_seqk fun K2 k2 => ?_
 refine w_seqk fun K3 k3 => ?_
 obtain ⟨o4, hx5, r6⟩ := bind_some hr
 refine w_mid (fun α H7 => Has α [(0, .pointer (some ⟨b_s, 0, none⟩)), (1, .int .i64 i), (35, .bool o4)] ∧ H = H7) (fun K9 k9 => ?_) (fun α H7 hM => ?_)
 ·refine w_draw [0, 1, 2, 3, 4, 5, 6, 7, 8, 9, 10, 11, 12, 13, 14, 15, 16, 17, 18, 19, 20, 21, 22, 23, 24, 25, 26, 27, 28, 29] (by kernel_rfl) ?_
  refine d_qk (.pointer (some ⟨b_s, 0, none⟩)) (by kernel_rfl) ?_
  refine d_qk (.bool false) (by kernel_rfl) ?_
  refine d_qk (.bool false) (by kernel_rfl) ?_
  refine d_qk (.int .i64 i) (by kernel_rfl) ?_
  refine d_b (i < 0) (by kernel_rfl) (fun h11 => ?_) (fun h11 => ?_)
  ·have r12 := ite_t h11 hx5
   refine d_qk (.bool true) (by kernel_rfl) ?_
   refine d_qk (.bool true) (by kernel_rfl) ?_
   refine d_idle (by kernel_rfl) ?_
   refine d_idle (by kernel_rfl) ?_
   refine d_idle (by kernel_rfl) ?_
   refine d_idle (by kernel_rfl) ?_
   refine d_idle (by kernel_rfl) ?_
   refine d_idle (by kernel_rfl) ?_
   refine d_idle (by kernel_rfl) ?_
   refine d_qk (.bool true) (by kernel_rfl) ?_
   refine d_qk (.bool true) (by kernel_rfl) ?_
   refine d_idle (by kernel_rfl) ?_
   refine d_idle (by kernel_rfl) ?_
   refine d_idle (by kernel_rfl) ?_
   refine d_idle (by kernel_rfl) ?_
   refine d_idle (by kernel_rfl) ?_
   refine d_idle (by kernel_rfl) ?_
   refine d_idle (by kernel_rfl) ?_
   refine d_idle (by kernel_rfl) ?_
   refine d_idle (by kernel_rfl) ?_
   refine d_idle (by kernel_rfl) ?_
   refine d_idle (by kernel_rfl) ?_
   refine d_idle (by kernel_rfl) ?_
   refine d_idle (by kernel_rfl) ?_
   refine d_qk (.bool true) (by kernel_rfl) ?_
   refine d_nil ?_
   obtain rfl := Option.some.inj r12
   exact k9 _ _ ⟨⟨by kernel_rfl, by kernel_rfl, by kernel_rfl, trivial⟩, rfl⟩
  ·have r13 := ite_f h11 hx5
   refine d_qk (.bool false) (by kernel_rfl) ?_
   refine d_qk (.bool false) (by kernel_rfl) ?_
   refine d_qk (.int .i64 i) (by kernel_rfl) ?_
   refine d_qk (.pointer (some ⟨b_s, 0, none⟩)) (by kernel_rfl) ?_
   refine d_qk (.pointer (some ⟨b_s, 0, none⟩)) (by kernel_rfl) ?_
   refine d_qk (.pointer (some ⟨b_s, 0, none⟩)) (by kernel_rfl) ?_
   refine d_ql (hd_s_) (x := aLoad Tryd.prog 165 (.pointer (some ⟨b_s, 0, none⟩)) H) (by kernel_rfl) (h_s.ld (by kernel_rfl)) ?_
   refine d_ql (.int .i64 (s_.length : Int)) (x := aLen Tryd.prog 165 hd_s_ H) (by kernel_rfl) (h_s_.lenb (by kernel_rfl)) ?_
   refine d_b (i ≥ (s_.length : Int)) (by kernel_rfl) (fun h14 => ?_) (fun h14 => ?_)
   ·have r15 := ite_t h14 r13
    refine d_qk (.bool true) (by kernel_rfl) ?_
    refine d_qk (.bool true) (by kernel_rfl) ?_
    refine d_idle (by kernel_rfl) ?_
    refine d_idle (by kernel_rfl) ?_
    refine d_idle (by kernel_rfl) ?_
    refine d_idle (by kernel_rfl) ?_
    refine d_idle (by kernel_rfl) ?_
    refine d_idle (by kernel_rfl) ?_
    refine d_idle (by kernel_rfl) ?_
    refine d_idle (by kernel_rfl) ?_
    refine d_idle (by kernel_rfl) ?_
    refine d_idle (by kernel_rfl) ?_
    refine d_idle (by kernel_rfl) ?_
    refine d_idle (by kernel_rfl) ?_
    refine d_idle (by kernel_rfl) ?_
    refine d_qk (.bool true) (by kernel_rfl) ?_
    refine d_nil ?_
    obtain rfl := Option.some.inj r15
    exact k9 _ _ ⟨⟨by kernel_rfl, by kernel_rfl, by kernel_rfl, trivial⟩, rfl⟩
   ·have r16 := ite_f h14 r13
    refine d_qk (.bool false) (by kernel_rfl) ?_
    refine d_qk (.bool false) (by kernel_rfl) ?_
    refine d_qk (.pointer (some ⟨b_s, 0, none⟩)) (by kernel_rfl) ?_
    refine d_qk (.pointer (some ⟨b_s, 0, none⟩)) (by kernel_rfl) ?_
    refine d_qk (.pointer (some ⟨b_s, 0, none⟩)) (by kernel_rfl) ?_
    refine d_ql (hd_s_) (x := aLoad Tryd.prog 165 (.pointer (some ⟨b_s, 0, none⟩)) H) (by kernel_rfl) (h_s.ld (by kernel_rfl)) ?_
    refine d_qk (.int .i64 i) (by kernel_rfl) ?_
    obtain ⟨g17, r18⟩ := G_some r16
    refine d_ql (elp hd_s_ 2 i.toNat 0) (x := aIndexAddr Tryd.prog 165 hd_s_ (.int .i64 i)) (by kernel_rfl) (h_s_.idxb (by kernel_rfl) g17.1 g17.2) ?_
    refine d_ql (elp hd_s_ 2 i.toNat 1) (x := aFieldAddr Tryd.prog 169 (elp hd_s_ 2 i.toNat 0) 1) (by kernel_rfl) (Sq.fldq (d := 1) h_s_ g17.1 g17.2 (by kernel_rfl)) ?_
    refine d_ql (.int .u32 ((gt s_ i).2)) (x := aLoad Tryd.prog 156 (elp hd_s_ 2 i.toNat 1) H) (by kernel_rfl) (h_s_.ld g17.1 g17.2 (by kernel_rfl)) ?_
    refine d_qk (.pointer (some ⟨b_s, 0, none⟩)) (by kernel_rfl) ?_
    refine d_qk (.pointer (some ⟨b_s, 0, none⟩)) (by kernel_rfl) ?_
    refine d_qk (.pointer (some ⟨b_s, 1, none⟩)) (by kernel_rfl) ?_
    refine d_ql (.int .u32 s_2) (x := aLoad Tryd.prog 156 (.pointer (some ⟨b_s, 1, none⟩)) H) (by kernel_rfl) (h_s.ld (by kernel_rfl)) ?_
    refine d_qk (.bool (!decide (((gt s_ i).2) = s_2))) (by kernel_rfl) ?_
    refine d_qk (.bool (!decide (((gt s_ i).2) = s_2))) (by kernel_rfl) ?_
    refine d_nil ?_
    obtain rfl := Option.some.inj r18
    exact k9 _ _ ⟨⟨by kernel_rfl, by kernel_rfl, by kernel_rfl, trivial⟩, rfl⟩
 ·obtain ⟨hh10, rfl⟩ := hM
  obtain ⟨β, rfl⟩ := has_ex hh10
  clear hh10
  refine k3 _ _ ?_
  refine w_cond (o4) (by kernel_rfl) rfl (fun h19 => ?_) (fun h19 => ?_)
  ·have r20 := ite_t h19 r6
   refine w_seqk fun K21 k21 => ?_
   refine w_reg (by kernel_rfl) ?_
   refine s_qk (.int .u64 0) (by kernel_rfl) ?_
   refine s_qk (.bool false) (by kernel_rfl) ?_
   refine s_nil ?_
   refine k21 _ _ ?_
   refine w_ret (th_ret ?_)
   refine b_ret (fn := Tryd.f62) (vs := [.int .u64 0, .bool false]) (aRes_tmp (by kernel_rfl) (aRes_tmp (by kernel_rfl) (rfl))) ?_
   obtain rfl := Option.some.inj r20
   exact ⟨rfl, rfl⟩
  ·have r22 := ite_bf h19 r6
   refine w_skip ?_
   refine k2 _ _ ?_
   refine w_seqk fun K23 k23 => ?_
   refine w_reg (by kernel_rfl) ?_
   refine s_qk (.pointer (some ⟨b_s, 0, none⟩)) (by kernel_rfl) ?_
   refine s_qk (.pointer (some ⟨b_s, 0, none⟩)) (by kernel_rfl) ?_
   refine s_qk (.pointer (some ⟨b_s, 0, none⟩)) (by kernel_rfl) ?_
   refine s_ql (hd_s_) (x := aLoad Tryd.prog 165 (.pointer (some ⟨b_s, 0, none⟩)) H) (by kernel_rfl) (h_s.ld (by kernel_rfl)) ?_
   refine s_qk (.int .i64 i) (by kernel_rfl) ?_
   obtain ⟨g24, r25⟩ := G_some r22
   refine s_ql (elp hd_s_ 2 i.toNat 0) (x := aIndexAddr Tryd.prog 165 hd_s_ (.int .i64 i)) (by kernel_rfl) (h_s_.idxb (by kernel_rfl) g24.1 g24.2) ?_
   refine s_ql (elp hd_s_ 2 i.toNat 0) (x := aFieldAddr Tryd.prog 169 (elp hd_s_ 2 i.toNat 0) 0) (by kernel_rfl) (Sq.fldq (d := 0) h_s_ g24.1 g24.2 (by kernel_rfl)) ?_
   refine s_ql (.int .u64 ((gt s_ i).1)) (x := aLoad Tryd.prog 42 (elp hd_s_ 2 i.toNat 0) H) (by kernel_rfl) (h_s_.ld g24.1 g24.2 (by kernel_rfl)) ?_
   refine s_qk (.int .u64 ((gt s_ i).1)) (by kernel_rfl) ?_
   refine s_qk (.bool true) (by kernel_rfl) ?_
   refine s_nil ?_
   refine k23 _ _ ?_
   refine w_ret ?_
   refine b_ret (fn := Tryd.f62) (vs := [.int .u64 ((gt s_ i).1), .bool true]) (aRes_tmp (by kernel_rfl) (aRes_tmp (by kernel_rfl) (rfl))) ?_
   obtain rfl := Option.some.inj r25
   exact ⟨rfl, rfl⟩

theorem c_search_state_settle_1 {H : AH} {b_st : Nat} {hd_st_ : Value} {fp_st_ : Fp} {hd_st_2 : Value} {fp_st_2 : Fp} {hd_st_3 : Value} {fp_st_3 : Fp} {b_st_4 : Nat} {hd_st_5 : Value} {fp_st_5 : Fp} {hd_st_6 : Value} {fp_st_6 : Fp} {b_st_7 : Nat} {hd_st_8 : Value} {fp_st_8 : Fp} {hd_st_11 : Value} {fp_st_11 : Fp} {hd_st_12 : Value} {fp_st_12 : Fp} {st_ : List (Int)} {st_2 : List (Int)} {st_3 : List (Int)} {st_5 : List (Int × Int)} {st_6 : List (Int)} {st_8 : List (Int × Int)} {st_9 : Int} {st_10 : Int} {st_11 : List (Int)} {st_12 : List (Bool)} {v_ : Int} {d : Int} {hops : Int} {r : List (Int) × List (Int × Int) × List (Int × Int) × Int × List (Int) × List (Bool)}
  (wf : WF H) (h_st_ : Sq (encI .i64) 1 H hd_st_ st_ fp_st_) (h_st_2 : Sq (encI .i64) 1 H hd_st_2 st_2 fp_st_2) (h_st_3 : Sq (encI .i64) 1 H hd_st_3 st_3 fp_st_3) (h_st_5 : Ow enc_u64_u32 2 H hd_st_5 st_5 fp_st_5) (h_st_6 : Ow (encI .i64) 1 H hd_st_6 st_6 fp_st_6) (h_st_4 : Row H b_st_4 [hd_st_5, hd_st_6]) (h_st_8 : Ow enc_u64_u32 2 H hd_st_8 st_8 fp_st_8) (h_st_7 : Row H b_st_7 [hd_st_8, .int .u32 st_9, .int .i64 st_10]) (h_st_11 : Ow (encI .i64) 1 H hd_st_11 st_11 fp_st_11) (h_st_12 : Ow encB 1 H hd_st_12 st_12 fp_st_12) (h_st : Row H b_st [hd_st_, hd_st_2, hd_st_3, .pointer (some ⟨b_st_4, 0, none⟩), .pointer (some ⟨b_st_7, 0, none⟩), hd_st_11, hd_st_12]) (dj_fp_st_12_b_st : Dj fp_st_12 [b_st]) (dj_fp_st_12_fp_st_11 : Dj fp_st_12 fp_st_11) (dj_fp_st_12_fp_st_6 : Dj fp_st_12 fp_st_6) (dj_fp_st_12_fp_st_5 : Dj fp_st_12 fp_st_5) (dj_fp_st_12_b_st_4 : Dj fp_st_12 [b_st_4]) (dj_fp_st_12_fp_st_8 : Dj fp_st_12 fp_st_8) (dj_fp_st_12_b_st_7 : Dj fp_st_12 [b_st_7]) (dj_fp_st_12_fp_st_ : Dj fp_st_12 fp_st_) (dj_fp_st_12_fp_st_2 : Dj fp_st_12 fp_st_2) (dj_fp_st_12_fp_st_3 : Dj fp_st_12 fp_st_3) (dj_b_st_7_fp_st_8 : Dj [b_st_7] fp_st_8) (dj_fp_st_8_b_st : Dj fp_st_8 [b_st]) (dj_b_st_7_b_st : Dj [b_st_7] [b_st]) (dj_fp_st_8_fp_st_11 : Dj fp_st_8 fp_st_11) (dj_b_st_7_fp_st_11 : Dj [b_st_7] fp_st_11) (dj_fp_st_11_b_st : Dj fp_st_11 [b_st]) (dj_fp_st_8_fp_st_5 : Dj fp_st_8 fp_st_5) (dj_b_st_7_fp_st_5 : Dj [b_st_7] fp_st_5) (dj_fp_st_11_fp_st_5 : Dj fp_st_11 fp_st_5) (dj_fp_st_8_fp_st_6 : Dj fp_st_8 fp_st_6) (dj_b_st_7_fp_st_6 : Dj [b_st_7] fp_st_6) (dj_fp_st_11_fp_st_6 : Dj fp_st_11 fp_st_6) (dj_fp_st_8_b_st_4 : Dj fp_st_8 [b_st_4]) (dj_b_st_7_b_st_4 : Dj [b_st_7] [b_st_4]) (dj_fp_st_11_b_st_4 : Dj fp_st_11 [b_st_4]) (dj_fp_st_5_b_st_4 : Dj fp_st_5 [b_st_4]) (dj_fp_st_5_fp_st_6 : Dj fp_st_5 fp_st_6) (dj_b_st_4_fp_st_6 : Dj [b_st_4] fp_st_6) (dj_fp_st_6_b_st : Dj fp_st_6 [b_st]) (dj_fp_st_5_b_st : Dj fp_st_5 [b_st]) (dj_b_st_4_b_st : Dj [b_st_4] [b_st]) (dj_fp_st_8_fp_st_ : Dj fp_st_8 fp_st_) (dj_fp_st_6_fp_st_ : Dj fp_st_6 fp_st_) (dj_fp_st_5_fp_st_ : Dj fp_st_5 fp_st_) (dj_fp_st_11_fp_st_ : Dj fp_st_11 fp_st_) (dj_b_st_7_fp_st_ : Dj [b_st_7] fp_st_) (dj_b_st_4_fp_st_ : Dj [b_st_4] fp_st_) (dj_fp_st_8_fp_st_2 : Dj fp_st_8 fp_st_2) (dj_fp_st_6_fp_st_2 : Dj fp_st_6 fp_st_2) (dj_fp_st_5_fp_st_2 : Dj fp_st_5 fp_st_2) (dj_fp_st_11_fp_st_2 : Dj fp_st_11 fp_st_2) (dj_b_st_7_fp_st_2 : Dj [b_st_7] fp_st_2) (dj_b_st_4_fp_st_2 : Dj [b_st_4] fp_st_2) (dj_fp_st_8_fp_st_3 : Dj fp_st_8 fp_st_3) (dj_fp_st_6_fp_st_3 : Dj fp_st_6 fp_st_3) (dj_fp_st_5_fp_st_3 : Dj fp_st_5 fp_st_3) (dj_fp_st_11_fp_st_3 : Dj fp_st_11 fp_st_3) (dj_b_st_7_fp_st_3 : Dj [b_st_7] fp_st_3) (dj_b_st_4_fp_st_3 : Dj [b_st_4] fp_st_3) (dj_fp_st_8_fp_st_12 : Dj fp_st_8 fp_st_12) (dj_fp_st_6_fp_st_12 : Dj fp_st_6 fp_st_12) (dj_fp_st_5_fp_st_12 : Dj fp_st_5 fp_st_12) (dj_b_st_7_fp_st_12 : Dj [b_st_7] fp_st_12) (dj_b_st_4_fp_st_12 : Dj [b_st_4] fp_st_12) (dj_fp_st_5_fp_st_8 : Dj fp_st_5 fp_st_8) (dj_fp_st_5_b_st_7 : Dj fp_st_5 [b_st_7]) (dj_fp_st_5_fp_st_11 : Dj fp_st_5 fp_st_11) (hr : z_search_state_settle_1 st_ st_2 st_3 st_5 st_6 st_8 st_9 st_10 st_11 st_12 v_ d hops = some r) :
  ACalls Tryd.prog 80 #[.pointer (some ⟨b_st, 0, none⟩), .int .i64 v_, .int .u64 d, .int .i64 hops] H fun v H' => ∃ (s5 : Value) (f6 : Fp), v = .tuple #[] ∧ FrS ([b_st_4] ++ ([b_st_7] ++ (fp_st_11 ++ (fp_st_12 ++ (fp_st_5 ++ (fp_st_6 ++ fp_st_8)))))) H H' ∧ Ow (encI .i64) 1 H' hd_st_6 r.1 fp_st_6 ∧ Ow enc_u64_u32 2 H' s5 r.2.1 f6 ∧ Row H' b_st_4 [s5, hd_st_6] ∧ Ow enc_u64_u32 2 H' hd_st_8 r.2.2.1 fp_st_8 ∧ Row H' b_st_7 [hd_st_8, .int .u32 st_9, .int .i64 r.2.2.2.1] ∧ Ow (encI .i64) 1 H' hd_st_11 r.2.2.2.2.1 fp_st_11 ∧ Ow encB 1 H' hd_st_12 r.2.2.2.2.2 fp_st_12 ∧ Inn fp_st_5 H f6 := by
 refine acalls_of_body mixed Tryd.func80 rfl (Nat.le_of_ble_eq_true rfl) ?_
 unfold z_search_state_settle_1 at hr
 refine w_seqk fun K18 k18 => ?_
 refine w_reg (by kernel_rfl) ?_
 refine s_qk (.pointer (some ⟨b_st, 0, none⟩)) (by kernel_rfl) ?_
 refine s_qk (.pointer (some ⟨b_st, 0, none⟩)) (by kernel_rfl) ?_
 refine s_qk (.pointer (some ⟨b_st, 6, none⟩)) (by kernel_rfl) ?_
 refine s_ql (hd_st_12) (x := aLoad Tryd.prog 104 (.pointer (some ⟨b_st, 6, none⟩)) H) (by kernel_rfl) (h_st.ld (by kernel_rfl)) ?_
 refine s_qk (.int .i64 v_) (by kernel_rfl) ?_
 obtain ⟨g19, r20⟩ := G_some hr
 refine s_ql (elp hd_st_12 1 v_.toNat 0) (x := aIndexAddr Tryd.prog 104 hd_st_12 (.int .i64 v_)) (by kernel_rfl) (h_st_12.sq.idxb (by kernel_rfl) g19.1 g19.2) ?_
 obtain ⟨H21, q22, e23, hm24⟩ := Ow.store (P := Tryd.prog) (t := 4) (off := 0) wf h_st_12 g19.1 g19.2 (.bool true) [.bool true] (by kernel_rfl) (by kernel_rfl) rfl true (Nat.le_of_ble_eq_true rfl) (by kernel_rfl)
 refine s_ek (undef) (by kernel_rfl) (map_ok q22) ?_
 refine s_nil ?_
 refine k18 _ _ ?_
 refine w_seqk fun K25 k25 => ?_
 refine w_seqk fun K26 k26 => ?_
 refine w_reg (by kernel_rfl) ?_
 refine s_qk (.pointer (some ⟨b_st, 0, none⟩)) (by kernel_rfl) ?_
 refine s_qk (.pointer (some ⟨b_st, 0, none⟩)) (by kernel_rfl) ?_
 refine s_qk (.pointer (some ⟨b_st, 5, none⟩)) (by kernel_rfl) ?_
 have u27 := (h_st.frS e23 dj_fp_st_12_b_st)
 refine s_ql (hd_st_11) (x := aLoad Tryd.prog 22 (.pointer (some ⟨b_st, 5, none⟩)) H21) (by kernel_rfl) (u27.ld (by kernel_rfl)) ?_
 refine s_qk (.int .i64 v_) (by kernel_rfl) ?_
 obtain ⟨g28, r29⟩ := G_some r20
 have u30 := (h_st_11.fr e23 dj_fp_st_12_fp_st_11)
 refine s_ql (elp hd_st_11 1 v_.toNat 0) (x := aIndexAddr Tryd.prog 22 hd_st_11 (.int .i64 v_)) (by kernel_rfl) (u30.sq.idxb (by kernel_rfl) g19.1 g28) ?_
 refine s_ql (.int .i64 (gt st_11 v_)) (x := aLoad Tryd.prog 3 (elp hd_st_11 1 v_.toNat 0) H21) (by kernel_rfl) (u30.sq.ld g19.1 g28 (by kernel_rfl)) ?_
 refine s_qk (.int .i64 hops) (by kernel_rfl) ?_
 refine s_qk (.bool (decide ((gt st_11 v_) ≥ hops))) (by kernel_rfl) ?_
 refine s_nil ?_
 refine k26 _ _ ?_
 refine w_condp ((gt st_11 v_) ≥ hops) (by kernel_rfl) rfl (fun h31 => ?_) (fun h31 => ?_)
 ·have r32 := ite_t h31 r29
  refine w_ret (th_ret ?_)
  refine b_ret (fn := Tryd.f80) (vs := []) (rfl) ?_
  have u33 := (h_st_6.fr e23 dj_fp_st_12_fp_st_6)
  have u34 := (h_st_5.fr e23 dj_fp_st_12_fp_st_5)
  have u35 := (h_st_4.frS e23 dj_fp_st_12_b_st_4)
  have u36 := (h_st_8.fr e23 dj_fp_st_12_fp_st_8)
  have u37 := (h_st_7.frS e23 dj_fp_st_12_b_st_7)
  obtain rfl := Option.some.inj r32
  exact ⟨(hd_st_5), fp_st_5, rfl, (FrS.step wf (FrS.refl (W := ([b_st_4] ++ ([b_st_7] ++ (fp_st_11 ++ (fp_st_12 ++ (fp_st_5 ++ (fp_st_6 ++ fp_st_8))))))) wf) e23 (Inn.right (Inn.right (Inn.right Inn.left)))), u33, u34, u35, u36, u37, u30, hm24, Inn.refl'⟩
 ·have r38 := ite_f h31 r29
  refine w_skip ?_
  refine k25 _ _ ?_
  refine w_seqk fun K39 k39 => ?_
  refine w_reg (by kernel_rfl) ?_
  refine s_qk (.pointer (some ⟨b_st, 0, none⟩)) (by kernel_rfl) ?_
  refine s_qk (.pointer (some ⟨b_st, 0, none⟩)) (by kernel_rfl) ?_
  refine s_qk (.pointer (some ⟨b_st, 0, none⟩)) (by kernel_rfl) ?_
  refine s_qk (.pointer (some ⟨b_st, 0, none⟩)) (by kernel_rfl) ?_
  refine s_ql (hd_st_) (x := aLoad Tryd.prog 22 (.pointer (some ⟨b_st, 0, none⟩)) H21) (by kernel_rfl) (u27.ld (by kernel_rfl)) ?_
  refine s_qk (.int .i64 v_) (by kernel_rfl) ?_
  obtain ⟨g40, r41⟩ := G_some r38
  have u42 := (h_st_.fr e23 dj_fp_st_12_fp_st_)
  refine s_ql (elp hd_st_ 1 v_.toNat 0) (x := aIndexAddr Tryd.prog 22 hd_st_ (.int .i64 v_)) (by kernel_rfl) (u42.idxb (by kernel_rfl) g19.1 g40) ?_
  refine s_ql (.int .i64 (gt st_ v_)) (x := aLoad Tryd.prog 3 (elp hd_st_ 1 v_.toNat 0) H21) (by kernel_rfl) (u42.ld g19.1 g40 (by kernel_rfl)) ?_
  refine s_qk (.int .i64 (gt st_ v_)) (by kernel_rfl) ?_
  refine s_nil ?_
  refine k39 _ _ ?_
  obtain ⟨o43, hx44, r45⟩ := bind_some r41
  refine w_mid (fun α H46 => ∃ (s52 : Value) (f53 : Fp), Has α [] ∧ FrS ([b_st_4] ++ ([b_st_7] ++ (fp_st_11 ++ (fp_st_5 ++ (fp_st_6 ++ fp_st_8))))) H21 H46 ∧ Ow (encI .i64) 1 H46 hd_st_6 o43.1 fp_st_6 ∧ Ow enc_u64_u32 2 H46 s52 o43.2.1 f53 ∧ Row H46 b_st_4 [s52, hd_st_6] ∧ Ow enc_u64_u32 2 H46 hd_st_8 o43.2.2.1 fp_st_8 ∧ Row H46 b_st_7 [hd_st_8, .int .u32 st_9, .int .i64 o43.2.2.2.1] ∧ Ow (encI .i64) 1 H46 hd_st_11 o43.2.2.2.2 fp_st_11 ∧ Inn fp_st_5 H21 f53) (fun K63 k63 => ?_) (fun α H46 hM => ?_)
  ·refine w_block ?_
   obtain ⟨n65, hn66⟩ := loopO_iff.1 hx44
   have u90 := (h_st_5.fr e23 dj_fp_st_12_fp_st_5)
   have u91 := (h_st_6.fr e23 dj_fp_st_12_fp_st_6)
   have u92 := (h_st_4.frS e23 dj_fp_st_12_b_st_4)
   have u93 := (h_st_8.fr e23 dj_fp_st_12_fp_st_8)
   have u94 := (h_st_7.frS e23 dj_fp_st_12_b_st_7)
   refine w_loopn (fun n α H67 => ∃ (st0 : List (Int × Int)), ∃ (st1 : List (Int)), ∃ (st2 : List (Int × Int)), ∃ (st3 : Int), ∃ (st4 : List (Int)), ∃ (i5 : Int), ∃ (s71 : Value), ∃ (f72 : Fp), iterO (fun zz_ => z_search_state_settle_1_l0 st_ st_2 st_3 st_9 st_12 v_ d zz_.1 zz_.2.1 zz_.2.2.1 zz_.2.2.2.1 zz_.2.2.2.2.1 zz_.2.2.2.2.2) n (st0, st1, st2, st3, st4, i5) = some o43 ∧ Has α [(0, .pointer (some ⟨b_st, 0, none⟩)), (1, .int .i64 v_), (2, .int .u64 d), (8, .int .i64 i5)] ∧ FrS ([b_st_4] ++ ([b_st_7] ++ (fp_st_11 ++ (fp_st_5 ++ (fp_st_6 ++ fp_st_8))))) H21 H67 ∧ Ow enc_u64_u32 2 H67 s71 st0 f72 ∧ Ow (encI .i64) 1 H67 hd_st_6 st1 fp_st_6 ∧ Row H67 b_st_4 [s71, hd_st_6] ∧ Ow enc_u64_u32 2 H67 hd_st_8 st2 fp_st_8 ∧ Row H67 b_st_7 [hd_st_8, .int .u32 st_9, .int .i64 st3] ∧ Ow (encI .i64) 1 H67 hd_st_11 st4 fp_st_11 ∧ Inn fp_st_5 H21 f72) n65 ⟨st_5, st_6, st_8, st_10, st_11, (gt st_ v_), (hd_st_5), fp_st_5, hn66, ⟨by kernel_rfl, by kernel_rfl, by kernel_rfl, by kernel_rfl, trivial⟩, (FrS.refl (W := ([b_st_4] ++ ([b_st_7] ++ (fp_st_11 ++ (fp_st_5 ++ (fp_st_6 ++ fp_st_8)))))) e23.wf), u90, u91, u92, u93, u94, u30, Inn.refl'⟩ ?_
   rintro n65 α H67 ⟨st0, st1, st2, st3, st4, i5, s71, f72, hi85, hh84, e68, m70, m74, m76, m78, m80, m82, i83⟩ K95 k95
   obtain ⟨n86, z87, rfl, hz88, hn89⟩ := iter_succ hi85
   obtain ⟨β, rfl⟩ := has_ex hh84
   clear hh84
   replace hz88 : z_search_state_settle_1_l0 st_ st_2 st_3 st_9 st_12 v_ d st0 st1 st2 st3 st4 i5 = some z87 := hz88
   unfold z_search_state_settle_1_l0 at hz88
   obtain ⟨a96, n97, c98, rfl⟩ := m70.form
   refine w_seqk fun K99 k99 => ?_
   refine w_seqk fun K100 k100 => ?_
   refine w_reg (by kernel_rfl) ?_
   refine s_qk (.int .i64 i5) (by kernel_rfl) ?_
   refine s_qk (.pointer (some ⟨b_st, 0, none⟩)) (by kernel_rfl) ?_
   refine s_qk (.pointer (some ⟨b_st, 0, none⟩)) (by kernel_rfl) ?_
   refine s_qk (.pointer (some ⟨b_st, 0, none⟩)) (by kernel_rfl) ?_
   refine s_qk (.pointer (some ⟨b_st, 0, none⟩)) (by kernel_rfl) ?_
   have u101 := (u27.frS e68 (Dj.app dj_b_st_4_b_st (Dj.app dj_b_st_7_b_st (Dj.app dj_fp_st_11_b_st (Dj.app dj_fp_st_5_b_st (Dj.app dj_fp_st_6_b_st dj_fp_st_8_b_st))))))
   refine s_ql (hd_st_) (x := aLoad Tryd.prog 22 (.pointer (some ⟨b_st, 0, none⟩)) H67) (by kernel_rfl) (u101.ld (by kernel_rfl)) ?_
   refine s_qk (.int .i64 v_) (by kernel_rfl) ?_
   obtain ⟨g102, r103⟩ := G_some hz88
   refine s_w ((v_ + 1)) (k := .i64) (x := (v_ + 1)) (by kernel_rfl) (wrap64 (by have := g102; omega)) ?_
   obtain ⟨g104, r105⟩ := G_some r103
   have u106 := (u42.fr e68 (Dj.app dj_b_st_4_fp_st_ (Dj.app dj_b_st_7_fp_st_ (Dj.app dj_fp_st_11_fp_st_ (Dj.app dj_fp_st_5_fp_st_ (Dj.app dj_fp_st_6_fp_st_ dj_fp_st_8_fp_st_))))))
   refine s_ql (elp hd_st_ 1 (v_ + 1).toNat 0) (x := aIndexAddr Tryd.prog 22 hd_st_ (.int .i64 (v_ + 1))) (by kernel_rfl) (u106.idxb (by kernel_rfl) g104.1 g104.2) ?_
   refine s_ql (.int .i64 (gt st_ (v_ + 1))) (x := aLoad Tryd.prog 3 (elp hd_st_ 1 (v_ + 1).toNat 0) H67) (by kernel_rfl) (u106.ld g104.1 g104.2 (by kernel_rfl)) ?_
   refine s_qk (.bool (decide (i5 < (gt st_ (v_ + 1))))) (by kernel_rfl) ?_
   refine s_nil ?_
   refine k100 _ _ ?_
   refine w_condp (i5 < (gt st_ (v_ + 1))) (by kernel_rfl) rfl (fun h107 => ?_) (fun h107 => ?_)
   ·have r108 := ite_t h107 r105
    refine w_skip ?_
    refine k99 _ _ ?_
    refine w_seqk fun K109 k109 => ?_
    refine w_block ?_
    refine w_seqk fun K110 k110 => ?_
    refine w_draw [0, 1, 2, 3, 4, 5, 6, 7, 8, 9, 10, 11, 12, 13, 14, 15, 16, 17, 18, 19, 20] (by kernel_rfl) ?_
    refine d_qk (.pointer (some ⟨b_st, 0, none⟩)) (by kernel_rfl) ?_
    refine d_qk (.pointer (some ⟨b_st, 0, none⟩)) (by kernel_rfl) ?_
    refine d_qk (.pointer (some ⟨b_st, 0, none⟩)) (by kernel_rfl) ?_
    refine d_qk (.pointer (some ⟨b_st, 1, none⟩)) (by kernel_rfl) ?_
    refine d_ql (hd_st_2) (x := aLoad Tryd.prog 22 (.pointer (some ⟨b_st, 1, none⟩)) H67) (by kernel_rfl) (u101.ld (by kernel_rfl)) ?_
    refine d_qk (.int .i64 i5) (by kernel_rfl) ?_
    obtain ⟨g111, r112⟩ := G_some r108
    have u113 := ((h_st_2.fr e23 dj_fp_st_12_fp_st_2).fr e68 (Dj.app dj_b_st_4_fp_st_2 (Dj.app dj_b_st_7_fp_st_2 (Dj.app dj_fp_st_11_fp_st_2 (Dj.app dj_fp_st_5_fp_st_2 (Dj.app dj_fp_st_6_fp_st_2 dj_fp_st_8_fp_st_2))))))
    refine d_ql (elp hd_st_2 1 i5.toNat 0) (x := aIndexAddr Tryd.prog 22 hd_st_2 (.int .i64 i5)) (by kernel_rfl) (u113.idxb (by kernel_rfl) g111.1 g111.2) ?_
    refine d_ql (.int .i64 (gt st_2 i5)) (x := aLoad Tryd.prog 3 (elp hd_st_2 1 i5.toNat 0) H67) (by kernel_rfl) (u113.ld g111.1 g111.2 (by kernel_rfl)) ?_
    refine d_qk (.int .u64 d) (by kernel_rfl) ?_
    refine d_qk (.pointer (some ⟨b_st, 0, none⟩)) (by kernel_rfl) ?_
    refine d_qk (.pointer (some ⟨b_st, 0, none⟩)) (by kernel_rfl) ?_
    refine d_qk (.pointer (some ⟨b_st, 0, none⟩)) (by kernel_rfl) ?_
    refine d_qk (.pointer (some ⟨b_st, 2, none⟩)) (by kernel_rfl) ?_
    refine d_ql (hd_st_3) (x := aLoad Tryd.prog 22 (.pointer (some ⟨b_st, 2, none⟩)) H67) (by kernel_rfl) (u101.ld (by kernel_rfl)) ?_
    refine d_qk (.int .i64 i5) (by kernel_rfl) ?_
    obtain ⟨g114, r115⟩ := G_some r112
    have u116 := ((h_st_3.fr e23 dj_fp_st_12_fp_st_3).fr e68 (Dj.app dj_b_st_4_fp_st_3 (Dj.app dj_b_st_7_fp_st_3 (Dj.app dj_fp_st_11_fp_st_3 (Dj.app dj_fp_st_5_fp_st_3 (Dj.app dj_fp_st_6_fp_st_3 dj_fp_st_8_fp_st_3))))))
    refine d_ql (elp hd_st_3 1 i5.toNat 0) (x := aIndexAddr Tryd.prog 22 hd_st_3 (.int .i64 i5)) (by kernel_rfl) (u116.idxb (by kernel_rfl) g111.1 g114) ?_
    refine d_ql (.int .i64 (gt st_3 i5)) (x := aLoad Tryd.prog 3 (elp hd_st_3 1 i5.toNat 0) H67) (by kernel_rfl) (u116.ld g111.1 g114 (by kernel_rfl)) ?_
    obtain ⟨g117, r118⟩ := G_some r115
    refine d_w ((gt st_3 i5)) (k := .u64) (x := (gt st_3 i5)) (by kernel_rfl) (wrapu64 g117) ?_
    obtain ⟨g119, r120⟩ := G_some r118
    refine d_w ((d + (gt st_3 i5))) (k := .u64) (x := (d + (gt st_3 i5))) (by kernel_rfl) (wrapu64 g119) ?_
    refine d_qk (.int .i64 (gt st_2 i5)) (by kernel_rfl) ?_
    refine d_qk (.int .u64 (d + (gt st_3 i5))) (by kernel_rfl) ?_
    refine d_nil ?_
    refine k110 _ _ ?_
    refine w_seqk fun K121 k121 => ?_
    refine w_reg (by kernel_rfl) ?_
    refine s_qk (.pointer (some ⟨b_st, 0, none⟩)) (by kernel_rfl) ?_
    refine s_qk (.pointer (some ⟨b_st, 0, none⟩)) (by kernel_rfl) ?_
    refine s_qk (.pointer (some ⟨b_st, 4, none⟩)) (by kernel_rfl) ?_
    refine s_ql (.pointer (some ⟨b_st_7, 0, none⟩)) (x := aLoad Tryd.prog 103 (.pointer (some ⟨b_st, 4, none⟩)) H67) (by kernel_rfl) (u101.ld (by kernel_rfl)) ?_
    refine s_qk (.int .i64 (gt st_2 i5)) (by kernel_rfl) ?_
    obtain ⟨y122, hy123, r124⟩ := bind_some r120
    refine s_ck 62 #[.pointer (some ⟨b_st_7, 0, none⟩), .int .i64 (gt st_2 i5)] (by kernel_rfl) (c_stamp_Stamp_Get_1 e68.wf m78.sq m80 hy123) ?_
    rintro _ _ ⟨rfl, rfl⟩
    refine s_qk (.tuple #[.int .u64 y122.1, .bool y122.2]) (by kernel_rfl) ?_
    refine s_qk (.int .u64 y122.1) (by kernel_rfl) ?_
    refine s_qk (.bool y122.2) (by kernel_rfl) ?_
    refine s_qk (.int .u64 y122.1) (by kernel_rfl) ?_
    refine s_qk (.bool y122.2) (by kernel_rfl) ?_
    refine s_nil ?_
    refine k121 _ _ ?_
    refine w_seqk fun K127 k127 => ?_
    obtain ⟨o128, hx129, r130⟩ := bind_some r124
    refine w_mid (fun α H131 => Has α [(0, .pointer (some ⟨b_st, 0, none⟩)), (1, .int .i64 v_), (2, .int .u64 d), (8, .int .i64 i5), (9, .int .i64 (gt st_2 i5)), (10, .int .u64 (d + (gt st_3 i5))), (93, .bool o128)] ∧ H67 = H131) (fun K133 k133 => ?_) (fun α H131 hM => ?_)
    ·refine w_reg (by kernel_rfl) ?_
     refine s_qk (.pointer (some ⟨b_st, 0, none⟩)) (by kernel_rfl) ?_
     refine s_qk (.pointer (some ⟨b_st, 0, none⟩)) (by kernel_rfl) ?_
     refine s_qk (.pointer (some ⟨b_st, 6, none⟩)) (by kernel_rfl) ?_
     refine s_ql (hd_st_12) (x := aLoad Tryd.prog 104 (.pointer (some ⟨b_st, 6, none⟩)) H67) (by kernel_rfl) (u101.ld (by kernel_rfl)) ?_
     refine s_qk (.int .i64 (gt st_2 i5)) (by kernel_rfl) ?_
     obtain ⟨g135, r136⟩ := G_some hx129
     have u137 := (hm24.fr e68 (Dj.app dj_b_st_4_fp_st_12 (Dj.app dj_b_st_7_fp_st_12 (Dj.app (Dj.symm dj_fp_st_12_fp_st_11) (Dj.app dj_fp_st_5_fp_st_12 (Dj.app dj_fp_st_6_fp_st_12 dj_fp_st_8_fp_st_12))))))
     refine s_ql (elp hd_st_12 1 (gt st_2 i5).toNat 0) (x := aIndexAddr Tryd.prog 104 hd_st_12 (.int .i64 (gt st_2 i5))) (by kernel_rfl) (u137.sq.idxb (by kernel_rfl) g135.1 g135.2) ?_
     refine s_ql (.bool (gt (st_12.set v_.toNat true) (gt st_2 i5))) (x := aLoad Tryd.prog 4 (elp hd_st_12 1 (gt st_2 i5).toNat 0) H67) (by kernel_rfl) (u137.sq.ld g135.1 g135.2 (by kernel_rfl)) ?_
     refine s_qk (.bool (!(gt (st_12.set v_.toNat true) (gt st_2 i5)))) (by kernel_rfl) ?_
     refine s_qk (.bool (!(gt (st_12.set v_.toNat true) (gt st_2 i5)))) (by kernel_rfl) ?_
     by_cases h138 : (!(gt (st_12.set v_.toNat true) (gt st_2 i5))) = true
     ·have r139 := ite_t h138 r136
      rw [h138]
      refine s_qk (.bool y122.2) (by kernel_rfl) ?_
      refine s_qk (.bool (!y122.2)) (by kernel_rfl) ?_
      refine s_qk (.bool (!y122.2)) (by kernel_rfl) ?_
      by_cases h140 : (!y122.2) = true
      ·have r141 := ite_t h140 r139
       rw [h140]
       refine s_no (by kernel_rfl) ?_
       refine s_no (by kernel_rfl) ?_
       refine s_no (by kernel_rfl) ?_
       refine s_qk (.bool true) (by kernel_rfl) ?_
       refine s_qk (.bool true) (by kernel_rfl) ?_
       refine s_nil ?_
       obtain rfl := Option.some.inj r141
       exact k133 _ _ ⟨⟨by kernel_rfl, by kernel_rfl, by kernel_rfl, by kernel_rfl, by kernel_rfl, by kernel_rfl, by kernel_rfl, trivial⟩, rfl⟩
      ·have r142 := ite_f h140 r139
       rw [nb h140]
       refine s_qk (.int .u64 (d + (gt st_3 i5))) (by kernel_rfl) ?_
       refine s_qk (.int .u64 y122.1) (by kernel_rfl) ?_
       refine s_qk (.bool (decide ((d + (gt st_3 i5)) < y122.1))) (by kernel_rfl) ?_
       refine s_qk (.bool (decide ((d + (gt st_3 i5)) < y122.1))) (by kernel_rfl) ?_
       refine s_qk (.bool (decide ((d + (gt st_3 i5)) < y122.1))) (by kernel_rfl) ?_
       refine s_nil ?_
       obtain rfl := Option.some.inj r142
       exact k133 _ _ ⟨⟨by kernel_rfl, by kernel_rfl, by kernel_rfl, by kernel_rfl, by kernel_rfl, by kernel_rfl, by kernel_rfl, trivial⟩, rfl⟩
     ·have r143 := ite_f h138 r136
      rw [nb h138]
      refine s_no (by kernel_rfl) ?_
      refine s_no (by kernel_rfl) ?_
      refine s_no (by kernel_rfl) ?_
      refine s_no (by kernel_rfl) ?_
      refine s_no (by kernel_rfl) ?_
      refine s_no (by kernel_rfl) ?_
      refine s_no (by kernel_rfl) ?_
      refine s_qk (.bool false) (by kernel_rfl) ?_
      refine s_nil ?_
      obtain rfl := Option.some.inj r143
      exact k133 _ _ ⟨⟨by kernel_rfl, by kernel_rfl, by kernel_rfl, by kernel_rfl, by kernel_rfl, by kernel_rfl, by kernel_rfl, trivial⟩, rfl⟩
    ·obtain ⟨hh134, rfl⟩ := hM
     obtain ⟨β, rfl⟩ := has_ex hh134
     clear hh134
     refine k127 _ _ ?_
     refine w_cond (o128) (by kernel_rfl) rfl (fun h144 => ?_) (fun h144 => ?_)
     ·have r145 := ite_t h144 r130
      refine w_reg (by kernel_rfl) ?_
      refine s_qk (.pointer (some ⟨b_st, 0, none⟩)) (by kernel_rfl) ?_
      refine s_qk (.int .i64 (gt st_2 i5)) (by kernel_rfl) ?_
      refine s_qk (.int .u64 (d + (gt st_3 i5))) (by kernel_rfl) ?_
      refine s_qk (.pointer (some ⟨b_st, 0, none⟩)) (by kernel_rfl) ?_
      refine s_qk (.pointer (some ⟨b_st, 0, none⟩)) (by kernel_rfl) ?_
      refine s_qk (.pointer (some ⟨b_st, 5, none⟩)) (by kernel_rfl) ?_
      refine s_ql (hd_st_11) (x := aLoad Tryd.prog 22 (.pointer (some ⟨b_st, 5, none⟩)) H67) (by kernel_rfl) (u101.ld (by kernel_rfl)) ?_
      refine s_qk (.int .i64 v_) (by kernel_rfl) ?_
      obtain ⟨g146, r147⟩ := G_some r145
      refine s_ql (elp hd_st_11 1 v_.toNat 0) (x := aIndexAddr Tryd.prog 22 hd_st_11 (.int .i64 v_)) (by kernel_rfl) (m82.sq.idxb (by kernel_rfl) g19.1 g146) ?_
      refine s_ql (.int .i64 (gt st4 v_)) (x := aLoad Tryd.prog 3 (elp hd_st_11 1 v_.toNat 0) H67) (by kernel_rfl) (m82.sq.ld g19.1 g146 (by kernel_rfl)) ?_
      obtain ⟨g148, r149⟩ := G_some r147
      refine s_w (((gt st4 v_) + 1)) (k := .i64) (x := ((gt st4 v_) + 1)) (by kernel_rfl) (wrap64 g148) ?_
      have u150 := (hm24.fr e68 (Dj.app dj_b_st_4_fp_st_12 (Dj.app dj_b_st_7_fp_st_12 (Dj.app (Dj.symm dj_fp_st_12_fp_st_11) (Dj.app dj_fp_st_5_fp_st_12 (Dj.app dj_fp_st_6_fp_st_12 dj_fp_st_8_fp_st_12))))))
      obtain ⟨y151, hy152, r153⟩ := bind_some r149
      refine s_ck 77 #[.pointer (some ⟨b_st, 0, none⟩), .int .i64 (gt st_2 i5), .int .u64 (d + (gt st_3 i5)), .int .i64 ((gt st4 v_) + 1)] (by kernel_rfl) (c_search_state_label_3 e68.wf u106 u113 u116 m70 m74 m76 m78 m80 m82 u150.sq u101 dj_b_st_7_fp_st_8 dj_fp_st_8_b_st dj_b_st_7_b_st dj_fp_st_8_fp_st_11 dj_b_st_7_fp_st_11 dj_fp_st_11_b_st (Dj.symm (i83.dj dj_fp_st_5_fp_st_8 (h_st_8.lt.le e23.next))) (Dj.symm (i83.dj dj_fp_st_5_b_st_7 (h_st_7.ltF.le e23.next))) (Dj.symm (i83.dj dj_fp_st_5_fp_st_11 (h_st_11.lt.le e23.next))) dj_fp_st_8_fp_st_6 dj_b_st_7_fp_st_6 dj_fp_st_11_fp_st_6 dj_fp_st_8_b_st_4 dj_b_st_7_b_st_4 dj_fp_st_11_b_st_4 (i83.dj dj_fp_st_5_b_st_4 (h_st_4.ltF.le e23.next)) (i83.dj dj_fp_st_5_fp_st_6 (h_st_6.lt.le e23.next)) dj_b_st_4_fp_st_6 hy152) ?_
      rintro _ H156 ⟨s154, f155, rfl, e157, m158, m159, m160, m161, m162, m163, i164⟩
      obtain ⟨a166, n167, c168, rfl⟩ := m159.form
      refine s_nil ?_
      refine k109 _ _ ?_
      refine w_reg (by kernel_rfl) ?_
      refine s_qk (.int .i64 i5) (by kernel_rfl) ?_
      obtain ⟨g169, r170⟩ := G_some r153
      refine s_w ((i5 + 1)) (k := .i64) (x := (i5 + 1)) (by kernel_rfl) (wrap64 (by have := g169; omega)) ?_
      refine s_qk (.int .i64 (i5 + 1)) (by kernel_rfl) ?_
      refine s_nil ?_
      obtain rfl := Option.some.inj r170
      exact k95 n86 _ _ (Nat.lt_succ_self _) ⟨y151.2.1, y151.1, y151.2.2.1, y151.2.2.2.1, y151.2.2.2.2, (i5 + 1), (.slice a166 n167 c168), f155, hn89, ⟨by kernel_rfl, by kernel_rfl, by kernel_rfl, by kernel_rfl, trivial⟩, (FrS.step e23.wf (FrS.step e23.wf (FrS.refl (W := ([b_st_4] ++ ([b_st_7] ++ (fp_st_11 ++ (fp_st_5 ++ (fp_st_6 ++ fp_st_8)))))) e23.wf) e68 (Inn.app Inn.left (Inn.app (Inn.right Inn.left) (Inn.app (Inn.right (Inn.right Inn.left)) (Inn.app (Inn.right (Inn.right (Inn.right Inn.left))) (Inn.app (Inn.right (Inn.right (Inn.right (Inn.right Inn.left)))) (Inn.right (Inn.right (Inn.right (Inn.right (Inn.right Inn.refl'))))))))))) e157 (Inn.app Inn.left (Inn.app (Inn.right Inn.left) (Inn.app (Inn.right (Inn.right Inn.left)) (Inn.app (Inn.trans (Inn.right (Inn.right (Inn.right Inn.left))) (Nat.le_refl _) i83) (Inn.app (Inn.right (Inn.right (Inn.right (Inn.right Inn.left)))) (Inn.right (Inn.right (Inn.right (Inn.right (Inn.right Inn.refl'))))))))))), m159, m158, m160, m161, m162, m163, (Inn.trans (Inn.trans Inn.refl' (Nat.le_refl _) i83) e68.next i164)⟩
     ·have r171 := ite_bf h144 r130
      refine w_skip ?_
      refine k109 _ _ ?_
      refine w_reg (by kernel_rfl) ?_
      refine s_qk (.int .i64 i5) (by kernel_rfl) ?_
      obtain ⟨g172, r173⟩ := G_some r171
      refine s_w ((i5 + 1)) (k := .i64) (x := (i5 + 1)) (by kernel_rfl) (wrap64 (by have := g172; omega)) ?_
      refine s_qk (.int .i64 (i5 + 1)) (by kernel_rfl) ?_
      refine s_nil ?_
      obtain rfl := Option.some.inj r173
      exact k95 n86 _ _ (Nat.lt_succ_self _) ⟨st0, st1, st2, st3, st4, (i5 + 1), (.slice a96 n97 c98), f72, hn89, ⟨by kernel_rfl, by kernel_rfl, by kernel_rfl, by kernel_rfl, trivial⟩, (FrS.step e23.wf (FrS.refl (W := ([b_st_4] ++ ([b_st_7] ++ (fp_st_11 ++ (fp_st_5 ++ (fp_st_6 ++ fp_st_8)))))) e23.wf) e68 (Inn.app Inn.left (Inn.app (Inn.right Inn.left) (Inn.app (Inn.right (Inn.right Inn.left)) (Inn.app (Inn.right (Inn.right (Inn.right Inn.left))) (Inn.app (Inn.right (Inn.right (Inn.right (Inn.right Inn.left)))) (Inn.right (Inn.right (Inn.right (Inn.right (Inn.right Inn.refl'))))))))))), m70, m74, m76, m78, m80, m82, (Inn.trans Inn.refl' (Nat.le_refl _) i83)⟩
   ·have r174 := ite_f h107 r105
    refine w_exit (th_exit (th_exit (bl_eq ?_)))
    obtain rfl := Option.some.inj r174
    obtain rfl := it_inr hn89
    exact k63 _ _ ⟨(.slice a96 n97 c98), f72, trivial, (FrS.step e23.wf (FrS.refl (W := ([b_st_4] ++ ([b_st_7] ++ (fp_st_11 ++ (fp_st_5 ++ (fp_st_6 ++ fp_st_8)))))) e23.wf) e68 (Inn.app Inn.left (Inn.app (Inn.right Inn.left) (Inn.app (Inn.right (Inn.right Inn.left)) (Inn.app (Inn.right (Inn.right (Inn.right Inn.left))) (Inn.app (Inn.right (Inn.right (Inn.right (Inn.right Inn.left)))) (Inn.right (Inn.right (Inn.right (Inn.right (Inn.right Inn.refl'))))))))))), m74, m70, m76, m78, m80, m82, (Inn.trans Inn.refl' (Nat.le_refl _) i83)⟩
  ·obtain ⟨s52, f53, hh64, e47, m49, m51, m55, m57, m59, m61, i62⟩ := hM
   obtain ⟨β, rfl⟩ := has_ex hh64
   clear hh64
   obtain ⟨a175, n176, c177, rfl⟩ := m51.form
   refine b_nrm (fn := Tryd.f80) (vs := []) (rfl) ?_
   have u178 := (hm24.fr e47 (Dj.app dj_b_st_4_fp_st_12 (Dj.app dj_b_st_7_fp_st_12 (Dj.app (Dj.symm dj_fp_st_12_fp_st_11) (Dj.app dj_fp_st_5_fp_st_12 (Dj.app dj_fp_st_6_fp_st_12 dj_fp_st_8_fp_st_12))))))
   obtain rfl := Option.some.inj r45
   exact ⟨(.slice a175 n176 c177), f53, rfl, (FrS.step wf (FrS.step wf (FrS.refl (W := ([b_st_4] ++ ([b_st_7] ++ (fp_st_11 ++ (fp_st_12 ++ (fp_st_5 ++ (fp_st_6 ++ fp_st_8))))))) wf) e23 (Inn.right (Inn.right (Inn.right Inn.left)))) e47 (Inn.app Inn.left (Inn.app (Inn.right Inn.left) (Inn.app (Inn.right (Inn.right Inn.left)) (Inn.app (Inn.right (Inn.right (Inn.right (Inn.right Inn.left)))) (Inn.app (Inn.right (Inn.right (Inn.right (Inn.right (Inn.right Inn.left))))) (Inn.right (Inn.right (Inn.right (Inn.right (Inn.right (Inn.right Inn.refl')))))))))))), m49, m51, m55, m57, m59, m61, u178, (Inn.trans Inn.refl' e23.next i62)⟩


end Go.Vd

/-! (KWn5) -/

set_option maxRecDepth 100000
set_option maxHeartbeats 4000000
set_option linter.unusedVariables false
namespace Go.Vd
open Go.Proofs
attribute [local irreducible] wpSeq wpOrd aWp
theorem c_search_run {H : AH} {hd_First : Value} {fp_First : Fp} {hd_To : Value} {fp_To : Fp} {hd_Weight : Value} {fp_Weight : Fp} {First : List (Int)} {To : List (Int)} {Weight : List (Int)} {s : Int} {hops : Int} {settles : Int} {most : Int} {r : (List (Int) × List (Bool)) ⊕ (List (Int × Int) × Int × Int × List (Int) × List (Bool)) ⊕ (List (Int × Int) × List (Int) × List (Int) × List (Bool)) ⊕ (List (Int × Int) × List (Int) × List (Int × Int) × Int × Int × List (Int) × List (Bool))}
  (wf : WF H) (h_First : Sq (encI .i64) 1 H hd_First First fp_First) (h_To : Sq (encI .i64) 1 H hd_To To fp_To) (h_Weight : Sq (encI .i64) 1 H hd_Weight Weight fp_Weight) (hr : z_search_run First To Weight s hops settles most = some r) :
  ACalls Tryd.prog 50 #[.agg #[hd_First, hd_To, hd_Weight], .int .i64 s, .agg #[.int .i64 hops, .int .i64 settles, .int .u64 most]] H fun v H' => Sum.elim (fun (r : List (Int) × List (Bool)) => ∃ (s3 : Value) (f4 : Fp) (s7 : Value) (f8 : Fp) (b11 : Nat), v = .pointer (some ⟨b11, 0, none⟩) ∧ FrS [] H H' ∧ Ow (encI .i64) 1 H' s3 r.1 f4 ∧ Ow encB 1 H' s7 r.2 f8 ∧ Row H' b11 [hd_First, hd_To, hd_Weight, .pointer none, .pointer none, s3, s7] ∧ Inn [] H f4 ∧ Inn [] H f8 ∧ Inn [] H [b11] ∧ Dj f4 f8 ∧ Dj f4 [b11] ∧ Dj f8 [b11]) (Sum.elim (fun (r : List (Int × Int) × Int × Int × List (Int) × List (Bool)) => ∃ (s20 : Value) (f21 : Fp) (b24 : Nat) (s27 : Value) (f28 : Fp) (s31 : Value) (f32 : Fp) (b35 : Nat), v = .pointer (some ⟨b35, 0, none⟩) ∧ FrS [] H H' ∧ Ow enc_u64_u32 2 H' s20 r.1 f21 ∧ Row H' b24 [s20, .int .u32 r.2.1, .int .i64 r.2.2.1] ∧ Ow (encI .i64) 1 H' s27 r.2.2.2.1 f28 ∧ Ow encB 1 H' s31 r.2.2.2.2 f32 ∧ Row H' b35 [hd_First, hd_To, hd_Weight, .pointer none, .pointer (some ⟨b24, 0, none⟩), s27, s31] ∧ Inn [] H f21 ∧ Inn [] H [b24] ∧ Inn [] H f28 ∧ Inn [] H f32 ∧ Inn [] H [b35] ∧ Dj f21 [b24] ∧ Dj f21 f28 ∧ Dj [b24] f28 ∧ Dj f21 f32 ∧ Dj [b24] f32 ∧ Dj f28 f32 ∧ Dj f21 [b35] ∧ Dj [b24] [b35] ∧ Dj f28 [b35] ∧ Dj f32 [b35]) (Sum.elim (fun (r : List (Int × Int) × List (Int) × List (Int) × List (Bool)) => ∃ (s53 : Value) (f54 : Fp) (s57 : Value) (f58 : Fp) (b61 : Nat) (s64 : Value) (f65 : Fp) (s68 : Value) (f69 : Fp) (b72 : Nat), v = .pointer (some ⟨b72, 0, none⟩) ∧ FrS [] H H' ∧ Ow enc_u64_u32 2 H' s53 r.1 f54 ∧ Ow (encI .i64) 1 H' s57 r.2.1 f58 ∧ Row H' b61 [s53, s57] ∧ Ow (encI .i64) 1 H' s64 r.2.2.1 f65 ∧ Ow encB 1 H' s68 r.2.2.2 f69 ∧ Row H' b72 [hd_First, hd_To, hd_Weight, .pointer (some ⟨b61, 0, none⟩), .pointer none, s64, s68] ∧ Inn [] H f54 ∧ Inn [] H f58 ∧ Inn [] H [b61] ∧ Inn [] H f65 ∧ Inn [] H f69 ∧ Inn [] H [b72] ∧ Dj f54 f58 ∧ Dj f54 [b61] ∧ Dj f58 [b61] ∧ Dj f54 f65 ∧ Dj f58 f65 ∧ Dj [b61] f65 ∧ Dj f54 f69 ∧ Dj f58 f69 ∧ Dj [b61] f69 ∧ Dj f65 f69 ∧ Dj f54 [b72] ∧ Dj f58 [b72] ∧ Dj [b61] [b72] ∧ Dj f65 [b72] ∧ Dj f69 [b72]) (fun (r : List (Int × Int) × List (Int) × List (Int × Int) × Int × Int × List (Int) × List (Bool)) => ∃ (s96 : Value) (f97 : Fp) (s100 : Value) (f101 : Fp) (b104 : Nat) (s107 : Value) (f108 : Fp) (b111 : Nat) (s114 : Value) (f115 : Fp) (s118 : Value) (f119 : Fp) (b122 : Nat), v = .pointer (some ⟨b122, 0, none⟩) ∧ FrS [] H H' ∧ Ow enc_u64_u32 2 H' s96 r.1 f97 ∧ Ow (encI .i64) 1 H' s100 r.2.1 f101 ∧ Row H' b104 [s96, s100] ∧ Ow enc_u64_u32 2 H' s107 r.2.2.1 f108 ∧ Row H' b111 [s107, .int .u32 r.2.2.2.1, .int .i64 r.2.2.2.2.1] ∧ Ow (encI .i64) 1 H' s114 r.2.2.2.2.2.1 f115 ∧ Ow encB 1 H' s118 r.2.2.2.2.2.2 f119 ∧ Row H' b122 [hd_First, hd_To, hd_Weight, .pointer (some ⟨b104, 0, none⟩), .pointer (some ⟨b111, 0, none⟩), s114, s118] ∧ Inn [] H f97 ∧ Inn [] H f101 ∧ Inn [] H [b104] ∧ Inn [] H f108 ∧ Inn [] H [b111] ∧ Inn [] H f115 ∧ Inn [] H f119 ∧ Inn [] H [b122] ∧ Dj f97 f101 ∧ Dj f97 [b104] ∧ Dj f101 [b104] ∧ Dj f97 f108 ∧ Dj f101 f108 ∧ Dj [b104] f108 ∧ Dj f97 [b111] ∧ Dj f101 [b111] ∧ Dj [b104] [b111] ∧ Dj f108 [b111] ∧ Dj f97 f115 ∧ Dj f101 f115 ∧ Dj [b104] f115 ∧ Dj f108 f115 ∧ Dj [b111] f115 ∧ Dj f97 f119 ∧ Dj f101 f119 ∧ Dj [b104] f119 ∧ Dj f108 f119 ∧ Dj [b111] f119 ∧ Dj f115 f119 ∧ Dj f97 [b122] ∧ Dj f101 [b122] ∧ Dj [b104] [b122] ∧ Dj f108 [b122] ∧ Dj [b111] [b122] ∧ Dj f115 [b122] ∧ Dj f119 [b122]))) r := by
 refine acalls_of_body mixed Tryd.func50 rfl (Nat.le_of_ble_eq_true rfl) ?_
 unfold z_search_run at hr
 refine w_seqk fun K159 k159 => ?_
 refine w_reg (by kernel_rfl) ?_
 refine s_rwl wf [hd_First, hd_To, hd_Weight] (one_cons (h_First.one1) (one_cons (h_To.one1) (one_cons (h_Weight.one1) (one_nil)))) (by kernel_rfl) fun b160 H161 e162 hb163 r164 => ?_
 refine s_rwl e162.wf [.int .i64 hops, .int .i64 settles, .int .u64 most] (one_cons (rfl) (one_cons (rfl) (one_cons (rfl) (one_nil)))) (by kernel_rfl) fun b166 H167 e168 hb169 r170 => ?_
 refine s_qk (.pointer none) (by kernel_rfl) ?_
 refine s_nil ?_
 refine k159 _ _ ?_
 refine w_seqk fun K172 k172 => ?_
 refine w_reg (by kernel_rfl) ?_
 have u173 := (r164.ext e168)
 refine s_ql (.agg #[hd_First, hd_To, hd_Weight]) (x := aLoad Tryd.prog 40 (.pointer (some ⟨b160, 0, none⟩)) H167) (by kernel_rfl) (u173.ld (by kernel_rfl)) ?_
 have u174 := ((h_First.ext e162).ext e168)
 have u175 := ((h_To.ext e162).ext e168)
 have u176 := ((h_Weight.ext e162).ext e168)
 obtain ⟨y177, hy178, r179⟩ := bind_some hr
 refine s_ck 60 #[.agg #[hd_First, hd_To, hd_Weight]] (by kernel_rfl) (c_search_nodes e168.wf u174 u175 u176 hy178) ?_
 rintro _ H180 ⟨rfl, e181⟩
 refine s_qk (.int .i64 y177) (by kernel_rfl) ?_
 refine s_nil ?_
 refine k172 _ _ ?_
 refine w_seqk fun K182 k182 => ?_
 refine w_draw [0, 1, 2, 3, 4, 5, 6, 7] (by kernel_rfl) ?_
 have u183 := (u173.frS e181 Dj.nil_l)
 refine d_ql (.agg #[hd_First, hd_To, hd_Weight]) (x := aLoad Tryd.prog 40 (.pointer (some ⟨b160, 0, none⟩)) H180) (by kernel_rfl) (u183.ld (by kernel_rfl)) ?_
 refine d_qk (.int .i64 y177) (by kernel_rfl) ?_
 obtain ⟨g184, r185⟩ := G_some r179
 refine d_mks (t := 22) (m := 8) (l := y177) (c := y177) (enc := (encI .i64)) (sz := 1) e181.wf (0 : Int) (by kernel_rfl) (by decide) g184.1 (Int.le_refl _) (by omega) (by have := g184; omega) (by kernel_rfl) fun s186 f187 H188 e189 hf190 hm191 => ?_
 obtain ⟨a192, n193, c194, rfl⟩ := hm191.form
 have hm191 : Ow (encI .i64) 1 H188 (.slice a192 n193 c194) (List.replicate y177.toNat (0 : Int)) f187 := hm191
 refine d_qk (.int .i64 y177) (by kernel_rfl) ?_
 obtain ⟨g196, r197⟩ := G_some r185
 refine d_mks (t := 104) (m := 1) (l := y177) (c := y177) (enc := encB) (sz := 1) e189.wf (false : Bool) (by kernel_rfl) (by decide) g196.1 (Int.le_refl _) (by omega) (by have := g196; omega) (by kernel_rfl) fun s198 f199 H200 e201 hf202 hm203 => ?_
 obtain ⟨a204, n205, c206, rfl⟩ := hm203.form
 have hm203 : Ow encB 1 H200 (.slice a204 n205 c206) (List.replicate y177.toNat (false : Bool)) f199 := hm203
 refine d_qk (.agg #[hd_First, hd_To, hd_Weight, .pointer none, .pointer none, .slice a192 n193 c194, .slice a204 n205 c206]) (by kernel_rfl) ?_
 have u213 := (hm191.ext e201)
 have u214 := (((u176.fr e181 Dj.nil_l).ext e189).ext e201)
 have u215 := (((u175.fr e181 Dj.nil_l).ext e189).ext e201)
 have u216 := (((u174.fr e181 Dj.nil_l).ext e189).ext e201)
 refine d_rwl e201.wf [hd_First, hd_To, hd_Weight, .pointer none, .pointer none, .slice a192 n193 c194, .slice a204 n205 c206] (one_cons (u216.one1) (one_cons (u215.one1) (one_cons (u214.one1) (one_cons (rfl) (one_cons (rfl) (one_cons (u213.one1) (one_cons (hm203.one1) (one_nil)))))))) (by kernel_rfl) fun b208 H209 e210 hb211 r212 => ?_
 refine d_qk (.pointer (some ⟨b208, 0, none⟩)) (by kernel_rfl) ?_
 refine d_nil ?_
 refine k182 _ _ ?_
 refine w_seqk fun K218 k218 => ?_
 refine w_reg (by kernel_rfl) ?_
 refine s_qk (.pointer (some ⟨b208, 0, none⟩)) (by kernel_rfl) ?_
 refine s_qk (.int .i64 y177) (by kernel_rfl) ?_
 obtain ⟨y219, hy220, r221⟩ := bind_some r197
 rcases y219 with y222 | y223
 ·have r224 := elim_l r221
  refine s_ck 75 #[.int .i64 y177] (by kernel_rfl) (c_heap_New e210.wf hy220) ?_
  rintro _ _ ⟨rfl, rfl⟩
  refine s_qk (.tuple #[.pointer none, .iface 80 (.int .i64 1)]) (by kernel_rfl) ?_
  refine s_qk (.pointer none) (by kernel_rfl) ?_
  refine s_qk (.iface 80 (.int .i64 1)) (by kernel_rfl) ?_
  refine s_qk (.pointer (some ⟨b208, 0, none⟩)) (by kernel_rfl) ?_
  refine s_qk (.pointer (some ⟨b208, 3, none⟩)) (by kernel_rfl) ?_
  obtain ⟨H227, q228, e229, r230⟩ := Row.store (P := Tryd.prog) (t := 102) (p := 3) e210.wf r212 (.pointer none) [.pointer none] (by kernel_rfl) (by kernel_rfl) (one_cons (rfl) (one_nil)) (Nat.le_of_ble_eq_true (by kernel_rfl)) [hd_First, hd_To, hd_Weight, .pointer none, .pointer none, .slice a192 n193 c194, .slice a204 n205 c206] (by kernel_rfl)
  refine s_ek (undef) (by kernel_rfl) (map_ok q228) ?_
  refine s_nil ?_
  refine k218 _ _ ?_
  refine w_seqk fun K231 k231 => ?_
  refine w_reg (by kernel_rfl) ?_
  refine s_qk (.pointer (some ⟨b208, 0, none⟩)) (by kernel_rfl) ?_
  refine s_qk (.int .i64 y177) (by kernel_rfl) ?_
  obtain ⟨y232, hy233, r234⟩ := bind_some r224
  rcases y232 with y235 | y236
  ·have r237 := elim_l r234
   refine s_ck 76 #[.int .i64 y177, .int .u32 1] (by kernel_rfl) (c_stamp_New e229.wf hy233) ?_
   rintro _ _ ⟨rfl, rfl⟩
   refine s_qk (.tuple #[.pointer none, .iface 80 (.int .i64 1)]) (by kernel_rfl) ?_
   refine s_qk (.pointer none) (by kernel_rfl) ?_
   refine s_qk (.iface 80 (.int .i64 1)) (by kernel_rfl) ?_
   refine s_qk (.pointer (some ⟨b208, 0, none⟩)) (by kernel_rfl) ?_
   refine s_qk (.pointer (some ⟨b208, 4, none⟩)) (by kernel_rfl) ?_
   obtain ⟨H240, q241, e242, r243⟩ := Row.store (P := Tryd.prog) (t := 103) (p := 4) e229.wf r230 (.pointer none) [.pointer none] (by kernel_rfl) (by kernel_rfl) (one_cons (rfl) (one_nil)) (Nat.le_of_ble_eq_true (by kernel_rfl)) [hd_First, hd_To, hd_Weight, .pointer none, .pointer none, .slice a192 n193 c194, .slice a204 n205 c206] (by kernel_rfl)
   refine s_ek (undef) (by kernel_rfl) (map_ok q241) ?_
   refine s_nil ?_
   refine k231 _ _ ?_
   refine w_seqk fun K244 k244 => ?_
   refine w_reg (by kernel_rfl) ?_
   refine s_qk (.pointer (some ⟨b208, 0, none⟩)) (by kernel_rfl) ?_
   refine s_qk (.int .i64 s) (by kernel_rfl) ?_
   have u245 := (((u216.ext e210).fr e229 (hb211.djn (h_First.lt.le (ntr (ntr (ntr (ntr e162.next e168.next) e181.next) e189.next) e201.next)))).fr e242 (hb211.djn (h_First.lt.le (ntr (ntr (ntr (ntr e162.next e168.next) e181.next) e189.next) e201.next))))
   have u246 := (((u215.ext e210).fr e229 (hb211.djn (h_To.lt.le (ntr (ntr (ntr (ntr e162.next e168.next) e181.next) e189.next) e201.next)))).fr e242 (hb211.djn (h_To.lt.le (ntr (ntr (ntr (ntr e162.next e168.next) e181.next) e189.next) e201.next))))
   have u247 := (((u214.ext e210).fr e229 (hb211.djn (h_Weight.lt.le (ntr (ntr (ntr (ntr e162.next e168.next) e181.next) e189.next) e201.next)))).fr e242 (hb211.djn (h_Weight.lt.le (ntr (ntr (ntr (ntr e162.next e168.next) e181.next) e189.next) e201.next))))
   have u248 := (((u213.ext e210).fr e229 (hb211.djn (hm191.lt.le e201.next))).fr e242 (hb211.djn (hm191.lt.le e201.next)))
   have u249 := (((hm203.ext e210).fr e229 (hb211.djn hm203.lt)).fr e242 (hb211.djn hm203.lt))
   obtain ⟨y250, hy251, r252⟩ := bind_some r237
   refine s_ck 77 #[.pointer (some ⟨b208, 0, none⟩), .int .i64 s, .int .u64 0, .int .i64 0] (by kernel_rfl) (c_search_state_label e242.wf u245 u246 u247 u248 u249.sq r243 (Dj.symm (hb211.djn (hm191.lt.le e201.next))) hy251) ?_
   rintro _ H253 ⟨rfl, e254, m255⟩
   refine s_nil ?_
   refine k244 _ _ ?_
   refine w_seqk fun K256 k256 => ?_
   refine w_seqk fun K257 k257 => ?_
   refine w_reg (by kernel_rfl) ?_
   refine s_qk (.int .i64 0) (by kernel_rfl) ?_
   refine s_nil ?_
   refine k257 _ _ ?_
   obtain ⟨o258, hx259, r260⟩ := bind_some r252
   refine w_mid (fun α H261 => Has α [(8, .pointer (some ⟨b208, 0, none⟩))] ∧ H253 = H261) (fun K263 k263 => ?_) (fun α H261 hM => ?_)
   ·refine w_block ?_
    obtain ⟨n265, hn266⟩ := loopO_iff.1 hx259
    refine w_loopn (fun n α H267 => iterO (fun _ : Unit => z_search_run_l0 settles) n () = some o258 ∧ Has α [(5, .pointer (some ⟨b166, 0, none⟩)), (8, .pointer (some ⟨b208, 0, none⟩)), (9, .int .i64 0)] ∧ H253 = H267) n265 ⟨hn266, ⟨by kernel_rfl, by kernel_rfl, by kernel_rfl, trivial⟩, rfl⟩ ?_
    rintro n265 α H267 ⟨hi270, hh269, rfl⟩ K275 k275
    obtain ⟨n271, z272, rfl, hz273, hn274⟩ := iter_succ hi270
    obtain ⟨β, rfl⟩ := has_ex hh269
    clear hh269
    replace hz273 : z_search_run_l0 settles = some z272 := hz273
    unfold z_search_run_l0 at hz273
    refine w_seqk fun K276 k276 => ?_
    refine w_seqk fun K277 k277 => ?_
    refine w_reg (by kernel_rfl) ?_
    refine s_qk (.int .i64 0) (by kernel_rfl) ?_
    refine s_qk (.pointer (some ⟨b166, 1, none⟩)) (by kernel_rfl) ?_
    have u278 := (((((((r170.frS e181 Dj.nil_l).ext e189).ext e201).ext e210).frS e229 (hb211.djn (r170.ltF.le (ntr (ntr e181.next e189.next) e201.next)))).frS e242 (hb211.djn (r170.ltF.le (ntr (ntr e181.next e189.next) e201.next)))).frS e254 (hf190.djn (r170.ltF.le e181.next)))
    refine s_ql (.int .i64 settles) (x := aLoad Tryd.prog 3 (.pointer (some ⟨b166, 1, none⟩)) H253) (by kernel_rfl) (u278.ld (by kernel_rfl)) ?_
    refine s_qk (.bool (decide ((0 : Int) < settles))) (by kernel_rfl) ?_
    refine s_nil ?_
    refine k277 _ _ ?_
    refine w_condp ((0 : Int) < settles) (by kernel_rfl) rfl (fun h279 => ?_) (fun h279 => ?_)
    ·have r280 := ite_t h279 hz273
     refine w_skip ?_
     refine k276 _ _ ?_
     refine w_seqk fun K281 k281 => ?_
     refine w_block ?_
     refine w_seqk fun K282 k282 => ?_
     refine w_reg (by kernel_rfl) ?_
     refine s_qk (.pointer (some ⟨b208, 0, none⟩)) (by kernel_rfl) ?_
     refine s_qk (.pointer (some ⟨b208, 0, none⟩)) (by kernel_rfl) ?_
     refine s_qk (.pointer (some ⟨b208, 3, none⟩)) (by kernel_rfl) ?_
     have u283 := (r243.frS e254 (Dj.symm (hb211.djn (hm191.lt.le e201.next))))
     refine s_ql (.pointer none) (x := aLoad Tryd.prog 102 (.pointer (some ⟨b208, 3, none⟩)) H253) (by kernel_rfl) (u283.ld (by kernel_rfl)) ?_
     obtain ⟨y284, hy285, r286⟩ := bind_some r280
     refine s_ck 78 #[.pointer none] (by kernel_rfl) (c_heap_Heap_Top e254.wf hy285) ?_
     rintro _ _ ⟨rfl, rfl⟩
     refine s_qk (.tuple #[.int .u32 0, .int .u64 0, .bool false]) (by kernel_rfl) ?_
     refine s_qk (.int .u32 0) (by kernel_rfl) ?_
     refine s_qk (.int .u64 0) (by kernel_rfl) ?_
     refine s_qk (.bool false) (by kernel_rfl) ?_
     refine s_qk (.int .u32 0) (by kernel_rfl) ?_
     refine s_qk (.int .u64 0) (by kernel_rfl) ?_
     refine s_qk (.bool false) (by kernel_rfl) ?_
     refine s_nil ?_
     refine k282 _ _ ?_
     refine w_seqk fun K289 k289 => ?_
     refine w_seqk fun K290 k290 => ?_
     refine w_reg (by kernel_rfl) ?_
     refine s_qk (.bool false) (by kernel_rfl) ?_
     refine s_qk (.bool true) (by kernel_rfl) ?_
     refine s_qk (.bool true) (by kernel_rfl) ?_
     refine s_no (by kernel_rfl) ?_
     refine s_no (by kernel_rfl) ?_
     refine s_no (by kernel_rfl) ?_
     refine s_no (by kernel_rfl) ?_
     refine s_qk (.bool true) (by kernel_rfl) ?_
     refine s_nil ?_
     refine k290 _ _ ?_
     refine w_cond true (by kernel_rfl) rfl (fun _ => ?_) (fun h => by cases h)
     refine w_exit (th_exit (bl_ne (by decide) (th_exit (th_exit (bl_eq ?_)))))
     obtain rfl := Option.some.inj r286
     obtain rfl := it_inr hn274
     exact k263 _ _ ⟨⟨by kernel_rfl, trivial⟩, rfl⟩
    ·have r291 := ite_f h279 hz273
     refine w_exit (th_exit (th_exit (bl_eq ?_)))
     obtain rfl := Option.some.inj r291
     obtain rfl := it_inr hn274
     exact k263 _ _ ⟨⟨by kernel_rfl, trivial⟩, rfl⟩
   ·obtain ⟨hh264, rfl⟩ := hM
    obtain ⟨β, rfl⟩ := has_ex hh264
    clear hh264
    refine k256 _ _ ?_
    refine w_seqk fun K292 k292 => ?_
    refine w_reg (by kernel_rfl) ?_
    refine s_qk (.pointer (some ⟨b208, 0, none⟩)) (by kernel_rfl) ?_
    refine s_qk (.pointer (some ⟨b208, 0, none⟩)) (by kernel_rfl) ?_
    refine s_nil ?_
    refine k292 _ _ ?_
    refine w_ret ?_
    refine b_ret (fn := Tryd.f50) (vs := [.pointer (some ⟨b208, 0, none⟩)]) (aRes_tmp (by kernel_rfl) (rfl)) ?_
    have u293 := (u249.fr e254 (Dj.symm (hf202.djn hm191.lt)))
    have u294 := (r243.frS e254 (Dj.symm (hb211.djn (hm191.lt.le e201.next))))
    obtain rfl := Option.some.inj r260
    exact (elimP_l ⟨(.slice a192 n193 c194), f187, (.slice a204 n205 c206), f199, b208, rfl, (FrS.step wf (FrS.step wf (FrS.step wf ((((FrS.step wf (((FrS.refl (W := []) wf).extR e162).extR e168) e181 Inn.nil).extR e189).extR e201).extR e210) e229 (hb211.fresh (ntr (ntr (ntr (ntr e162.next e168.next) e181.next) e189.next) e201.next))) e242 (hb211.fresh (ntr (ntr (ntr (ntr e162.next e168.next) e181.next) e189.next) e201.next))) e254 (hf190.fresh (ntr (ntr e162.next e168.next) e181.next))), m255, u293, u294, (hf190.fresh (ntr (ntr e162.next e168.next) e181.next)), (hf202.fresh (ntr (ntr (ntr e162.next e168.next) e181.next) e189.next)), (hb211.fresh (ntr (ntr (ntr (ntr e162.next e168.next) e181.next) e189.next) e201.next)), (Dj.symm (hf202.djn hm191.lt)), (Dj.symm (hb211.djn (hm191.lt.le e201.next))), (Dj.symm (hb211.djn hm203.lt))⟩)
  ·have r295 := elim_r r234
   refine s_ck 76 #[.int .i64 y177, .int .u32 1] (by kernel_rfl) (c_stamp_New e229.wf hy233) ?_
   rintro _ H299 ⟨s296, f297, b298, rfl, e300, m301, m302, i303, i304, d305⟩
   obtain ⟨a308, n309, c310, rfl⟩ := m301.form
   refine s_qk (.tuple #[.pointer (some ⟨b298, 0, none⟩), .nilIface]) (by kernel_rfl) ?_
   refine s_qk (.pointer (some ⟨b298, 0, none⟩)) (by kernel_rfl) ?_
   refine s_qk (.nilIface) (by kernel_rfl) ?_
   refine s_qk (.pointer (some ⟨b208, 0, none⟩)) (by kernel_rfl) ?_
   refine s_qk (.pointer (some ⟨b208, 4, none⟩)) (by kernel_rfl) ?_
   have u315 := (r230.frS e300 Dj.nil_l)
   obtain ⟨H311, q312, e313, r314⟩ := Row.store (P := Tryd.prog) (t := 103) (p := 4) e300.wf u315 (.pointer (some ⟨b298, 0, none⟩)) [.pointer (some ⟨b298, 0, none⟩)] (by kernel_rfl) (by kernel_rfl) (one_cons (rfl) (one_nil)) (Nat.le_of_ble_eq_true (by kernel_rfl)) [hd_First, hd_To, hd_Weight, .pointer none, .pointer (some ⟨b298, 0, none⟩), .slice a192 n193 c194, .slice a204 n205 c206] (by kernel_rfl)
   refine s_ek (undef) (by kernel_rfl) (map_ok q312) ?_
   refine s_nil ?_
   refine k231 _ _ ?_
   refine w_seqk fun K316 k316 => ?_
   refine w_reg (by kernel_rfl) ?_
   refine s_qk (.pointer (some ⟨b208, 0, none⟩)) (by kernel_rfl) ?_
   refine s_qk (.int .i64 s) (by kernel_rfl) ?_
   have u317 := ((((u216.ext e210).fr e229 (hb211.djn (h_First.lt.le (ntr (ntr (ntr (ntr e162.next e168.next) e181.next) e189.next) e201.next)))).fr e300 Dj.nil_l).fr e313 (hb211.djn (h_First.lt.le (ntr (ntr (ntr (ntr e162.next e168.next) e181.next) e189.next) e201.next))))
   have u318 := ((((u215.ext e210).fr e229 (hb211.djn (h_To.lt.le (ntr (ntr (ntr (ntr e162.next e168.next) e181.next) e189.next) e201.next)))).fr e300 Dj.nil_l).fr e313 (hb211.djn (h_To.lt.le (ntr (ntr (ntr (ntr e162.next e168.next) e181.next) e189.next) e201.next))))
   have u319 := ((((u214.ext e210).fr e229 (hb211.djn (h_Weight.lt.le (ntr (ntr (ntr (ntr e162.next e168.next) e181.next) e189.next) e201.next)))).fr e300 Dj.nil_l).fr e313 (hb211.djn (h_Weight.lt.le (ntr (ntr (ntr (ntr e162.next e168.next) e181.next) e189.next) e201.next))))
   have u320 := (m301.fr e313 (Dj.symm (i303.djn (r212.ltF.le e229.next))))
   have u321 := (m302.frS e313 (Dj.symm (i304.djn (r212.ltF.le e229.next))))
   have u322 := ((((u213.ext e210).fr e229 (hb211.djn (hm191.lt.le e201.next))).fr e300 Dj.nil_l).fr e313 (hb211.djn (hm191.lt.le e201.next)))
   have u323 := ((((hm203.ext e210).fr e229 (hb211.djn hm203.lt)).fr e300 Dj.nil_l).fr e313 (hb211.djn hm203.lt))
   obtain ⟨y324, hy325, r326⟩ := bind_some r295
   refine s_ck 77 #[.pointer (some ⟨b208, 0, none⟩), .int .i64 s, .int .u64 0, .int .i64 0] (by kernel_rfl) (c_search_state_label_1 e313.wf u317 u318 u319 u320 u321 u322 u323.sq r314 (Dj.symm d305) (i303.djn (r212.ltF.le e229.next)) (i304.djn (r212.ltF.le e229.next)) (i303.djn (hm191.lt.le (ntr (ntr e201.next e210.next) e229.next))) (i304.djn (hm191.lt.le (ntr (ntr e201.next e210.next) e229.next))) (Dj.symm (hb211.djn (hm191.lt.le e201.next))) hy325) ?_
   rintro _ H327 ⟨rfl, e328, m329, m330, m331⟩
   refine s_nil ?_
   refine k316 _ _ ?_
   refine w_seqk fun K332 k332 => ?_
   refine w_seqk fun K333 k333 => ?_
   refine w_reg (by kernel_rfl) ?_
   refine s_qk (.int .i64 0) (by kernel_rfl) ?_
   refine s_nil ?_
   refine k333 _ _ ?_
   obtain ⟨o334, hx335, r336⟩ := bind_some r326
   refine w_mid (fun α H337 => Has α [(8, .pointer (some ⟨b208, 0, none⟩))] ∧ H327 = H337) (fun K339 k339 => ?_) (fun α H337 hM => ?_)
   ·refine w_block ?_
    obtain ⟨n341, hn342⟩ := loopO_iff.1 hx335
    refine w_loopn (fun n α H343 => iterO (fun _ : Unit => z_search_run_l1 settles) n () = some o334 ∧ Has α [(5, .pointer (some ⟨b166, 0, none⟩)), (8, .pointer (some ⟨b208, 0, none⟩)), (9, .int .i64 0)] ∧ H327 = H343) n341 ⟨hn342, ⟨by kernel_rfl, by kernel_rfl, by kernel_rfl, trivial⟩, rfl⟩ ?_
    rintro n341 α H343 ⟨hi346, hh345, rfl⟩ K351 k351
    obtain ⟨n347, z348, rfl, hz349, hn350⟩ := iter_succ hi346
    obtain ⟨β, rfl⟩ := has_ex hh345
    clear hh345
    replace hz349 : z_search_run_l1 settles = some z348 := hz349
    unfold z_search_run_l1 at hz349
    refine w_seqk fun K352 k352 => ?_
    refine w_seqk fun K353 k353 => ?_
    refine w_reg (by kernel_rfl) ?_
    refine s_qk (.int .i64 0) (by kernel_rfl) ?_
    refine s_qk (.pointer (some ⟨b166, 1, none⟩)) (by kernel_rfl) ?_
    have u354 := ((((((((r170.frS e181 Dj.nil_l).ext e189).ext e201).ext e210).frS e229 (hb211.djn (r170.ltF.le (ntr (ntr e181.next e189.next) e201.next)))).frS e300 Dj.nil_l).frS e313 (hb211.djn (r170.ltF.le (ntr (ntr e181.next e189.next) e201.next)))).frS e328 (Dj.app (i304.djn (r170.ltF.le (ntr (ntr (ntr (ntr e181.next e189.next) e201.next) e210.next) e229.next))) (Dj.app (i303.djn (r170.ltF.le (ntr (ntr (ntr (ntr e181.next e189.next) e201.next) e210.next) e229.next))) (hf190.djn (r170.ltF.le e181.next)))))
    refine s_ql (.int .i64 settles) (x := aLoad Tryd.prog 3 (.pointer (some ⟨b166, 1, none⟩)) H327) (by kernel_rfl) (u354.ld (by kernel_rfl)) ?_
    refine s_qk (.bool (decide ((0 : Int) < settles))) (by kernel_rfl) ?_
    refine s_nil ?_
    refine k353 _ _ ?_
    refine w_condp ((0 : Int) < settles) (by kernel_rfl) rfl (fun h355 => ?_) (fun h355 => ?_)
    ·have r356 := ite_t h355 hz349
     refine w_skip ?_
     refine k352 _ _ ?_
     refine w_seqk fun K357 k357 => ?_
     refine w_block ?_
     refine w_seqk fun K358 k358 => ?_
     refine w_reg (by kernel_rfl) ?_
     refine s_qk (.pointer (some ⟨b208, 0, none⟩)) (by kernel_rfl) ?_
     refine s_qk (.pointer (some ⟨b208, 0, none⟩)) (by kernel_rfl) ?_
     refine s_qk (.pointer (some ⟨b208, 3, none⟩)) (by kernel_rfl) ?_
     have u359 := (r314.frS e328 (Dj.app (i304.djn (r212.ltF.le e229.next)) (Dj.app (i303.djn (r212.ltF.le e229.next)) (Dj.symm (hb211.djn (hm191.lt.le e201.next))))))
     refine s_ql (.pointer none) (x := aLoad Tryd.prog 102 (.pointer (some ⟨b208, 3, none⟩)) H327) (by kernel_rfl) (u359.ld (by kernel_rfl)) ?_
     obtain ⟨y360, hy361, r362⟩ := bind_some r356
     refine s_ck 78 #[.pointer none] (by kernel_rfl) (c_heap_Heap_Top e328.wf hy361) ?_
     rintro _ _ ⟨rfl, rfl⟩
     refine s_qk (.tuple #[.int .u32 0, .int .u64 0, .bool false]) (by kernel_rfl) ?_
     refine s_qk (.int .u32 0) (by kernel_rfl) ?_
     refine s_qk (.int .u64 0) (by kernel_rfl) ?_
     refine s_qk (.bool false) (by kernel_rfl) ?_
     refine s_qk (.int .u32 0) (by kernel_rfl) ?_
     refine s_qk (.int .u64 0) (by kernel_rfl) ?_
     refine s_qk (.bool false) (by kernel_rfl) ?_
     refine s_nil ?_
     refine k358 _ _ ?_
     refine w_seqk fun K365 k365 => ?_
     refine w_seqk fun K366 k366 => ?_
     refine w_reg (by kernel_rfl) ?_
     refine s_qk (.bool false) (by kernel_rfl) ?_
     refine s_qk (.bool true) (by kernel_rfl) ?_
     refine s_qk (.bool true) (by kernel_rfl) ?_
     refine s_no (by kernel_rfl) ?_
     refine s_no (by kernel_rfl) ?_
     refine s_no (by kernel_rfl) ?_
     refine s_no (by kernel_rfl) ?_
     refine s_qk (.bool true) (by kernel_rfl) ?_
     refine s_nil ?_
     refine k366 _ _ ?_
     refine w_cond true (by kernel_rfl) rfl (fun _ => ?_) (fun h => by cases h)
     refine w_exit (th_exit (bl_ne (by decide) (th_exit (th_exit (bl_eq ?_)))))
     obtain rfl := Option.some.inj r362
     obtain rfl := it_inr hn350
     exact k339 _ _ ⟨⟨by kernel_rfl, trivial⟩, rfl⟩
    ·have r367 := ite_f h355 hz349
     refine w_exit (th_exit (th_exit (bl_eq ?_)))
     obtain rfl := Option.some.inj r367
     obtain rfl := it_inr hn350
     exact k339 _ _ ⟨⟨by kernel_rfl, trivial⟩, rfl⟩
   ·obtain ⟨hh340, rfl⟩ := hM
    obtain ⟨β, rfl⟩ := has_ex hh340
    clear hh340
    refine k332 _ _ ?_
    refine w_seqk fun K368 k368 => ?_
    refine w_reg (by kernel_rfl) ?_
    refine s_qk (.pointer (some ⟨b208, 0, none⟩)) (by kernel_rfl) ?_
    refine s_qk (.pointer (some ⟨b208, 0, none⟩)) (by kernel_rfl) ?_
    refine s_nil ?_
    refine k368 _ _ ?_
    refine w_ret ?_
    refine b_ret (fn := Tryd.f50) (vs := [.pointer (some ⟨b208, 0, none⟩)]) (aRes_tmp (by kernel_rfl) (rfl)) ?_
    have u369 := (u323.fr e328 (Dj.app (i304.djn (hm203.lt.le (ntr e210.next e229.next))) (Dj.app (i303.djn (hm203.lt.le (ntr e210.next e229.next))) (Dj.symm (hf202.djn hm191.lt)))))
    have u370 := (r314.frS e328 (Dj.app (i304.djn (r212.ltF.le e229.next)) (Dj.app (i303.djn (r212.ltF.le e229.next)) (Dj.symm (hb211.djn (hm191.lt.le e201.next))))))
    obtain rfl := Option.some.inj r336
    exact (elimP_r (elimP_l ⟨(.slice a308 n309 c310), f297, b298, (.slice a192 n193 c194), f187, (.slice a204 n205 c206), f199, b208, rfl, (FrS.step wf (FrS.step wf (FrS.step wf (FrS.step wf ((((FrS.step wf (((FrS.refl (W := []) wf).extR e162).extR e168) e181 Inn.nil).extR e189).extR e201).extR e210) e229 (hb211.fresh (ntr (ntr (ntr (ntr e162.next e168.next) e181.next) e189.next) e201.next))) e300 Inn.nil) e313 (hb211.fresh (ntr (ntr (ntr (ntr e162.next e168.next) e181.next) e189.next) e201.next))) e328 (Inn.app (i304.fresh (ntr (ntr (ntr (ntr (ntr (ntr e162.next e168.next) e181.next) e189.next) e201.next) e210.next) e229.next)) (Inn.app (i303.fresh (ntr (ntr (ntr (ntr (ntr (ntr e162.next e168.next) e181.next) e189.next) e201.next) e210.next) e229.next)) (hf190.fresh (ntr (ntr e162.next e168.next) e181.next))))), m329, m330, m331, u369, u370, (i303.fresh (ntr (ntr (ntr (ntr (ntr (ntr e162.next e168.next) e181.next) e189.next) e201.next) e210.next) e229.next)), (i304.fresh (ntr (ntr (ntr (ntr (ntr (ntr e162.next e168.next) e181.next) e189.next) e201.next) e210.next) e229.next)), (hf190.fresh (ntr (ntr e162.next e168.next) e181.next)), (hf202.fresh (ntr (ntr (ntr e162.next e168.next) e181.next) e189.next)), (hb211.fresh (ntr (ntr (ntr (ntr e162.next e168.next) e181.next) e189.next) e201.next)), d305, (i303.djn (hm191.lt.le (ntr (ntr e201.next e210.next) e229.next))), (i304.djn (hm191.lt.le (ntr (ntr e201.next e210.next) e229.next))), (i303.djn (hm203.lt.le (ntr e210.next e229.next))), (i304.djn (hm203.lt.le (ntr e210.next e229.next))), (Dj.symm (hf202.djn hm191.lt)), (i303.djn (r212.ltF.le e229.next)), (i304.djn (r212.ltF.le e229.next)), (Dj.symm (hb211.djn (hm191.lt.le e201.next))), (Dj.symm (hb211.djn hm203.lt))⟩))
 ·have r371 := elim_r r221
  refine s_ck 75 #[.int .i64 y177] (by kernel_rfl) (c_heap_New e210.wf hy220) ?_
  rintro _ H375 ⟨s372, f373, b374, rfl, e376, m377, m378, i379, i380, d381⟩
  obtain ⟨a384, n385, c386, rfl⟩ := m377.form
  refine s_qk (.tuple #[.pointer (some ⟨b374, 0, none⟩), .nilIface]) (by kernel_rfl) ?_
  refine s_qk (.pointer (some ⟨b374, 0, none⟩)) (by kernel_rfl) ?_
  refine s_qk (.nilIface) (by kernel_rfl) ?_
  refine s_qk (.pointer (some ⟨b208, 0, none⟩)) (by kernel_rfl) ?_
  refine s_qk (.pointer (some ⟨b208, 3, none⟩)) (by kernel_rfl) ?_
  have u391 := (r212.frS e376 Dj.nil_l)
  obtain ⟨H387, q388, e389, r390⟩ := Row.store (P := Tryd.prog) (t := 102) (p := 3) e376.wf u391 (.pointer (some ⟨b374, 0, none⟩)) [.pointer (some ⟨b374, 0, none⟩)] (by kernel_rfl) (by kernel_rfl) (one_cons (rfl) (one_nil)) (Nat.le_of_ble_eq_true (by kernel_rfl)) [hd_First, hd_To, hd_Weight, .pointer (some ⟨b374, 0, none⟩), .pointer none, .slice a192 n193 c194, .slice a204 n205 c206] (by kernel_rfl)
  refine s_ek (undef) (by kernel_rfl) (map_ok q388) ?_
  refine s_nil ?_
  refine k218 _ _ ?_
  refine w_seqk fun K392 k392 => ?_
  refine w_reg (by kernel_rfl) ?_
  refine s_qk (.pointer (some ⟨b208, 0, none⟩)) (by kernel_rfl) ?_
  refine s_qk (.int .i64 y177) (by kernel_rfl) ?_
  obtain ⟨y393, hy394, r395⟩ := bind_some r371
  rcases y393 with y396 | y397
  ·have r398 := elim_l r395
   refine s_ck 76 #[.int .i64 y177, .int .u32 1] (by kernel_rfl) (c_stamp_New e389.wf hy394) ?_
   rintro _ _ ⟨rfl, rfl⟩
   refine s_qk (.tuple #[.pointer none, .iface 80 (.int .i64 1)]) (by kernel_rfl) ?_
   refine s_qk (.pointer none) (by kernel_rfl) ?_
   refine s_qk (.iface 80 (.int .i64 1)) (by kernel_rfl) ?_
   refine s_qk (.pointer (some ⟨b208, 0, none⟩)) (by kernel_rfl) ?_
   refine s_qk (.pointer (some ⟨b208, 4, none⟩)) (by kernel_rfl) ?_
   obtain ⟨H401, q402, e403, r404⟩ := Row.store (P := Tryd.prog) (t := 103) (p := 4) e389.wf r390 (.pointer none) [.pointer none] (by kernel_rfl) (by kernel_rfl) (one_cons (rfl) (one_nil)) (Nat.le_of_ble_eq_true (by kernel_rfl)) [hd_First, hd_To, hd_Weight, .pointer (some ⟨b374, 0, none⟩), .pointer none, .slice a192 n193 c194, .slice a204 n205 c206] (by kernel_rfl)
   refine s_ek (undef) (by kernel_rfl) (map_ok q402) ?_
   refine s_nil ?_
   refine k392 _ _ ?_
   refine w_seqk fun K405 k405 => ?_
   refine w_reg (by kernel_rfl) ?_
   refine s_qk (.pointer (some ⟨b208, 0, none⟩)) (by kernel_rfl) ?_
   refine s_qk (.int .i64 s) (by kernel_rfl) ?_
   have u406 := ((((u216.ext e210).fr e376 Dj.nil_l).fr e389 (hb211.djn (h_First.lt.le (ntr (ntr (ntr (ntr e162.next e168.next) e181.next) e189.next) e201.next)))).fr e403 (hb211.djn (h_First.lt.le (ntr (ntr (ntr (ntr e162.next e168.next) e181.next) e189.next) e201.next))))
   have u407 := ((((u215.ext e210).fr e376 Dj.nil_l).fr e389 (hb211.djn (h_To.lt.le (ntr (ntr (ntr (ntr e162.next e168.next) e181.next) e189.next) e201.next)))).fr e403 (hb211.djn (h_To.lt.le (ntr (ntr (ntr (ntr e162.next e168.next) e181.next) e189.next) e201.next))))
   have u408 := ((((u214.ext e210).fr e376 Dj.nil_l).fr e389 (hb211.djn (h_Weight.lt.le (ntr (ntr (ntr (ntr e162.next e168.next) e181.next) e189.next) e201.next)))).fr e403 (hb211.djn (h_Weight.lt.le (ntr (ntr (ntr (ntr e162.next e168.next) e181.next) e189.next) e201.next))))
   have u409 := ((m377.fr e389 (Dj.symm (i379.djn r212.ltF))).fr e403 (Dj.symm (i379.djn r212.ltF)))
   have u410 := ((m378.frS e389 (Dj.symm (i380.djn r212.ltF))).frS e403 (Dj.symm (i380.djn r212.ltF)))
   have u411 := ((((u213.ext e210).fr e376 Dj.nil_l).fr e389 (hb211.djn (hm191.lt.le e201.next))).fr e403 (hb211.djn (hm191.lt.le e201.next)))
   have u412 := ((((hm203.ext e210).fr e376 Dj.nil_l).fr e389 (hb211.djn hm203.lt)).fr e403 (hb211.djn hm203.lt))
   obtain ⟨y413, hy414, r415⟩ := bind_some r398
   refine s_ck 77 #[.pointer (some ⟨b208, 0, none⟩), .int .i64 s, .int .u64 0, .int .i64 0] (by kernel_rfl) (c_search_state_label_2 e403.wf u406 u407 u408 (Ow.nil (enc := enc_u64_u32) (sz := 2) (by decide)) u409 u410 u411 u412.sq r404 (Dj.symm (hb211.djn (hm191.lt.le e201.next))) Dj.nil_r (Dj.symm (i379.djn (hm191.lt.le (ntr e201.next e210.next)))) (Dj.symm (i380.djn (hm191.lt.le (ntr e201.next e210.next)))) Dj.nil_l Dj.nil_l (Dj.symm d381) hy414) ?_
   rintro _ H418 ⟨s416, f417, rfl, e419, m420, m421, m422, m423, i424⟩
   obtain ⟨a426, n427, c428, rfl⟩ := m421.form
   refine s_nil ?_
   refine k405 _ _ ?_
   refine w_seqk fun K429 k429 => ?_
   refine w_seqk fun K430 k430 => ?_
   refine w_reg (by kernel_rfl) ?_
   refine s_qk (.int .i64 0) (by kernel_rfl) ?_
   refine s_nil ?_
   refine k430 _ _ ?_
   obtain ⟨o431, hx432, r433⟩ := bind_some r415
   refine w_mid (fun α H434 => ∃ (s438 : Value) (f439 : Fp), Has α [(8, .pointer (some ⟨b208, 0, none⟩))] ∧ FrS ([b374] ++ (f187 ++ (f199 ++ (f373 ++ f417)))) H418 H434 ∧ Ow enc_u64_u32 2 H434 s438 o431.1 f439 ∧ Ow (encI .i64) 1 H434 (.slice a384 n385 c386) o431.2.1 f373 ∧ Row H434 b374 [s438, .slice a384 n385 c386] ∧ Ow (encI .i64) 1 H434 (.slice a192 n193 c194) o431.2.2.1 f187 ∧ Ow encB 1 H434 (.slice a204 n205 c206) o431.2.2.2 f199 ∧ Inn f417 H418 f439) (fun K449 k449 => ?_) (fun α H434 hM => ?_)
   ·refine w_block ?_
    obtain ⟨n451, hn452⟩ := loopO_iff.1 hx432
    have u474 := (u412.fr e419 (Dj.app (i380.djn (hm203.lt.le e210.next)) (Dj.app Dj.nil_l (Dj.app (i379.djn (hm203.lt.le e210.next)) (Dj.symm (hf202.djn hm191.lt))))))
    refine w_loopn (fun n α H453 => ∃ (st0 : List (Int × Int)), ∃ (st1 : List (Int)), ∃ (st2 : List (Int)), ∃ (st3 : List (Bool)), ∃ (count4 : Int), ∃ (s457 : Value), ∃ (f458 : Fp), iterO (fun zz_ => z_search_run_l2 First To Weight hops settles most zz_.1 zz_.2.1 zz_.2.2.1 zz_.2.2.2.1 zz_.2.2.2.2) n (st0, st1, st2, st3, count4) = some o431 ∧ Has α [(5, .pointer (some ⟨b166, 0, none⟩)), (8, .pointer (some ⟨b208, 0, none⟩)), (9, .int .i64 count4)] ∧ FrS ([b374] ++ (f187 ++ (f199 ++ (f373 ++ f417)))) H418 H453 ∧ Ow enc_u64_u32 2 H453 s457 st0 f458 ∧ Ow (encI .i64) 1 H453 (.slice a384 n385 c386) st1 f373 ∧ Row H453 b374 [s457, .slice a384 n385 c386] ∧ Ow (encI .i64) 1 H453 (.slice a192 n193 c194) st2 f187 ∧ Ow encB 1 H453 (.slice a204 n205 c206) st3 f199 ∧ Inn f417 H418 f458) n451 ⟨y413.2.1, y413.1, y413.2.2, (List.replicate y177.toNat (false : Bool)), 0, (.slice a426 n427 c428), f417, hn452, ⟨by kernel_rfl, by kernel_rfl, by kernel_rfl, trivial⟩, (FrS.refl (W := ([b374] ++ (f187 ++ (f199 ++ (f373 ++ f417))))) e419.wf), m421, m420, m422, m423, u474, Inn.refl'⟩ ?_
    rintro n451 α H453 ⟨st0, st1, st2, st3, count4, s457, f458, hi469, hh468, e454, m456, m460, m462, m464, m466, i467⟩ K475 k475
    obtain ⟨n470, z471, rfl, hz472, hn473⟩ := iter_succ hi469
    obtain ⟨β, rfl⟩ := has_ex hh468
    clear hh468
    replace hz472 : z_search_run_l2 First To Weight hops settles most st0 st1 st2 st3 count4 = some z471 := hz472
    unfold z_search_run_l2 at hz472
    obtain ⟨a476, n477, c478, rfl⟩ := m456.form
    refine w_seqk fun K479 k479 => ?_
    refine w_seqk fun K480 k480 => ?_
    refine w_reg (by kernel_rfl) ?_
    refine s_qk (.int .i64 count4) (by kernel_rfl) ?_
    refine s_qk (.pointer (some ⟨b166, 1, none⟩)) (by kernel_rfl) ?_
    have u481 := (((((((((r170.frS e181 Dj.nil_l).ext e189).ext e201).ext e210).frS e376 Dj.nil_l).frS e389 (hb211.djn (r170.ltF.le (ntr (ntr e181.next e189.next) e201.next)))).frS e403 (hb211.djn (r170.ltF.le (ntr (ntr e181.next e189.next) e201.next)))).frS e419 (Dj.app (i380.djn (r170.ltF.le (ntr (ntr (ntr e181.next e189.next) e201.next) e210.next))) (Dj.app Dj.nil_l (Dj.app (i379.djn (r170.ltF.le (ntr (ntr (ntr e181.next e189.next) e201.next) e210.next))) (hf190.djn (r170.ltF.le e181.next)))))).frS e454 (Dj.app (i380.djn (r170.ltF.le (ntr (ntr (ntr e181.next e189.next) e201.next) e210.next))) (Dj.app (hf190.djn (r170.ltF.le e181.next)) (Dj.app (hf202.djn (r170.ltF.le (ntr e181.next e189.next))) (Dj.app (i379.djn (r170.ltF.le (ntr (ntr (ntr e181.next e189.next) e201.next) e210.next))) (i424.djn (r170.ltF.le (ntr (ntr (ntr (ntr (ntr (ntr e181.next e189.next) e201.next) e210.next) e376.next) e389.next) e403.next))))))))
    refine s_ql (.int .i64 settles) (x := aLoad Tryd.prog 3 (.pointer (some ⟨b166, 1, none⟩)) H453) (by kernel_rfl) (u481.ld (by kernel_rfl)) ?_
    refine s_qk (.bool (decide (count4 < settles))) (by kernel_rfl) ?_
    refine s_nil ?_
    refine k480 _ _ ?_
    refine w_condp (count4 < settles) (by kernel_rfl) rfl (fun h482 => ?_) (fun h482 => ?_)
    ·have r483 := ite_t h482 hz472
     refine w_skip ?_
     refine k479 _ _ ?_
     refine w_seqk fun K484 k484 => ?_
     refine w_block ?_
     refine w_seqk fun K485 k485 => ?_
     refine w_reg (by kernel_rfl) ?_
     refine s_qk (.pointer (some ⟨b208, 0, none⟩)) (by kernel_rfl) ?_
     refine s_qk (.pointer (some ⟨b208, 0, none⟩)) (by kernel_rfl) ?_
     refine s_qk (.pointer (some ⟨b208, 3, none⟩)) (by kernel_rfl) ?_
     have u486 := ((r404.frS e419 (Dj.app (i380.djn r212.ltF) (Dj.app Dj.nil_l (Dj.app (i379.djn r212.ltF) (Dj.symm (hb211.djn (hm191.lt.le e201.next))))))).frS e454 (Dj.app (i380.djn r212.ltF) (Dj.app (Dj.symm (hb211.djn (hm191.lt.le e201.next))) (Dj.app (Dj.symm (hb211.djn hm203.lt)) (Dj.app (i379.djn r212.ltF) (i424.djn (r212.ltF.le (ntr (ntr e376.next e389.next) e403.next))))))))
     refine s_ql (.pointer (some ⟨b374, 0, none⟩)) (x := aLoad Tryd.prog 102 (.pointer (some ⟨b208, 3, none⟩)) H453) (by kernel_rfl) (u486.ld (by kernel_rfl)) ?_
     obtain ⟨y487, hy488, r489⟩ := bind_some r483
     refine s_ck 78 #[.pointer (some ⟨b374, 0, none⟩)] (by kernel_rfl) (c_heap_Heap_Top_1 e454.wf m456.sq m460.sq m462 hy488) ?_
     rintro _ _ ⟨rfl, rfl⟩
     refine s_qk (.tuple #[.int .u32 y487.1, .int .u64 y487.2.1, .bool y487.2.2]) (by kernel_rfl) ?_
     refine s_qk (.int .u32 y487.1) (by kernel_rfl) ?_
     refine s_qk (.int .u64 y487.2.1) (by kernel_rfl) ?_
     refine s_qk (.bool y487.2.2) (by kernel_rfl) ?_
     refine s_qk (.int .u32 y487.1) (by kernel_rfl) ?_
     refine s_qk (.int .u64 y487.2.1) (by kernel_rfl) ?_
     refine s_qk (.bool y487.2.2) (by kernel_rfl) ?_
     refine s_nil ?_
     refine k485 _ _ ?_
     refine w_seqk fun K492 k492 => ?_
     refine w_seqk fun K493 k493 => ?_
     obtain ⟨o494, hx495, r496⟩ := bind_some r489
     refine w_mid (fun α H497 => Has α [(5, .pointer (some ⟨b166, 0, none⟩)), (8, .pointer (some ⟨b208, 0, none⟩)), (9, .int .i64 count4), (10, .int .u32 y487.1), (11, .int .u64 y487.2.1), (63, .bool o494)] ∧ H453 = H497) (fun K499 k499 => ?_) (fun α H497 hM => ?_)
     ·refine w_reg (by kernel_rfl) ?_
      refine s_qk (.bool y487.2.2) (by kernel_rfl) ?_
      refine s_qk (.bool (!y487.2.2)) (by kernel_rfl) ?_
      refine s_qk (.bool (!y487.2.2)) (by kernel_rfl) ?_
      by_cases h501 : (!y487.2.2) = true
      ·have r502 := ite_t h501 hx495
       rw [h501]
       refine s_no (by kernel_rfl) ?_
       refine s_no (by kernel_rfl) ?_
       refine s_no (by kernel_rfl) ?_
       refine s_no (by kernel_rfl) ?_
       refine s_qk (.bool true) (by kernel_rfl) ?_
       refine s_nil ?_
       obtain rfl := Option.some.inj r502
       exact k499 _ _ ⟨⟨by kernel_rfl, by kernel_rfl, by kernel_rfl, by kernel_rfl, by kernel_rfl, by kernel_rfl, trivial⟩, rfl⟩
      ·have r503 := ite_f h501 hx495
       rw [nb h501]
       refine s_qk (.int .u64 y487.2.1) (by kernel_rfl) ?_
       refine s_qk (.pointer (some ⟨b166, 2, none⟩)) (by kernel_rfl) ?_
       refine s_ql (.int .u64 most) (x := aLoad Tryd.prog 42 (.pointer (some ⟨b166, 2, none⟩)) H453) (by kernel_rfl) (u481.ld (by kernel_rfl)) ?_
       refine s_qk (.bool (decide (y487.2.1 > most))) (by kernel_rfl) ?_
       refine s_qk (.bool (decide (y487.2.1 > most))) (by kernel_rfl) ?_
       refine s_nil ?_
       obtain rfl := Option.some.inj r503
       exact k499 _ _ ⟨⟨by kernel_rfl, by kernel_rfl, by kernel_rfl, by kernel_rfl, by kernel_rfl, by kernel_rfl, trivial⟩, rfl⟩
     ·obtain ⟨hh500, rfl⟩ := hM
      obtain ⟨β, rfl⟩ := has_ex hh500
      clear hh500
      refine k493 _ _ ?_
      refine w_cond (o494) (by kernel_rfl) rfl (fun h504 => ?_) (fun h504 => ?_)
      ·have r505 := ite_t h504 r496
       refine w_exit (th_exit (bl_ne (by decide) (th_exit (th_exit (bl_eq ?_)))))
       obtain rfl := Option.some.inj r505
       obtain rfl := it_inr hn473
       exact k449 _ _ ⟨(.slice a476 n477 c478), f458, ⟨by kernel_rfl, trivial⟩, (FrS.step e419.wf (FrS.refl (W := ([b374] ++ (f187 ++ (f199 ++ (f373 ++ f417))))) e419.wf) e454 (Inn.app Inn.left (Inn.app (Inn.right Inn.left) (Inn.app (Inn.right (Inn.right Inn.left)) (Inn.app (Inn.right (Inn.right (Inn.right Inn.left))) (Inn.right (Inn.right (Inn.right (Inn.right Inn.refl'))))))))), m456, m460, m462, m464, m466, (Inn.trans Inn.refl' (Nat.le_refl _) i467)⟩
      ·have r506 := ite_bf h504 r496
       refine w_skip ?_
       refine k492 _ _ ?_
       refine w_seqk fun K507 k507 => ?_
       refine w_reg (by kernel_rfl) ?_
       refine s_qk (.pointer (some ⟨b208, 0, none⟩)) (by kernel_rfl) ?_
       refine s_qk (.pointer (some ⟨b208, 0, none⟩)) (by kernel_rfl) ?_
       refine s_qk (.pointer (some ⟨b208, 3, none⟩)) (by kernel_rfl) ?_
       refine s_ql (.pointer (some ⟨b374, 0, none⟩)) (x := aLoad Tryd.prog 102 (.pointer (some ⟨b208, 3, none⟩)) H453) (by kernel_rfl) (u486.ld (by kernel_rfl)) ?_
       obtain ⟨y508, hy509, r510⟩ := bind_some r506
       refine s_ck 79 #[.pointer (some ⟨b374, 0, none⟩)] (by kernel_rfl) (c_heap_Heap_Pop e454.wf m456 m460 m462 (Dj.symm d381) (Dj.symm (i467.dj (i424.djn (m378.ltF.le (ntr e389.next e403.next))) (m378.ltF.le (ntr (ntr e389.next e403.next) e419.next)))) (Dj.symm (i467.dj (i424.djn (m377.lt.le (ntr e389.next e403.next))) (m377.lt.le (ntr (ntr e389.next e403.next) e419.next)))) hy509) ?_
       rintro _ H512 ⟨s511, rfl, e513, m514, m515, m516⟩
       obtain ⟨a518, n519, c520, rfl⟩ := m515.form
       refine s_nil ?_
       refine k507 _ _ ?_
       refine w_reg (by kernel_rfl) ?_
       refine s_qk (.pointer (some ⟨b208, 0, none⟩)) (by kernel_rfl) ?_
       refine s_qk (.int .u32 y487.1) (by kernel_rfl) ?_
       obtain ⟨g521, r522⟩ := G_some r510
       refine s_w (y487.1) (k := .i64) (x := y487.1) (by kernel_rfl) (wrap64 g521) ?_
       refine s_qk (.int .u64 y487.2.1) (by kernel_rfl) ?_
       refine s_qk (.pointer (some ⟨b166, 0, none⟩)) (by kernel_rfl) ?_
       have u523 := (u481.frS e513 (Dj.app (i380.djn (r170.ltF.le (ntr (ntr (ntr e181.next e189.next) e201.next) e210.next))) (Dj.app (i467.dj (i424.djn (r170.ltF.le (ntr (ntr (ntr (ntr (ntr (ntr e181.next e189.next) e201.next) e210.next) e376.next) e389.next) e403.next))) (r170.ltF.le (ntr (ntr (ntr (ntr (ntr (ntr (ntr e181.next e189.next) e201.next) e210.next) e376.next) e389.next) e403.next) e419.next))) (i379.djn (r170.ltF.le (ntr (ntr (ntr e181.next e189.next) e201.next) e210.next))))))
       refine s_ql (.int .i64 hops) (x := aLoad Tryd.prog 3 (.pointer (some ⟨b166, 0, none⟩)) H512) (by kernel_rfl) (u523.ld (by kernel_rfl)) ?_
       have u524 := (((u406.fr e419 (Dj.app (i380.djn (h_First.lt.le (ntr (ntr (ntr (ntr (ntr e162.next e168.next) e181.next) e189.next) e201.next) e210.next))) (Dj.app Dj.nil_l (Dj.app (i379.djn (h_First.lt.le (ntr (ntr (ntr (ntr (ntr e162.next e168.next) e181.next) e189.next) e201.next) e210.next))) (hf190.djn (h_First.lt.le (ntr (ntr e162.next e168.next) e181.next))))))).fr e454 (Dj.app (i380.djn (h_First.lt.le (ntr (ntr (ntr (ntr (ntr e162.next e168.next) e181.next) e189.next) e201.next) e210.next))) (Dj.app (hf190.djn (h_First.lt.le (ntr (ntr e162.next e168.next) e181.next))) (Dj.app (hf202.djn (h_First.lt.le (ntr (ntr (ntr e162.next e168.next) e181.next) e189.next))) (Dj.app (i379.djn (h_First.lt.le (ntr (ntr (ntr (ntr (ntr e162.next e168.next) e181.next) e189.next) e201.next) e210.next))) (i424.djn (h_First.lt.le (ntr (ntr (ntr (ntr (ntr (ntr (ntr (ntr e162.next e168.next) e181.next) e189.next) e201.next) e210.next) e376.next) e389.next) e403.next)))))))).fr e513 (Dj.app (i380.djn (h_First.lt.le (ntr (ntr (ntr (ntr (ntr e162.next e168.next) e181.next) e189.next) e201.next) e210.next))) (Dj.app (i467.dj (i424.djn (h_First.lt.le (ntr (ntr (ntr (ntr (ntr (ntr (ntr (ntr e162.next e168.next) e181.next) e189.next) e201.next) e210.next) e376.next) e389.next) e403.next))) (h_First.lt.le (ntr (ntr (ntr (ntr (ntr (ntr (ntr (ntr (ntr e162.next e168.next) e181.next) e189.next) e201.next) e210.next) e376.next) e389.next) e403.next) e419.next))) (i379.djn (h_First.lt.le (ntr (ntr (ntr (ntr (ntr e162.next e168.next) e181.next) e189.next) e201.next) e210.next))))))
       have u525 := (((u407.fr e419 (Dj.app (i380.djn (h_To.lt.le (ntr (ntr (ntr (ntr (ntr e162.next e168.next) e181.next) e189.next) e201.next) e210.next))) (Dj.app Dj.nil_l (Dj.app (i379.djn (h_To.lt.le (ntr (ntr (ntr (ntr (ntr e162.next e168.next) e181.next) e189.next) e201.next) e210.next))) (hf190.djn (h_To.lt.le (ntr (ntr e162.next e168.next) e181.next))))))).fr e454 (Dj.app (i380.djn (h_To.lt.le (ntr (ntr (ntr (ntr (ntr e162.next e168.next) e181.next) e189.next) e201.next) e210.next))) (Dj.app (hf190.djn (h_To.lt.le (ntr (ntr e162.next e168.next) e181.next))) (Dj.app (hf202.djn (h_To.lt.le (ntr (ntr (ntr e162.next e168.next) e181.next) e189.next))) (Dj.app (i379.djn (h_To.lt.le (ntr (ntr (ntr (ntr (ntr e162.next e168.next) e181.next) e189.next) e201.next) e210.next))) (i424.djn (h_To.lt.le (ntr (ntr (ntr (ntr (ntr (ntr (ntr (ntr e162.next e168.next) e181.next) e189.next) e201.next) e210.next) e376.next) e389.next) e403.next)))))))).fr e513 (Dj.app (i380.djn (h_To.lt.le (ntr (ntr (ntr (ntr (ntr e162.next e168.next) e181.next) e189.next) e201.next) e210.next))) (Dj.app (i467.dj (i424.djn (h_To.lt.le (ntr (ntr (ntr (ntr (ntr (ntr (ntr (ntr e162.next e168.next) e181.next) e189.next) e201.next) e210.next) e376.next) e389.next) e403.next))) (h_To.lt.le (ntr (ntr (ntr (ntr (ntr (ntr (ntr (ntr (ntr e162.next e168.next) e181.next) e189.next) e201.next) e210.next) e376.next) e389.next) e403.next) e419.next))) (i379.djn (h_To.lt.le (ntr (ntr (ntr (ntr (ntr e162.next e168.next) e181.next) e189.next) e201.next) e210.next))))))
       have u526 := (((u408.fr e419 (Dj.app (i380.djn (h_Weight.lt.le (ntr (ntr (ntr (ntr (ntr e162.next e168.next) e181.next) e189.next) e201.next) e210.next))) (Dj.app Dj.nil_l (Dj.app (i379.djn (h_Weight.lt.le (ntr (ntr (ntr (ntr (ntr e162.next e168.next) e181.next) e189.next) e201.next) e210.next))) (hf190.djn (h_Weight.lt.le (ntr (ntr e162.next e168.next) e181.next))))))).fr e454 (Dj.app (i380.djn (h_Weight.lt.le (ntr (ntr (ntr (ntr (ntr e162.next e168.next) e181.next) e189.next) e201.next) e210.next))) (Dj.app (hf190.djn (h_Weight.lt.le (ntr (ntr e162.next e168.next) e181.next))) (Dj.app (hf202.djn (h_Weight.lt.le (ntr (ntr (ntr e162.next e168.next) e181.next) e189.next))) (Dj.app (i379.djn (h_Weight.lt.le (ntr (ntr (ntr (ntr (ntr e162.next e168.next) e181.next) e189.next) e201.next) e210.next))) (i424.djn (h_Weight.lt.le (ntr (ntr (ntr (ntr (ntr (ntr (ntr (ntr e162.next e168.next) e181.next) e189.next) e201.next) e210.next) e376.next) e389.next) e403.next)))))))).fr e513 (Dj.app (i380.djn (h_Weight.lt.le (ntr (ntr (ntr (ntr (ntr e162.next e168.next) e181.next) e189.next) e201.next) e210.next))) (Dj.app (i467.dj (i424.djn (h_Weight.lt.le (ntr (ntr (ntr (ntr (ntr (ntr (ntr (ntr e162.next e168.next) e181.next) e189.next) e201.next) e210.next) e376.next) e389.next) e403.next))) (h_Weight.lt.le (ntr (ntr (ntr (ntr (ntr (ntr (ntr (ntr (ntr e162.next e168.next) e181.next) e189.next) e201.next) e210.next) e376.next) e389.next) e403.next) e419.next))) (i379.djn (h_Weight.lt.le (ntr (ntr (ntr (ntr (ntr e162.next e168.next) e181.next) e189.next) e201.next) e210.next))))))
       have u527 := (m464.fr e513 (Dj.app (i380.djn (hm191.lt.le (ntr e201.next e210.next))) (Dj.app (i467.dj (i424.djn (hm191.lt.le (ntr (ntr (ntr (ntr e201.next e210.next) e376.next) e389.next) e403.next))) (hm191.lt.le (ntr (ntr (ntr (ntr (ntr e201.next e210.next) e376.next) e389.next) e403.next) e419.next))) (i379.djn (hm191.lt.le (ntr e201.next e210.next))))))
       have u528 := (m466.fr e513 (Dj.app (i380.djn (hm203.lt.le e210.next)) (Dj.app (i467.dj (i424.djn (hm203.lt.le (ntr (ntr (ntr e210.next e376.next) e389.next) e403.next))) (hm203.lt.le (ntr (ntr (ntr (ntr e210.next e376.next) e389.next) e403.next) e419.next))) (i379.djn (hm203.lt.le e210.next)))))
       have u529 := (u486.frS e513 (Dj.app (i380.djn r212.ltF) (Dj.app (i467.dj (i424.djn (r212.ltF.le (ntr (ntr e376.next e389.next) e403.next))) (r212.ltF.le (ntr (ntr (ntr e376.next e389.next) e403.next) e419.next))) (i379.djn r212.ltF))))
       obtain ⟨y530, hy531, r532⟩ := bind_some r522
       refine s_ck 80 #[.pointer (some ⟨b208, 0, none⟩), .int .i64 y487.1, .int .u64 y487.2.1, .int .i64 hops] (by kernel_rfl) (c_search_state_settle e513.wf u524 u525 u526 m515 m514 m516 u527 u528 u529 (Dj.symm (hb211.djn hm203.lt)) (hf202.djn hm191.lt) (Dj.symm (i379.djn (hm203.lt.le e210.next))) (Dj.symm (i467.dj (i424.djn (hm203.lt.le (ntr (ntr (ntr e210.next e376.next) e389.next) e403.next))) (hm203.lt.le (ntr (ntr (ntr (ntr e210.next e376.next) e389.next) e403.next) e419.next)))) (Dj.symm (i380.djn (hm203.lt.le e210.next))) (hf202.djn (h_First.lt.le (ntr (ntr (ntr e162.next e168.next) e181.next) e189.next))) (hf202.djn (h_To.lt.le (ntr (ntr (ntr e162.next e168.next) e181.next) e189.next))) (hf202.djn (h_Weight.lt.le (ntr (ntr (ntr e162.next e168.next) e181.next) e189.next))) (Dj.symm (hb211.djn (hm191.lt.le e201.next))) (Dj.symm (i467.dj (i424.djn (hm191.lt.le (ntr (ntr (ntr (ntr e201.next e210.next) e376.next) e389.next) e403.next))) (hm191.lt.le (ntr (ntr (ntr (ntr (ntr e201.next e210.next) e376.next) e389.next) e403.next) e419.next)))) (Dj.symm (i379.djn (hm191.lt.le (ntr e201.next e210.next)))) (Dj.symm (i380.djn (hm191.lt.le (ntr e201.next e210.next)))) (i467.dj (i424.djn (m378.ltF.le (ntr e389.next e403.next))) (m378.ltF.le (ntr (ntr e389.next e403.next) e419.next))) (i467.dj (i424.djn (m377.lt.le (ntr e389.next e403.next))) (m377.lt.le (ntr (ntr e389.next e403.next) e419.next))) (Dj.symm d381) (i379.djn r212.ltF) (i467.dj (i424.djn (r212.ltF.le (ntr (ntr e376.next e389.next) e403.next))) (r212.ltF.le (ntr (ntr (ntr e376.next e389.next) e403.next) e419.next))) (i380.djn r212.ltF) (hf190.djn (h_First.lt.le (ntr (ntr e162.next e168.next) e181.next))) (i379.djn (h_First.lt.le (ntr (ntr (ntr (ntr (ntr e162.next e168.next) e181.next) e189.next) e201.next) e210.next))) (i467.dj (i424.djn (h_First.lt.le (ntr (ntr (ntr (ntr (ntr (ntr (ntr (ntr e162.next e168.next) e181.next) e189.next) e201.next) e210.next) e376.next) e389.next) e403.next))) (h_First.lt.le (ntr (ntr (ntr (ntr (ntr (ntr (ntr (ntr (ntr e162.next e168.next) e181.next) e189.next) e201.next) e210.next) e376.next) e389.next) e403.next) e419.next))) (i380.djn (h_First.lt.le (ntr (ntr (ntr (ntr (ntr e162.next e168.next) e181.next) e189.next) e201.next) e210.next))) (hf190.djn (h_To.lt.le (ntr (ntr e162.next e168.next) e181.next))) (i379.djn (h_To.lt.le (ntr (ntr (ntr (ntr (ntr e162.next e168.next) e181.next) e189.next) e201.next) e210.next))) (i467.dj (i424.djn (h_To.lt.le (ntr (ntr (ntr (ntr (ntr (ntr (ntr (ntr e162.next e168.next) e181.next) e189.next) e201.next) e210.next) e376.next) e389.next) e403.next))) (h_To.lt.le (ntr (ntr (ntr (ntr (ntr (ntr (ntr (ntr (ntr e162.next e168.next) e181.next) e189.next) e201.next) e210.next) e376.next) e389.next) e403.next) e419.next))) (i380.djn (h_To.lt.le (ntr (ntr (ntr (ntr (ntr e162.next e168.next) e181.next) e189.next) e201.next) e210.next))) (hf190.djn (h_Weight.lt.le (ntr (ntr e162.next e168.next) e181.next))) (i379.djn (h_Weight.lt.le (ntr (ntr (ntr (ntr (ntr e162.next e168.next) e181.next) e189.next) e201.next) e210.next))) (i467.dj (i424.djn (h_Weight.lt.le (ntr (ntr (ntr (ntr (ntr (ntr (ntr (ntr e162.next e168.next) e181.next) e189.next) e201.next) e210.next) e376.next) e389.next) e403.next))) (h_Weight.lt.le (ntr (ntr (ntr (ntr (ntr (ntr (ntr (ntr (ntr e162.next e168.next) e181.next) e189.next) e201.next) e210.next) e376.next) e389.next) e403.next) e419.next))) (i380.djn (h_Weight.lt.le (ntr (ntr (ntr (ntr (ntr e162.next e168.next) e181.next) e189.next) e201.next) e210.next))) (i379.djn (hm203.lt.le e210.next)) (i467.dj (i424.djn (hm203.lt.le (ntr (ntr (ntr e210.next e376.next) e389.next) e403.next))) (hm203.lt.le (ntr (ntr (ntr (ntr e210.next e376.next) e389.next) e403.next) e419.next))) (i380.djn (hm203.lt.le e210.next)) (i467.dj (i424.djn (hm191.lt.le (ntr (ntr (ntr (ntr e201.next e210.next) e376.next) e389.next) e403.next))) (hm191.lt.le (ntr (ntr (ntr (ntr (ntr e201.next e210.next) e376.next) e389.next) e403.next) e419.next))) hy531) ?_
       rintro _ H535 ⟨s533, f534, rfl, e536, m537, m538, m539, m540, m541, i542⟩
       obtain ⟨a544, n545, c546, rfl⟩ := m538.form
       refine s_nil ?_
       refine k484 _ _ ?_
       refine w_reg (by kernel_rfl) ?_
       refine s_qk (.int .i64 count4) (by kernel_rfl) ?_
       obtain ⟨g547, r548⟩ := G_some r532
       refine s_w ((count4 + 1)) (k := .i64) (x := (count4 + 1)) (by kernel_rfl) (wrap64 g547) ?_
       refine s_qk (.int .i64 (count4 + 1)) (by kernel_rfl) ?_
       refine s_nil ?_
       obtain rfl := Option.some.inj r548
       exact k475 n470 _ _ (Nat.lt_succ_self _) ⟨y530.2.1, y530.1, y530.2.2.1, y530.2.2.2, (count4 + 1), (.slice a544 n545 c546), f534, hn473, ⟨by kernel_rfl, by kernel_rfl, by kernel_rfl, trivial⟩, (FrS.step e419.wf (FrS.step e419.wf (FrS.step e419.wf (FrS.refl (W := ([b374] ++ (f187 ++ (f199 ++ (f373 ++ f417))))) e419.wf) e454 (Inn.app Inn.left (Inn.app (Inn.right Inn.left) (Inn.app (Inn.right (Inn.right Inn.left)) (Inn.app (Inn.right (Inn.right (Inn.right Inn.left))) (Inn.right (Inn.right (Inn.right (Inn.right Inn.refl'))))))))) e513 (Inn.app Inn.left (Inn.app (Inn.trans (Inn.right (Inn.right (Inn.right (Inn.right Inn.refl')))) (Nat.le_refl _) i467) (Inn.right (Inn.right (Inn.right Inn.left)))))) e536 (Inn.app Inn.left (Inn.app (Inn.trans (Inn.right (Inn.right (Inn.right (Inn.right Inn.refl')))) (Nat.le_refl _) i467) (Inn.app (Inn.right (Inn.right (Inn.right Inn.left))) (Inn.app (Inn.right Inn.left) (Inn.right (Inn.right Inn.left))))))), m538, m537, m539, m540, m541, (Inn.trans (Inn.trans Inn.refl' (Nat.le_refl _) i467) (ntr e454.next e513.next) i542)⟩
    ·have r549 := ite_f h482 hz472
     refine w_exit (th_exit (th_exit (bl_eq ?_)))
     obtain rfl := Option.some.inj r549
     obtain rfl := it_inr hn473
     exact k449 _ _ ⟨(.slice a476 n477 c478), f458, ⟨by kernel_rfl, trivial⟩, (FrS.step e419.wf (FrS.refl (W := ([b374] ++ (f187 ++ (f199 ++ (f373 ++ f417))))) e419.wf) e454 (Inn.app Inn.left (Inn.app (Inn.right Inn.left) (Inn.app (Inn.right (Inn.right Inn.left)) (Inn.app (Inn.right (Inn.right (Inn.right Inn.left))) (Inn.right (Inn.right (Inn.right (Inn.right Inn.refl'))))))))), m456, m460, m462, m464, m466, (Inn.trans Inn.refl' (Nat.le_refl _) i467)⟩
   ·obtain ⟨s438, f439, hh450, e435, m437, m441, m443, m445, m447, i448⟩ := hM
    obtain ⟨β, rfl⟩ := has_ex hh450
    clear hh450
    obtain ⟨a550, n551, c552, rfl⟩ := m437.form
    refine k429 _ _ ?_
    refine w_seqk fun K553 k553 => ?_
    refine w_reg (by kernel_rfl) ?_
    refine s_qk (.pointer (some ⟨b208, 0, none⟩)) (by kernel_rfl) ?_
    refine s_qk (.pointer (some ⟨b208, 0, none⟩)) (by kernel_rfl) ?_
    refine s_nil ?_
    refine k553 _ _ ?_
    refine w_ret ?_
    refine b_ret (fn := Tryd.f50) (vs := [.pointer (some ⟨b208, 0, none⟩)]) (aRes_tmp (by kernel_rfl) (rfl)) ?_
    have u554 := ((r404.frS e419 (Dj.app (i380.djn r212.ltF) (Dj.app Dj.nil_l (Dj.app (i379.djn r212.ltF) (Dj.symm (hb211.djn (hm191.lt.le e201.next))))))).frS e435 (Dj.app (i380.djn r212.ltF) (Dj.app (Dj.symm (hb211.djn (hm191.lt.le e201.next))) (Dj.app (Dj.symm (hb211.djn hm203.lt)) (Dj.app (i379.djn r212.ltF) (i424.djn (r212.ltF.le (ntr (ntr e376.next e389.next) e403.next))))))))
    obtain rfl := Option.some.inj r433
    exact (elimP_r (elimP_r (elimP_l ⟨(.slice a550 n551 c552), f439, (.slice a384 n385 c386), f373, b374, (.slice a192 n193 c194), f187, (.slice a204 n205 c206), f199, b208, rfl, (FrS.step wf (FrS.step wf (FrS.step wf (FrS.step wf (FrS.step wf ((((FrS.step wf (((FrS.refl (W := []) wf).extR e162).extR e168) e181 Inn.nil).extR e189).extR e201).extR e210) e376 Inn.nil) e389 (hb211.fresh (ntr (ntr (ntr (ntr e162.next e168.next) e181.next) e189.next) e201.next))) e403 (hb211.fresh (ntr (ntr (ntr (ntr e162.next e168.next) e181.next) e189.next) e201.next))) e419 (Inn.app (i380.fresh (ntr (ntr (ntr (ntr (ntr e162.next e168.next) e181.next) e189.next) e201.next) e210.next)) (Inn.app Inn.nil (Inn.app (i379.fresh (ntr (ntr (ntr (ntr (ntr e162.next e168.next) e181.next) e189.next) e201.next) e210.next)) (hf190.fresh (ntr (ntr e162.next e168.next) e181.next)))))) e435 (Inn.app (i380.fresh (ntr (ntr (ntr (ntr (ntr e162.next e168.next) e181.next) e189.next) e201.next) e210.next)) (Inn.app (hf190.fresh (ntr (ntr e162.next e168.next) e181.next)) (Inn.app (hf202.fresh (ntr (ntr (ntr e162.next e168.next) e181.next) e189.next)) (Inn.app (i379.fresh (ntr (ntr (ntr (ntr (ntr e162.next e168.next) e181.next) e189.next) e201.next) e210.next)) (i424.fresh (ntr (ntr (ntr (ntr (ntr (ntr (ntr (ntr e162.next e168.next) e181.next) e189.next) e201.next) e210.next) e376.next) e389.next) e403.next))))))), m437, m441, m443, m445, m447, u554, (Inn.trans (i424.fresh (ntr (ntr (ntr (ntr (ntr (ntr (ntr (ntr e162.next e168.next) e181.next) e189.next) e201.next) e210.next) e376.next) e389.next) e403.next)) (ntr (ntr (ntr (ntr (ntr (ntr (ntr (ntr (ntr e162.next e168.next) e181.next) e189.next) e201.next) e210.next) e376.next) e389.next) e403.next) e419.next) i448), (i379.fresh (ntr (ntr (ntr (ntr (ntr e162.next e168.next) e181.next) e189.next) e201.next) e210.next)), (i380.fresh (ntr (ntr (ntr (ntr (ntr e162.next e168.next) e181.next) e189.next) e201.next) e210.next)), (hf190.fresh (ntr (ntr e162.next e168.next) e181.next)), (hf202.fresh (ntr (ntr (ntr e162.next e168.next) e181.next) e189.next)), (hb211.fresh (ntr (ntr (ntr (ntr e162.next e168.next) e181.next) e189.next) e201.next)), (i448.dj (i424.djn (m377.lt.le (ntr e389.next e403.next))) (m377.lt.le (ntr (ntr e389.next e403.next) e419.next))), (i448.dj (i424.djn (m378.ltF.le (ntr e389.next e403.next))) (m378.ltF.le (ntr (ntr e389.next e403.next) e419.next))), d381, (i448.dj (i424.djn (hm191.lt.le (ntr (ntr (ntr (ntr e201.next e210.next) e376.next) e389.next) e403.next))) (hm191.lt.le (ntr (ntr (ntr (ntr (ntr e201.next e210.next) e376.next) e389.next) e403.next) e419.next))), (i379.djn (hm191.lt.le (ntr e201.next e210.next))), (i380.djn (hm191.lt.le (ntr e201.next e210.next))), (i448.dj (i424.djn (hm203.lt.le (ntr (ntr (ntr e210.next e376.next) e389.next) e403.next))) (hm203.lt.le (ntr (ntr (ntr (ntr e210.next e376.next) e389.next) e403.next) e419.next))), (i379.djn (hm203.lt.le e210.next)), (i380.djn (hm203.lt.le e210.next)), (Dj.symm (hf202.djn hm191.lt)), (i448.dj (i424.djn (r212.ltF.le (ntr (ntr e376.next e389.next) e403.next))) (r212.ltF.le (ntr (ntr (ntr e376.next e389.next) e403.next) e419.next))), (i379.djn r212.ltF), (i380.djn r212.ltF), (Dj.symm (hb211.djn (hm191.lt.le e201.next))), (Dj.symm (hb211.djn hm203.lt))⟩)))
  ·have r555 := elim_r r395
   refine s_ck 76 #[.int .i64 y177, .int .u32 1] (by kernel_rfl) (c_stamp_New e389.wf hy394) ?_
   rintro _ H559 ⟨s556, f557, b558, rfl, e560, m561, m562, i563, i564, d565⟩
   obtain ⟨a568, n569, c570, rfl⟩ := m561.form
   refine s_qk (.tuple #[.pointer (some ⟨b558, 0, none⟩), .nilIface]) (by kernel_rfl) ?_
   refine s_qk (.pointer (some ⟨b558, 0, none⟩)) (by kernel_rfl) ?_
   refine s_qk (.nilIface) (by kernel_rfl) ?_
   refine s_qk (.pointer (some ⟨b208, 0, none⟩)) (by kernel_rfl) ?_
   refine s_qk (.pointer (some ⟨b208, 4, none⟩)) (by kernel_rfl) ?_
   have u575 := (r390.frS e560 Dj.nil_l)
   obtain ⟨H571, q572, e573, r574⟩ := Row.store (P := Tryd.prog) (t := 103) (p := 4) e560.wf u575 (.pointer (some ⟨b558, 0, none⟩)) [.pointer (some ⟨b558, 0, none⟩)] (by kernel_rfl) (by kernel_rfl) (one_cons (rfl) (one_nil)) (Nat.le_of_ble_eq_true (by kernel_rfl)) [hd_First, hd_To, hd_Weight, .pointer (some ⟨b374, 0, none⟩), .pointer (some ⟨b558, 0, none⟩), .slice a192 n193 c194, .slice a204 n205 c206] (by kernel_rfl)
   refine s_ek (undef) (by kernel_rfl) (map_ok q572) ?_
   refine s_nil ?_
   refine k392 _ _ ?_
   refine w_seqk fun K576 k576 => ?_
   refine w_reg (by kernel_rfl) ?_
   refine s_qk (.pointer (some ⟨b208, 0, none⟩)) (by kernel_rfl) ?_
   refine s_qk (.int .i64 s) (by kernel_rfl) ?_
   have u577 := (((((u216.ext e210).fr e376 Dj.nil_l).fr e389 (hb211.djn (h_First.lt.le (ntr (ntr (ntr (ntr e162.next e168.next) e181.next) e189.next) e201.next)))).fr e560 Dj.nil_l).fr e573 (hb211.djn (h_First.lt.le (ntr (ntr (ntr (ntr e162.next e168.next) e181.next) e189.next) e201.next))))
   have u578 := (((((u215.ext e210).fr e376 Dj.nil_l).fr e389 (hb211.djn (h_To.lt.le (ntr (ntr (ntr (ntr e162.next e168.next) e181.next) e189.next) e201.next)))).fr e560 Dj.nil_l).fr e573 (hb211.djn (h_To.lt.le (ntr (ntr (ntr (ntr e162.next e168.next) e181.next) e189.next) e201.next))))
   have u579 := (((((u214.ext e210).fr e376 Dj.nil_l).fr e389 (hb211.djn (h_Weight.lt.le (ntr (ntr (ntr (ntr e162.next e168.next) e181.next) e189.next) e201.next)))).fr e560 Dj.nil_l).fr e573 (hb211.djn (h_Weight.lt.le (ntr (ntr (ntr (ntr e162.next e168.next) e181.next) e189.next) e201.next))))
   have u580 := (((m377.fr e389 (Dj.symm (i379.djn r212.ltF))).fr e560 Dj.nil_l).fr e573 (Dj.symm (i379.djn r212.ltF)))
   have u581 := (((m378.frS e389 (Dj.symm (i380.djn r212.ltF))).frS e560 Dj.nil_l).frS e573 (Dj.symm (i380.djn r212.ltF)))
   have u582 := (m561.fr e573 (Dj.symm (i563.djn (r212.ltF.le (ntr e376.next e389.next)))))
   have u583 := (m562.frS e573 (Dj.symm (i564.djn (r212.ltF.le (ntr e376.next e389.next)))))
   have u584 := (((((u213.ext e210).fr e376 Dj.nil_l).fr e389 (hb211.djn (hm191.lt.le e201.next))).fr e560 Dj.nil_l).fr e573 (hb211.djn (hm191.lt.le e201.next)))
   have u585 := (((((hm203.ext e210).fr e376 Dj.nil_l).fr e389 (hb211.djn hm203.lt)).fr e560 Dj.nil_l).fr e573 (hb211.djn hm203.lt))
   obtain ⟨y586, hy587, r588⟩ := bind_some r555
   refine s_ck 77 #[.pointer (some ⟨b208, 0, none⟩), .int .i64 s, .int .u64 0, .int .i64 0] (by kernel_rfl) (c_search_state_label_3 e573.wf u577 u578 u579 (Ow.nil (enc := enc_u64_u32) (sz := 2) (by decide)) u580 u581 u582 u583 u584 u585.sq r574 (Dj.symm d565) (i563.djn (r212.ltF.le (ntr e376.next e389.next))) (i564.djn (r212.ltF.le (ntr e376.next e389.next))) (i563.djn (hm191.lt.le (ntr (ntr (ntr e201.next e210.next) e376.next) e389.next))) (i564.djn (hm191.lt.le (ntr (ntr (ntr e201.next e210.next) e376.next) e389.next))) (Dj.symm (hb211.djn (hm191.lt.le e201.next))) Dj.nil_r Dj.nil_r Dj.nil_r (i563.djn (m377.lt.le e389.next)) (i564.djn (m377.lt.le e389.next)) (Dj.symm (i379.djn (hm191.lt.le (ntr e201.next e210.next)))) (i563.djn (m378.ltF.le e389.next)) (i564.djn (m378.ltF.le e389.next)) (Dj.symm (i380.djn (hm191.lt.le (ntr e201.next e210.next)))) Dj.nil_l Dj.nil_l (Dj.symm d381) hy587) ?_
   rintro _ H591 ⟨s589, f590, rfl, e592, m593, m594, m595, m596, m597, m598, i599⟩
   obtain ⟨a601, n602, c603, rfl⟩ := m594.form
   refine s_nil ?_
   refine k576 _ _ ?_
   refine w_seqk fun K604 k604 => ?_
   refine w_seqk fun K605 k605 => ?_
   refine w_reg (by kernel_rfl) ?_
   refine s_qk (.int .i64 0) (by kernel_rfl) ?_
   refine s_nil ?_
   refine k605 _ _ ?_
   obtain ⟨o606, hx607, r608⟩ := bind_some r588
   refine w_mid (fun α H609 => ∃ (s613 : Value) (f614 : Fp), Has α [(8, .pointer (some ⟨b208, 0, none⟩))] ∧ FrS ([b374] ++ ([b558] ++ (f187 ++ (f199 ++ (f373 ++ (f557 ++ f590)))))) H591 H609 ∧ Ow enc_u64_u32 2 H609 s613 o606.1 f614 ∧ Ow (encI .i64) 1 H609 (.slice a384 n385 c386) o606.2.1 f373 ∧ Row H609 b374 [s613, .slice a384 n385 c386] ∧ Ow enc_u64_u32 2 H609 (.slice a568 n569 c570) o606.2.2.1 f557 ∧ Row H609 b558 [.slice a568 n569 c570, .int .u32 y397.2, .int .i64 o606.2.2.2.1] ∧ Ow (encI .i64) 1 H609 (.slice a192 n193 c194) o606.2.2.2.2.1 f187 ∧ Ow encB 1 H609 (.slice a204 n205 c206) o606.2.2.2.2.2 f199 ∧ Inn f590 H591 f614) (fun K628 k628 => ?_) (fun α H609 hM => ?_)
   ·refine w_block ?_
    obtain ⟨n630, hn631⟩ := loopO_iff.1 hx607
    have u657 := (u585.fr e592 (Dj.app (i380.djn (hm203.lt.le e210.next)) (Dj.app (i564.djn (hm203.lt.le (ntr (ntr e210.next e376.next) e389.next))) (Dj.app (Dj.symm (hf202.djn hm191.lt)) (Dj.app Dj.nil_l (Dj.app (i379.djn (hm203.lt.le e210.next)) (i563.djn (hm203.lt.le (ntr (ntr e210.next e376.next) e389.next)))))))))
    refine w_loopn (fun n α H632 => ∃ (st0 : List (Int × Int)), ∃ (st1 : List (Int)), ∃ (st2 : List (Int × Int)), ∃ (st3 : Int), ∃ (st4 : List (Int)), ∃ (st5 : List (Bool)), ∃ (count6 : Int), ∃ (s636 : Value), ∃ (f637 : Fp), iterO (fun zz_ => z_search_run_l3 First To Weight hops settles most y397 zz_.1 zz_.2.1 zz_.2.2.1 zz_.2.2.2.1 zz_.2.2.2.2.1 zz_.2.2.2.2.2.1 zz_.2.2.2.2.2.2) n (st0, st1, st2, st3, st4, st5, count6) = some o606 ∧ Has α [(5, .pointer (some ⟨b166, 0, none⟩)), (8, .pointer (some ⟨b208, 0, none⟩)), (9, .int .i64 count6)] ∧ FrS ([b374] ++ ([b558] ++ (f187 ++ (f199 ++ (f373 ++ (f557 ++ f590)))))) H591 H632 ∧ Ow enc_u64_u32 2 H632 s636 st0 f637 ∧ Ow (encI .i64) 1 H632 (.slice a384 n385 c386) st1 f373 ∧ Row H632 b374 [s636, .slice a384 n385 c386] ∧ Ow enc_u64_u32 2 H632 (.slice a568 n569 c570) st2 f557 ∧ Row H632 b558 [.slice a568 n569 c570, .int .u32 y397.2, .int .i64 st3] ∧ Ow (encI .i64) 1 H632 (.slice a192 n193 c194) st4 f187 ∧ Ow encB 1 H632 (.slice a204 n205 c206) st5 f199 ∧ Inn f590 H591 f637) n630 ⟨y586.2.1, y586.1, y586.2.2.1, y586.2.2.2.1, y586.2.2.2.2, (List.replicate y177.toNat (false : Bool)), 0, (.slice a601 n602 c603), f590, hn631, ⟨by kernel_rfl, by kernel_rfl, by kernel_rfl, trivial⟩, (FrS.refl (W := ([b374] ++ ([b558] ++ (f187 ++ (f199 ++ (f373 ++ (f557 ++ f590))))))) e592.wf), m594, m593, m595, m596, m597, m598, u657, Inn.refl'⟩ ?_
    rintro n630 α H632 ⟨st0, st1, st2, st3, st4, st5, count6, s636, f637, hi652, hh651, e633, m635, m639, m641, m643, m645, m647, m649, i650⟩ K658 k658
    obtain ⟨n653, z654, rfl, hz655, hn656⟩ := iter_succ hi652
    obtain ⟨β, rfl⟩ := has_ex hh651
    clear hh651
    replace hz655 : z_search_run_l3 First To Weight hops settles most y397 st0 st1 st2 st3 st4 st5 count6 = some z654 := hz655
    unfold z_search_run_l3 at hz655
    obtain ⟨a659, n660, c661, rfl⟩ := m635.form
    refine w_seqk fun K662 k662 => ?_
    refine w_seqk fun K663 k663 => ?_
    refine w_reg (by kernel_rfl) ?_
    refine s_qk (.int .i64 count6) (by kernel_rfl) ?_
    refine s_qk (.pointer (some ⟨b166, 1, none⟩)) (by kernel_rfl) ?_
    have u664 := ((((((((((r170.frS e181 Dj.nil_l).ext e189).ext e201).ext e210).frS e376 Dj.nil_l).frS e389 (hb211.djn (r170.ltF.le (ntr (ntr e181.next e189.next) e201.next)))).frS e560 Dj.nil_l).frS e573 (hb211.djn (r170.ltF.le (ntr (ntr e181.next e189.next) e201.next)))).frS e592 (Dj.app (i380.djn (r170.ltF.le (ntr (ntr (ntr e181.next e189.next) e201.next) e210.next))) (Dj.app (i564.djn (r170.ltF.le (ntr (ntr (ntr (ntr (ntr e181.next e189.next) e201.next) e210.next) e376.next) e389.next))) (Dj.app (hf190.djn (r170.ltF.le e181.next)) (Dj.app Dj.nil_l (Dj.app (i379.djn (r170.ltF.le (ntr (ntr (ntr e181.next e189.next) e201.next) e210.next))) (i563.djn (r170.ltF.le (ntr (ntr (ntr (ntr (ntr e181.next e189.next) e201.next) e210.next) e376.next) e389.next))))))))).frS e633 (Dj.app (i380.djn (r170.ltF.le (ntr (ntr (ntr e181.next e189.next) e201.next) e210.next))) (Dj.app (i564.djn (r170.ltF.le (ntr (ntr (ntr (ntr (ntr e181.next e189.next) e201.next) e210.next) e376.next) e389.next))) (Dj.app (hf190.djn (r170.ltF.le e181.next)) (Dj.app (hf202.djn (r170.ltF.le (ntr e181.next e189.next))) (Dj.app (i379.djn (r170.ltF.le (ntr (ntr (ntr e181.next e189.next) e201.next) e210.next))) (Dj.app (i563.djn (r170.ltF.le (ntr (ntr (ntr (ntr (ntr e181.next e189.next) e201.next) e210.next) e376.next) e389.next))) (i599.djn (r170.ltF.le (ntr (ntr (ntr (ntr (ntr (ntr (ntr e181.next e189.next) e201.next) e210.next) e376.next) e389.next) e560.next) e573.next))))))))))
    refine s_ql (.int .i64 settles) (x := aLoad Tryd.prog 3 (.pointer (some ⟨b166, 1, none⟩)) H632) (by kernel_rfl) (u664.ld (by kernel_rfl)) ?_
    refine s_qk (.bool (decide (count6 < settles))) (by kernel_rfl) ?_
    refine s_nil ?_
    refine k663 _ _ ?_
    refine w_condp (count6 < settles) (by kernel_rfl) rfl (fun h665 => ?_) (fun h665 => ?_)
    ·have r666 := ite_t h665 hz655
     refine w_skip ?_
     refine k662 _ _ ?_
     refine w_seqk fun K667 k667 => ?_
     refine w_block ?_
     refine w_seqk fun K668 k668 => ?_
     refine w_reg (by kernel_rfl) ?_
     refine s_qk (.pointer (some ⟨b208, 0, none⟩)) (by kernel_rfl) ?_
     refine s_qk (.pointer (some ⟨b208, 0, none⟩)) (by kernel_rfl) ?_
     refine s_qk (.pointer (some ⟨b208, 3, none⟩)) (by kernel_rfl) ?_
     have u669 := ((r574.frS e592 (Dj.app (i380.djn r212.ltF) (Dj.app (i564.djn (r212.ltF.le (ntr e376.next e389.next))) (Dj.app (Dj.symm (hb211.djn (hm191.lt.le e201.next))) (Dj.app Dj.nil_l (Dj.app (i379.djn r212.ltF) (i563.djn (r212.ltF.le (ntr e376.next e389.next))))))))).frS e633 (Dj.app (i380.djn r212.ltF) (Dj.app (i564.djn (r212.ltF.le (ntr e376.next e389.next))) (Dj.app (Dj.symm (hb211.djn (hm191.lt.le e201.next))) (Dj.app (Dj.symm (hb211.djn hm203.lt)) (Dj.app (i379.djn r212.ltF) (Dj.app (i563.djn (r212.ltF.le (ntr e376.next e389.next))) (i599.djn (r212.ltF.le (ntr (ntr (ntr e376.next e389.next) e560.next) e573.next))))))))))
     refine s_ql (.pointer (some ⟨b374, 0, none⟩)) (x := aLoad Tryd.prog 102 (.pointer (some ⟨b208, 3, none⟩)) H632) (by kernel_rfl) (u669.ld (by kernel_rfl)) ?_
     obtain ⟨y670, hy671, r672⟩ := bind_some r666
     refine s_ck 78 #[.pointer (some ⟨b374, 0, none⟩)] (by kernel_rfl) (c_heap_Heap_Top_1 e633.wf m635.sq m639.sq m641 hy671) ?_
     rintro _ _ ⟨rfl, rfl⟩
     refine s_qk (.tuple #[.int .u32 y670.1, .int .u64 y670.2.1, .bool y670.2.2]) (by kernel_rfl) ?_
     refine s_qk (.int .u32 y670.1) (by kernel_rfl) ?_
     refine s_qk (.int .u64 y670.2.1) (by kernel_rfl) ?_
     refine s_qk (.bool y670.2.2) (by kernel_rfl) ?_
     refine s_qk (.int .u32 y670.1) (by kernel_rfl) ?_
     refine s_qk (.int .u64 y670.2.1) (by kernel_rfl) ?_
     refine s_qk (.bool y670.2.2) (by kernel_rfl) ?_
     refine s_nil ?_
     refine k668 _ _ ?_
     refine w_seqk fun K675 k675 => ?_
     refine w_seqk fun K676 k676 => ?_
     obtain ⟨o677, hx678, r679⟩ := bind_some r672
     refine w_mid (fun α H680 => Has α [(5, .pointer (some ⟨b166, 0, none⟩)), (8, .pointer (some ⟨b208, 0, none⟩)), (9, .int .i64 count6), (10, .int .u32 y670.1), (11, .int .u64 y670.2.1), (63, .bool o677)] ∧ H632 = H680) (fun K682 k682 => ?_) (fun α H680 hM => ?_)
     ·refine w_reg (by kernel_rfl) ?_
      refine s_qk (.bool y670.2.2) (by kernel_rfl) ?_
      refine s_qk (.bool (!y670.2.2)) (by kernel_rfl) ?_
      refine s_qk (.bool (!y670.2.2)) (by kernel_rfl) ?_
      by_cases h684 : (!y670.2.2) = true
      ·have r685 := ite_t h684 hx678
       rw [h684]
       refine s_no (by kernel_rfl) ?_
       refine s_no (by kernel_rfl) ?_
       refine s_no (by kernel_rfl) ?_
       refine s_no (by kernel_rfl) ?_
       refine s_qk (.bool true) (by kernel_rfl) ?_
       refine s_nil ?_
       obtain rfl := Option.some.inj r685
       exact k682 _ _ ⟨⟨by kernel_rfl, by kernel_rfl, by kernel_rfl, by kernel_rfl, by kernel_rfl, by kernel_rfl, trivial⟩, rfl⟩
      ·have r686 := ite_f h684 hx678
       rw [nb h684]
       refine s_qk (.int .u64 y670.2.1) (by kernel_rfl) ?_
       refine s_qk (.pointer (some ⟨b166, 2, none⟩)) (by kernel_rfl) ?_
       refine s_ql (.int .u64 most) (x := aLoad Tryd.prog 42 (.pointer (some ⟨b166, 2, none⟩)) H632) (by kernel_rfl) (u664.ld (by kernel_rfl)) ?_
       refine s_qk (.bool (decide (y670.2.1 > most))) (by kernel_rfl) ?_
       refine s_qk (.bool (decide (y670.2.1 > most))) (by kernel_rfl) ?_
       refine s_nil ?_
       obtain rfl := Option.some.inj r686
       exact k682 _ _ ⟨⟨by kernel_rfl, by kernel_rfl, by kernel_rfl, by kernel_rfl, by kernel_rfl, by kernel_rfl, trivial⟩, rfl⟩
     ·obtain ⟨hh683, rfl⟩ := hM
      obtain ⟨β, rfl⟩ := has_ex hh683
      clear hh683
      refine k676 _ _ ?_
      refine w_cond (o677) (by kernel_rfl) rfl (fun h687 => ?_) (fun h687 => ?_)
      ·have r688 := ite_t h687 r679
       refine w_exit (th_exit (bl_ne (by decide) (th_exit (th_exit (bl_eq ?_)))))
       obtain rfl := Option.some.inj r688
       obtain rfl := it_inr hn656
       exact k628 _ _ ⟨(.slice a659 n660 c661), f637, ⟨by kernel_rfl, trivial⟩, (FrS.step e592.wf (FrS.refl (W := ([b374] ++ ([b558] ++ (f187 ++ (f199 ++ (f373 ++ (f557 ++ f590))))))) e592.wf) e633 (Inn.app Inn.left (Inn.app (Inn.right Inn.left) (Inn.app (Inn.right (Inn.right Inn.left)) (Inn.app (Inn.right (Inn.right (Inn.right Inn.left))) (Inn.app (Inn.right (Inn.right (Inn.right (Inn.right Inn.left)))) (Inn.app (Inn.right (Inn.right (Inn.right (Inn.right (Inn.right Inn.left))))) (Inn.right (Inn.right (Inn.right (Inn.right (Inn.right (Inn.right Inn.refl'))))))))))))), m635, m639, m641, m643, m645, m647, m649, (Inn.trans Inn.refl' (Nat.le_refl _) i650)⟩
      ·have r689 := ite_bf h687 r679
       refine w_skip ?_
       refine k675 _ _ ?_
       refine w_seqk fun K690 k690 => ?_
       refine w_reg (by kernel_rfl) ?_
       refine s_qk (.pointer (some ⟨b208, 0, none⟩)) (by kernel_rfl) ?_
       refine s_qk (.pointer (some ⟨b208, 0, none⟩)) (by kernel_rfl) ?_
       refine s_qk (.pointer (some ⟨b208, 3, none⟩)) (by kernel_rfl) ?_
       refine s_ql (.pointer (some ⟨b374, 0, none⟩)) (x := aLoad Tryd.prog 102 (.pointer (some ⟨b208, 3, none⟩)) H632) (by kernel_rfl) (u669.ld (by kernel_rfl)) ?_
       obtain ⟨y691, hy692, r693⟩ := bind_some r689
       refine s_ck 79 #[.pointer (some ⟨b374, 0, none⟩)] (by kernel_rfl) (c_heap_Heap_Pop e633.wf m635 m639 m641 (Dj.symm d381) (Dj.symm (i650.dj (i599.djn (m378.ltF.le (ntr (ntr e389.next e560.next) e573.next))) (m378.ltF.le (ntr (ntr (ntr e389.next e560.next) e573.next) e592.next)))) (Dj.symm (i650.dj (i599.djn (m377.lt.le (ntr (ntr e389.next e560.next) e573.next))) (m377.lt.le (ntr (ntr (ntr e389.next e560.next) e573.next) e592.next)))) hy692) ?_
       rintro _ H695 ⟨s694, rfl, e696, m697, m698, m699⟩
       obtain ⟨a701, n702, c703, rfl⟩ := m698.form
       refine s_nil ?_
       refine k690 _ _ ?_
       refine w_reg (by kernel_rfl) ?_
       refine s_qk (.pointer (some ⟨b208, 0, none⟩)) (by kernel_rfl) ?_
       refine s_qk (.int .u32 y670.1) (by kernel_rfl) ?_
       obtain ⟨g704, r705⟩ := G_some r693
       refine s_w (y670.1) (k := .i64) (x := y670.1) (by kernel_rfl) (wrap64 g704) ?_
       refine s_qk (.int .u64 y670.2.1) (by kernel_rfl) ?_
       refine s_qk (.pointer (some ⟨b166, 0, none⟩)) (by kernel_rfl) ?_
       have u706 := (u664.frS e696 (Dj.app (i380.djn (r170.ltF.le (ntr (ntr (ntr e181.next e189.next) e201.next) e210.next))) (Dj.app (i650.dj (i599.djn (r170.ltF.le (ntr (ntr (ntr (ntr (ntr (ntr (ntr e181.next e189.next) e201.next) e210.next) e376.next) e389.next) e560.next) e573.next))) (r170.ltF.le (ntr (ntr (ntr (ntr (ntr (ntr (ntr (ntr e181.next e189.next) e201.next) e210.next) e376.next) e389.next) e560.next) e573.next) e592.next))) (i379.djn (r170.ltF.le (ntr (ntr (ntr e181.next e189.next) e201.next) e210.next))))))
       refine s_ql (.int .i64 hops) (x := aLoad Tryd.prog 3 (.pointer (some ⟨b166, 0, none⟩)) H695) (by kernel_rfl) (u706.ld (by kernel_rfl)) ?_
       have u707 := (((u577.fr e592 (Dj.app (i380.djn (h_First.lt.le (ntr (ntr (ntr (ntr (ntr e162.next e168.next) e181.next) e189.next) e201.next) e210.next))) (Dj.app (i564.djn (h_First.lt.le (ntr (ntr (ntr (ntr (ntr (ntr (ntr e162.next e168.next) e181.next) e189.next) e201.next) e210.next) e376.next) e389.next))) (Dj.app (hf190.djn (h_First.lt.le (ntr (ntr e162.next e168.next) e181.next))) (Dj.app Dj.nil_l (Dj.app (i379.djn (h_First.lt.le (ntr (ntr (ntr (ntr (ntr e162.next e168.next) e181.next) e189.next) e201.next) e210.next))) (i563.djn (h_First.lt.le (ntr (ntr (ntr (ntr (ntr (ntr (ntr e162.next e168.next) e181.next) e189.next) e201.next) e210.next) e376.next) e389.next))))))))).fr e633 (Dj.app (i380.djn (h_First.lt.le (ntr (ntr (ntr (ntr (ntr e162.next e168.next) e181.next) e189.next) e201.next) e210.next))) (Dj.app (i564.djn (h_First.lt.le (ntr (ntr (ntr (ntr (ntr (ntr (ntr e162.next e168.next) e181.next) e189.next) e201.next) e210.next) e376.next) e389.next))) (Dj.app (hf190.djn (h_First.lt.le (ntr (ntr e162.next e168.next) e181.next))) (Dj.app (hf202.djn (h_First.lt.le (ntr (ntr (ntr e162.next e168.next) e181.next) e189.next))) (Dj.app (i379.djn (h_First.lt.le (ntr (ntr (ntr (ntr (ntr e162.next e168.next) e181.next) e189.next) e201.next) e210.next))) (Dj.app (i563.djn (h_First.lt.le (ntr (ntr (ntr (ntr (ntr (ntr (ntr e162.next e168.next) e181.next) e189.next) e201.next) e210.next) e376.next) e389.next))) (i599.djn (h_First.lt.le (ntr (ntr (ntr (ntr (ntr (ntr (ntr (ntr (ntr e162.next e168.next) e181.next) e189.next) e201.next) e210.next) e376.next) e389.next) e560.next) e573.next)))))))))).fr e696 (Dj.app (i380.djn (h_First.lt.le (ntr (ntr (ntr (ntr (ntr e162.next e168.next) e181.next) e189.next) e201.next) e210.next))) (Dj.app (i650.dj (i599.djn (h_First.lt.le (ntr (ntr (ntr (ntr (ntr (ntr (ntr (ntr (ntr e162.next e168.next) e181.next) e189.next) e201.next) e210.next) e376.next) e389.next) e560.next) e573.next))) (h_First.lt.le (ntr (ntr (ntr (ntr (ntr (ntr (ntr (ntr (ntr (ntr e162.next e168.next) e181.next) e189.next) e201.next) e210.next) e376.next) e389.next) e560.next) e573.next) e592.next))) (i379.djn (h_First.lt.le (ntr (ntr (ntr (ntr (ntr e162.next e168.next) e181.next) e189.next) e201.next) e210.next))))))
       have u708 := (((u578.fr e592 (Dj.app (i380.djn (h_To.lt.le (ntr (ntr (ntr (ntr (ntr e162.next e168.next) e181.next) e189.next) e201.next) e210.next))) (Dj.app (i564.djn (h_To.lt.le (ntr (ntr (ntr (ntr (ntr (ntr (ntr e162.next e168.next) e181.next) e189.next) e201.next) e210.next) e376.next) e389.next))) (Dj.app (hf190.djn (h_To.lt.le (ntr (ntr e162.next e168.next) e181.next))) (Dj.app Dj.nil_l (Dj.app (i379.djn (h_To.lt.le (ntr (ntr (ntr (ntr (ntr e162.next e168.next) e181.next) e189.next) e201.next) e210.next))) (i563.djn (h_To.lt.le (ntr (ntr (ntr (ntr (ntr (ntr (ntr e162.next e168.next) e181.next) e189.next) e201.next) e210.next) e376.next) e389.next))))))))).fr e633 (Dj.app (i380.djn (h_To.lt.le (ntr (ntr (ntr (ntr (ntr e162.next e168.next) e181.next) e189.next) e201.next) e210.next))) (Dj.app (i564.djn (h_To.lt.le (ntr (ntr (ntr (ntr (ntr (ntr (ntr e162.next e168.next) e181.next) e189.next) e201.next) e210.next) e376.next) e389.next))) (Dj.app (hf190.djn (h_To.lt.le (ntr (ntr e162.next e168.next) e181.next))) (Dj.app (hf202.djn (h_To.lt.le (ntr (ntr (ntr e162.next e168.next) e181.next) e189.next))) (Dj.app (i379.djn (h_To.lt.le (ntr (ntr (ntr (ntr (ntr e162.next e168.next) e181.next) e189.next) e201.next) e210.next))) (Dj.app (i563.djn (h_To.lt.le (ntr (ntr (ntr (ntr (ntr (ntr (ntr e162.next e168.next) e181.next) e189.next) e201.next) e210.next) e376.next) e389.next))) (i599.djn (h_To.lt.le (ntr (ntr (ntr (ntr (ntr (ntr (ntr (ntr (ntr e162.next e168.next) e181.next) e189.next) e201.next) e210.next) e376.next) e389.next) e560.next) e573.next)))))))))).fr e696 (Dj.app (i380.djn (h_To.lt.le (ntr (ntr (ntr (ntr (ntr e162.next e168.next) e181.next) e189.next) e201.next) e210.next))) (Dj.app (i650.dj (i599.djn (h_To.lt.le (ntr (ntr (ntr (ntr (ntr (ntr (ntr (ntr (ntr e162.next e168.next) e181.next) e189.next) e201.next) e210.next) e376.next) e389.next) e560.next) e573.next))) (h_To.lt.le (ntr (ntr (ntr (ntr (ntr (ntr (ntr (ntr (ntr (ntr e162.next e168.next) e181.next) e189.next) e201.next) e210.next) e376.next) e389.next) e560.next) e573.next) e592.next))) (i379.djn (h_To.lt.le (ntr (ntr (ntr (ntr (ntr e162.next e168.next) e181.next) e189.next) e201.next) e210.next))))))
       have u709 := (((u579.fr e592 (Dj.app (i380.djn (h_Weight.lt.le (ntr (ntr (ntr (ntr (ntr e162.next e168.next) e181.next) e189.next) e201.next) e210.next))) (Dj.app (i564.djn (h_Weight.lt.le (ntr (ntr (ntr (ntr (ntr (ntr (ntr e162.next e168.next) e181.next) e189.next) e201.next) e210.next) e376.next) e389.next))) (Dj.app (hf190.djn (h_Weight.lt.le (ntr (ntr e162.next e168.next) e181.next))) (Dj.app Dj.nil_l (Dj.app (i379.djn (h_Weight.lt.le (ntr (ntr (ntr (ntr (ntr e162.next e168.next) e181.next) e189.next) e201.next) e210.next))) (i563.djn (h_Weight.lt.le (ntr (ntr (ntr (ntr (ntr (ntr (ntr e162.next e168.next) e181.next) e189.next) e201.next) e210.next) e376.next) e389.next))))))))).fr e633 (Dj.app (i380.djn (h_Weight.lt.le (ntr (ntr (ntr (ntr (ntr e162.next e168.next) e181.next) e189.next) e201.next) e210.next))) (Dj.app (i564.djn (h_Weight.lt.le (ntr (ntr (ntr (ntr (ntr (ntr (ntr e162.next e168.next) e181.next) e189.next) e201.next) e210.next) e376.next) e389.next))) (Dj.app (hf190.djn (h_Weight.lt.le (ntr (ntr e162.next e168.next) e181.next))) (Dj.app (hf202.djn (h_Weight.lt.le (ntr (ntr (ntr e162.next e168.next) e181.next) e189.next))) (Dj.app (i379.djn (h_Weight.lt.le (ntr (ntr (ntr (ntr (ntr e162.next e168.next) e181.next) e189.next) e201.next) e210.next))) (Dj.app (i563.djn (h_Weight.lt.le (ntr (ntr (ntr (ntr (ntr (ntr (ntr e162.next e168.next) e181.next) e189.next) e201.next) e210.next) e376.next) e389.next))) (i599.djn (h_Weight.lt.le (ntr (ntr (ntr (ntr (ntr (ntr (ntr (ntr (ntr e162.next e168.next) e181.next) e189.next) e201.next) e210.next) e376.next) e389.next) e560.next) e573.next)))))))))).fr e696 (Dj.app (i380.djn (h_Weight.lt.le (ntr (ntr (ntr (ntr (ntr e162.next e168.next) e181.next) e189.next) e201.next) e210.next))) (Dj.app (i650.dj (i599.djn (h_Weight.lt.le (ntr (ntr (ntr (ntr (ntr (ntr (ntr (ntr (ntr e162.next e168.next) e181.next) e189.next) e201.next) e210.next) e376.next) e389.next) e560.next) e573.next))) (h_Weight.lt.le (ntr (ntr (ntr (ntr (ntr (ntr (ntr (ntr (ntr (ntr e162.next e168.next) e181.next) e189.next) e201.next) e210.next) e376.next) e389.next) e560.next) e573.next) e592.next))) (i379.djn (h_Weight.lt.le (ntr (ntr (ntr (ntr (ntr e162.next e168.next) e181.next) e189.next) e201.next) e210.next))))))
       have u710 := (m643.fr e696 (Dj.app (Dj.symm (i563.djn (m378.ltF.le e389.next))) (Dj.app (i650.dj (i599.djn (m561.lt.le e573.next)) (m561.lt.le (ntr e573.next e592.next))) (Dj.symm (i563.djn (m377.lt.le e389.next))))))
       have u711 := (m645.frS e696 (Dj.app (Dj.symm (i564.djn (m378.ltF.le e389.next))) (Dj.app (i650.dj (i599.djn (m562.ltF.le e573.next)) (m562.ltF.le (ntr e573.next e592.next))) (Dj.symm (i564.djn (m377.lt.le e389.next))))))
       have u712 := (m647.fr e696 (Dj.app (i380.djn (hm191.lt.le (ntr e201.next e210.next))) (Dj.app (i650.dj (i599.djn (hm191.lt.le (ntr (ntr (ntr (ntr (ntr e201.next e210.next) e376.next) e389.next) e560.next) e573.next))) (hm191.lt.le (ntr (ntr (ntr (ntr (ntr (ntr e201.next e210.next) e376.next) e389.next) e560.next) e573.next) e592.next))) (i379.djn (hm191.lt.le (ntr e201.next e210.next))))))
       have u713 := (m649.fr e696 (Dj.app (i380.djn (hm203.lt.le e210.next)) (Dj.app (i650.dj (i599.djn (hm203.lt.le (ntr (ntr (ntr (ntr e210.next e376.next) e389.next) e560.next) e573.next))) (hm203.lt.le (ntr (ntr (ntr (ntr (ntr e210.next e376.next) e389.next) e560.next) e573.next) e592.next))) (i379.djn (hm203.lt.le e210.next)))))
       have u714 := (u669.frS e696 (Dj.app (i380.djn r212.ltF) (Dj.app (i650.dj (i599.djn (r212.ltF.le (ntr (ntr (ntr e376.next e389.next) e560.next) e573.next))) (r212.ltF.le (ntr (ntr (ntr (ntr e376.next e389.next) e560.next) e573.next) e592.next))) (i379.djn r212.ltF))))
       obtain ⟨y715, hy716, r717⟩ := bind_some r705
       refine s_ck 80 #[.pointer (some ⟨b208, 0, none⟩), .int .i64 y670.1, .int .u64 y670.2.1, .int .i64 hops] (by kernel_rfl) (c_search_state_settle_1 e696.wf u707 u708 u709 m698 m697 m699 u710 u711 u712 u713 u714 (Dj.symm (hb211.djn hm203.lt)) (hf202.djn hm191.lt) (Dj.symm (i379.djn (hm203.lt.le e210.next))) (Dj.symm (i650.dj (i599.djn (hm203.lt.le (ntr (ntr (ntr (ntr e210.next e376.next) e389.next) e560.next) e573.next))) (hm203.lt.le (ntr (ntr (ntr (ntr (ntr e210.next e376.next) e389.next) e560.next) e573.next) e592.next)))) (Dj.symm (i380.djn (hm203.lt.le e210.next))) (Dj.symm (i563.djn (hm203.lt.le (ntr (ntr e210.next e376.next) e389.next)))) (Dj.symm (i564.djn (hm203.lt.le (ntr (ntr e210.next e376.next) e389.next)))) (hf202.djn (h_First.lt.le (ntr (ntr (ntr e162.next e168.next) e181.next) e189.next))) (hf202.djn (h_To.lt.le (ntr (ntr (ntr e162.next e168.next) e181.next) e189.next))) (hf202.djn (h_Weight.lt.le (ntr (ntr (ntr e162.next e168.next) e181.next) e189.next))) (Dj.symm d565) (i563.djn (r212.ltF.le (ntr e376.next e389.next))) (i564.djn (r212.ltF.le (ntr e376.next e389.next))) (i563.djn (hm191.lt.le (ntr (ntr (ntr e201.next e210.next) e376.next) e389.next))) (i564.djn (hm191.lt.le (ntr (ntr (ntr e201.next e210.next) e376.next) e389.next))) (Dj.symm (hb211.djn (hm191.lt.le e201.next))) (Dj.symm (i650.dj (i599.djn (m561.lt.le e573.next)) (m561.lt.le (ntr e573.next e592.next)))) (Dj.symm (i650.dj (i599.djn (m562.ltF.le e573.next)) (m562.ltF.le (ntr e573.next e592.next)))) (Dj.symm (i650.dj (i599.djn (hm191.lt.le (ntr (ntr (ntr (ntr (ntr e201.next e210.next) e376.next) e389.next) e560.next) e573.next))) (hm191.lt.le (ntr (ntr (ntr (ntr (ntr (ntr e201.next e210.next) e376.next) e389.next) e560.next) e573.next) e592.next)))) (i563.djn (m377.lt.le e389.next)) (i564.djn (m377.lt.le e389.next)) (Dj.symm (i379.djn (hm191.lt.le (ntr e201.next e210.next)))) (i563.djn (m378.ltF.le e389.next)) (i564.djn (m378.ltF.le e389.next)) (Dj.symm (i380.djn (hm191.lt.le (ntr e201.next e210.next)))) (i650.dj (i599.djn (m378.ltF.le (ntr (ntr e389.next e560.next) e573.next))) (m378.ltF.le (ntr (ntr (ntr e389.next e560.next) e573.next) e592.next))) (i650.dj (i599.djn (m377.lt.le (ntr (ntr e389.next e560.next) e573.next))) (m377.lt.le (ntr (ntr (ntr e389.next e560.next) e573.next) e592.next))) (Dj.symm d381) (i379.djn r212.ltF) (i650.dj (i599.djn (r212.ltF.le (ntr (ntr (ntr e376.next e389.next) e560.next) e573.next))) (r212.ltF.le (ntr (ntr (ntr (ntr e376.next e389.next) e560.next) e573.next) e592.next))) (i380.djn r212.ltF) (i563.djn (h_First.lt.le (ntr (ntr (ntr (ntr (ntr (ntr (ntr e162.next e168.next) e181.next) e189.next) e201.next) e210.next) e376.next) e389.next))) (i379.djn (h_First.lt.le (ntr (ntr (ntr (ntr (ntr e162.next e168.next) e181.next) e189.next) e201.next) e210.next))) (i650.dj (i599.djn (h_First.lt.le (ntr (ntr (ntr (ntr (ntr (ntr (ntr (ntr (ntr e162.next e168.next) e181.next) e189.next) e201.next) e210.next) e376.next) e389.next) e560.next) e573.next))) (h_First.lt.le (ntr (ntr (ntr (ntr (ntr (ntr (ntr (ntr (ntr (ntr e162.next e168.next) e181.next) e189.next) e201.next) e210.next) e376.next) e389.next) e560.next) e573.next) e592.next))) (hf190.djn (h_First.lt.le (ntr (ntr e162.next e168.next) e181.next))) (i564.djn (h_First.lt.le (ntr (ntr (ntr (ntr (ntr (ntr (ntr e162.next e168.next) e181.next) e189.next) e201.next) e210.next) e376.next) e389.next))) (i380.djn (h_First.lt.le (ntr (ntr (ntr (ntr (ntr e162.next e168.next) e181.next) e189.next) e201.next) e210.next))) (i563.djn (h_To.lt.le (ntr (ntr (ntr (ntr (ntr (ntr (ntr e162.next e168.next) e181.next) e189.next) e201.next) e210.next) e376.next) e389.next))) (i379.djn (h_To.lt.le (ntr (ntr (ntr (ntr (ntr e162.next e168.next) e181.next) e189.next) e201.next) e210.next))) (i650.dj (i599.djn (h_To.lt.le (ntr (ntr (ntr (ntr (ntr (ntr (ntr (ntr (ntr e162.next e168.next) e181.next) e189.next) e201.next) e210.next) e376.next) e389.next) e560.next) e573.next))) (h_To.lt.le (ntr (ntr (ntr (ntr (ntr (ntr (ntr (ntr (ntr (ntr e162.next e168.next) e181.next) e189.next) e201.next) e210.next) e376.next) e389.next) e560.next) e573.next) e592.next))) (hf190.djn (h_To.lt.le (ntr (ntr e162.next e168.next) e181.next))) (i564.djn (h_To.lt.le (ntr (ntr (ntr (ntr (ntr (ntr (ntr e162.next e168.next) e181.next) e189.next) e201.next) e210.next) e376.next) e389.next))) (i380.djn (h_To.lt.le (ntr (ntr (ntr (ntr (ntr e162.next e168.next) e181.next) e189.next) e201.next) e210.next))) (i563.djn (h_Weight.lt.le (ntr (ntr (ntr (ntr (ntr (ntr (ntr e162.next e168.next) e181.next) e189.next) e201.next) e210.next) e376.next) e389.next))) (i379.djn (h_Weight.lt.le (ntr (ntr (ntr (ntr (ntr e162.next e168.next) e181.next) e189.next) e201.next) e210.next))) (i650.dj (i599.djn (h_Weight.lt.le (ntr (ntr (ntr (ntr (ntr (ntr (ntr (ntr (ntr e162.next e168.next) e181.next) e189.next) e201.next) e210.next) e376.next) e389.next) e560.next) e573.next))) (h_Weight.lt.le (ntr (ntr (ntr (ntr (ntr (ntr (ntr (ntr (ntr (ntr e162.next e168.next) e181.next) e189.next) e201.next) e210.next) e376.next) e389.next) e560.next) e573.next) e592.next))) (hf190.djn (h_Weight.lt.le (ntr (ntr e162.next e168.next) e181.next))) (i564.djn (h_Weight.lt.le (ntr (ntr (ntr (ntr (ntr (ntr (ntr e162.next e168.next) e181.next) e189.next) e201.next) e210.next) e376.next) e389.next))) (i380.djn (h_Weight.lt.le (ntr (ntr (ntr (ntr (ntr e162.next e168.next) e181.next) e189.next) e201.next) e210.next))) (i563.djn (hm203.lt.le (ntr (ntr e210.next e376.next) e389.next))) (i379.djn (hm203.lt.le e210.next)) (i650.dj (i599.djn (hm203.lt.le (ntr (ntr (ntr (ntr e210.next e376.next) e389.next) e560.next) e573.next))) (hm203.lt.le (ntr (ntr (ntr (ntr (ntr e210.next e376.next) e389.next) e560.next) e573.next) e592.next))) (i564.djn (hm203.lt.le (ntr (ntr e210.next e376.next) e389.next))) (i380.djn (hm203.lt.le e210.next)) (i650.dj (i599.djn (m561.lt.le e573.next)) (m561.lt.le (ntr e573.next e592.next))) (i650.dj (i599.djn (m562.ltF.le e573.next)) (m562.ltF.le (ntr e573.next e592.next))) (i650.dj (i599.djn (hm191.lt.le (ntr (ntr (ntr (ntr (ntr e201.next e210.next) e376.next) e389.next) e560.next) e573.next))) (hm191.lt.le (ntr (ntr (ntr (ntr (ntr (ntr e201.next e210.next) e376.next) e389.next) e560.next) e573.next) e592.next))) hy716) ?_
       rintro _ H720 ⟨s718, f719, rfl, e721, m722, m723, m724, m725, m726, m727, m728, i729⟩
       obtain ⟨a731, n732, c733, rfl⟩ := m723.form
       refine s_nil ?_
       refine k667 _ _ ?_
       refine w_reg (by kernel_rfl) ?_
       refine s_qk (.int .i64 count6) (by kernel_rfl) ?_
       obtain ⟨g734, r735⟩ := G_some r717
       refine s_w ((count6 + 1)) (k := .i64) (x := (count6 + 1)) (by kernel_rfl) (wrap64 g734) ?_
       refine s_qk (.int .i64 (count6 + 1)) (by kernel_rfl) ?_
       refine s_nil ?_
       obtain rfl := Option.some.inj r735
       exact k658 n653 _ _ (Nat.lt_succ_self _) ⟨y715.2.1, y715.1, y715.2.2.1, y715.2.2.2.1, y715.2.2.2.2.1, y715.2.2.2.2.2, (count6 + 1), (.slice a731 n732 c733), f719, hn656, ⟨by kernel_rfl, by kernel_rfl, by kernel_rfl, trivial⟩, (FrS.step e592.wf (FrS.step e592.wf (FrS.step e592.wf (FrS.refl (W := ([b374] ++ ([b558] ++ (f187 ++ (f199 ++ (f373 ++ (f557 ++ f590))))))) e592.wf) e633 (Inn.app Inn.left (Inn.app (Inn.right Inn.left) (Inn.app (Inn.right (Inn.right Inn.left)) (Inn.app (Inn.right (Inn.right (Inn.right Inn.left))) (Inn.app (Inn.right (Inn.right (Inn.right (Inn.right Inn.left)))) (Inn.app (Inn.right (Inn.right (Inn.right (Inn.right (Inn.right Inn.left))))) (Inn.right (Inn.right (Inn.right (Inn.right (Inn.right (Inn.right Inn.refl'))))))))))))) e696 (Inn.app Inn.left (Inn.app (Inn.trans (Inn.right (Inn.right (Inn.right (Inn.right (Inn.right (Inn.right Inn.refl')))))) (Nat.le_refl _) i650) (Inn.right (Inn.right (Inn.right (Inn.right Inn.left))))))) e721 (Inn.app Inn.left (Inn.app (Inn.right Inn.left) (Inn.app (Inn.right (Inn.right Inn.left)) (Inn.app (Inn.right (Inn.right (Inn.right Inn.left))) (Inn.app (Inn.trans (Inn.right (Inn.right (Inn.right (Inn.right (Inn.right (Inn.right Inn.refl')))))) (Nat.le_refl _) i650) (Inn.app (Inn.right (Inn.right (Inn.right (Inn.right Inn.left)))) (Inn.right (Inn.right (Inn.right (Inn.right (Inn.right Inn.left)))))))))))), m723, m722, m724, m725, m726, m727, m728, (Inn.trans (Inn.trans Inn.refl' (Nat.le_refl _) i650) (ntr e633.next e696.next) i729)⟩
    ·have r736 := ite_f h665 hz655
     refine w_exit (th_exit (th_exit (bl_eq ?_)))
     obtain rfl := Option.some.inj r736
     obtain rfl := it_inr hn656
     exact k628 _ _ ⟨(.slice a659 n660 c661), f637, ⟨by kernel_rfl, trivial⟩, (FrS.step e592.wf (FrS.refl (W := ([b374] ++ ([b558] ++ (f187 ++ (f199 ++ (f373 ++ (f557 ++ f590))))))) e592.wf) e633 (Inn.app Inn.left (Inn.app (Inn.right Inn.left) (Inn.app (Inn.right (Inn.right Inn.left)) (Inn.app (Inn.right (Inn.right (Inn.right Inn.left))) (Inn.app (Inn.right (Inn.right (Inn.right (Inn.right Inn.left)))) (Inn.app (Inn.right (Inn.right (Inn.right (Inn.right (Inn.right Inn.left))))) (Inn.right (Inn.right (Inn.right (Inn.right (Inn.right (Inn.right Inn.refl'))))))))))))), m635, m639, m641, m643, m645, m647, m649, (Inn.trans Inn.refl' (Nat.le_refl _) i650)⟩
   ·obtain ⟨s613, f614, hh629, e610, m612, m616, m618, m620, m622, m624, m626, i627⟩ := hM
    obtain ⟨β, rfl⟩ := has_ex hh629
    clear hh629
    obtain ⟨a737, n738, c739, rfl⟩ := m612.form
    refine k604 _ _ ?_
    refine w_seqk fun K740 k740 => ?_
    refine w_reg (by kernel_rfl) ?_
    refine s_qk (.pointer (some ⟨b208, 0, none⟩)) (by kernel_rfl) ?_
    refine s_qk (.pointer (some ⟨b208, 0, none⟩)) (by kernel_rfl) ?_
    refine s_nil ?_
    refine k740 _ _ ?_
    refine w_ret ?_
    refine b_ret (fn := Tryd.f50) (vs := [.pointer (some ⟨b208, 0, none⟩)]) (aRes_tmp (by kernel_rfl) (rfl)) ?_
    have u741 := ((r574.frS e592 (Dj.app (i380.djn r212.ltF) (Dj.app (i564.djn (r212.ltF.le (ntr e376.next e389.next))) (Dj.app (Dj.symm (hb211.djn (hm191.lt.le e201.next))) (Dj.app Dj.nil_l (Dj.app (i379.djn r212.ltF) (i563.djn (r212.ltF.le (ntr e376.next e389.next))))))))).frS e610 (Dj.app (i380.djn r212.ltF) (Dj.app (i564.djn (r212.ltF.le (ntr e376.next e389.next))) (Dj.app (Dj.symm (hb211.djn (hm191.lt.le e201.next))) (Dj.app (Dj.symm (hb211.djn hm203.lt)) (Dj.app (i379.djn r212.ltF) (Dj.app (i563.djn (r212.ltF.le (ntr e376.next e389.next))) (i599.djn (r212.ltF.le (ntr (ntr (ntr e376.next e389.next) e560.next) e573.next))))))))))
    obtain rfl := Option.some.inj r608
    exact (elimP_r (elimP_r (elimP_r ⟨(.slice a737 n738 c739), f614, (.slice a384 n385 c386), f373, b374, (.slice a568 n569 c570), f557, b558, (.slice a192 n193 c194), f187, (.slice a204 n205 c206), f199, b208, rfl, (FrS.step wf (FrS.step wf (FrS.step wf (FrS.step wf (FrS.step wf (FrS.step wf ((((FrS.step wf (((FrS.refl (W := []) wf).extR e162).extR e168) e181 Inn.nil).extR e189).extR e201).extR e210) e376 Inn.nil) e389 (hb211.fresh (ntr (ntr (ntr (ntr e162.next e168.next) e181.next) e189.next) e201.next))) e560 Inn.nil) e573 (hb211.fresh (ntr (ntr (ntr (ntr e162.next e168.next) e181.next) e189.next) e201.next))) e592 (Inn.app (i380.fresh (ntr (ntr (ntr (ntr (ntr e162.next e168.next) e181.next) e189.next) e201.next) e210.next)) (Inn.app (i564.fresh (ntr (ntr (ntr (ntr (ntr (ntr (ntr e162.next e168.next) e181.next) e189.next) e201.next) e210.next) e376.next) e389.next)) (Inn.app (hf190.fresh (ntr (ntr e162.next e168.next) e181.next)) (Inn.app Inn.nil (Inn.app (i379.fresh (ntr (ntr (ntr (ntr (ntr e162.next e168.next) e181.next) e189.next) e201.next) e210.next)) (i563.fresh (ntr (ntr (ntr (ntr (ntr (ntr (ntr e162.next e168.next) e181.next) e189.next) e201.next) e210.next) e376.next) e389.next)))))))) e610 (Inn.app (i380.fresh (ntr (ntr (ntr (ntr (ntr e162.next e168.next) e181.next) e189.next) e201.next) e210.next)) (Inn.app (i564.fresh (ntr (ntr (ntr (ntr (ntr (ntr (ntr e162.next e168.next) e181.next) e189.next) e201.next) e210.next) e376.next) e389.next)) (Inn.app (hf190.fresh (ntr (ntr e162.next e168.next) e181.next)) (Inn.app (hf202.fresh (ntr (ntr (ntr e162.next e168.next) e181.next) e189.next)) (Inn.app (i379.fresh (ntr (ntr (ntr (ntr (ntr e162.next e168.next) e181.next) e189.next) e201.next) e210.next)) (Inn.app (i563.fresh (ntr (ntr (ntr (ntr (ntr (ntr (ntr e162.next e168.next) e181.next) e189.next) e201.next) e210.next) e376.next) e389.next)) (i599.fresh (ntr (ntr (ntr (ntr (ntr (ntr (ntr (ntr (ntr e162.next e168.next) e181.next) e189.next) e201.next) e210.next) e376.next) e389.next) e560.next) e573.next))))))))), m612, m616, m618, m620, m622, m624, m626, u741, (Inn.trans (i599.fresh (ntr (ntr (ntr (ntr (ntr (ntr (ntr (ntr (ntr e162.next e168.next) e181.next) e189.next) e201.next) e210.next) e376.next) e389.next) e560.next) e573.next)) (ntr (ntr (ntr (ntr (ntr (ntr (ntr (ntr (ntr (ntr e162.next e168.next) e181.next) e189.next) e201.next) e210.next) e376.next) e389.next) e560.next) e573.next) e592.next) i627), (i379.fresh (ntr (ntr (ntr (ntr (ntr e162.next e168.next) e181.next) e189.next) e201.next) e210.next)), (i380.fresh (ntr (ntr (ntr (ntr (ntr e162.next e168.next) e181.next) e189.next) e201.next) e210.next)), (i563.fresh (ntr (ntr (ntr (ntr (ntr (ntr (ntr e162.next e168.next) e181.next) e189.next) e201.next) e210.next) e376.next) e389.next)), (i564.fresh (ntr (ntr (ntr (ntr (ntr (ntr (ntr e162.next e168.next) e181.next) e189.next) e201.next) e210.next) e376.next) e389.next)), (hf190.fresh (ntr (ntr e162.next e168.next) e181.next)), (hf202.fresh (ntr (ntr (ntr e162.next e168.next) e181.next) e189.next)), (hb211.fresh (ntr (ntr (ntr (ntr e162.next e168.next) e181.next) e189.next) e201.next)), (i627.dj (i599.djn (m377.lt.le (ntr (ntr e389.next e560.next) e573.next))) (m377.lt.le (ntr (ntr (ntr e389.next e560.next) e573.next) e592.next))), (i627.dj (i599.djn (m378.ltF.le (ntr (ntr e389.next e560.next) e573.next))) (m378.ltF.le (ntr (ntr (ntr e389.next e560.next) e573.next) e592.next))), d381, (i627.dj (i599.djn (m561.lt.le e573.next)) (m561.lt.le (ntr e573.next e592.next))), (Dj.symm (i563.djn (m377.lt.le e389.next))), (Dj.symm (i563.djn (m378.ltF.le e389.next))), (i627.dj (i599.djn (m562.ltF.le e573.next)) (m562.ltF.le (ntr e573.next e592.next))), (Dj.symm (i564.djn (m377.lt.le e389.next))), (Dj.symm (i564.djn (m378.ltF.le e389.next))), d565, (i627.dj (i599.djn (hm191.lt.le (ntr (ntr (ntr (ntr (ntr e201.next e210.next) e376.next) e389.next) e560.next) e573.next))) (hm191.lt.le (ntr (ntr (ntr (ntr (ntr (ntr e201.next e210.next) e376.next) e389.next) e560.next) e573.next) e592.next))), (i379.djn (hm191.lt.le (ntr e201.next e210.next))), (i380.djn (hm191.lt.le (ntr e201.next e210.next))), (i563.djn (hm191.lt.le (ntr (ntr (ntr e201.next e210.next) e376.next) e389.next))), (i564.djn (hm191.lt.le (ntr (ntr (ntr e201.next e210.next) e376.next) e389.next))), (i627.dj (i599.djn (hm203.lt.le (ntr (ntr (ntr (ntr e210.next e376.next) e389.next) e560.next) e573.next))) (hm203.lt.le (ntr (ntr (ntr (ntr (ntr e210.next e376.next) e389.next) e560.next) e573.next) e592.next))), (i379.djn (hm203.lt.le e210.next)), (i380.djn (hm203.lt.le e210.next)), (i563.djn (hm203.lt.le (ntr (ntr e210.next e376.next) e389.next))), (i564.djn (hm203.lt.le (ntr (ntr e210.next e376.next) e389.next))), (Dj.symm (hf202.djn hm191.lt)), (i627.dj (i599.djn (r212.ltF.le (ntr (ntr (ntr e376.next e389.next) e560.next) e573.next))) (r212.ltF.le (ntr (ntr (ntr (ntr e376.next e389.next) e560.next) e573.next) e592.next))), (i379.djn r212.ltF), (i380.djn r212.ltF), (i563.djn (r212.ltF.le (ntr e376.next e389.next))), (i564.djn (r212.ltF.le (ntr e376.next e389.next))), (Dj.symm (hb211.djn (hm191.lt.le e201.next))), (Dj.symm (hb211.djn hm203.lt))⟩)))


end Go.Vd
