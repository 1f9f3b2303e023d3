/- The walks of the functions (printed by a program of ours). -/
import Derived.Test.YtbjamignglibpaaDoorPkp3
import Derived.Test.YtbjamignglibpaaDoorISq
set_option linter.unusedVariables false
set_option linter.unusedSimpArgs false
set_option linter.unusedSectionVars false
/-! (KSq6) -/

set_option maxRecDepth 100000
set_option maxHeartbeats 4000000
set_option linter.unusedVariables false
namespace Go.Vd
open Go.Proofs
attribute [local irreducible] wpSeq wpOrd aWp
theorem c_viaductref05_DocFind {H : AH} {hd_First : Value} {fp_First : Fp} {hd_To : Value} {fp_To : Fp} {hd_Weight : Value} {fp_Weight : Fp} {First : List (Int)} {To : List (Int)} {Weight : List (Int)} {v_ : Int} {w : Int} {r : Int × Int × List (Int × Int)}
  (wf : WF H) (h_First : Sq (encI .i64) 1 H hd_First First fp_First) (h_To : Sq (encI .i64) 1 H hd_To To fp_To) (h_Weight : Sq (encI .i64) 1 H hd_Weight Weight fp_Weight) (hr : z_viaductref05_DocFind First To Weight v_ w = some r) :
  ACalls Tryd.prog 57 #[.agg #[hd_First, hd_To, hd_Weight], .int .i64 v_, .int .i64 w] H fun v H' => ∃ (s3 : Value) (f4 : Fp), v = .tuple #[.int .i64 r.1, .agg #[.int .i64 r.2.1, s3]] ∧ FrS [] H H' ∧ Ow enc_i64_i64 2 H' s3 r.2.2 f4 ∧ Inn [] H f4 := by
 refine acalls_of_body mixed Tryd.func57 rfl (Nat.le_of_ble_eq_true rfl) ?_
 unfold z_viaductref05_DocFind at hr
 refine w_seqk fun K6 k6 => ?_
 refine w_reg (by kernel_rfl) ?_
 refine s_rwl wf [hd_First, hd_To, hd_Weight] (one_cons (h_First.one1) (one_cons (h_To.one1) (one_cons (h_Weight.one1) (one_nil)))) (by kernel_rfl) fun b7 H8 e9 hb10 r11 => ?_
 refine s_qk (.int .i64 0) (by kernel_rfl) ?_
 refine s_rwk e9.wf [.int .i64 0, .slice none 0 0] (by kernel_rfl) fun b13 H14 e15 hb16 r17 => ?_
 refine s_nil ?_
 refine k6 _ _ ?_
 refine w_seqk fun K19 k19 => ?_
 refine w_reg (by kernel_rfl) ?_
 have u20 := (r11.ext e15)
 refine s_ql (.agg #[hd_First, hd_To, hd_Weight]) (x := aLoad Tryd.prog 37 (.pointer (some ⟨b7, 0, none⟩)) H14) (by kernel_rfl) (u20.ld (by kernel_rfl)) ?_
 refine s_qk (.int .i64 v_) (by kernel_rfl) ?_
 have u21 := ((h_First.ext e9).ext e15)
 have u22 := ((h_To.ext e9).ext e15)
 have u23 := ((h_Weight.ext e9).ext e15)
 obtain ⟨y24, hy25, r26⟩ := bind_some hr
 refine s_ck 82 #[.agg #[hd_First, hd_To, hd_Weight], .int .i64 v_] (by kernel_rfl) (c_viaductref05_DocRow e15.wf u21 u22 u23 hy25) ?_
 rintro _ H31 ⟨s27, f28, s29, f30, rfl, e32, m33, m34, i35, i36, d37⟩
 obtain ⟨a40, n41, c42, rfl⟩ := m33.form
 obtain ⟨a43, n44, c45, rfl⟩ := m34.form
 refine s_qk (.tuple #[.slice a40 n41 c42, .agg #[.int .i64 y24.2.1, .slice a43 n44 c45]]) (by kernel_rfl) ?_
 refine s_qk (.slice a40 n41 c42) (by kernel_rfl) ?_
 refine s_qk (.agg #[.int .i64 y24.2.1, .slice a43 n44 c45]) (by kernel_rfl) ?_
 refine s_rwk e32.wf [.int .i64 0, .slice none 0 0] (by kernel_rfl) fun b46 H47 e48 hb49 r50 => ?_
 refine s_qk (.slice a40 n41 c42) (by kernel_rfl) ?_
 have u56 := (m34.ext e48)
 obtain ⟨H52, q53, e54, r55⟩ := Row.store (P := Tryd.prog) (t := 31) (p := 0) e48.wf r50 (.agg #[.int .i64 y24.2.1, .slice a43 n44 c45]) [.int .i64 y24.2.1, .slice a43 n44 c45] (by kernel_rfl) (by kernel_rfl) (one_cons (rfl) (one_cons (u56.one1) (one_nil))) (Nat.le_of_ble_eq_true (by kernel_rfl)) [.int .i64 y24.2.1, .slice a43 n44 c45] (by kernel_rfl)
 refine s_ek (undef) (by kernel_rfl) (map_ok q53) ?_
 refine s_nil ?_
 refine k19 _ _ ?_
 refine w_seqk fun K57 k57 => ?_
 refine w_seqk fun K58 k58 => ?_
 obtain ⟨o59, hx60, r61⟩ := bind_some r26
 refine w_mid (fun α H62 => Has α [(2, .int .i64 w), (7, .pointer (some ⟨b13, 0, none⟩)), (8, .slice a40 n41 c42), (9, .pointer (some ⟨b46, 0, none⟩)), (26, .bool o59)] ∧ FrS [] H52 H62) (fun K64 k64 => ?_) (fun α H62 hM => ?_)
 ·refine w_reg (by kernel_rfl) ?_
  refine s_ql (.agg #[.int .i64 y24.2.1, .slice a43 n44 c45]) (x := aLoad Tryd.prog 31 (.pointer (some ⟨b46, 0, none⟩)) H52) (by kernel_rfl) (r55.ld (by kernel_rfl)) ?_
  have u66 := (u56.fr e54 (hb49.djn m34.lt))
  obtain ⟨y67, hy68, r69⟩ := bind_some hx60
  refine s_ck 24 #[.agg #[.int .i64 y24.2.1, .slice a43 n44 c45]] (by kernel_rfl) (c_viaductref01_Err_Bad e54.wf u66.sq hy68) ?_
  rintro _ H70 ⟨rfl, e71⟩
  by_cases h72 : y67 = true
  ·have r73 := ite_t h72 r69
   rw [h72]
   refine s_qk (.bool false) (by kernel_rfl) ?_
   refine s_qk (.bool false) (by kernel_rfl) ?_
   refine s_no (by kernel_rfl) ?_
   refine s_no (by kernel_rfl) ?_
   refine s_no (by kernel_rfl) ?_
   refine s_no (by kernel_rfl) ?_
   refine s_qk (.bool false) (by kernel_rfl) ?_
   refine s_nil ?_
   obtain rfl := Option.some.inj r73
   exact k64 _ _ ⟨⟨by kernel_rfl, by kernel_rfl, by kernel_rfl, by kernel_rfl, by kernel_rfl, trivial⟩, (FrS.step e54.wf (FrS.refl (W := []) e54.wf) e71 Inn.nil)⟩
  ·have r75 := ite_f h72 r69
   rw [nb h72]
   refine s_qk (.bool true) (by kernel_rfl) ?_
   refine s_qk (.bool true) (by kernel_rfl) ?_
   have u77 := ((((u20.frS e32 Dj.nil_l).ext e48).frS e54 (hb49.djn (r11.ltF.le (ntr e15.next e32.next)))).frS e71 Dj.nil_l)
   refine s_ql (.agg #[hd_First, hd_To, hd_Weight]) (x := aLoad Tryd.prog 37 (.pointer (some ⟨b7, 0, none⟩)) H70) (by kernel_rfl) (u77.ld (by kernel_rfl)) ?_
   refine s_qk (.int .i64 w) (by kernel_rfl) ?_
   have u78 := ((((u21.fr e32 Dj.nil_l).ext e48).fr e54 (hb49.djn (h_First.lt.le (ntr (ntr e9.next e15.next) e32.next)))).fr e71 Dj.nil_l)
   have u79 := ((((u22.fr e32 Dj.nil_l).ext e48).fr e54 (hb49.djn (h_To.lt.le (ntr (ntr e9.next e15.next) e32.next)))).fr e71 Dj.nil_l)
   have u80 := ((((u23.fr e32 Dj.nil_l).ext e48).fr e54 (hb49.djn (h_Weight.lt.le (ntr (ntr e9.next e15.next) e32.next)))).fr e71 Dj.nil_l)
   obtain ⟨y81, hy82, r83⟩ := bind_some r75
   refine s_ck 55 #[.agg #[hd_First, hd_To, hd_Weight], .int .i64 w] (by kernel_rfl) (c_viaductref05_Node e71.wf u78 u79 u80 hy82) ?_
   rintro _ H84 ⟨rfl, e85⟩
   refine s_qk (.bool (!y81)) (by kernel_rfl) ?_
   refine s_qk (.bool (!y81)) (by kernel_rfl) ?_
   refine s_nil ?_
   obtain rfl := Option.some.inj r83
   exact k64 _ _ ⟨⟨by kernel_rfl, by kernel_rfl, by kernel_rfl, by kernel_rfl, by kernel_rfl, trivial⟩, (FrS.step e54.wf (FrS.step e54.wf (FrS.refl (W := []) e54.wf) e71 Inn.nil) e85 Inn.nil)⟩
 ·obtain ⟨hh65, e63⟩ := hM
  obtain ⟨β, rfl⟩ := has_ex hh65
  clear hh65
  refine k58 _ _ ?_
  obtain ⟨o86, hx87, r88⟩ := bind_some r61
  refine w_mid (fun α H89 => ∃ (s93 : Value) (f94 : Fp), Has α [(2, .int .i64 w), (7, .pointer (some ⟨b13, 0, none⟩)), (8, .slice a40 n41 c42), (9, .pointer (some ⟨b46, 0, none⟩))] ∧ FrS [b46] H62 H89 ∧ Ow enc_i64_i64 2 H89 s93 o86.2 f94 ∧ Row H89 b46 [.int .i64 o86.1, s93] ∧ Inn f30 H62 f94) (fun K98 k98 => ?_) (fun α H89 hM => ?_)
  ·refine w_cond (o59) (by kernel_rfl) rfl (fun h100 => ?_) (fun h100 => ?_)
   ·have r101 := ite_t h100 hx87
    refine w_reg (by kernel_rfl) ?_
    obtain ⟨y102, hy103, r104⟩ := bind_some r101
    refine s_ck 41 #[.int .i64 7] (by kernel_rfl) (c_viaductref01_E e63.wf hy103) ?_
    rintro _ H105 ⟨rfl, e106⟩
    have u111 := ((r55.frS e63 Dj.nil_l).frS e106 Dj.nil_l)
    obtain ⟨H107, q108, e109, r110⟩ := Row.store (P := Tryd.prog) (t := 31) (p := 0) e106.wf u111 (.agg #[.int .i64 y102, .slice none 0 0]) [.int .i64 y102, .slice none 0 0] (by kernel_rfl) (by kernel_rfl) (one_cons (rfl) (one_cons (rfl) (one_nil))) (Nat.le_of_ble_eq_true (by kernel_rfl)) [.int .i64 y102, .slice none 0 0] (by kernel_rfl)
    refine s_ek (undef) (by kernel_rfl) (map_ok q108) ?_
    refine s_nil ?_
    obtain rfl := Option.some.inj r104
    exact k98 _ _ ⟨(.slice none 0 0), [], ⟨by kernel_rfl, by kernel_rfl, by kernel_rfl, by kernel_rfl, trivial⟩, (FrS.step e63.wf (FrS.step e63.wf (FrS.refl (W := [b46]) e63.wf) e106 Inn.nil) e109 Inn.refl'), (Ow.nil (by decide)), r110, Inn.nil⟩
   ·have r112 := ite_bf h100 hx87
    refine w_skip ?_
    have u113 := ((u56.fr e54 (hb49.djn m34.lt)).fr e63 Dj.nil_l)
    have u114 := (r55.frS e63 Dj.nil_l)
    obtain rfl := Option.some.inj r112
    exact k98 _ _ ⟨(.slice a43 n44 c45), f30, ⟨by kernel_rfl, by kernel_rfl, by kernel_rfl, by kernel_rfl, trivial⟩, (FrS.refl (W := [b46]) e63.wf), u113, u114, Inn.refl'⟩
  ·obtain ⟨s93, f94, hh99, e90, m92, m96, i97⟩ := hM
   obtain ⟨β, rfl⟩ := has_ex hh99
   clear hh99
   obtain ⟨a115, n116, c117, rfl⟩ := m92.form
   refine k57 _ _ ?_
   refine w_seqk fun K118 k118 => ?_
   refine w_seqk fun K119 k119 => ?_
   refine w_reg (by kernel_rfl) ?_
   refine s_ql (.agg #[.int .i64 o86.1, .slice a115 n116 c117]) (x := aLoad Tryd.prog 31 (.pointer (some ⟨b46, 0, none⟩)) H89) (by kernel_rfl) (m96.ld (by kernel_rfl)) ?_
   obtain ⟨y120, hy121, r122⟩ := bind_some r88
   refine s_ck 24 #[.agg #[.int .i64 o86.1, .slice a115 n116 c117]] (by kernel_rfl) (c_viaductref01_Err_Bad e90.wf m92.sq hy121) ?_
   rintro _ H123 ⟨rfl, e124⟩
   refine s_nil ?_
   refine k119 _ _ ?_
   refine w_cond (y120) (by kernel_rfl) rfl (fun h125 => ?_) (fun h125 => ?_)
   ·have r126 := ite_t h125 r122
    refine w_seqk fun K127 k127 => ?_
    refine w_draw [0, 1, 2] (by kernel_rfl) ?_
    have u128 := (m96.frS e124 Dj.nil_l)
    refine d_ql (.agg #[.int .i64 o86.1, .slice a115 n116 c117]) (x := aLoad Tryd.prog 31 (.pointer (some ⟨b46, 0, none⟩)) H123) (by kernel_rfl) (u128.ld (by kernel_rfl)) ?_
    refine d_qk (.int .i64 0) (by kernel_rfl) ?_
    have u133 := ((((((r17.frS e32 Dj.nil_l).ext e48).frS e54 (hb49.djn (r17.ltF.le e32.next))).frS e63 Dj.nil_l).frS e90 (hb49.djn (r17.ltF.le e32.next))).frS e124 Dj.nil_l)
    have u134 := (m92.fr e124 Dj.nil_l)
    obtain ⟨H129, q130, e131, r132⟩ := Row.store (P := Tryd.prog) (t := 31) (p := 0) e124.wf u133 (.agg #[.int .i64 o86.1, .slice a115 n116 c117]) [.int .i64 o86.1, .slice a115 n116 c117] (by kernel_rfl) (by kernel_rfl) (one_cons (rfl) (one_cons (u134.one1) (one_nil))) (Nat.le_of_ble_eq_true (by kernel_rfl)) [.int .i64 o86.1, .slice a115 n116 c117] (by kernel_rfl)
    refine d_ek (undef) (by kernel_rfl) (map_ok q130) (st_nil) ?_
    refine d_nil ?_
    refine k127 _ _ ?_
    refine w_ret (th_ret ?_)
    refine b_ret (fn := Tryd.f57) (vs := [.int .i64 0, .agg #[.int .i64 o86.1, .slice a115 n116 c117]]) (aRes_tmp (by kernel_rfl) (aRes_cell (Eq.trans (b := aLoad Tryd.prog 31 (.pointer (some ⟨b13, 0, none⟩)) H129) (by kernel_rfl) (r132.ld (by kernel_rfl))) (rfl))) ?_
    have u135 := (u134.fr e131 (Dj.symm (i97.dj (i36.djn r17.ltF) (r17.ltF.le (ntr (ntr (ntr e32.next e48.next) e54.next) e63.next)))))
    obtain rfl := Option.some.inj r126
    exact ⟨(.slice a115 n116 c117), f94, rfl, (FrS.step wf (FrS.step wf (FrS.step wf (FrS.step wf (FrS.step wf ((FrS.step wf (((FrS.refl (W := []) wf).extR e9).extR e15) e32 Inn.nil).extR e48) e54 (hb49.fresh (ntr (ntr e9.next e15.next) e32.next))) e63 Inn.nil) e90 (hb49.fresh (ntr (ntr e9.next e15.next) e32.next))) e124 Inn.nil) e131 (hb16.fresh e9.next)), u135, (Inn.trans (i36.fresh (ntr e9.next e15.next)) (ntr (ntr (ntr (ntr (ntr e9.next e15.next) e32.next) e48.next) e54.next) e63.next) i97)⟩
   ·have r136 := ite_bf h125 r122
    refine w_skip ?_
    refine k118 _ _ ?_
    refine w_seqk fun K137 k137 => ?_
    refine w_seqk fun K138 k138 => ?_
    refine w_reg (by kernel_rfl) ?_
    refine s_qk (.slice a40 n41 c42) (by kernel_rfl) ?_
    have u139 := (((((m33.ext e48).fr e54 (hb49.djn m33.lt)).fr e63 Dj.nil_l).fr e90 (hb49.djn m33.lt)).fr e124 Dj.nil_l)
    refine s_ql (.int .i64 (y24.1.length : Int)) (x := aLen Tryd.prog 120 (.slice a40 n41 c42) H123) (by kernel_rfl) (u139.sq.lenb (by kernel_rfl)) ?_
    refine s_qk (.int .i64 0) (by kernel_rfl) ?_
    refine s_nil ?_
    refine k138 _ _ ?_
    obtain ⟨z143, hx141, r142⟩ := bind_some r136
    refine w_mid (fun α H144 => ∃ o140, z143 = Sum.inr o140 ∧ Has α [(7, .pointer (some ⟨b13, 0, none⟩))] ∧ FrS [] H123 H144) (fun K146 k146 => ?_) (fun α H144 hM => ?_)
    ·refine w_block ?_
     obtain ⟨n148, hn149⟩ := loopO_iff.1 hx141
     refine w_loopn (fun n α H150 => ∃ (i0 : Int), iterO (fun zz_ => z_viaductref05_DocFind_l0 w y24 o86 zz_) n i0 = some z143 ∧ Has α [(2, .int .i64 w), (7, .pointer (some ⟨b13, 0, none⟩)), (9, .pointer (some ⟨b46, 0, none⟩)), (31, .slice a40 n41 c42), (32, .int .i64 (y24.1.length : Int)), (33, .int .i64 i0)] ∧ FrS [] H123 H150) n148 ⟨0, hn149, ⟨by kernel_rfl, by kernel_rfl, by kernel_rfl, by kernel_rfl, by kernel_rfl, by kernel_rfl, trivial⟩, (FrS.refl (W := []) e124.wf)⟩ ?_
     rintro n148 α H150 ⟨i0, hi153, hh152, e151⟩ K158 k158
     obtain ⟨n154, z155, rfl, hz156, hn157⟩ := iter_succ hi153
     obtain ⟨β, rfl⟩ := has_ex hh152
     clear hh152
     replace hz156 : z_viaductref05_DocFind_l0 w y24 o86 i0 = some z155 := hz156
     unfold z_viaductref05_DocFind_l0 at hz156
     refine w_seqk fun K159 k159 => ?_
     refine w_reg (by kernel_rfl) ?_
     refine s_qk (.bool (decide (i0 < (y24.1.length : Int)))) (by kernel_rfl) ?_
     refine s_nil ?_
     refine k159 _ _ ?_
     refine w_seqk fun K160 k160 => ?_
     refine w_condp (i0 < (y24.1.length : Int)) (by kernel_rfl) rfl (fun h161 => ?_) (fun h161 => ?_)
     ·have r162 := ite_t h161 hz156
      refine w_skip ?_
      refine k160 _ _ ?_
      refine w_seqk fun K163 k163 => ?_
      refine w_block ?_
      refine w_seqk fun K164 k164 => ?_
      refine w_reg (by kernel_rfl) ?_
      obtain ⟨g165, r166⟩ := G_some r162
      have u167 := (u139.fr e151 Dj.nil_l)
      refine s_ql (elp (.slice a40 n41 c42) 3 i0.toNat 0) (x := aIndexAddr Tryd.prog 120 (.slice a40 n41 c42) (.int .i64 i0)) (by kernel_rfl) (u167.sq.idxb (by kernel_rfl) g165 h161) ?_
      refine s_ql (.agg #[.int .i64 ((gt y24.1 i0).1), .int .i64 ((gt y24.1 i0).2.1), .int .i64 ((gt y24.1 i0).2.2)]) (x := aLoad Tryd.prog 123 (elp (.slice a40 n41 c42) 3 i0.toNat 0) H150) (by kernel_rfl) (u167.sq.ld g165 h161 (by kernel_rfl)) ?_
      refine s_rwk e151.wf [.int .i64 0, .int .i64 0, .int .i64 0] (by kernel_rfl) fun b168 H169 e170 hb171 r172 => ?_
      obtain ⟨H174, q175, e176, r177⟩ := Row.store (P := Tryd.prog) (t := 123) (p := 0) e170.wf r172 (.agg #[.int .i64 ((gt y24.1 i0).1), .int .i64 ((gt y24.1 i0).2.1), .int .i64 ((gt y24.1 i0).2.2)]) [.int .i64 ((gt y24.1 i0).1), .int .i64 ((gt y24.1 i0).2.1), .int .i64 ((gt y24.1 i0).2.2)] (by kernel_rfl) (by kernel_rfl) (one_cons (rfl) (one_cons (rfl) (one_cons (rfl) (one_nil)))) (Nat.le_of_ble_eq_true (by kernel_rfl)) [.int .i64 ((gt y24.1 i0).1), .int .i64 ((gt y24.1 i0).2.1), .int .i64 ((gt y24.1 i0).2.2)] (by kernel_rfl)
      refine s_ek (undef) (by kernel_rfl) (map_ok q175) ?_
      refine s_nil ?_
      refine k164 _ _ ?_
      refine w_seqk fun K178 k178 => ?_
      refine w_reg (by kernel_rfl) ?_
      refine s_qk (.pointer (some ⟨b168, 1, none⟩)) (by kernel_rfl) ?_
      refine s_ql (.int .i64 ((gt y24.1 i0).2.1)) (x := aLoad Tryd.prog 3 (.pointer (some ⟨b168, 1, none⟩)) H174) (by kernel_rfl) (r177.ld (by kernel_rfl)) ?_
      refine s_qk (.int .i64 w) (by kernel_rfl) ?_
      refine s_qk (.bool (decide (((gt y24.1 i0).2.1) = w))) (by kernel_rfl) ?_
      refine s_nil ?_
      refine k178 _ _ ?_
      refine w_condp (((gt y24.1 i0).2.1) = w) (by kernel_rfl) rfl (fun h179 => ?_) (fun h179 => ?_)
      ·have r180 := ite_t h179 r166
       refine w_seqk fun K181 k181 => ?_
       refine w_draw [0, 1, 2, 3, 4] (by kernel_rfl) ?_
       refine d_qk (.pointer (some ⟨b168, 2, none⟩)) (by kernel_rfl) ?_
       refine d_ql (.int .i64 ((gt y24.1 i0).2.2)) (x := aLoad Tryd.prog 3 (.pointer (some ⟨b168, 2, none⟩)) H174) (by kernel_rfl) (r177.ld (by kernel_rfl)) ?_
       have u182 := ((((m96.frS e124 Dj.nil_l).frS e151 Dj.nil_l).ext e170).frS e176 (hb171.djn (r50.ltF.le (ntr (ntr (ntr (ntr e54.next e63.next) e90.next) e124.next) e151.next))))
       refine d_ql (.agg #[.int .i64 o86.1, .slice a115 n116 c117]) (x := aLoad Tryd.prog 31 (.pointer (some ⟨b46, 0, none⟩)) H174) (by kernel_rfl) (u182.ld (by kernel_rfl)) ?_
       refine d_qk (.int .i64 ((gt y24.1 i0).2.2)) (by kernel_rfl) ?_
       have u187 := (((((((((r17.frS e32 Dj.nil_l).ext e48).frS e54 (hb49.djn (r17.ltF.le e32.next))).frS e63 Dj.nil_l).frS e90 (hb49.djn (r17.ltF.le e32.next))).frS e124 Dj.nil_l).frS e151 Dj.nil_l).ext e170).frS e176 (hb171.djn (r17.ltF.le (ntr (ntr (ntr (ntr (ntr (ntr e32.next e48.next) e54.next) e63.next) e90.next) e124.next) e151.next))))
       have u188 := ((((m92.fr e124 Dj.nil_l).fr e151 Dj.nil_l).ext e170).fr e176 (hb171.djn (m92.lt.le (ntr e124.next e151.next))))
       obtain ⟨H183, q184, e185, r186⟩ := Row.store (P := Tryd.prog) (t := 31) (p := 0) e176.wf u187 (.agg #[.int .i64 o86.1, .slice a115 n116 c117]) [.int .i64 o86.1, .slice a115 n116 c117] (by kernel_rfl) (by kernel_rfl) (one_cons (rfl) (one_cons (u188.one1) (one_nil))) (Nat.le_of_ble_eq_true (by kernel_rfl)) [.int .i64 o86.1, .slice a115 n116 c117] (by kernel_rfl)
       refine d_ek (undef) (by kernel_rfl) (map_ok q184) (st_nil) ?_
       refine d_nil ?_
       refine k181 _ _ ?_
       refine w_ret (bl_ret (th_ret (th_ret (bl_ret (th_ret (th_ret ?_))))))
       obtain ⟨v189, hv190, hz191⟩ := map_some r180
       subst hz191
       obtain rfl := it_inr hn157
       have hq192 := elim_inl r142
       rw [hq192] at hv190
       refine b_ret (fn := Tryd.f57) (vs := [.int .i64 ((gt y24.1 i0).2.2), .agg #[.int .i64 o86.1, .slice a115 n116 c117]]) (aRes_tmp (by kernel_rfl) (aRes_cell (Eq.trans (b := aLoad Tryd.prog 31 (.pointer (some ⟨b13, 0, none⟩)) H183) (by kernel_rfl) (r186.ld (by kernel_rfl))) (rfl))) ?_
       have u193 := (u188.fr e185 (Dj.symm (i97.dj (i36.djn r17.ltF) (r17.ltF.le (ntr (ntr (ntr e32.next e48.next) e54.next) e63.next)))))
       obtain rfl := Option.some.inj hv190
       exact ⟨(.slice a115 n116 c117), f94, rfl, (FrS.step wf (FrS.step wf ((FrS.step wf (FrS.step wf (FrS.step wf (FrS.step wf (FrS.step wf ((FrS.step wf (((FrS.refl (W := []) wf).extR e9).extR e15) e32 Inn.nil).extR e48) e54 (hb49.fresh (ntr (ntr e9.next e15.next) e32.next))) e63 Inn.nil) e90 (hb49.fresh (ntr (ntr e9.next e15.next) e32.next))) e124 Inn.nil) e151 Inn.nil).extR e170) e176 (hb171.fresh (ntr (ntr (ntr (ntr (ntr (ntr (ntr (ntr e9.next e15.next) e32.next) e48.next) e54.next) e63.next) e90.next) e124.next) e151.next))) e185 (hb16.fresh e9.next)), u193, (Inn.trans (i36.fresh (ntr e9.next e15.next)) (ntr (ntr (ntr (ntr (ntr e9.next e15.next) e32.next) e48.next) e54.next) e63.next) i97)⟩
      ·have r194 := ite_f h179 r166
       refine w_skip ?_
       refine k163 _ _ ?_
       refine w_reg (by kernel_rfl) ?_
       obtain ⟨g195, r196⟩ := G_some r194
       refine s_w ((i0 + 1)) (k := .i64) (x := (i0 + 1)) (by kernel_rfl) (wrap64 (by have := g195; omega)) ?_
       refine s_qk (.int .i64 (i0 + 1)) (by kernel_rfl) ?_
       refine s_nil ?_
       obtain rfl := Option.some.inj r196
       exact k158 n154 _ _ (Nat.lt_succ_self _) ⟨(i0 + 1), hn157, ⟨by kernel_rfl, by kernel_rfl, by kernel_rfl, by kernel_rfl, by kernel_rfl, by kernel_rfl, trivial⟩, (FrS.step e124.wf ((FrS.step e124.wf (FrS.refl (W := []) e124.wf) e151 Inn.nil).extR e170) e176 (hb171.fresh e151.next))⟩
     ·have r197 := ite_f h161 hz156
      refine w_exit (th_exit (th_exit (bl_eq ?_)))
      obtain rfl := Option.some.inj r197
      obtain rfl := it_inr hn157
      exact k146 _ _ ⟨_, rfl, ⟨by kernel_rfl, trivial⟩, (FrS.step e124.wf (FrS.refl (W := []) e124.wf) e151 Inn.nil)⟩
    ·obtain ⟨o140, rfl, hh147, e145⟩ := hM
     have r198 := elim_inr r142
     obtain ⟨β, rfl⟩ := has_ex hh147
     clear hh147
     refine k137 _ _ ?_
     refine w_seqk fun K199 k199 => ?_
     refine w_reg (by kernel_rfl) ?_
     obtain ⟨y200, hy201, r202⟩ := bind_some r198
     refine s_ck 41 #[.int .i64 16] (by kernel_rfl) (c_viaductref01_E e145.wf hy201) ?_
     rintro _ H203 ⟨rfl, e204⟩
     refine s_qk (.int .i64 0) (by kernel_rfl) ?_
     have u209 := ((((((((r17.frS e32 Dj.nil_l).ext e48).frS e54 (hb49.djn (r17.ltF.le e32.next))).frS e63 Dj.nil_l).frS e90 (hb49.djn (r17.ltF.le e32.next))).frS e124 Dj.nil_l).frS e145 Dj.nil_l).frS e204 Dj.nil_l)
     obtain ⟨H205, q206, e207, r208⟩ := Row.store (P := Tryd.prog) (t := 31) (p := 0) e204.wf u209 (.agg #[.int .i64 y200, .slice none 0 0]) [.int .i64 y200, .slice none 0 0] (by kernel_rfl) (by kernel_rfl) (one_cons (rfl) (one_cons (rfl) (one_nil))) (Nat.le_of_ble_eq_true (by kernel_rfl)) [.int .i64 y200, .slice none 0 0] (by kernel_rfl)
     refine s_ek (undef) (by kernel_rfl) (map_ok q206) ?_
     refine s_nil ?_
     refine k199 _ _ ?_
     refine w_ret ?_
     refine b_ret (fn := Tryd.f57) (vs := [.int .i64 0, .agg #[.int .i64 y200, .slice none 0 0]]) (aRes_tmp (by kernel_rfl) (aRes_cell (Eq.trans (b := aLoad Tryd.prog 31 (.pointer (some ⟨b13, 0, none⟩)) H205) (by kernel_rfl) (r208.ld (by kernel_rfl))) (rfl))) ?_
     obtain rfl := Option.some.inj r202
     exact ⟨(.slice none 0 0), [], rfl, (FrS.step wf (FrS.step wf (FrS.step wf (FrS.step wf (FrS.step wf (FrS.step wf (FrS.step wf ((FrS.step wf (((FrS.refl (W := []) wf).extR e9).extR e15) e32 Inn.nil).extR e48) e54 (hb49.fresh (ntr (ntr e9.next e15.next) e32.next))) e63 Inn.nil) e90 (hb49.fresh (ntr (ntr e9.next e15.next) e32.next))) e124 Inn.nil) e145 Inn.nil) e204 Inn.nil) e207 (hb16.fresh e9.next)), (Ow.nil (by decide)), Inn.nil⟩

theorem c_viaductref08_Path {H : AH} {hd_First : Value} {fp_First : Fp} {hd_To : Value} {fp_To : Fp} {hd_Weight : Value} {fp_Weight : Fp} {hd_l : Value} {fp_l : Fp} {First : List (Int)} {To : List (Int)} {Weight : List (Int)} {l : List (Int)} {s : Int} {t : Int} {length_ : Int} {r : Bool}
  (wf : WF H) (h_First : Sq (encI .i64) 1 H hd_First First fp_First) (h_To : Sq (encI .i64) 1 H hd_To To fp_To) (h_Weight : Sq (encI .i64) 1 H hd_Weight Weight fp_Weight) (h_l : Sq (encI .i64) 1 H hd_l l fp_l) (hr : z_viaductref08_Path First To Weight l s t length_ = some r) :
  ACalls Tryd.prog 25 #[.agg #[hd_First, hd_To, hd_Weight], hd_l, .int .i64 s, .int .i64 t, .int .u64 length_] H fun v H' => v = .bool r ∧ FrS [] H H' := by
 refine acalls_of_body mixed Tryd.func25 rfl (Nat.le_of_ble_eq_true rfl) ?_
 unfold z_viaductref08_Path at hr
 refine w_seqk fun K1 k1 => ?_
 refine w_reg (by kernel_rfl) ?_
 refine s_rwl wf [hd_First, hd_To, hd_Weight] (one_cons (h_First.one1) (one_cons (h_To.one1) (one_cons (h_Weight.one1) (one_nil)))) (by kernel_rfl) fun b2 H3 e4 hb5 r6 => ?_
 refine s_qk (.bool false) (by kernel_rfl) ?_
 refine s_nil ?_
 refine k1 _ _ ?_
 refine w_seqk fun K8 k8 => ?_
 refine w_seqk fun K9 k9 => ?_
 obtain ⟨o10, hx11, r12⟩ := bind_some hr
 refine w_mid (fun α H13 => Has α [(1, hd_l), (4, .int .u64 length_), (5, .pointer (some ⟨b2, 0, none⟩)), (37, .bool o10)] ∧ H3 = H13) (fun K15 k15 => ?_) (fun α H13 hM => ?_)
 ·refine w_reg (by kernel_rfl) ?_
  refine s_qk (hd_l) (by kernel_rfl) ?_
  have u17 := (h_l.ext e4)
  refine s_ql (.int .i64 (l.length : Int)) (x := aLen Tryd.prog 22 hd_l H3) (by kernel_rfl) (u17.lenb (by kernel_rfl)) ?_
  refine s_b ((l.length : Int) = 0) (by kernel_rfl) (fun h18 => ?_) (fun h18 => ?_)
  ·have r19 := ite_t h18 hx11
   refine s_qk (.bool true) (by kernel_rfl) ?_
   refine s_no (by kernel_rfl) ?_
   refine s_no (by kernel_rfl) ?_
   refine s_no (by kernel_rfl) ?_
   refine s_no (by kernel_rfl) ?_
   refine s_no (by kernel_rfl) ?_
   refine s_qk (.bool true) (by kernel_rfl) ?_
   refine s_qk (.bool true) (by kernel_rfl) ?_
   refine s_no (by kernel_rfl) ?_
   refine s_no (by kernel_rfl) ?_
   refine s_no (by kernel_rfl) ?_
   refine s_no (by kernel_rfl) ?_
   refine s_no (by kernel_rfl) ?_
   refine s_no (by kernel_rfl) ?_
   refine s_no (by kernel_rfl) ?_
   refine s_no (by kernel_rfl) ?_
   refine s_qk (.bool true) (by kernel_rfl) ?_
   refine s_nil ?_
   obtain rfl := Option.some.inj r19
   exact k15 _ _ ⟨⟨by kernel_rfl, by kernel_rfl, by kernel_rfl, by kernel_rfl, trivial⟩, rfl⟩
  ·have r20 := ite_f h18 hx11
   refine s_qk (.bool false) (by kernel_rfl) ?_
   refine s_qk (hd_l) (by kernel_rfl) ?_
   obtain ⟨g21, r22⟩ := G_some r20
   refine s_ql (elp hd_l 1 (0 : Int).toNat 0) (x := aIndexAddr Tryd.prog 22 hd_l (.int .i64 0)) (by kernel_rfl) (u17.idxb (by kernel_rfl) (by decide) g21) ?_
   refine s_ql (.int .i64 (gt l 0)) (x := aLoad Tryd.prog 3 (elp hd_l 1 (0 : Int).toNat 0) H3) (by kernel_rfl) (u17.ld (by decide) g21 (by kernel_rfl)) ?_
   refine s_qk (.int .i64 s) (by kernel_rfl) ?_
   refine s_bn ((gt l 0) = s) (by kernel_rfl) (fun h23 => ?_) (fun h23 => ?_)
   ·have r24 := ite_t h23 r22
    refine s_qk (.bool false) (by kernel_rfl) ?_
    refine s_qk (.bool false) (by kernel_rfl) ?_
    refine s_qk (hd_l) (by kernel_rfl) ?_
    refine s_qk (hd_l) (by kernel_rfl) ?_
    refine s_ql (.int .i64 (l.length : Int)) (x := aLen Tryd.prog 22 hd_l H3) (by kernel_rfl) (u17.lenb (by kernel_rfl)) ?_
    obtain ⟨g25, r26⟩ := G_some r24
    refine s_w (((l.length : Int) - 1)) (k := .i64) (x := ((l.length : Int) - 1)) (by kernel_rfl) (wrap64 g25) ?_
    obtain ⟨g27, r28⟩ := G_some r26
    refine s_ql (elp hd_l 1 ((l.length : Int) - 1).toNat 0) (x := aIndexAddr Tryd.prog 22 hd_l (.int .i64 ((l.length : Int) - 1))) (by kernel_rfl) (u17.idxb (by kernel_rfl) g27.1 g27.2) ?_
    refine s_ql (.int .i64 (gt l ((l.length : Int) - 1))) (x := aLoad Tryd.prog 3 (elp hd_l 1 ((l.length : Int) - 1).toNat 0) H3) (by kernel_rfl) (u17.ld g27.1 g27.2 (by kernel_rfl)) ?_
    refine s_qk (.int .i64 t) (by kernel_rfl) ?_
    refine s_qk (.bool (!decide ((gt l ((l.length : Int) - 1)) = t))) (by kernel_rfl) ?_
    refine s_qk (.bool (!decide ((gt l ((l.length : Int) - 1)) = t))) (by kernel_rfl) ?_
    refine s_nil ?_
    obtain rfl := Option.some.inj r28
    exact k15 _ _ ⟨⟨by kernel_rfl, by kernel_rfl, by kernel_rfl, by kernel_rfl, trivial⟩, rfl⟩
   ·have r29 := ite_f h23 r22
    refine s_qk (.bool true) (by kernel_rfl) ?_
    refine s_qk (.bool true) (by kernel_rfl) ?_
    refine s_no (by kernel_rfl) ?_
    refine s_no (by kernel_rfl) ?_
    refine s_no (by kernel_rfl) ?_
    refine s_no (by kernel_rfl) ?_
    refine s_no (by kernel_rfl) ?_
    refine s_no (by kernel_rfl) ?_
    refine s_no (by kernel_rfl) ?_
    refine s_no (by kernel_rfl) ?_
    refine s_qk (.bool true) (by kernel_rfl) ?_
    refine s_nil ?_
    obtain rfl := Option.some.inj r29
    exact k15 _ _ ⟨⟨by kernel_rfl, by kernel_rfl, by kernel_rfl, by kernel_rfl, trivial⟩, rfl⟩
 ·obtain ⟨hh16, rfl⟩ := hM
  obtain ⟨β, rfl⟩ := has_ex hh16
  clear hh16
  refine k9 _ _ ?_
  refine w_cond (o10) (by kernel_rfl) rfl (fun h30 => ?_) (fun h30 => ?_)
  ·have r31 := ite_t h30 r12
   refine w_seqk fun K32 k32 => ?_
   refine w_reg (by kernel_rfl) ?_
   refine s_qk (.bool false) (by kernel_rfl) ?_
   refine s_nil ?_
   refine k32 _ _ ?_
   refine w_ret (th_ret ?_)
   refine b_ret (fn := Tryd.f25) (vs := [.bool false]) (aRes_tmp (by kernel_rfl) (rfl)) ?_
   obtain rfl := Option.some.inj r31
   exact ⟨rfl, ((FrS.refl (W := []) wf).extR e4)⟩
  ·have r33 := ite_bf h30 r12
   refine w_skip ?_
   refine k8 _ _ ?_
   refine w_seqk fun K34 k34 => ?_
   refine w_reg (by kernel_rfl) ?_
   refine s_qk (.int .u64 0) (by kernel_rfl) ?_
   refine s_nil ?_
   refine k34 _ _ ?_
   refine w_seqk fun K35 k35 => ?_
   refine w_seqk fun K36 k36 => ?_
   refine w_reg (by kernel_rfl) ?_
   refine s_qk (hd_l) (by kernel_rfl) ?_
   have u37 := (h_l.ext e4)
   refine s_ql (.int .i64 (l.length : Int)) (x := aLen Tryd.prog 22 hd_l H3) (by kernel_rfl) (u37.lenb (by kernel_rfl)) ?_
   refine s_qk (.int .i64 0) (by kernel_rfl) ?_
   refine s_nil ?_
   refine k36 _ _ ?_
   obtain ⟨z41, hx39, r40⟩ := bind_some r33
   refine w_mid (fun α H42 => ∃ o38, z41 = Sum.inr o38 ∧ Has α [(4, .int .u64 length_), (11, .int .u64 o38)] ∧ FrS [] H3 H42) (fun K44 k44 => ?_) (fun α H42 hM => ?_)
   ·refine w_block ?_
    obtain ⟨n46, hn47⟩ := loopO_iff.1 hx39
    refine w_loopn (fun n α H48 => ∃ (sum1 : Int), ∃ (i2 : Int), iterO (fun zz_ => z_viaductref08_Path_l1 First To Weight l zz_.1 zz_.2) n (sum1, i2) = some z41 ∧ Has α [(1, hd_l), (4, .int .u64 length_), (5, .pointer (some ⟨b2, 0, none⟩)), (11, .int .u64 sum1), (38, hd_l), (39, .int .i64 (l.length : Int)), (40, .int .i64 i2)] ∧ FrS [] H3 H48) n46 ⟨0, 0, hn47, ⟨by kernel_rfl, by kernel_rfl, by kernel_rfl, by kernel_rfl, by kernel_rfl, by kernel_rfl, by kernel_rfl, trivial⟩, (FrS.refl (W := []) e4.wf)⟩ ?_
    rintro n46 α H48 ⟨sum1, i2, hi51, hh50, e49⟩ K56 k56
    obtain ⟨n52, z53, rfl, hz54, hn55⟩ := iter_succ hi51
    obtain ⟨β, rfl⟩ := has_ex hh50
    clear hh50
    replace hz54 : z_viaductref08_Path_l1 First To Weight l sum1 i2 = some z53 := hz54
    unfold z_viaductref08_Path_l1 at hz54
    refine w_seqk fun K57 k57 => ?_
    refine w_reg (by kernel_rfl) ?_
    refine s_qk (.bool (decide (i2 < (l.length : Int)))) (by kernel_rfl) ?_
    refine s_nil ?_
    refine k57 _ _ ?_
    refine w_seqk fun K58 k58 => ?_
    refine w_condp (i2 < (l.length : Int)) (by kernel_rfl) rfl (fun h59 => ?_) (fun h59 => ?_)
    ·have r60 := ite_t h59 hz54
     refine w_skip ?_
     refine k58 _ _ ?_
     refine w_seqk fun K61 k61 => ?_
     refine w_block ?_
     refine w_seqk fun K62 k62 => ?_
     refine w_reg (by kernel_rfl) ?_
     refine s_qk (.int .i64 i2) (by kernel_rfl) ?_
     obtain ⟨g63, r64⟩ := G_some r60
     have u65 := (u37.fr e49 Dj.nil_l)
     refine s_ql (elp hd_l 1 i2.toNat 0) (x := aIndexAddr Tryd.prog 22 hd_l (.int .i64 i2)) (by kernel_rfl) (u65.idxb (by kernel_rfl) g63 h59) ?_
     refine s_ql (.int .i64 (gt l i2)) (x := aLoad Tryd.prog 3 (elp hd_l 1 i2.toNat 0) H48) (by kernel_rfl) (u65.ld g63 h59 (by kernel_rfl)) ?_
     refine s_qk (.int .i64 i2) (by kernel_rfl) ?_
     refine s_qk (.int .i64 (gt l i2)) (by kernel_rfl) ?_
     refine s_nil ?_
     refine k62 _ _ ?_
     refine w_seqk fun K66 k66 => ?_
     refine w_seqk fun K67 k67 => ?_
     refine w_reg (by kernel_rfl) ?_
     have u68 := (r6.frS e49 Dj.nil_l)
     refine s_ql (.agg #[hd_First, hd_To, hd_Weight]) (x := aLoad Tryd.prog 37 (.pointer (some ⟨b2, 0, none⟩)) H48) (by kernel_rfl) (u68.ld (by kernel_rfl)) ?_
     refine s_qk (.int .i64 (gt l i2)) (by kernel_rfl) ?_
     have u69 := ((h_First.ext e4).fr e49 Dj.nil_l)
     have u70 := ((h_To.ext e4).fr e49 Dj.nil_l)
     have u71 := ((h_Weight.ext e4).fr e49 Dj.nil_l)
     obtain ⟨y72, hy73, r74⟩ := bind_some r64
     refine s_ck 55 #[.agg #[hd_First, hd_To, hd_Weight], .int .i64 (gt l i2)] (by kernel_rfl) (c_viaductref05_Node e49.wf u69 u70 u71 hy73) ?_
     rintro _ H75 ⟨rfl, e76⟩
     refine s_qk (.bool (!y72)) (by kernel_rfl) ?_
     refine s_nil ?_
     refine k67 _ _ ?_
     refine w_cond ((!y72)) (by kernel_rfl) rfl (fun h77 => ?_) (fun h77 => ?_)
     ·have r78 := ite_t h77 r74
      refine w_seqk fun K79 k79 => ?_
      refine w_reg (by kernel_rfl) ?_
      refine s_qk (.bool false) (by kernel_rfl) ?_
      refine s_nil ?_
      refine k79 _ _ ?_
      refine w_ret (th_ret (bl_ret (th_ret (th_ret (bl_ret (th_ret (th_ret ?_)))))))
      obtain ⟨v80, hv81, hz82⟩ := map_some r78
      subst hz82
      obtain rfl := it_inr hn55
      have hq83 := elim_inl r40
      rw [hq83] at hv81
      refine b_ret (fn := Tryd.f25) (vs := [.bool false]) (aRes_tmp (by kernel_rfl) (rfl)) ?_
      obtain rfl := Option.some.inj hv81
      exact ⟨rfl, (FrS.step wf (FrS.step wf ((FrS.refl (W := []) wf).extR e4) e49 Inn.nil) e76 Inn.nil)⟩
     ·have r84 := ite_bf h77 r74
      refine w_skip ?_
      refine k66 _ _ ?_
      refine w_seqk fun K85 k85 => ?_
      refine w_seqk fun K86 k86 => ?_
      refine w_reg (by kernel_rfl) ?_
      refine s_qk (hd_l) (by kernel_rfl) ?_
      refine s_qk (.int .i64 i2) (by kernel_rfl) ?_
      obtain ⟨g87, r88⟩ := G_some r84
      have u92 := (u65.fr e76 Dj.nil_l)
      obtain ⟨s89, q90, hs91⟩ := Sq.cut (P := Tryd.prog) u92 (t := 22) (by kernel_rfl) (lo := none) (hi := (some (.int .i64 i2))) (l := 0) (r := i2.toNat) (rfl) (aBound_int _ (by have := g87; omega)) (by have := g87; omega) (by have := g87; omega)
      obtain ⟨a93, n94, c95, rfl⟩ := hs91.form
      refine s_ql (.slice a93 n94 c95) (by kernel_rfl) q90 ?_
      refine s_ql (.int .i64 (((l.take i2.toNat).drop 0).length : Int)) (x := aLen Tryd.prog 22 (.slice a93 n94 c95) H75) (by kernel_rfl) (hs91.lenb (by kernel_rfl)) ?_
      refine s_qk (.int .i64 0) (by kernel_rfl) ?_
      refine s_nil ?_
      refine k86 _ _ ?_
      obtain ⟨z100, hx98, r99⟩ := bind_some r88
      refine w_mid (fun α H101 => ∃ o97, z100 = Sum.inr o97 ∧ Has α [(1, hd_l), (4, .int .u64 length_), (5, .pointer (some ⟨b2, 0, none⟩)), (11, .int .u64 sum1), (12, .int .i64 i2), (13, .int .i64 (gt l i2)), (38, hd_l), (39, .int .i64 (l.length : Int)), (40, .int .i64 i2)] ∧ H75 = H101) (fun K103 k103 => ?_) (fun α H101 hM => ?_)
      ·refine w_block ?_
       obtain ⟨n105, hn106⟩ := loopO_iff.1 hx98
       refine w_loopn (fun n α H107 => ∃ (i0 : Int), iterO (fun zz_ => z_viaductref08_Path_l0 l i2 zz_) n i0 = some z100 ∧ Has α [(1, hd_l), (4, .int .u64 length_), (5, .pointer (some ⟨b2, 0, none⟩)), (11, .int .u64 sum1), (12, .int .i64 i2), (13, .int .i64 (gt l i2)), (38, hd_l), (39, .int .i64 (l.length : Int)), (40, .int .i64 i2), (51, .slice a93 n94 c95), (52, .int .i64 (((l.take i2.toNat).drop 0).length : Int)), (53, .int .i64 i0)] ∧ H75 = H107) n105 ⟨0, hn106, ⟨by kernel_rfl, by kernel_rfl, by kernel_rfl, by kernel_rfl, by kernel_rfl, by kernel_rfl, by kernel_rfl, by kernel_rfl, by kernel_rfl, by kernel_rfl, by kernel_rfl, by kernel_rfl, trivial⟩, rfl⟩ ?_
       rintro n105 α H107 ⟨i0, hi110, hh109, rfl⟩ K115 k115
       obtain ⟨n111, z112, rfl, hz113, hn114⟩ := iter_succ hi110
       obtain ⟨β, rfl⟩ := has_ex hh109
       clear hh109
       replace hz113 : z_viaductref08_Path_l0 l i2 i0 = some z112 := hz113
       unfold z_viaductref08_Path_l0 at hz113
       refine w_seqk fun K116 k116 => ?_
       refine w_reg (by kernel_rfl) ?_
       refine s_qk (.bool (decide (i0 < (((l.take i2.toNat).drop 0).length : Int)))) (by kernel_rfl) ?_
       refine s_nil ?_
       refine k116 _ _ ?_
       refine w_seqk fun K117 k117 => ?_
       refine w_condp (i0 < (((l.take i2.toNat).drop 0).length : Int)) (by kernel_rfl) rfl (fun h118 => ?_) (fun h118 => ?_)
       ·have r119 := ite_t h118 hz113
        refine w_skip ?_
        refine k117 _ _ ?_
        refine w_seqk fun K120 k120 => ?_
        refine w_block ?_
        refine w_seqk fun K121 k121 => ?_
        refine w_reg (by kernel_rfl) ?_
        obtain ⟨g122, r123⟩ := G_some r119
        refine s_ql (elp (.slice a93 n94 c95) 1 i0.toNat 0) (x := aIndexAddr Tryd.prog 22 (.slice a93 n94 c95) (.int .i64 i0)) (by kernel_rfl) (hs91.idxb (by kernel_rfl) g122 h118) ?_
        refine s_ql (.int .i64 (gt ((l.take i2.toNat).drop 0) i0)) (x := aLoad Tryd.prog 3 (elp (.slice a93 n94 c95) 1 i0.toNat 0) H75) (by kernel_rfl) (hs91.ld g122 h118 (by kernel_rfl)) ?_
        refine s_qk (.int .i64 (gt ((l.take i2.toNat).drop 0) i0)) (by kernel_rfl) ?_
        refine s_nil ?_
        refine k121 _ _ ?_
        refine w_seqk fun K124 k124 => ?_
        refine w_reg (by kernel_rfl) ?_
        refine s_qk (.int .i64 (gt ((l.take i2.toNat).drop 0) i0)) (by kernel_rfl) ?_
        refine s_qk (.int .i64 (gt l i2)) (by kernel_rfl) ?_
        refine s_qk (.bool (decide ((gt ((l.take i2.toNat).drop 0) i0) = (gt l i2)))) (by kernel_rfl) ?_
        refine s_nil ?_
        refine k124 _ _ ?_
        refine w_condp ((gt ((l.take i2.toNat).drop 0) i0) = (gt l i2)) (by kernel_rfl) rfl (fun h125 => ?_) (fun h125 => ?_)
        ·have r126 := ite_t h125 r123
         refine w_seqk fun K127 k127 => ?_
         refine w_reg (by kernel_rfl) ?_
         refine s_qk (.bool false) (by kernel_rfl) ?_
         refine s_nil ?_
         refine k127 _ _ ?_
         refine w_ret (bl_ret (th_ret (th_ret (bl_ret (th_ret (th_ret (bl_ret (th_ret (th_ret (bl_ret (th_ret (th_ret ?_))))))))))))
         obtain ⟨v128, hv129, hz130⟩ := map_some r126
         subst hz130
         obtain rfl := it_inr hn114
         have hq131 := elim_inl r99
         rw [hq131] at hv129
         obtain ⟨v132, hv133, hz134⟩ := map_some hv129
         subst hz134
         obtain rfl := it_inr hn55
         have hq135 := elim_inl r40
         rw [hq135] at hv133
         refine b_ret (fn := Tryd.f25) (vs := [.bool false]) (aRes_tmp (by kernel_rfl) (rfl)) ?_
         obtain rfl := Option.some.inj hv133
         exact ⟨rfl, (FrS.step wf (FrS.step wf ((FrS.refl (W := []) wf).extR e4) e49 Inn.nil) e76 Inn.nil)⟩
        ·have r136 := ite_f h125 r123
         refine w_skip ?_
         refine k120 _ _ ?_
         refine w_reg (by kernel_rfl) ?_
         obtain ⟨g137, r138⟩ := G_some r136
         refine s_w ((i0 + 1)) (k := .i64) (x := (i0 + 1)) (by kernel_rfl) (wrap64 (by have := g137; omega)) ?_
         refine s_qk (.int .i64 (i0 + 1)) (by kernel_rfl) ?_
         refine s_nil ?_
         obtain rfl := Option.some.inj r138
         exact k115 n111 _ _ (Nat.lt_succ_self _) ⟨(i0 + 1), hn114, ⟨by kernel_rfl, by kernel_rfl, by kernel_rfl, by kernel_rfl, by kernel_rfl, by kernel_rfl, by kernel_rfl, by kernel_rfl, by kernel_rfl, by kernel_rfl, by kernel_rfl, by kernel_rfl, trivial⟩, rfl⟩
       ·have r139 := ite_f h118 hz113
        refine w_exit (th_exit (th_exit (bl_eq ?_)))
        obtain rfl := Option.some.inj r139
        obtain rfl := it_inr hn114
        exact k103 _ _ ⟨_, rfl, ⟨by kernel_rfl, by kernel_rfl, by kernel_rfl, by kernel_rfl, by kernel_rfl, by kernel_rfl, by kernel_rfl, by kernel_rfl, by kernel_rfl, trivial⟩, rfl⟩
      ·obtain ⟨o97, rfl, hh104, rfl⟩ := hM
       have r140 := elim_inr r99
       obtain ⟨β, rfl⟩ := has_ex hh104
       clear hh104
       refine k85 _ _ ?_
       refine w_seqk fun K141 k141 => ?_
       refine w_reg (by kernel_rfl) ?_
       refine s_qk (.int .i64 i2) (by kernel_rfl) ?_
       refine s_qk (.bool (decide (i2 > 0))) (by kernel_rfl) ?_
       refine s_nil ?_
       refine k141 _ _ ?_
       refine w_condp (i2 > 0) (by kernel_rfl) rfl (fun h142 => ?_) (fun h142 => ?_)
       ·have r143 := ite_t h142 r140
        refine w_seqk fun K144 k144 => ?_
        refine w_draw [0, 1, 2, 3, 4, 5, 6, 11, 7, 8, 9, 10, 12, 13] (by kernel_rfl) ?_
        have u145 := (u68.frS e76 Dj.nil_l)
        refine d_ql (.agg #[hd_First, hd_To, hd_Weight]) (x := aLoad Tryd.prog 37 (.pointer (some ⟨b2, 0, none⟩)) H75) (by kernel_rfl) (u145.ld (by kernel_rfl)) ?_
        refine d_qk (hd_l) (by kernel_rfl) ?_
        refine d_qk (.int .i64 i2) (by kernel_rfl) ?_
        obtain ⟨g146, r147⟩ := G_some r143
        refine d_w ((i2 - 1)) (k := .i64) (x := (i2 - 1)) (by kernel_rfl) (wrap64 g146) ?_
        obtain ⟨g148, r149⟩ := G_some r147
        refine d_ql (elp hd_l 1 (i2 - 1).toNat 0) (x := aIndexAddr Tryd.prog 22 hd_l (.int .i64 (i2 - 1))) (by kernel_rfl) (u92.idxb (by kernel_rfl) g148.1 g148.2) ?_
        refine d_ql (.int .i64 (gt l (i2 - 1))) (x := aLoad Tryd.prog 3 (elp hd_l 1 (i2 - 1).toNat 0) H75) (by kernel_rfl) (u92.ld g148.1 g148.2 (by kernel_rfl)) ?_
        refine d_qk (.int .i64 (gt l i2)) (by kernel_rfl) ?_
        refine d_rwk e76.wf [.int .i64 0, .slice none 0 0] (by kernel_rfl) fun b150 H151 e152 hb153 r154 => ?_
        have u156 := ((u69.fr e76 Dj.nil_l).ext e152)
        have u157 := ((u70.fr e76 Dj.nil_l).ext e152)
        have u158 := ((u71.fr e76 Dj.nil_l).ext e152)
        obtain ⟨y159, hy160, r161⟩ := bind_some r149
        refine d_ck 57 #[.agg #[hd_First, hd_To, hd_Weight], .int .i64 (gt l (i2 - 1)), .int .i64 (gt l i2)] (by kernel_rfl) (c_viaductref05_DocFind e152.wf u156 u157 u158 hy160) ?_
        rintro _ H164 ⟨s162, f163, rfl, e165, m166, i167⟩
        obtain ⟨a169, n170, c171, rfl⟩ := m166.form
        refine ⟨st_nil, ?_⟩
        refine d_qk (.tuple #[.int .i64 y159.1, .agg #[.int .i64 y159.2.1, .slice a169 n170 c171]]) (by kernel_rfl) ?_
        refine d_qk (.int .i64 y159.1) (by kernel_rfl) ?_
        refine d_qk (.agg #[.int .i64 y159.2.1, .slice a169 n170 c171]) (by kernel_rfl) ?_
        refine d_qk (.int .i64 y159.1) (by kernel_rfl) ?_
        have u176 := (r154.frS e165 Dj.nil_l)
        obtain ⟨H172, q173, e174, r175⟩ := Row.store (P := Tryd.prog) (t := 31) (p := 0) e165.wf u176 (.agg #[.int .i64 y159.2.1, .slice a169 n170 c171]) [.int .i64 y159.2.1, .slice a169 n170 c171] (by kernel_rfl) (by kernel_rfl) (one_cons (rfl) (one_cons (m166.one1) (one_nil))) (Nat.le_of_ble_eq_true (by kernel_rfl)) [.int .i64 y159.2.1, .slice a169 n170 c171] (by kernel_rfl)
        refine d_ek (undef) (by kernel_rfl) (map_ok q173) (st_nil) ?_
        refine d_nil ?_
        refine k144 _ _ ?_
        refine w_seqk fun K177 k177 => ?_
        refine w_seqk fun K178 k178 => ?_
        refine w_reg (by kernel_rfl) ?_
        refine s_ql (.agg #[.int .i64 y159.2.1, .slice a169 n170 c171]) (x := aLoad Tryd.prog 31 (.pointer (some ⟨b150, 0, none⟩)) H172) (by kernel_rfl) (r175.ld (by kernel_rfl)) ?_
        have u179 := (m166.fr e174 (Dj.symm (i167.djn r154.ltF)))
        obtain ⟨y180, hy181, r182⟩ := bind_some r161
        refine s_ck 24 #[.agg #[.int .i64 y159.2.1, .slice a169 n170 c171]] (by kernel_rfl) (c_viaductref01_Err_Bad e174.wf u179.sq hy181) ?_
        rintro _ H183 ⟨rfl, e184⟩
        refine s_nil ?_
        refine k178 _ _ ?_
        refine w_cond (y180) (by kernel_rfl) rfl (fun h185 => ?_) (fun h185 => ?_)
        ·have r186 := ite_t h185 r182
         refine w_seqk fun K187 k187 => ?_
         refine w_reg (by kernel_rfl) ?_
         refine s_qk (.bool false) (by kernel_rfl) ?_
         refine s_nil ?_
         refine k187 _ _ ?_
         refine w_ret (th_ret (bl_ret (th_ret (th_ret (bl_ret (th_ret (th_ret ?_)))))))
         obtain ⟨v188, hv189, hz190⟩ := map_some r186
         subst hz190
         obtain rfl := it_inr hn55
         have hq191 := elim_inl r40
         rw [hq191] at hv189
         refine b_ret (fn := Tryd.f25) (vs := [.bool false]) (aRes_tmp (by kernel_rfl) (rfl)) ?_
         obtain rfl := Option.some.inj hv189
         exact ⟨rfl, (FrS.step wf (FrS.step wf (FrS.step wf ((FrS.step wf (FrS.step wf ((FrS.refl (W := []) wf).extR e4) e49 Inn.nil) e76 Inn.nil).extR e152) e165 Inn.nil) e174 (hb153.fresh (ntr (ntr e4.next e49.next) e76.next))) e184 Inn.nil)⟩
        ·have r192 := ite_bf h185 r182
         refine w_skip ?_
         refine k177 _ _ ?_
         refine w_reg (by kernel_rfl) ?_
         refine s_qk (.int .u64 sum1) (by kernel_rfl) ?_
         refine s_qk (.int .i64 y159.1) (by kernel_rfl) ?_
         obtain ⟨g193, r194⟩ := G_some r192
         refine s_w (y159.1) (k := .u64) (x := y159.1) (by kernel_rfl) (wrapu64 g193) ?_
         obtain ⟨g195, r196⟩ := G_some r194
         refine s_w ((sum1 + y159.1)) (k := .u64) (x := (sum1 + y159.1)) (by kernel_rfl) (wrapu64 g195) ?_
         refine s_qk (.int .u64 (sum1 + y159.1)) (by kernel_rfl) ?_
         refine s_nil ?_
         refine k61 _ _ ?_
         refine w_reg (by kernel_rfl) ?_
         obtain ⟨g197, r198⟩ := G_some r196
         refine s_w ((i2 + 1)) (k := .i64) (x := (i2 + 1)) (by kernel_rfl) (wrap64 (by have := g197; omega)) ?_
         refine s_qk (.int .i64 (i2 + 1)) (by kernel_rfl) ?_
         refine s_nil ?_
         obtain rfl := Option.some.inj r198
         exact k56 n52 _ _ (Nat.lt_succ_self _) ⟨(sum1 + y159.1), (i2 + 1), hn55, ⟨by kernel_rfl, by kernel_rfl, by kernel_rfl, by kernel_rfl, by kernel_rfl, by kernel_rfl, by kernel_rfl, trivial⟩, (FrS.step e4.wf (FrS.step e4.wf (FrS.step e4.wf ((FrS.step e4.wf (FrS.step e4.wf (FrS.refl (W := []) e4.wf) e49 Inn.nil) e76 Inn.nil).extR e152) e165 Inn.nil) e174 (hb153.fresh (ntr e49.next e76.next))) e184 Inn.nil)⟩
       ·have r199 := ite_f h142 r140
        refine w_skip ?_
        refine k61 _ _ ?_
        refine w_reg (by kernel_rfl) ?_
        obtain ⟨g200, r201⟩ := G_some r199
        refine s_w ((i2 + 1)) (k := .i64) (x := (i2 + 1)) (by kernel_rfl) (wrap64 (by have := g200; omega)) ?_
        refine s_qk (.int .i64 (i2 + 1)) (by kernel_rfl) ?_
        refine s_nil ?_
        obtain rfl := Option.some.inj r201
        exact k56 n52 _ _ (Nat.lt_succ_self _) ⟨sum1, (i2 + 1), hn55, ⟨by kernel_rfl, by kernel_rfl, by kernel_rfl, by kernel_rfl, by kernel_rfl, by kernel_rfl, by kernel_rfl, trivial⟩, (FrS.step e4.wf (FrS.step e4.wf (FrS.refl (W := []) e4.wf) e49 Inn.nil) e76 Inn.nil)⟩
    ·have r202 := ite_f h59 hz54
     refine w_exit (th_exit (th_exit (bl_eq ?_)))
     obtain rfl := Option.some.inj r202
     obtain rfl := it_inr hn55
     exact k44 _ _ ⟨_, rfl, ⟨by kernel_rfl, by kernel_rfl, trivial⟩, (FrS.step e4.wf (FrS.refl (W := []) e4.wf) e49 Inn.nil)⟩
   ·obtain ⟨o38, rfl, hh45, e43⟩ := hM
    have r203 := elim_inr r40
    obtain ⟨β, rfl⟩ := has_ex hh45
    clear hh45
    refine k35 _ _ ?_
    refine w_seqk fun K204 k204 => ?_
    refine w_reg (by kernel_rfl) ?_
    refine s_qk (.int .u64 o38) (by kernel_rfl) ?_
    refine s_qk (.int .u64 length_) (by kernel_rfl) ?_
    refine s_qk (.bool (decide (o38 = length_))) (by kernel_rfl) ?_
    refine s_qk (.bool (decide (o38 = length_))) (by kernel_rfl) ?_
    refine s_nil ?_
    refine k204 _ _ ?_
    refine w_ret ?_
    refine b_ret (fn := Tryd.f25) (vs := [.bool (decide (o38 = length_))]) (aRes_tmp (by kernel_rfl) (rfl)) ?_
    obtain rfl := Option.some.inj r203
    exact ⟨rfl, (FrS.step wf ((FrS.refl (W := []) wf).extR e4) e43 Inn.nil)⟩

theorem c_viaductlaw08_SearchPaths {H : AH} {hd_First : Value} {fp_First : Fp} {hd_To : Value} {fp_To : Fp} {hd_Weight : Value} {fp_Weight : Fp} {First : List (Int)} {To : List (Int)} {Weight : List (Int)} {s : Int} {t : Int} {r : Bool}
  (wf : WF H) (h_First : Sq (encI .i64) 1 H hd_First First fp_First) (h_To : Sq (encI .i64) 1 H hd_To To fp_To) (h_Weight : Sq (encI .i64) 1 H hd_Weight Weight fp_Weight) (hr : z_viaductlaw08_SearchPaths First To Weight s t = some r) :
  ACalls Tryd.prog 4 #[.agg #[hd_First, hd_To, hd_Weight], .int .i64 s, .int .i64 t] H fun v H' => v = .bool r ∧ FrS [] H H' := by
 refine acalls_of_body mixed Tryd.func4 rfl (Nat.le_of_ble_eq_true rfl) ?_
 unfold z_viaductlaw08_SearchPaths at hr
 refine w_seqk fun K1 k1 => ?_
 refine w_reg (by kernel_rfl) ?_
 refine s_rwl wf [hd_First, hd_To, hd_Weight] (one_cons (h_First.one1) (one_cons (h_To.one1) (one_cons (h_Weight.one1) (one_nil)))) (by kernel_rfl) fun b2 H3 e4 hb5 r6 => ?_
 refine s_qk (.bool false) (by kernel_rfl) ?_
 refine s_nil ?_
 refine k1 _ _ ?_
 refine w_seqk fun K8 k8 => ?_
 refine w_seqk fun K9 k9 => ?_
 refine w_reg (by kernel_rfl) ?_
 refine s_ck 19 #[] (by kernel_rfl) c_viaductlaw08_awake ?_
 rintro _ _ ⟨rfl, rfl⟩
 refine s_qk (.bool false) (by kernel_rfl) ?_
 refine s_nil ?_
 refine k9 _ _ ?_
 refine w_cond false (by kernel_rfl) rfl (fun h => by cases h) (fun _ => ?_)
 refine w_skip ?_
 refine k8 _ _ ?_
 refine w_seqk fun K10 k10 => ?_
 refine w_seqk fun K11 k11 => ?_
 refine w_reg (by kernel_rfl) ?_
 refine s_ql (.agg #[hd_First, hd_To, hd_Weight]) (x := aLoad Tryd.prog 37 (.pointer (some ⟨b2, 0, none⟩)) H3) (by kernel_rfl) (r6.ld (by kernel_rfl)) ?_
 have u12 := (h_First.ext e4)
 have u13 := (h_To.ext e4)
 have u14 := (h_Weight.ext e4)
 obtain ⟨y15, hy16, r17⟩ := bind_some hr
 refine s_ck 20 #[.agg #[hd_First, hd_To, hd_Weight]] (by kernel_rfl) (c_viaductlaw08_few e4.wf u12 u13 u14 hy16) ?_
 rintro _ H18 ⟨rfl, e19⟩
 refine s_qk (.bool (!y15)) (by kernel_rfl) ?_
 refine s_nil ?_
 refine k11 _ _ ?_
 refine w_cond ((!y15)) (by kernel_rfl) rfl (fun h20 => ?_) (fun h20 => ?_)
 ·have r21 := ite_t h20 r17
  refine w_seqk fun K22 k22 => ?_
  refine w_reg (by kernel_rfl) ?_
  refine s_qk (.bool true) (by kernel_rfl) ?_
  refine s_nil ?_
  refine k22 _ _ ?_
  refine w_ret (th_ret ?_)
  refine b_ret (fn := Tryd.f4) (vs := [.bool true]) (aRes_tmp (by kernel_rfl) (rfl)) ?_
  obtain rfl := Option.some.inj r21
  exact ⟨rfl, (FrS.step wf ((FrS.refl (W := []) wf).extR e4) e19 Inn.nil)⟩
 ·have r23 := ite_bf h20 r17
  refine w_skip ?_
  refine k10 _ _ ?_
  refine w_seqk fun K24 k24 => ?_
  refine w_reg (by kernel_rfl) ?_
  have u25 := (r6.frS e19 Dj.nil_l)
  refine s_ql (.agg #[hd_First, hd_To, hd_Weight]) (x := aLoad Tryd.prog 37 (.pointer (some ⟨b2, 0, none⟩)) H18) (by kernel_rfl) (u25.ld (by kernel_rfl)) ?_
  have u26 := (u12.fr e19 Dj.nil_l)
  have u27 := (u13.fr e19 Dj.nil_l)
  have u28 := (u14.fr e19 Dj.nil_l)
  obtain ⟨y29, hy30, r31⟩ := bind_some r23
  refine s_ck 22 #[.agg #[hd_First, hd_To, hd_Weight]] (by kernel_rfl) (c_viaductlaw08_of e19.wf u26 u27 u28 hy30) ?_
  rintro _ H38 ⟨s32, f33, s34, f35, s36, f37, rfl, e39, m40, m41, m42, i43, i44, i45, d46, d47, d48⟩
  obtain ⟨a52, n53, c54, rfl⟩ := m40.form
  obtain ⟨a55, n56, c57, rfl⟩ := m41.form
  obtain ⟨a58, n59, c60, rfl⟩ := m42.form
  refine s_qk (.int .i64 s) (by kernel_rfl) ?_
  refine s_qk (.int .i64 t) (by kernel_rfl) ?_
  obtain ⟨y61, hy62, r63⟩ := bind_some r31
  refine s_ck 21 #[.agg #[.slice a52 n53 c54, .slice a55 n56 c57, .slice a58 n59 c60], .int .i64 s, .int .i64 t] (by kernel_rfl) (c_search_Path e39.wf m40.sq m41.sq m42.sq hy62) ?_
  rintro _ H68 ⟨s64, f65, v66, f67, rfl, e69, m70, m71, i72, i73, d74⟩
  obtain ⟨a77, n78, c79, rfl⟩ := m70.form
  refine s_qk (.tuple #[.slice a77 n78 c79, v66]) (by kernel_rfl) ?_
  refine s_qk (.slice a77 n78 c79) (by kernel_rfl) ?_
  refine s_qk (v66) (by kernel_rfl) ?_
  refine s_qk (.slice a77 n78 c79) (by kernel_rfl) ?_
  refine s_qk (v66) (by kernel_rfl) ?_
  refine s_nil ?_
  refine k24 _ _ ?_
  refine w_seqk fun K80 k80 => ?_
  refine w_reg (by kernel_rfl) ?_
  have u81 := ((u25.frS e39 Dj.nil_l).frS e69 Dj.nil_l)
  refine s_ql (.agg #[hd_First, hd_To, hd_Weight]) (x := aLoad Tryd.prog 37 (.pointer (some ⟨b2, 0, none⟩)) H68) (by kernel_rfl) (u81.ld (by kernel_rfl)) ?_
  refine s_qk (.int .i64 s) (by kernel_rfl) ?_
  refine s_qk (.int .i64 t) (by kernel_rfl) ?_
  have u82 := ((u26.fr e39 Dj.nil_l).fr e69 Dj.nil_l)
  have u83 := ((u27.fr e39 Dj.nil_l).fr e69 Dj.nil_l)
  have u84 := ((u28.fr e39 Dj.nil_l).fr e69 Dj.nil_l)
  obtain ⟨y85, hy86, r87⟩ := bind_some r63
  refine s_ck 23 #[.agg #[hd_First, hd_To, hd_Weight], .int .i64 s, .int .i64 t] (by kernel_rfl) (c_viaductref08_DocPath e69.wf u82 u83 u84 hy86) ?_
  rintro _ H90 ⟨s88, f89, rfl, e91, m92, i93⟩
  obtain ⟨a95, n96, c97, rfl⟩ := m92.form
  refine s_qk (.tuple #[.int .u64 y85.1, .agg #[.int .i64 y85.2.1, .slice a95 n96 c97]]) (by kernel_rfl) ?_
  refine s_qk (.int .u64 y85.1) (by kernel_rfl) ?_
  refine s_qk (.agg #[.int .i64 y85.2.1, .slice a95 n96 c97]) (by kernel_rfl) ?_
  refine s_rwk e91.wf [.int .i64 0, .slice none 0 0] (by kernel_rfl) fun b98 H99 e100 hb101 r102 => ?_
  refine s_qk (.int .u64 y85.1) (by kernel_rfl) ?_
  have u108 := (m92.ext e100)
  obtain ⟨H104, q105, e106, r107⟩ := Row.store (P := Tryd.prog) (t := 31) (p := 0) e100.wf r102 (.agg #[.int .i64 y85.2.1, .slice a95 n96 c97]) [.int .i64 y85.2.1, .slice a95 n96 c97] (by kernel_rfl) (by kernel_rfl) (one_cons (rfl) (one_cons (u108.one1) (one_nil))) (Nat.le_of_ble_eq_true (by kernel_rfl)) [.int .i64 y85.2.1, .slice a95 n96 c97] (by kernel_rfl)
  refine s_ek (undef) (by kernel_rfl) (map_ok q105) ?_
  refine s_nil ?_
  refine k80 _ _ ?_
  refine w_seqk fun K109 k109 => ?_
  refine w_seqk fun K110 k110 => ?_
  refine w_reg (by kernel_rfl) ?_
  refine s_ql (.agg #[.int .i64 y85.2.1, .slice a95 n96 c97]) (x := aLoad Tryd.prog 31 (.pointer (some ⟨b98, 0, none⟩)) H104) (by kernel_rfl) (r107.ld (by kernel_rfl)) ?_
  have u111 := (u108.fr e106 (hb101.djn m92.lt))
  obtain ⟨y112, hy113, r114⟩ := bind_some r87
  refine s_ck 24 #[.agg #[.int .i64 y85.2.1, .slice a95 n96 c97]] (by kernel_rfl) (c_viaductref01_Err_Bad e106.wf u111.sq hy113) ?_
  rintro _ H115 ⟨rfl, e116⟩
  refine s_nil ?_
  refine k110 _ _ ?_
  refine w_cond (y112) (by kernel_rfl) rfl (fun h117 => ?_) (fun h117 => ?_)
  ·have r118 := ite_t h117 r114
   refine w_seqk fun K119 k119 => ?_
   obtain ⟨o120, hx121, r122⟩ := bind_some r118
   refine w_mid (fun α H123 => Has α [(6, .bool o120)] ∧ FrS [] H115 H123) (fun K125 k125 => ?_) (fun α H123 hM => ?_)
   ·refine w_reg (by kernel_rfl) ?_
    refine s_qk (.slice a77 n78 c79) (by kernel_rfl) ?_
    have u127 := ((((m70.fr e91 Dj.nil_l).ext e100).fr e106 (hb101.djn (m70.lt.le e91.next))).fr e116 Dj.nil_l)
    refine s_ql (.int .i64 (y61.1.length : Int)) (x := aLen Tryd.prog 22 (.slice a77 n78 c79) H115) (by kernel_rfl) (u127.sq.lenb (by kernel_rfl)) ?_
    refine s_b ((y61.1.length : Int) = 0) (by kernel_rfl) (fun h128 => ?_) (fun h128 => ?_)
    ·have r129 := ite_t h128 hx121
     refine s_qk (.bool true) (by kernel_rfl) ?_
     refine s_qk (v66) (by kernel_rfl) ?_
     have u130 := (r107.frS e116 Dj.nil_l)
     refine s_ql (.agg #[.int .i64 y85.2.1, .slice a95 n96 c97]) (x := aLoad Tryd.prog 31 (.pointer (some ⟨b98, 0, none⟩)) H115) (by kernel_rfl) (u130.ld (by kernel_rfl)) ?_
     have u131 := ((((m71.fr e91 Dj.nil_l).ext e100).fr e106 (hb101.djn (m71.lt.le e91.next))).fr e116 Dj.nil_l)
     have u132 := (u111.fr e116 Dj.nil_l)
     obtain ⟨y133, hy134, r135⟩ := bind_some r129
     refine s_ck 14 #[v66, .agg #[.int .i64 y85.2.1, .slice a95 n96 c97]] (by kernel_rfl) (c_viaductseen_Same e116.wf u131 u132.sq hy134) ?_
     rintro _ H136 ⟨rfl, e137⟩
     refine s_qk (.bool y133) (by kernel_rfl) ?_
     refine s_qk (.bool y133) (by kernel_rfl) ?_
     refine s_nil ?_
     obtain rfl := Option.some.inj r135
     exact k125 _ _ ⟨⟨by kernel_rfl, trivial⟩, (FrS.step e116.wf (FrS.refl (W := []) e116.wf) e137 Inn.nil)⟩
    ·have r138 := ite_f h128 hx121
     refine s_qk (.bool false) (by kernel_rfl) ?_
     refine s_no (by kernel_rfl) ?_
     refine s_no (by kernel_rfl) ?_
     refine s_no (by kernel_rfl) ?_
     refine s_qk (.bool false) (by kernel_rfl) ?_
     refine s_qk (.bool false) (by kernel_rfl) ?_
     refine s_nil ?_
     obtain rfl := Option.some.inj r138
     exact k125 _ _ ⟨⟨by kernel_rfl, trivial⟩, (FrS.refl (W := []) e116.wf)⟩
   ·obtain ⟨hh126, e124⟩ := hM
    obtain ⟨β, rfl⟩ := has_ex hh126
    clear hh126
    refine k119 _ _ ?_
    refine w_ret (th_ret ?_)
    refine b_ret (fn := Tryd.f4) (vs := [.bool o120]) (aRes_tmp (by kernel_rfl) (rfl)) ?_
    obtain rfl := Option.some.inj r122
    exact ⟨rfl, (FrS.step wf (FrS.step wf (FrS.step wf ((FrS.step wf (FrS.step wf (FrS.step wf (FrS.step wf ((FrS.refl (W := []) wf).extR e4) e19 Inn.nil) e39 Inn.nil) e69 Inn.nil) e91 Inn.nil).extR e100) e106 (hb101.fresh (ntr (ntr (ntr (ntr e4.next e19.next) e39.next) e69.next) e91.next))) e116 Inn.nil) e124 Inn.nil)⟩
  ·have r139 := ite_bf h117 r114
   refine w_skip ?_
   refine k109 _ _ ?_
   refine w_seqk fun K140 k140 => ?_
   refine w_reg (by kernel_rfl) ?_
   refine s_qk (v66) (by kernel_rfl) ?_
   have u144 := ((((m71.fr e91 Dj.nil_l).ext e100).fr e106 (hb101.djn (m71.lt.le e91.next))).fr e116 Dj.nil_l)
   rcases (u144).cases with ⟨h141, rfl⟩ | ⟨h141, t142, x143, rfl⟩
   ·have r145 := ite_t h141 r139
    refine s_qk (.bool true) (by kernel_rfl) ?_
    refine s_qk (.bool true) (by kernel_rfl) ?_
    have u146 := ((((u81.frS e91 Dj.nil_l).ext e100).frS e106 (hb101.djn (r6.ltF.le (ntr (ntr (ntr e19.next e39.next) e69.next) e91.next)))).frS e116 Dj.nil_l)
    refine s_ql (.agg #[hd_First, hd_To, hd_Weight]) (x := aLoad Tryd.prog 37 (.pointer (some ⟨b2, 0, none⟩)) H115) (by kernel_rfl) (u146.ld (by kernel_rfl)) ?_
    refine s_qk (.slice a77 n78 c79) (by kernel_rfl) ?_
    refine s_qk (.int .i64 s) (by kernel_rfl) ?_
    refine s_qk (.int .i64 t) (by kernel_rfl) ?_
    refine s_qk (.int .u64 y85.1) (by kernel_rfl) ?_
    have u147 := ((((u82.fr e91 Dj.nil_l).ext e100).fr e106 (hb101.djn (h_First.lt.le (ntr (ntr (ntr (ntr e4.next e19.next) e39.next) e69.next) e91.next)))).fr e116 Dj.nil_l)
    have u148 := ((((u83.fr e91 Dj.nil_l).ext e100).fr e106 (hb101.djn (h_To.lt.le (ntr (ntr (ntr (ntr e4.next e19.next) e39.next) e69.next) e91.next)))).fr e116 Dj.nil_l)
    have u149 := ((((u84.fr e91 Dj.nil_l).ext e100).fr e106 (hb101.djn (h_Weight.lt.le (ntr (ntr (ntr (ntr e4.next e19.next) e39.next) e69.next) e91.next)))).fr e116 Dj.nil_l)
    have u150 := ((((m70.fr e91 Dj.nil_l).ext e100).fr e106 (hb101.djn (m70.lt.le e91.next))).fr e116 Dj.nil_l)
    obtain ⟨y151, hy152, r153⟩ := bind_some r145
    refine s_ck 25 #[.agg #[hd_First, hd_To, hd_Weight], .slice a77 n78 c79, .int .i64 s, .int .i64 t, .int .u64 y85.1] (by kernel_rfl) (c_viaductref08_Path e116.wf u147 u148 u149 u150.sq hy152) ?_
    rintro _ H154 ⟨rfl, e155⟩
    refine s_qk (.bool y151) (by kernel_rfl) ?_
    refine s_qk (.bool y151) (by kernel_rfl) ?_
    refine s_nil ?_
    refine k140 _ _ ?_
    refine w_ret ?_
    refine b_ret (fn := Tryd.f4) (vs := [.bool y151]) (aRes_tmp (by kernel_rfl) (rfl)) ?_
    obtain rfl := Option.some.inj r153
    exact ⟨rfl, (FrS.step wf (FrS.step wf (FrS.step wf ((FrS.step wf (FrS.step wf (FrS.step wf (FrS.step wf ((FrS.refl (W := []) wf).extR e4) e19 Inn.nil) e39 Inn.nil) e69 Inn.nil) e91 Inn.nil).extR e100) e106 (hb101.fresh (ntr (ntr (ntr (ntr e4.next e19.next) e39.next) e69.next) e91.next))) e116 Inn.nil) e155 Inn.nil)⟩
   ·have r156 := ite_f h141 r139
    refine s_ql (.bool false) (x := aBin Tryd.prog .eql 25 (.tmp 41) (.const .nilIface) (.iface t142 x143) .nilIface) (by kernel_rfl) (aBin_nil (by kernel_rfl)) ?_
    refine s_qk (.bool false) (by kernel_rfl) ?_
    refine s_no (by kernel_rfl) ?_
    refine s_no (by kernel_rfl) ?_
    refine s_no (by kernel_rfl) ?_
    refine s_no (by kernel_rfl) ?_
    refine s_no (by kernel_rfl) ?_
    refine s_no (by kernel_rfl) ?_
    refine s_qk (.bool false) (by kernel_rfl) ?_
    refine s_qk (.bool false) (by kernel_rfl) ?_
    refine s_nil ?_
    refine k140 _ _ ?_
    refine w_ret ?_
    refine b_ret (fn := Tryd.f4) (vs := [.bool false]) (aRes_tmp (by kernel_rfl) (rfl)) ?_
    obtain rfl := Option.some.inj r156
    exact ⟨rfl, (FrS.step wf (FrS.step wf ((FrS.step wf (FrS.step wf (FrS.step wf (FrS.step wf ((FrS.refl (W := []) wf).extR e4) e19 Inn.nil) e39 Inn.nil) e69 Inn.nil) e91 Inn.nil).extR e100) e106 (hb101.fresh (ntr (ntr (ntr (ntr e4.next e19.next) e39.next) e69.next) e91.next))) e116 Inn.nil)⟩


end Go.Vd
