/- The walks of the functions (printed by a program of ours). -/
import Derived.Test.YtjfplpkmbijfpaaDoorPcc1
import Derived.Test.YtjfplpkmbijfpaaDoorDrG
import Derived.Test.YtjfplpkmbijfpaaDoorICc
set_option linter.unusedVariables false
set_option linter.unusedSimpArgs false
set_option linter.unusedSectionVars false
/-! (KCc3) -/

set_option maxRecDepth 100000
set_option maxHeartbeats 4000000
set_option linter.unusedVariables false
namespace Go.Vd
open Go.Proofs
attribute [local irreducible] wpSeq wpOrd aWp
theorem c_csr_Find {H : AH} {hd_First : Value} {fp_First : Fp} {hd_To : Value} {fp_To : Fp} {hd_Weight : Value} {fp_Weight : Fp} {First : List (Int)} {To : List (Int)} {Weight : List (Int)} {v_ : Int} {w : Int} {r : Int × Er}
  (wf : WF H) (h_First : Sq (encI .i64) 1 H hd_First First fp_First) (h_To : Sq (encI .i64) 1 H hd_To To fp_To) (h_Weight : Sq (encI .i64) 1 H hd_Weight Weight fp_Weight) (hr : z_csr_Find First To Weight v_ w = some r) :
  ACalls Tryd.prog 37 #[.agg #[hd_First, hd_To, hd_Weight], .int .i64 v_, .int .i64 w] H fun v H' => ∃ (v3 : Value) (f4 : Fp), v = .tuple #[.int .i64 r.1, v3] ∧ FrS [] H H' ∧ Ev 53 90 H' v3 r.2 f4 ∧ Inn [] H f4 := by
 refine acalls_of_body mixed Tryd.func37 rfl (Nat.le_of_ble_eq_true rfl) ?_
 unfold z_csr_Find at hr
 refine w_seqk fun K6 k6 => ?_
 refine w_reg (by kernel_rfl) ?_
 refine s_rwl wf [hd_First, hd_To, hd_Weight] (one_cons (h_First.one1) (one_cons (h_To.one1) (one_cons (h_Weight.one1) (one_nil)))) (by kernel_rfl) fun b7 H8 e9 hb10 r11 => ?_
 refine s_qk (.int .i64 0) (by kernel_rfl) ?_
 refine s_qk (.nilIface) (by kernel_rfl) ?_
 refine s_nil ?_
 refine k6 _ _ ?_
 refine w_seqk fun K13 k13 => ?_
 refine w_reg (by kernel_rfl) ?_
 refine s_ql (.agg #[hd_First, hd_To, hd_Weight]) (x := aLoad Tryd.prog 59 (.pointer (some ⟨b7, 0, none⟩)) H8) (by kernel_rfl) (r11.ld (by kernel_rfl)) ?_
 refine s_qk (.int .i64 v_) (by kernel_rfl) ?_
 have u14 := (h_First.ext e9)
 have u15 := (h_To.ext e9)
 have u16 := (h_Weight.ext e9)
 obtain ⟨y17, hy18, r19⟩ := bind_some hr
 refine s_ck 34 #[.agg #[hd_First, hd_To, hd_Weight], .int .i64 v_] (by kernel_rfl) (c_csr_Row e9.wf u14 u15 u16 hy18) ?_
 rintro _ H24 ⟨s20, f21, v22, f23, rfl, e25, m26, m27, i28, i29, d30⟩
 obtain ⟨a33, n34, c35, rfl⟩ := m26.form
 refine s_qk (.tuple #[.slice a33 n34 c35, v22]) (by kernel_rfl) ?_
 refine s_qk (.slice a33 n34 c35) (by kernel_rfl) ?_
 refine s_qk (v22) (by kernel_rfl) ?_
 refine s_qk (.slice a33 n34 c35) (by kernel_rfl) ?_
 refine s_qk (v22) (by kernel_rfl) ?_
 refine s_nil ?_
 refine k13 _ _ ?_
 refine w_seqk fun K36 k36 => ?_
 refine w_seqk fun K37 k37 => ?_
 refine w_reg (by kernel_rfl) ?_
 refine s_qk (v22) (by kernel_rfl) ?_
 rcases (m27).cases with ⟨h38, rfl⟩ | ⟨h38, t39, x40, rfl⟩
 ·have r41 := ite_t h38 r19
  refine s_qk (.bool false) (by kernel_rfl) ?_
  refine s_nil ?_
  refine k37 _ _ ?_
  refine w_cond false (by kernel_rfl) rfl (fun h => by cases h) (fun _ => ?_)
  refine w_skip ?_
  refine k36 _ _ ?_
  refine w_seqk fun K42 k42 => ?_
  refine w_seqk fun K43 k43 => ?_
  obtain ⟨o44, hx45, r46⟩ := bind_some r41
  refine w_mid (fun α H47 => Has α [(2, .int .i64 w), (8, .slice a33 n34 c35), (28, .bool o44)] ∧ FrS [] H24 H47) (fun K49 k49 => ?_) (fun α H47 hM => ?_)
  ·refine w_reg (by kernel_rfl) ?_
   refine s_qk (.int .i64 w) (by kernel_rfl) ?_
   refine s_b (w < 0) (by kernel_rfl) (fun h51 => ?_) (fun h51 => ?_)
   ·have r52 := ite_t h51 hx45
    refine s_qk (.bool true) (by kernel_rfl) ?_
    refine s_no (by kernel_rfl) ?_
    refine s_no (by kernel_rfl) ?_
    refine s_no (by kernel_rfl) ?_
    refine s_no (by kernel_rfl) ?_
    refine s_qk (.bool true) (by kernel_rfl) ?_
    refine s_nil ?_
    obtain rfl := Option.some.inj r52
    exact k49 _ _ ⟨⟨by kernel_rfl, by kernel_rfl, by kernel_rfl, trivial⟩, (FrS.refl (W := []) e25.wf)⟩
   ·have r53 := ite_f h51 hx45
    refine s_qk (.bool false) (by kernel_rfl) ?_
    refine s_qk (.int .i64 w) (by kernel_rfl) ?_
    have u54 := (r11.frS e25 Dj.nil_l)
    refine s_ql (.agg #[hd_First, hd_To, hd_Weight]) (x := aLoad Tryd.prog 59 (.pointer (some ⟨b7, 0, none⟩)) H24) (by kernel_rfl) (u54.ld (by kernel_rfl)) ?_
    have u55 := (u14.fr e25 Dj.nil_l)
    have u56 := (u15.fr e25 Dj.nil_l)
    have u57 := (u16.fr e25 Dj.nil_l)
    obtain ⟨y58, hy59, r60⟩ := bind_some r53
    refine s_ck 62 #[.agg #[hd_First, hd_To, hd_Weight]] (by kernel_rfl) (c_csr_Csr_nodes e25.wf u55 u56 u57 hy59) ?_
    rintro _ H61 ⟨rfl, e62⟩
    refine s_qk (.bool (decide (w ≥ y58))) (by kernel_rfl) ?_
    refine s_qk (.bool (decide (w ≥ y58))) (by kernel_rfl) ?_
    refine s_nil ?_
    obtain rfl := Option.some.inj r60
    exact k49 _ _ ⟨⟨by kernel_rfl, by kernel_rfl, by kernel_rfl, trivial⟩, (FrS.step e25.wf (FrS.refl (W := []) e25.wf) e62 Inn.nil)⟩
  ·obtain ⟨hh50, e48⟩ := hM
   obtain ⟨β, rfl⟩ := has_ex hh50
   clear hh50
   refine k43 _ _ ?_
   refine w_cond (o44) (by kernel_rfl) rfl (fun h63 => ?_) (fun h63 => ?_)
   ·have r64 := ite_t h63 r46
    refine w_seqk fun K65 k65 => ?_
    refine w_reg (by kernel_rfl) ?_
    refine s_qk (.iface 53 (.int .i64 7)) (by kernel_rfl) ?_
    refine s_qk (.int .i64 0) (by kernel_rfl) ?_
    refine s_qk (.iface 53 (.int .i64 7)) (by kernel_rfl) ?_
    refine s_nil ?_
    refine k65 _ _ ?_
    refine w_ret (th_ret ?_)
    refine b_ret (fn := Tryd.f37) (vs := [.int .i64 0, .iface 53 (.int .i64 7)]) (aRes_tmp (by kernel_rfl) (aRes_tmp (by kernel_rfl) (rfl))) ?_
    obtain rfl := Option.some.inj r64
    exact ⟨(.iface 53 (.int .i64 7)), [], rfl, (FrS.step wf (FrS.step wf ((FrS.refl (W := []) wf).extR e9) e25 Inn.nil) e48 Inn.nil), Ev.no, Inn.nil⟩
   ·have r66 := ite_bf h63 r46
    refine w_skip ?_
    refine k42 _ _ ?_
    refine w_seqk fun K67 k67 => ?_
    refine w_reg (by kernel_rfl) ?_
    refine s_qk (.slice a33 n34 c35) (by kernel_rfl) ?_
    refine s_qk (.int .i64 w) (by kernel_rfl) ?_
    have u68 := (m26.fr e48 Dj.nil_l)
    obtain ⟨y69, hy70, r71⟩ := bind_some r66
    refine s_ck 70 #[.slice a33 n34 c35, .int .i64 w, .func (.func 71) #[] #[]] (by kernel_rfl) (c_slices_BinarySearchFunc e48.wf u68.sq hy70) ?_
    rintro _ H72 ⟨rfl, e73⟩
    refine s_qk (.tuple #[.int .i64 y69.1, .bool y69.2]) (by kernel_rfl) ?_
    refine s_qk (.int .i64 y69.1) (by kernel_rfl) ?_
    refine s_qk (.bool y69.2) (by kernel_rfl) ?_
    refine s_qk (.int .i64 y69.1) (by kernel_rfl) ?_
    refine s_qk (.bool y69.2) (by kernel_rfl) ?_
    refine s_nil ?_
    refine k67 _ _ ?_
    refine w_seqk fun K74 k74 => ?_
    refine w_seqk fun K75 k75 => ?_
    refine w_reg (by kernel_rfl) ?_
    refine s_qk (.bool y69.2) (by kernel_rfl) ?_
    refine s_qk (.bool (!y69.2)) (by kernel_rfl) ?_
    refine s_nil ?_
    refine k75 _ _ ?_
    refine w_cond ((!y69.2)) (by kernel_rfl) rfl (fun h76 => ?_) (fun h76 => ?_)
    ·have r77 := ite_t h76 r71
     refine w_seqk fun K78 k78 => ?_
     refine w_reg (by kernel_rfl) ?_
     refine s_qk (.iface 53 (.int .i64 16)) (by kernel_rfl) ?_
     refine s_qk (.int .i64 0) (by kernel_rfl) ?_
     refine s_qk (.iface 53 (.int .i64 16)) (by kernel_rfl) ?_
     refine s_nil ?_
     refine k78 _ _ ?_
     refine w_ret (th_ret ?_)
     refine b_ret (fn := Tryd.f37) (vs := [.int .i64 0, .iface 53 (.int .i64 16)]) (aRes_tmp (by kernel_rfl) (aRes_tmp (by kernel_rfl) (rfl))) ?_
     obtain rfl := Option.some.inj r77
     exact ⟨(.iface 53 (.int .i64 16)), [], rfl, (FrS.step wf (FrS.step wf (FrS.step wf ((FrS.refl (W := []) wf).extR e9) e25 Inn.nil) e48 Inn.nil) e73 Inn.nil), Ev.no, Inn.nil⟩
    ·have r79 := ite_bf h76 r71
     refine w_skip ?_
     refine k74 _ _ ?_
     refine w_seqk fun K80 k80 => ?_
     refine w_reg (by kernel_rfl) ?_
     refine s_qk (.slice a33 n34 c35) (by kernel_rfl) ?_
     refine s_qk (.int .i64 y69.1) (by kernel_rfl) ?_
     obtain ⟨g81, r82⟩ := G_some r79
     have u83 := (u68.fr e73 Dj.nil_l)
     refine s_ql (elp (.slice a33 n34 c35) 3 y69.1.toNat 0) (x := aIndexAddr Tryd.prog 22 (.slice a33 n34 c35) (.int .i64 y69.1)) (by kernel_rfl) (u83.sq.idxb (by kernel_rfl) g81.1 g81.2) ?_
     refine s_ql (elp (.slice a33 n34 c35) 3 y69.1.toNat 2) (x := aFieldAddr Tryd.prog 51 (elp (.slice a33 n34 c35) 3 y69.1.toNat 0) 2) (by kernel_rfl) (Sq.fldq (d := 2) u83.sq g81.1 g81.2 (by kernel_rfl)) ?_
     refine s_ql (.int .i64 ((gt y17.1 y69.1).2.2)) (x := aLoad Tryd.prog 3 (elp (.slice a33 n34 c35) 3 y69.1.toNat 2) H72) (by kernel_rfl) (u83.sq.ld g81.1 g81.2 (by kernel_rfl)) ?_
     refine s_qk (.int .i64 ((gt y17.1 y69.1).2.2)) (by kernel_rfl) ?_
     refine s_qk (.nilIface) (by kernel_rfl) ?_
     refine s_nil ?_
     refine k80 _ _ ?_
     refine w_ret ?_
     refine b_ret (fn := Tryd.f37) (vs := [.int .i64 ((gt y17.1 y69.1).2.2), .nilIface]) (aRes_tmp (by kernel_rfl) (aRes_tmp (by kernel_rfl) (rfl))) ?_
     obtain rfl := Option.some.inj r82
     exact ⟨(.nilIface), [], rfl, (FrS.step wf (FrS.step wf (FrS.step wf ((FrS.refl (W := []) wf).extR e9) e25 Inn.nil) e48 Inn.nil) e73 Inn.nil), Ev.nil, Inn.nil⟩
 ·have r84 := ite_f h38 r19
  refine s_ql (.bool true) (x := aBin Tryd.prog .neq 28 (.tmp 18) (.const .nilIface) (.iface t39 x40) .nilIface) (by kernel_rfl) (aBin_nnil (by kernel_rfl)) ?_
  refine s_nil ?_
  refine k37 _ _ ?_
  refine w_cond true (by kernel_rfl) rfl (fun _ => ?_) (fun h => by cases h)
  refine w_seqk fun K85 k85 => ?_
  refine w_reg (by kernel_rfl) ?_
  refine s_qk (.iface t39 x40) (by kernel_rfl) ?_
  refine s_qk (.int .i64 0) (by kernel_rfl) ?_
  refine s_qk (.iface t39 x40) (by kernel_rfl) ?_
  refine s_nil ?_
  refine k85 _ _ ?_
  refine w_ret (th_ret ?_)
  refine b_ret (fn := Tryd.f37) (vs := [.int .i64 0, .iface t39 x40]) (aRes_tmp (by kernel_rfl) (aRes_tmp (by kernel_rfl) (rfl))) ?_
  obtain rfl := Option.some.inj r84
  exact ⟨(.iface t39 x40), f23, rfl, (FrS.step wf ((FrS.refl (W := []) wf).extR e9) e25 Inn.nil), m27, (i29.fresh e9.next)⟩

theorem c_viaductref05_DocFind {H : AH} {hd_First : Value} {fp_First : Fp} {hd_To : Value} {fp_To : Fp} {hd_Weight : Value} {fp_Weight : Fp} {First : List (Int)} {To : List (Int)} {Weight : List (Int)} {v_ : Int} {w : Int} {r : Int × Int × List (Int × Int)}
  (wf : WF H) (h_First : Sq (encI .i64) 1 H hd_First First fp_First) (h_To : Sq (encI .i64) 1 H hd_To To fp_To) (h_Weight : Sq (encI .i64) 1 H hd_Weight Weight fp_Weight) (hr : z_viaductref05_DocFind First To Weight v_ w = some r) :
  ACalls Tryd.prog 38 #[.agg #[hd_First, hd_To, hd_Weight], .int .i64 v_, .int .i64 w] H fun v H' => ∃ (s3 : Value) (f4 : Fp), v = .tuple #[.int .i64 r.1, .agg #[.int .i64 r.2.1, s3]] ∧ FrS [] H H' ∧ Ow enc_i64_i64 2 H' s3 r.2.2 f4 ∧ Inn [] H f4 := by
 refine acalls_of_body mixed Tryd.func38 rfl (Nat.le_of_ble_eq_true rfl) ?_
 unfold z_viaductref05_DocFind at hr
 refine w_seqk fun K6 k6 => ?_
 refine w_reg (by kernel_rfl) ?_
 refine s_rwl wf [hd_First, hd_To, hd_Weight] (one_cons (h_First.one1) (one_cons (h_To.one1) (one_cons (h_Weight.one1) (one_nil)))) (by kernel_rfl) fun b7 H8 e9 hb10 r11 => ?_
 refine s_qk (.int .i64 0) (by kernel_rfl) ?_
 refine s_rwk e9.wf [.int .i64 0, .slice none 0 0] (by kernel_rfl) fun b13 H14 e15 hb16 r17 => ?_
 refine s_nil ?_
 refine k6 _ _ ?_
 refine w_seqk fun K19 k19 => ?_
 refine w_reg (by kernel_rfl) ?_
 have u20 := (r11.ext e15)
 refine s_ql (.agg #[hd_First, hd_To, hd_Weight]) (x := aLoad Tryd.prog 57 (.pointer (some ⟨b7, 0, none⟩)) H14) (by kernel_rfl) (u20.ld (by kernel_rfl)) ?_
 refine s_qk (.int .i64 v_) (by kernel_rfl) ?_
 have u21 := ((h_First.ext e9).ext e15)
 have u22 := ((h_To.ext e9).ext e15)
 have u23 := ((h_Weight.ext e9).ext e15)
 obtain ⟨y24, hy25, r26⟩ := bind_some hr
 refine s_ck 35 #[.agg #[hd_First, hd_To, hd_Weight], .int .i64 v_] (by kernel_rfl) (c_viaductref05_DocRow e15.wf u21 u22 u23 hy25) ?_
 rintro _ H31 ⟨s27, f28, s29, f30, rfl, e32, m33, m34, i35, i36, d37⟩
 obtain ⟨a40, n41, c42, rfl⟩ := m33.form
 obtain ⟨a43, n44, c45, rfl⟩ := m34.form
 refine s_qk (.tuple #[.slice a40 n41 c42, .agg #[.int .i64 y24.2.1, .slice a43 n44 c45]]) (by kernel_rfl) ?_
 refine s_qk (.slice a40 n41 c42) (by kernel_rfl) ?_
 refine s_qk (.agg #[.int .i64 y24.2.1, .slice a43 n44 c45]) (by kernel_rfl) ?_
 refine s_rwk e32.wf [.int .i64 0, .slice none 0 0] (by kernel_rfl) fun b46 H47 e48 hb49 r50 => ?_
 refine s_qk (.slice a40 n41 c42) (by kernel_rfl) ?_
 have u56 := (m34.ext e48)
 obtain ⟨H52, q53, e54, r55⟩ := Row.store (P := Tryd.prog) (t := 33) (p := 0) e48.wf r50 (.agg #[.int .i64 y24.2.1, .slice a43 n44 c45]) [.int .i64 y24.2.1, .slice a43 n44 c45] (by kernel_rfl) (by kernel_rfl) (one_cons (rfl) (one_cons (u56.one1) (one_nil))) (Nat.le_of_ble_eq_true (by kernel_rfl)) [.int .i64 y24.2.1, .slice a43 n44 c45] (by kernel_rfl)
 refine s_ek (undef) (by kernel_rfl) (map_ok q53) ?_
 refine s_nil ?_
 refine k19 _ _ ?_
 refine w_seqk fun K57 k57 => ?_
 refine w_seqk fun K58 k58 => ?_
 obtain ⟨o59, hx60, r61⟩ := bind_some r26
 refine w_mid (fun α H62 => Has α [(2, .int .i64 w), (7, .pointer (some ⟨b13, 0, none⟩)), (8, .slice a40 n41 c42), (9, .pointer (some ⟨b46, 0, none⟩)), (26, .bool o59)] ∧ FrS [] H52 H62) (fun K64 k64 => ?_) (fun α H62 hM => ?_)
 ·refine w_reg (by kernel_rfl) ?_
  refine s_ql (.agg #[.int .i64 y24.2.1, .slice a43 n44 c45]) (x := aLoad Tryd.prog 33 (.pointer (some ⟨b46, 0, none⟩)) H52) (by kernel_rfl) (r55.ld (by kernel_rfl)) ?_
  have u66 := (u56.fr e54 (hb49.djn m34.lt))
  obtain ⟨y67, hy68, r69⟩ := bind_some hx60
  refine s_ck 53 #[.agg #[.int .i64 y24.2.1, .slice a43 n44 c45]] (by kernel_rfl) (c_viaductref01_Err_Bad e54.wf u66.sq hy68) ?_
  rintro _ H70 ⟨rfl, e71⟩
  by_cases h72 : y67 = true
  ·have r73 := ite_t h72 r69
   rw [h72]
   refine s_qk (.bool false) (by kernel_rfl) ?_
   refine s_qk (.bool false) (by kernel_rfl) ?_
   refine s_no (by kernel_rfl) ?_
   refine s_no (by kernel_rfl) ?_
   refine s_no (by kernel_rfl) ?_
   refine s_no (by kernel_rfl) ?_
   refine s_qk (.bool false) (by kernel_rfl) ?_
   refine s_nil ?_
   obtain rfl := Option.some.inj r73
   exact k64 _ _ ⟨⟨by kernel_rfl, by kernel_rfl, by kernel_rfl, by kernel_rfl, by kernel_rfl, trivial⟩, (FrS.step e54.wf (FrS.refl (W := []) e54.wf) e71 Inn.nil)⟩
  ·have r75 := ite_f h72 r69
   rw [nb h72]
   refine s_qk (.bool true) (by kernel_rfl) ?_
   refine s_qk (.bool true) (by kernel_rfl) ?_
   have u77 := ((((u20.frS e32 Dj.nil_l).ext e48).frS e54 (hb49.djn (r11.ltF.le (ntr e15.next e32.next)))).frS e71 Dj.nil_l)
   refine s_ql (.agg #[hd_First, hd_To, hd_Weight]) (x := aLoad Tryd.prog 57 (.pointer (some ⟨b7, 0, none⟩)) H70) (by kernel_rfl) (u77.ld (by kernel_rfl)) ?_
   refine s_qk (.int .i64 w) (by kernel_rfl) ?_
   have u78 := ((((u21.fr e32 Dj.nil_l).ext e48).fr e54 (hb49.djn (h_First.lt.le (ntr (ntr e9.next e15.next) e32.next)))).fr e71 Dj.nil_l)
   have u79 := ((((u22.fr e32 Dj.nil_l).ext e48).fr e54 (hb49.djn (h_To.lt.le (ntr (ntr e9.next e15.next) e32.next)))).fr e71 Dj.nil_l)
   have u80 := ((((u23.fr e32 Dj.nil_l).ext e48).fr e54 (hb49.djn (h_Weight.lt.le (ntr (ntr e9.next e15.next) e32.next)))).fr e71 Dj.nil_l)
   obtain ⟨y81, hy82, r83⟩ := bind_some r75
   refine s_ck 68 #[.agg #[hd_First, hd_To, hd_Weight], .int .i64 w] (by kernel_rfl) (c_viaductref05_Node e71.wf u78 u79 u80 hy82) ?_
   rintro _ H84 ⟨rfl, e85⟩
   refine s_qk (.bool (!y81)) (by kernel_rfl) ?_
   refine s_qk (.bool (!y81)) (by kernel_rfl) ?_
   refine s_nil ?_
   obtain rfl := Option.some.inj r83
   exact k64 _ _ ⟨⟨by kernel_rfl, by kernel_rfl, by kernel_rfl, by kernel_rfl, by kernel_rfl, trivial⟩, (FrS.step e54.wf (FrS.step e54.wf (FrS.refl (W := []) e54.wf) e71 Inn.nil) e85 Inn.nil)⟩
 ·obtain ⟨hh65, e63⟩ := hM
  obtain ⟨β, rfl⟩ := has_ex hh65
  clear hh65
  refine k58 _ _ ?_
  obtain ⟨o86, hx87, r88⟩ := bind_some r61
  refine w_mid (fun α H89 => ∃ (s93 : Value) (f94 : Fp), Has α [(2, .int .i64 w), (7, .pointer (some ⟨b13, 0, none⟩)), (8, .slice a40 n41 c42), (9, .pointer (some ⟨b46, 0, none⟩))] ∧ FrS [b46] H62 H89 ∧ Ow enc_i64_i64 2 H89 s93 o86.2 f94 ∧ Row H89 b46 [.int .i64 o86.1, s93] ∧ Inn f30 H62 f94) (fun K98 k98 => ?_) (fun α H89 hM => ?_)
  ·refine w_cond (o59) (by kernel_rfl) rfl (fun h100 => ?_) (fun h100 => ?_)
   ·have r101 := ite_t h100 hx87
    refine w_reg (by kernel_rfl) ?_
    obtain ⟨y102, hy103, r104⟩ := bind_some r101
    refine s_ck 26 #[.int .i64 7] (by kernel_rfl) (c_viaductref01_E e63.wf hy103) ?_
    rintro _ H105 ⟨rfl, e106⟩
    have u111 := ((r55.frS e63 Dj.nil_l).frS e106 Dj.nil_l)
    obtain ⟨H107, q108, e109, r110⟩ := Row.store (P := Tryd.prog) (t := 33) (p := 0) e106.wf u111 (.agg #[.int .i64 y102, .slice none 0 0]) [.int .i64 y102, .slice none 0 0] (by kernel_rfl) (by kernel_rfl) (one_cons (rfl) (one_cons (rfl) (one_nil))) (Nat.le_of_ble_eq_true (by kernel_rfl)) [.int .i64 y102, .slice none 0 0] (by kernel_rfl)
    refine s_ek (undef) (by kernel_rfl) (map_ok q108) ?_
    refine s_nil ?_
    obtain rfl := Option.some.inj r104
    exact k98 _ _ ⟨(.slice none 0 0), [], ⟨by kernel_rfl, by kernel_rfl, by kernel_rfl, by kernel_rfl, trivial⟩, (FrS.step e63.wf (FrS.step e63.wf (FrS.refl (W := [b46]) e63.wf) e106 Inn.nil) e109 Inn.refl'), (Ow.nil (by decide)), r110, Inn.nil⟩
   ·have r112 := ite_bf h100 hx87
    refine w_skip ?_
    have u113 := ((u56.fr e54 (hb49.djn m34.lt)).fr e63 Dj.nil_l)
    have u114 := (r55.frS e63 Dj.nil_l)
    obtain rfl := Option.some.inj r112
    exact k98 _ _ ⟨(.slice a43 n44 c45), f30, ⟨by kernel_rfl, by kernel_rfl, by kernel_rfl, by kernel_rfl, trivial⟩, (FrS.refl (W := [b46]) e63.wf), u113, u114, Inn.refl'⟩
  ·obtain ⟨s93, f94, hh99, e90, m92, m96, i97⟩ := hM
   obtain ⟨β, rfl⟩ := has_ex hh99
   clear hh99
   obtain ⟨a115, n116, c117, rfl⟩ := m92.form
   refine k57 _ _ ?_
   refine w_seqk fun K118 k118 => ?_
   refine w_seqk fun K119 k119 => ?_
   refine w_reg (by kernel_rfl) ?_
   refine s_ql (.agg #[.int .i64 o86.1, .slice a115 n116 c117]) (x := aLoad Tryd.prog 33 (.pointer (some ⟨b46, 0, none⟩)) H89) (by kernel_rfl) (m96.ld (by kernel_rfl)) ?_
   obtain ⟨y120, hy121, r122⟩ := bind_some r88
   refine s_ck 53 #[.agg #[.int .i64 o86.1, .slice a115 n116 c117]] (by kernel_rfl) (c_viaductref01_Err_Bad e90.wf m92.sq hy121) ?_
   rintro _ H123 ⟨rfl, e124⟩
   refine s_nil ?_
   refine k119 _ _ ?_
   refine w_cond (y120) (by kernel_rfl) rfl (fun h125 => ?_) (fun h125 => ?_)
   ·have r126 := ite_t h125 r122
    refine w_seqk fun K127 k127 => ?_
    refine w_draw [0, 1, 2] (by kernel_rfl) ?_
    have u128 := (m96.frS e124 Dj.nil_l)
    refine d_ql (.agg #[.int .i64 o86.1, .slice a115 n116 c117]) (x := aLoad Tryd.prog 33 (.pointer (some ⟨b46, 0, none⟩)) H123) (by kernel_rfl) (u128.ld (by kernel_rfl)) ?_
    refine d_qk (.int .i64 0) (by kernel_rfl) ?_
    have u133 := ((((((r17.frS e32 Dj.nil_l).ext e48).frS e54 (hb49.djn (r17.ltF.le e32.next))).frS e63 Dj.nil_l).frS e90 (hb49.djn (r17.ltF.le e32.next))).frS e124 Dj.nil_l)
    have u134 := (m92.fr e124 Dj.nil_l)
    obtain ⟨H129, q130, e131, r132⟩ := Row.store (P := Tryd.prog) (t := 33) (p := 0) e124.wf u133 (.agg #[.int .i64 o86.1, .slice a115 n116 c117]) [.int .i64 o86.1, .slice a115 n116 c117] (by kernel_rfl) (by kernel_rfl) (one_cons (rfl) (one_cons (u134.one1) (one_nil))) (Nat.le_of_ble_eq_true (by kernel_rfl)) [.int .i64 o86.1, .slice a115 n116 c117] (by kernel_rfl)
    refine d_ek (undef) (by kernel_rfl) (map_ok q130) (st_nil) ?_
    refine d_nil ?_
    refine k127 _ _ ?_
    refine w_ret (th_ret ?_)
    refine b_ret (fn := Tryd.f38) (vs := [.int .i64 0, .agg #[.int .i64 o86.1, .slice a115 n116 c117]]) (aRes_tmp (by kernel_rfl) (aRes_cell (Eq.trans (b := aLoad Tryd.prog 33 (.pointer (some ⟨b13, 0, none⟩)) H129) (by kernel_rfl) (r132.ld (by kernel_rfl))) (rfl))) ?_
    have u135 := (u134.fr e131 (Dj.symm (i97.dj (i36.djn r17.ltF) (r17.ltF.le (ntr (ntr (ntr e32.next e48.next) e54.next) e63.next)))))
    obtain rfl := Option.some.inj r126
    exact ⟨(.slice a115 n116 c117), f94, rfl, (FrS.step wf (FrS.step wf (FrS.step wf (FrS.step wf (FrS.step wf ((FrS.step wf (((FrS.refl (W := []) wf).extR e9).extR e15) e32 Inn.nil).extR e48) e54 (hb49.fresh (ntr (ntr e9.next e15.next) e32.next))) e63 Inn.nil) e90 (hb49.fresh (ntr (ntr e9.next e15.next) e32.next))) e124 Inn.nil) e131 (hb16.fresh e9.next)), u135, (Inn.trans (i36.fresh (ntr e9.next e15.next)) (ntr (ntr (ntr (ntr (ntr e9.next e15.next) e32.next) e48.next) e54.next) e63.next) i97)⟩
   ·have r136 := ite_bf h125 r122
    refine w_skip ?_
    refine k118 _ _ ?_
    refine w_seqk fun K137 k137 => ?_
    refine w_seqk fun K138 k138 => ?_
    refine w_reg (by kernel_rfl) ?_
    refine s_qk (.slice a40 n41 c42) (by kernel_rfl) ?_
    have u139 := (((((m33.ext e48).fr e54 (hb49.djn m33.lt)).fr e63 Dj.nil_l).fr e90 (hb49.djn m33.lt)).fr e124 Dj.nil_l)
    refine s_ql (.int .i64 (y24.1.length : Int)) (x := aLen Tryd.prog 22 (.slice a40 n41 c42) H123) (by kernel_rfl) (u139.sq.lenb (by kernel_rfl)) ?_
    refine s_qk (.int .i64 0) (by kernel_rfl) ?_
    refine s_nil ?_
    refine k138 _ _ ?_
    obtain ⟨z143, hx141, r142⟩ := bind_some r136
    refine w_mid (fun α H144 => ∃ o140, z143 = Sum.inr o140 ∧ Has α [(7, .pointer (some ⟨b13, 0, none⟩))] ∧ FrS [] H123 H144) (fun K146 k146 => ?_) (fun α H144 hM => ?_)
    ·refine w_block ?_
     obtain ⟨n148, hn149⟩ := loopO_iff.1 hx141
     refine w_loopn (fun n α H150 => ∃ (i0 : Int), iterO (fun zz_ => z_viaductref05_DocFind_l0 w y24 o86 zz_) n i0 = some z143 ∧ Has α [(2, .int .i64 w), (7, .pointer (some ⟨b13, 0, none⟩)), (9, .pointer (some ⟨b46, 0, none⟩)), (31, .slice a40 n41 c42), (32, .int .i64 (y24.1.length : Int)), (33, .int .i64 i0)] ∧ FrS [] H123 H150) n148 ⟨0, hn149, ⟨by kernel_rfl, by kernel_rfl, by kernel_rfl, by kernel_rfl, by kernel_rfl, by kernel_rfl, trivial⟩, (FrS.refl (W := []) e124.wf)⟩ ?_
     rintro n148 α H150 ⟨i0, hi153, hh152, e151⟩ K158 k158
     obtain ⟨n154, z155, rfl, hz156, hn157⟩ := iter_succ hi153
     obtain ⟨β, rfl⟩ := has_ex hh152
     clear hh152
     replace hz156 : z_viaductref05_DocFind_l0 w y24 o86 i0 = some z155 := hz156
     unfold z_viaductref05_DocFind_l0 at hz156
     refine w_seqk fun K159 k159 => ?_
     refine w_reg (by kernel_rfl) ?_
     refine s_qk (.bool (decide (i0 < (y24.1.length : Int)))) (by kernel_rfl) ?_
     refine s_nil ?_
     refine k159 _ _ ?_
     refine w_seqk fun K160 k160 => ?_
     refine w_condp (i0 < (y24.1.length : Int)) (by kernel_rfl) rfl (fun h161 => ?_) (fun h161 => ?_)
     ·have r162 := ite_t h161 hz156
      refine w_skip ?_
      refine k160 _ _ ?_
      refine w_seqk fun K163 k163 => ?_
      refine w_block ?_
      refine w_seqk fun K164 k164 => ?_
      refine w_reg (by kernel_rfl) ?_
      obtain ⟨g165, r166⟩ := G_some r162
      have u167 := (u139.fr e151 Dj.nil_l)
      refine s_ql (elp (.slice a40 n41 c42) 3 i0.toNat 0) (x := aIndexAddr Tryd.prog 22 (.slice a40 n41 c42) (.int .i64 i0)) (by kernel_rfl) (u167.sq.idxb (by kernel_rfl) g165 h161) ?_
      refine s_ql (.agg #[.int .i64 ((gt y24.1 i0).1), .int .i64 ((gt y24.1 i0).2.1), .int .i64 ((gt y24.1 i0).2.2)]) (x := aLoad Tryd.prog 51 (elp (.slice a40 n41 c42) 3 i0.toNat 0) H150) (by kernel_rfl) (u167.sq.ld g165 h161 (by kernel_rfl)) ?_
      refine s_rwk e151.wf [.int .i64 0, .int .i64 0, .int .i64 0] (by kernel_rfl) fun b168 H169 e170 hb171 r172 => ?_
      obtain ⟨H174, q175, e176, r177⟩ := Row.store (P := Tryd.prog) (t := 51) (p := 0) e170.wf r172 (.agg #[.int .i64 ((gt y24.1 i0).1), .int .i64 ((gt y24.1 i0).2.1), .int .i64 ((gt y24.1 i0).2.2)]) [.int .i64 ((gt y24.1 i0).1), .int .i64 ((gt y24.1 i0).2.1), .int .i64 ((gt y24.1 i0).2.2)] (by kernel_rfl) (by kernel_rfl) (one_cons (rfl) (one_cons (rfl) (one_cons (rfl) (one_nil)))) (Nat.le_of_ble_eq_true (by kernel_rfl)) [.int .i64 ((gt y24.1 i0).1), .int .i64 ((gt y24.1 i0).2.1), .int .i64 ((gt y24.1 i0).2.2)] (by kernel_rfl)
      refine s_ek (undef) (by kernel_rfl) (map_ok q175) ?_
      refine s_nil ?_
      refine k164 _ _ ?_
      refine w_seqk fun K178 k178 => ?_
      refine w_reg (by kernel_rfl) ?_
      refine s_qk (.pointer (some ⟨b168, 1, none⟩)) (by kernel_rfl) ?_
      refine s_ql (.int .i64 ((gt y24.1 i0).2.1)) (x := aLoad Tryd.prog 3 (.pointer (some ⟨b168, 1, none⟩)) H174) (by kernel_rfl) (r177.ld (by kernel_rfl)) ?_
      refine s_qk (.int .i64 w) (by kernel_rfl) ?_
      refine s_qk (.bool (decide (((gt y24.1 i0).2.1) = w))) (by kernel_rfl) ?_
      refine s_nil ?_
      refine k178 _ _ ?_
      refine w_condp (((gt y24.1 i0).2.1) = w) (by kernel_rfl) rfl (fun h179 => ?_) (fun h179 => ?_)
      ·have r180 := ite_t h179 r166
       refine w_seqk fun K181 k181 => ?_
       refine w_draw [0, 1, 2, 3, 4] (by kernel_rfl) ?_
       refine d_qk (.pointer (some ⟨b168, 2, none⟩)) (by kernel_rfl) ?_
       refine d_ql (.int .i64 ((gt y24.1 i0).2.2)) (x := aLoad Tryd.prog 3 (.pointer (some ⟨b168, 2, none⟩)) H174) (by kernel_rfl) (r177.ld (by kernel_rfl)) ?_
       have u182 := ((((m96.frS e124 Dj.nil_l).frS e151 Dj.nil_l).ext e170).frS e176 (hb171.djn (r50.ltF.le (ntr (ntr (ntr (ntr e54.next e63.next) e90.next) e124.next) e151.next))))
       refine d_ql (.agg #[.int .i64 o86.1, .slice a115 n116 c117]) (x := aLoad Tryd.prog 33 (.pointer (some ⟨b46, 0, none⟩)) H174) (by kernel_rfl) (u182.ld (by kernel_rfl)) ?_
       refine d_qk (.int .i64 ((gt y24.1 i0).2.2)) (by kernel_rfl) ?_
       have u187 := (((((((((r17.frS e32 Dj.nil_l).ext e48).frS e54 (hb49.djn (r17.ltF.le e32.next))).frS e63 Dj.nil_l).frS e90 (hb49.djn (r17.ltF.le e32.next))).frS e124 Dj.nil_l).frS e151 Dj.nil_l).ext e170).frS e176 (hb171.djn (r17.ltF.le (ntr (ntr (ntr (ntr (ntr (ntr e32.next e48.next) e54.next) e63.next) e90.next) e124.next) e151.next))))
       have u188 := ((((m92.fr e124 Dj.nil_l).fr e151 Dj.nil_l).ext e170).fr e176 (hb171.djn (m92.lt.le (ntr e124.next e151.next))))
       obtain ⟨H183, q184, e185, r186⟩ := Row.store (P := Tryd.prog) (t := 33) (p := 0) e176.wf u187 (.agg #[.int .i64 o86.1, .slice a115 n116 c117]) [.int .i64 o86.1, .slice a115 n116 c117] (by kernel_rfl) (by kernel_rfl) (one_cons (rfl) (one_cons (u188.one1) (one_nil))) (Nat.le_of_ble_eq_true (by kernel_rfl)) [.int .i64 o86.1, .slice a115 n116 c117] (by kernel_rfl)
       refine d_ek (undef) (by kernel_rfl) (map_ok q184) (st_nil) ?_
       refine d_nil ?_
       refine k181 _ _ ?_
       refine w_ret (bl_ret (th_ret (th_ret (bl_ret (th_ret (th_ret ?_))))))
       obtain ⟨v189, hv190, hz191⟩ := map_some r180
       subst hz191
       obtain rfl := it_inr hn157
       have hq192 := elim_inl r142
       rw [hq192] at hv190
       refine b_ret (fn := Tryd.f38) (vs := [.int .i64 ((gt y24.1 i0).2.2), .agg #[.int .i64 o86.1, .slice a115 n116 c117]]) (aRes_tmp (by kernel_rfl) (aRes_cell (Eq.trans (b := aLoad Tryd.prog 33 (.pointer (some ⟨b13, 0, none⟩)) H183) (by kernel_rfl) (r186.ld (by kernel_rfl))) (rfl))) ?_
       have u193 := (u188.fr e185 (Dj.symm (i97.dj (i36.djn r17.ltF) (r17.ltF.le (ntr (ntr (ntr e32.next e48.next) e54.next) e63.next)))))
       obtain rfl := Option.some.inj hv190
       exact ⟨(.slice a115 n116 c117), f94, rfl, (FrS.step wf (FrS.step wf ((FrS.step wf (FrS.step wf (FrS.step wf (FrS.step wf (FrS.step wf ((FrS.step wf (((FrS.refl (W := []) wf).extR e9).extR e15) e32 Inn.nil).extR e48) e54 (hb49.fresh (ntr (ntr e9.next e15.next) e32.next))) e63 Inn.nil) e90 (hb49.fresh (ntr (ntr e9.next e15.next) e32.next))) e124 Inn.nil) e151 Inn.nil).extR e170) e176 (hb171.fresh (ntr (ntr (ntr (ntr (ntr (ntr (ntr (ntr e9.next e15.next) e32.next) e48.next) e54.next) e63.next) e90.next) e124.next) e151.next))) e185 (hb16.fresh e9.next)), u193, (Inn.trans (i36.fresh (ntr e9.next e15.next)) (ntr (ntr (ntr (ntr (ntr e9.next e15.next) e32.next) e48.next) e54.next) e63.next) i97)⟩
      ·have r194 := ite_f h179 r166
       refine w_skip ?_
       refine k163 _ _ ?_
       refine w_reg (by kernel_rfl) ?_
       obtain ⟨g195, r196⟩ := G_some r194
       refine s_w ((i0 + 1)) (k := .i64) (x := (i0 + 1)) (by kernel_rfl) (wrap64 (by have := g195; omega)) ?_
       refine s_qk (.int .i64 (i0 + 1)) (by kernel_rfl) ?_
       refine s_nil ?_
       obtain rfl := Option.some.inj r196
       exact k158 n154 _ _ (Nat.lt_succ_self _) ⟨(i0 + 1), hn157, ⟨by kernel_rfl, by kernel_rfl, by kernel_rfl, by kernel_rfl, by kernel_rfl, by kernel_rfl, trivial⟩, (FrS.step e124.wf ((FrS.step e124.wf (FrS.refl (W := []) e124.wf) e151 Inn.nil).extR e170) e176 (hb171.fresh e151.next))⟩
     ·have r197 := ite_f h161 hz156
      refine w_exit (th_exit (th_exit (bl_eq ?_)))
      obtain rfl := Option.some.inj r197
      obtain rfl := it_inr hn157
      exact k146 _ _ ⟨_, rfl, ⟨by kernel_rfl, trivial⟩, (FrS.step e124.wf (FrS.refl (W := []) e124.wf) e151 Inn.nil)⟩
    ·obtain ⟨o140, rfl, hh147, e145⟩ := hM
     have r198 := elim_inr r142
     obtain ⟨β, rfl⟩ := has_ex hh147
     clear hh147
     refine k137 _ _ ?_
     refine w_seqk fun K199 k199 => ?_
     refine w_reg (by kernel_rfl) ?_
     obtain ⟨y200, hy201, r202⟩ := bind_some r198
     refine s_ck 26 #[.int .i64 16] (by kernel_rfl) (c_viaductref01_E e145.wf hy201) ?_
     rintro _ H203 ⟨rfl, e204⟩
     refine s_qk (.int .i64 0) (by kernel_rfl) ?_
     have u209 := ((((((((r17.frS e32 Dj.nil_l).ext e48).frS e54 (hb49.djn (r17.ltF.le e32.next))).frS e63 Dj.nil_l).frS e90 (hb49.djn (r17.ltF.le e32.next))).frS e124 Dj.nil_l).frS e145 Dj.nil_l).frS e204 Dj.nil_l)
     obtain ⟨H205, q206, e207, r208⟩ := Row.store (P := Tryd.prog) (t := 33) (p := 0) e204.wf u209 (.agg #[.int .i64 y200, .slice none 0 0]) [.int .i64 y200, .slice none 0 0] (by kernel_rfl) (by kernel_rfl) (one_cons (rfl) (one_cons (rfl) (one_nil))) (Nat.le_of_ble_eq_true (by kernel_rfl)) [.int .i64 y200, .slice none 0 0] (by kernel_rfl)
     refine s_ek (undef) (by kernel_rfl) (map_ok q206) ?_
     refine s_nil ?_
     refine k199 _ _ ?_
     refine w_ret ?_
     refine b_ret (fn := Tryd.f38) (vs := [.int .i64 0, .agg #[.int .i64 y200, .slice none 0 0]]) (aRes_tmp (by kernel_rfl) (aRes_cell (Eq.trans (b := aLoad Tryd.prog 33 (.pointer (some ⟨b13, 0, none⟩)) H205) (by kernel_rfl) (r208.ld (by kernel_rfl))) (rfl))) ?_
     obtain rfl := Option.some.inj r202
     exact ⟨(.slice none 0 0), [], rfl, (FrS.step wf (FrS.step wf (FrS.step wf (FrS.step wf (FrS.step wf (FrS.step wf (FrS.step wf ((FrS.step wf (((FrS.refl (W := []) wf).extR e9).extR e15) e32 Inn.nil).extR e48) e54 (hb49.fresh (ntr (ntr e9.next e15.next) e32.next))) e63 Inn.nil) e90 (hb49.fresh (ntr (ntr e9.next e15.next) e32.next))) e124 Inn.nil) e145 Inn.nil) e204 Inn.nil) e207 (hb16.fresh e9.next)), (Ow.nil (by decide)), Inn.nil⟩

theorem c_viaductlaw05_CsrChecks {H : AH} {hd_First : Value} {fp_First : Fp} {hd_To : Value} {fp_To : Fp} {hd_Weight : Value} {fp_Weight : Fp} {First : List (Int)} {To : List (Int)} {Weight : List (Int)} {v_ : Int} {w : Int} {r : Bool}
  (wf : WF H) (h_First : Sq (encI .i64) 1 H hd_First First fp_First) (h_To : Sq (encI .i64) 1 H hd_To To fp_To) (h_Weight : Sq (encI .i64) 1 H hd_Weight Weight fp_Weight) (hr : z_viaductlaw05_CsrChecks First To Weight v_ w = some r) :
  ACalls Tryd.prog 7 #[.agg #[hd_First, hd_To, hd_Weight], .int .i64 v_, .int .i64 w] H fun v H' => v = .bool r ∧ FrS [] H H' := by
 refine acalls_of_body mixed Tryd.func7 rfl (Nat.le_of_ble_eq_true rfl) ?_
 unfold z_viaductlaw05_CsrChecks at hr
 refine w_seqk fun K1 k1 => ?_
 refine w_reg (by kernel_rfl) ?_
 refine s_rwl wf [hd_First, hd_To, hd_Weight] (one_cons (h_First.one1) (one_cons (h_To.one1) (one_cons (h_Weight.one1) (one_nil)))) (by kernel_rfl) fun b2 H3 e4 hb5 r6 => ?_
 refine s_qk (.bool false) (by kernel_rfl) ?_
 refine s_nil ?_
 refine k1 _ _ ?_
 refine w_seqk fun K8 k8 => ?_
 refine w_seqk fun K9 k9 => ?_
 refine w_reg (by kernel_rfl) ?_
 refine s_ck 28 #[] (by kernel_rfl) c_viaductlaw05_awake ?_
 rintro _ _ ⟨rfl, rfl⟩
 refine s_qk (.bool false) (by kernel_rfl) ?_
 refine s_nil ?_
 refine k9 _ _ ?_
 refine w_cond false (by kernel_rfl) rfl (fun h => by cases h) (fun _ => ?_)
 refine w_skip ?_
 refine k8 _ _ ?_
 refine w_seqk fun K10 k10 => ?_
 refine w_seqk fun K11 k11 => ?_
 refine w_draw [0, 3, 1, 2, 4, 5, 6] (by kernel_rfl) ?_
 refine d_ql (.agg #[hd_First, hd_To, hd_Weight]) (x := aLoad Tryd.prog 57 (.pointer (some ⟨b2, 0, none⟩)) H3) (by kernel_rfl) (r6.ld (by kernel_rfl)) ?_
 refine d_fl (.agg #[hd_First, hd_To, hd_Weight]) (x := aLoad Tryd.prog 57 (.pointer (some ⟨b2, 0, none⟩)) H3) (by kernel_rfl) (r6.ld (by kernel_rfl)) ?_
 have u12 := (h_First.ext e4)
 have u13 := (h_To.ext e4)
 have u14 := (h_Weight.ext e4)
 obtain ⟨y15, hy16, r17⟩ := bind_some hr
 refine d_ck 30 #[.agg #[hd_First, hd_To, hd_Weight]] (by kernel_rfl) (c_viaductlaw05_to e4.wf u12 u13 u14 hy16) ?_
 rintro _ H24 ⟨s18, f19, s20, f21, s22, f23, rfl, e25, m26, m27, m28, i29, i30, i31, d32, d33, d34⟩
 obtain ⟨a38, n39, c40, rfl⟩ := m26.form
 obtain ⟨a41, n42, c43, rfl⟩ := m27.form
 obtain ⟨a44, n45, c46, rfl⟩ := m28.form
 have u47 := (r6.frS e25 Dj.nil_l)
 refine ⟨st_ql (y := aLoad Tryd.prog 57 (.pointer (some ⟨b2, 0, none⟩)) H24) (by kernel_rfl) (u47.ld (by kernel_rfl)) (st_nil), ?_⟩
 obtain ⟨y48, hy49, r50⟩ := bind_some r17
 refine d_ck 29 #[.agg #[.slice a38 n39 c40, .slice a41 n42 c43, .slice a44 n45 c46]] (by kernel_rfl) (c_csr_Check e25.wf m26.sq m27.sq m28.sq hy49) ?_
 rintro v51 H53 ⟨_, f52, rfl, e54, m55, i56⟩
 have u58 := (u47.frS e54 Dj.nil_l)
 refine ⟨st_ql (y := aLoad Tryd.prog 57 (.pointer (some ⟨b2, 0, none⟩)) H53) (by kernel_rfl) (u58.ld (by kernel_rfl)) (st_nil), ?_⟩
 have u59 := ((u12.fr e25 Dj.nil_l).fr e54 Dj.nil_l)
 have u60 := ((u13.fr e25 Dj.nil_l).fr e54 Dj.nil_l)
 have u61 := ((u14.fr e25 Dj.nil_l).fr e54 Dj.nil_l)
 obtain ⟨y62, hy63, r64⟩ := bind_some r50
 refine d_ck 31 #[.agg #[hd_First, hd_To, hd_Weight]] (by kernel_rfl) (c_viaductref05_DocCheck e54.wf u59 u60 u61 hy63) ?_
 rintro _ H67 ⟨s65, f66, rfl, e68, m69, i70⟩
 obtain ⟨a72, n73, c74, rfl⟩ := m69.form
 refine ⟨st_anc (by kernel_rfl) (st_nil), ?_⟩
 have u75 := (m55.fr e68 Dj.nil_l)
 obtain ⟨y76, hy77, r78⟩ := bind_some r64
 refine d_ck 16 #[v51, .agg #[.int .i64 y62.1, .slice a72 n73 c74]] (by kernel_rfl) (c_viaductseen_Same e68.wf u75 m69.sq hy77) ?_
 rintro _ H79 ⟨rfl, e80⟩
 refine ⟨st_anc (by kernel_rfl) (st_nil), ?_⟩
 refine d_qk (.bool (!y76)) (by kernel_rfl) ?_
 refine d_nil ?_
 refine k11 _ _ ?_
 refine w_cond ((!y76)) (by kernel_rfl) rfl (fun h81 => ?_) (fun h81 => ?_)
 ·have r82 := ite_t h81 r78
  refine w_seqk fun K83 k83 => ?_
  refine w_reg (by kernel_rfl) ?_
  refine s_qk (.bool false) (by kernel_rfl) ?_
  refine s_nil ?_
  refine k83 _ _ ?_
  refine w_ret (th_ret ?_)
  refine b_ret (fn := Tryd.f7) (vs := [.bool false]) (aRes_tmp (by kernel_rfl) (rfl)) ?_
  obtain rfl := Option.some.inj r82
  exact ⟨rfl, (FrS.step wf (FrS.step wf (FrS.step wf (FrS.step wf ((FrS.refl (W := []) wf).extR e4) e25 Inn.nil) e54 Inn.nil) e68 Inn.nil) e80 Inn.nil)⟩
 ·have r84 := ite_bf h81 r78
  refine w_skip ?_
  refine k10 _ _ ?_
  refine w_seqk fun K85 k85 => ?_
  refine w_reg (by kernel_rfl) ?_
  have u86 := ((u58.frS e68 Dj.nil_l).frS e80 Dj.nil_l)
  refine s_ql (.agg #[hd_First, hd_To, hd_Weight]) (x := aLoad Tryd.prog 57 (.pointer (some ⟨b2, 0, none⟩)) H79) (by kernel_rfl) (u86.ld (by kernel_rfl)) ?_
  have u87 := ((u59.fr e68 Dj.nil_l).fr e80 Dj.nil_l)
  have u88 := ((u60.fr e68 Dj.nil_l).fr e80 Dj.nil_l)
  have u89 := ((u61.fr e68 Dj.nil_l).fr e80 Dj.nil_l)
  obtain ⟨y90, hy91, r92⟩ := bind_some r84
  refine s_ck 30 #[.agg #[hd_First, hd_To, hd_Weight]] (by kernel_rfl) (c_viaductlaw05_to e80.wf u87 u88 u89 hy91) ?_
  rintro _ H99 ⟨s93, f94, s95, f96, s97, f98, rfl, e100, m101, m102, m103, i104, i105, i106, d107, d108, d109⟩
  obtain ⟨a113, n114, c115, rfl⟩ := m101.form
  obtain ⟨a116, n117, c118, rfl⟩ := m102.form
  obtain ⟨a119, n120, c121, rfl⟩ := m103.form
  obtain ⟨y122, hy123, r124⟩ := bind_some r92
  refine s_ck 32 #[.agg #[.slice a113 n114 c115, .slice a116 n117 c118, .slice a119 n120 c121]] (by kernel_rfl) (c_csr_Graph e100.wf m101.sq m102.sq m103.sq hy123) ?_
  rintro _ H129 ⟨s125, f126, v127, f128, rfl, e130, m131, m132, i133, i134, d135⟩
  obtain ⟨a138, n139, c140, rfl⟩ := m131.form
  refine s_qk (.tuple #[.agg #[.int .i64 y122.1, .slice a138 n139 c140], v127]) (by kernel_rfl) ?_
  refine s_qk (.agg #[.int .i64 y122.1, .slice a138 n139 c140]) (by kernel_rfl) ?_
  refine s_qk (v127) (by kernel_rfl) ?_
  refine s_rwk e130.wf [.int .i64 0, .slice none 0 0] (by kernel_rfl) fun b141 H142 e143 hb144 r145 => ?_
  have u151 := (m131.ext e143)
  obtain ⟨H147, q148, e149, r150⟩ := Row.store (P := Tryd.prog) (t := 24) (p := 0) e143.wf r145 (.agg #[.int .i64 y122.1, .slice a138 n139 c140]) [.int .i64 y122.1, .slice a138 n139 c140] (by kernel_rfl) (by kernel_rfl) (one_cons (rfl) (one_cons (u151.one1) (one_nil))) (Nat.le_of_ble_eq_true (by kernel_rfl)) [.int .i64 y122.1, .slice a138 n139 c140] (by kernel_rfl)
  refine s_ek (undef) (by kernel_rfl) (map_ok q148) ?_
  refine s_qk (v127) (by kernel_rfl) ?_
  refine s_nil ?_
  refine k85 _ _ ?_
  refine w_seqk fun K152 k152 => ?_
  refine w_reg (by kernel_rfl) ?_
  have u153 := ((((u86.frS e100 Dj.nil_l).frS e130 Dj.nil_l).ext e143).frS e149 (hb144.djn (r6.ltF.le (ntr (ntr (ntr (ntr (ntr e25.next e54.next) e68.next) e80.next) e100.next) e130.next))))
  refine s_ql (.agg #[hd_First, hd_To, hd_Weight]) (x := aLoad Tryd.prog 57 (.pointer (some ⟨b2, 0, none⟩)) H147) (by kernel_rfl) (u153.ld (by kernel_rfl)) ?_
  have u154 := ((((u87.fr e100 Dj.nil_l).fr e130 Dj.nil_l).ext e143).fr e149 (hb144.djn (h_First.lt.le (ntr (ntr (ntr (ntr (ntr (ntr e4.next e25.next) e54.next) e68.next) e80.next) e100.next) e130.next))))
  have u155 := ((((u88.fr e100 Dj.nil_l).fr e130 Dj.nil_l).ext e143).fr e149 (hb144.djn (h_To.lt.le (ntr (ntr (ntr (ntr (ntr (ntr e4.next e25.next) e54.next) e68.next) e80.next) e100.next) e130.next))))
  have u156 := ((((u89.fr e100 Dj.nil_l).fr e130 Dj.nil_l).ext e143).fr e149 (hb144.djn (h_Weight.lt.le (ntr (ntr (ntr (ntr (ntr (ntr e4.next e25.next) e54.next) e68.next) e80.next) e100.next) e130.next))))
  obtain ⟨y157, hy158, r159⟩ := bind_some r124
  refine s_ck 33 #[.agg #[hd_First, hd_To, hd_Weight]] (by kernel_rfl) (c_viaductref05_DocGraph e149.wf u154 u155 u156 hy158) ?_
  rintro _ H164 ⟨s160, f161, s162, f163, rfl, e165, m166, m167, i168, i169, d170⟩
  obtain ⟨a173, n174, c175, rfl⟩ := m166.form
  obtain ⟨a176, n177, c178, rfl⟩ := m167.form
  refine s_qk (.tuple #[.agg #[.int .i64 y157.1, .slice a173 n174 c175], .agg #[.int .i64 y157.2.2.1, .slice a176 n177 c178]]) (by kernel_rfl) ?_
  refine s_qk (.agg #[.int .i64 y157.1, .slice a173 n174 c175]) (by kernel_rfl) ?_
  refine s_qk (.agg #[.int .i64 y157.2.2.1, .slice a176 n177 c178]) (by kernel_rfl) ?_
  refine s_rwk e165.wf [.int .i64 0, .slice none 0 0] (by kernel_rfl) fun b179 H180 e181 hb182 r183 => ?_
  refine s_rwk e181.wf [.int .i64 0, .slice none 0 0] (by kernel_rfl) fun b185 H186 e187 hb188 r189 => ?_
  have u195 := (r183.ext e187)
  have u196 := ((m166.ext e181).ext e187)
  obtain ⟨H191, q192, e193, r194⟩ := Row.store (P := Tryd.prog) (t := 24) (p := 0) e187.wf u195 (.agg #[.int .i64 y157.1, .slice a173 n174 c175]) [.int .i64 y157.1, .slice a173 n174 c175] (by kernel_rfl) (by kernel_rfl) (one_cons (rfl) (one_cons (u196.one1) (one_nil))) (Nat.le_of_ble_eq_true (by kernel_rfl)) [.int .i64 y157.1, .slice a173 n174 c175] (by kernel_rfl)
  refine s_ek (undef) (by kernel_rfl) (map_ok q192) ?_
  have u201 := (r189.frS e193 (Dj.symm (hb188.djn r183.ltF)))
  have u202 := (((m167.ext e181).ext e187).fr e193 (hb182.djn m167.lt))
  obtain ⟨H197, q198, e199, r200⟩ := Row.store (P := Tryd.prog) (t := 33) (p := 0) e193.wf u201 (.agg #[.int .i64 y157.2.2.1, .slice a176 n177 c178]) [.int .i64 y157.2.2.1, .slice a176 n177 c178] (by kernel_rfl) (by kernel_rfl) (one_cons (rfl) (one_cons (u202.one1) (one_nil))) (Nat.le_of_ble_eq_true (by kernel_rfl)) [.int .i64 y157.2.2.1, .slice a176 n177 c178] (by kernel_rfl)
  refine s_ek (undef) (by kernel_rfl) (map_ok q198) ?_
  refine s_nil ?_
  refine k152 _ _ ?_
  refine w_seqk fun K203 k203 => ?_
  refine w_seqk fun K204 k204 => ?_
  obtain ⟨o205, hx206, r207⟩ := bind_some r159
  refine w_mid (fun α H208 => Has α [(1, .int .i64 v_), (2, .int .i64 w), (3, .pointer (some ⟨b2, 0, none⟩)), (10, .pointer (some ⟨b185, 0, none⟩)), (44, .bool o205)] ∧ FrS [] H197 H208) (fun K210 k210 => ?_) (fun α H208 hM => ?_)
  ·refine w_reg (by kernel_rfl) ?_
   have u212 := (((((r150.frS e165 Dj.nil_l).ext e181).ext e187).frS e193 (hb182.djn (r145.ltF.le (ntr e149.next e165.next)))).frS e199 (hb188.djn (r145.ltF.le (ntr (ntr e149.next e165.next) e181.next))))
   refine s_ql (.agg #[.int .i64 y122.1, .slice a138 n139 c140]) (x := aLoad Tryd.prog 24 (.pointer (some ⟨b141, 0, none⟩)) H197) (by kernel_rfl) (u212.ld (by kernel_rfl)) ?_
   have u213 := (r194.frS e199 (hb188.djn r183.ltF))
   refine s_ql (.agg #[.int .i64 y157.1, .slice a173 n174 c175]) (x := aLoad Tryd.prog 24 (.pointer (some ⟨b179, 0, none⟩)) H197) (by kernel_rfl) (u213.ld (by kernel_rfl)) ?_
   have u214 := ((((((u151.fr e149 (hb144.djn m131.lt)).fr e165 Dj.nil_l).ext e181).ext e187).fr e193 (hb182.djn (m131.lt.le (ntr (ntr e143.next e149.next) e165.next)))).fr e199 (hb188.djn (m131.lt.le (ntr (ntr (ntr e143.next e149.next) e165.next) e181.next))))
   have u215 := ((u196.fr e193 (hb182.djn m166.lt)).fr e199 (hb188.djn (m166.lt.le e181.next)))
   obtain ⟨y216, hy217, r218⟩ := bind_some hx206
   refine s_ck 15 #[.agg #[.int .i64 y122.1, .slice a138 n139 c140], .agg #[.int .i64 y157.1, .slice a173 n174 c175]] (by kernel_rfl) (c_viaductref03_Same e199.wf u214.sq u215.sq hy217) ?_
   rintro _ H219 ⟨rfl, e220⟩
   by_cases h221 : y216 = true
   ·have r222 := ite_t h221 r218
    rw [h221]
    refine s_qk (.bool false) (by kernel_rfl) ?_
    refine s_qk (.bool false) (by kernel_rfl) ?_
    refine s_qk (v127) (by kernel_rfl) ?_
    have u224 := (r200.frS e220 Dj.nil_l)
    refine s_ql (.agg #[.int .i64 y157.2.2.1, .slice a176 n177 c178]) (x := aLoad Tryd.prog 33 (.pointer (some ⟨b185, 0, none⟩)) H219) (by kernel_rfl) (u224.ld (by kernel_rfl)) ?_
    have u225 := ((((((((m132.ext e143).fr e149 (hb144.djn m132.lt)).fr e165 Dj.nil_l).ext e181).ext e187).fr e193 (hb182.djn (m132.lt.le (ntr (ntr e143.next e149.next) e165.next)))).fr e199 (hb188.djn (m132.lt.le (ntr (ntr (ntr e143.next e149.next) e165.next) e181.next)))).fr e220 Dj.nil_l)
    have u226 := ((u202.fr e199 (hb188.djn (m167.lt.le e181.next))).fr e220 Dj.nil_l)
    obtain ⟨y227, hy228, r229⟩ := bind_some r222
    refine s_ck 16 #[v127, .agg #[.int .i64 y157.2.2.1, .slice a176 n177 c178]] (by kernel_rfl) (c_viaductseen_Same e220.wf u225 u226.sq hy228) ?_
    rintro _ H230 ⟨rfl, e231⟩
    refine s_qk (.bool (!y227)) (by kernel_rfl) ?_
    refine s_qk (.bool (!y227)) (by kernel_rfl) ?_
    refine s_nil ?_
    obtain rfl := Option.some.inj r229
    exact k210 _ _ ⟨⟨by kernel_rfl, by kernel_rfl, by kernel_rfl, by kernel_rfl, by kernel_rfl, trivial⟩, (FrS.step e199.wf (FrS.step e199.wf (FrS.refl (W := []) e199.wf) e220 Inn.nil) e231 Inn.nil)⟩
   ·have r232 := ite_f h221 r218
    rw [nb h221]
    refine s_qk (.bool true) (by kernel_rfl) ?_
    refine s_qk (.bool true) (by kernel_rfl) ?_
    refine s_no (by kernel_rfl) ?_
    refine s_no (by kernel_rfl) ?_
    refine s_no (by kernel_rfl) ?_
    refine s_no (by kernel_rfl) ?_
    refine s_qk (.bool true) (by kernel_rfl) ?_
    refine s_nil ?_
    obtain rfl := Option.some.inj r232
    exact k210 _ _ ⟨⟨by kernel_rfl, by kernel_rfl, by kernel_rfl, by kernel_rfl, by kernel_rfl, trivial⟩, (FrS.step e199.wf (FrS.refl (W := []) e199.wf) e220 Inn.nil)⟩
  ·obtain ⟨hh211, e209⟩ := hM
   obtain ⟨β, rfl⟩ := has_ex hh211
   clear hh211
   refine k204 _ _ ?_
   refine w_cond (o205) (by kernel_rfl) rfl (fun h234 => ?_) (fun h234 => ?_)
   ·have r235 := ite_t h234 r207
    refine w_seqk fun K236 k236 => ?_
    refine w_reg (by kernel_rfl) ?_
    refine s_qk (.bool false) (by kernel_rfl) ?_
    refine s_nil ?_
    refine k236 _ _ ?_
    refine w_ret (th_ret ?_)
    refine b_ret (fn := Tryd.f7) (vs := [.bool false]) (aRes_tmp (by kernel_rfl) (rfl)) ?_
    obtain rfl := Option.some.inj r235
    exact ⟨rfl, (FrS.step wf (FrS.step wf (FrS.step wf (((FrS.step wf (FrS.step wf ((FrS.step wf (FrS.step wf (FrS.step wf (FrS.step wf (FrS.step wf (FrS.step wf ((FrS.refl (W := []) wf).extR e4) e25 Inn.nil) e54 Inn.nil) e68 Inn.nil) e80 Inn.nil) e100 Inn.nil) e130 Inn.nil).extR e143) e149 (hb144.fresh (ntr (ntr (ntr (ntr (ntr (ntr e4.next e25.next) e54.next) e68.next) e80.next) e100.next) e130.next))) e165 Inn.nil).extR e181).extR e187) e193 (hb182.fresh (ntr (ntr (ntr (ntr (ntr (ntr (ntr (ntr (ntr e4.next e25.next) e54.next) e68.next) e80.next) e100.next) e130.next) e143.next) e149.next) e165.next))) e199 (hb188.fresh (ntr (ntr (ntr (ntr (ntr (ntr (ntr (ntr (ntr (ntr e4.next e25.next) e54.next) e68.next) e80.next) e100.next) e130.next) e143.next) e149.next) e165.next) e181.next))) e209 Inn.nil)⟩
   ·have r237 := ite_bf h234 r207
    refine w_skip ?_
    refine k203 _ _ ?_
    refine w_seqk fun K238 k238 => ?_
    refine w_reg (by kernel_rfl) ?_
    have u239 := ((((((u153.frS e165 Dj.nil_l).ext e181).ext e187).frS e193 (hb182.djn (r6.ltF.le (ntr (ntr (ntr (ntr (ntr (ntr (ntr (ntr e25.next e54.next) e68.next) e80.next) e100.next) e130.next) e143.next) e149.next) e165.next)))).frS e199 (hb188.djn (r6.ltF.le (ntr (ntr (ntr (ntr (ntr (ntr (ntr (ntr (ntr e25.next e54.next) e68.next) e80.next) e100.next) e130.next) e143.next) e149.next) e165.next) e181.next)))).frS e209 Dj.nil_l)
    refine s_ql (.agg #[hd_First, hd_To, hd_Weight]) (x := aLoad Tryd.prog 57 (.pointer (some ⟨b2, 0, none⟩)) H208) (by kernel_rfl) (u239.ld (by kernel_rfl)) ?_
    have u240 := ((((((u154.fr e165 Dj.nil_l).ext e181).ext e187).fr e193 (hb182.djn (h_First.lt.le (ntr (ntr (ntr (ntr (ntr (ntr (ntr (ntr (ntr e4.next e25.next) e54.next) e68.next) e80.next) e100.next) e130.next) e143.next) e149.next) e165.next)))).fr e199 (hb188.djn (h_First.lt.le (ntr (ntr (ntr (ntr (ntr (ntr (ntr (ntr (ntr (ntr e4.next e25.next) e54.next) e68.next) e80.next) e100.next) e130.next) e143.next) e149.next) e165.next) e181.next)))).fr e209 Dj.nil_l)
    have u241 := ((((((u155.fr e165 Dj.nil_l).ext e181).ext e187).fr e193 (hb182.djn (h_To.lt.le (ntr (ntr (ntr (ntr (ntr (ntr (ntr (ntr (ntr e4.next e25.next) e54.next) e68.next) e80.next) e100.next) e130.next) e143.next) e149.next) e165.next)))).fr e199 (hb188.djn (h_To.lt.le (ntr (ntr (ntr (ntr (ntr (ntr (ntr (ntr (ntr (ntr e4.next e25.next) e54.next) e68.next) e80.next) e100.next) e130.next) e143.next) e149.next) e165.next) e181.next)))).fr e209 Dj.nil_l)
    have u242 := ((((((u156.fr e165 Dj.nil_l).ext e181).ext e187).fr e193 (hb182.djn (h_Weight.lt.le (ntr (ntr (ntr (ntr (ntr (ntr (ntr (ntr (ntr e4.next e25.next) e54.next) e68.next) e80.next) e100.next) e130.next) e143.next) e149.next) e165.next)))).fr e199 (hb188.djn (h_Weight.lt.le (ntr (ntr (ntr (ntr (ntr (ntr (ntr (ntr (ntr (ntr e4.next e25.next) e54.next) e68.next) e80.next) e100.next) e130.next) e143.next) e149.next) e165.next) e181.next)))).fr e209 Dj.nil_l)
    obtain ⟨y243, hy244, r245⟩ := bind_some r237
    refine s_ck 30 #[.agg #[hd_First, hd_To, hd_Weight]] (by kernel_rfl) (c_viaductlaw05_to e209.wf u240 u241 u242 hy244) ?_
    rintro _ H252 ⟨s246, f247, s248, f249, s250, f251, rfl, e253, m254, m255, m256, i257, i258, i259, d260, d261, d262⟩
    obtain ⟨a266, n267, c268, rfl⟩ := m254.form
    obtain ⟨a269, n270, c271, rfl⟩ := m255.form
    obtain ⟨a272, n273, c274, rfl⟩ := m256.form
    refine s_qk (.int .i64 v_) (by kernel_rfl) ?_
    obtain ⟨y275, hy276, r277⟩ := bind_some r245
    refine s_ck 34 #[.agg #[.slice a266 n267 c268, .slice a269 n270 c271, .slice a272 n273 c274], .int .i64 v_] (by kernel_rfl) (c_csr_Row e253.wf m254.sq m255.sq m256.sq hy276) ?_
    rintro _ H282 ⟨s278, f279, v280, f281, rfl, e283, m284, m285, i286, i287, d288⟩
    obtain ⟨a291, n292, c293, rfl⟩ := m284.form
    refine s_qk (.tuple #[.slice a291 n292 c293, v280]) (by kernel_rfl) ?_
    refine s_qk (.slice a291 n292 c293) (by kernel_rfl) ?_
    refine s_qk (v280) (by kernel_rfl) ?_
    refine s_qk (.slice a291 n292 c293) (by kernel_rfl) ?_
    refine s_qk (v280) (by kernel_rfl) ?_
    refine s_nil ?_
    refine k238 _ _ ?_
    refine w_seqk fun K294 k294 => ?_
    refine w_reg (by kernel_rfl) ?_
    have u295 := ((u239.frS e253 Dj.nil_l).frS e283 Dj.nil_l)
    refine s_ql (.agg #[hd_First, hd_To, hd_Weight]) (x := aLoad Tryd.prog 57 (.pointer (some ⟨b2, 0, none⟩)) H282) (by kernel_rfl) (u295.ld (by kernel_rfl)) ?_
    refine s_qk (.int .i64 v_) (by kernel_rfl) ?_
    have u296 := ((u240.fr e253 Dj.nil_l).fr e283 Dj.nil_l)
    have u297 := ((u241.fr e253 Dj.nil_l).fr e283 Dj.nil_l)
    have u298 := ((u242.fr e253 Dj.nil_l).fr e283 Dj.nil_l)
    obtain ⟨y299, hy300, r301⟩ := bind_some r277
    refine s_ck 35 #[.agg #[hd_First, hd_To, hd_Weight], .int .i64 v_] (by kernel_rfl) (c_viaductref05_DocRow e283.wf u296 u297 u298 hy300) ?_
    rintro _ H306 ⟨s302, f303, s304, f305, rfl, e307, m308, m309, i310, i311, d312⟩
    obtain ⟨a315, n316, c317, rfl⟩ := m308.form
    obtain ⟨a318, n319, c320, rfl⟩ := m309.form
    refine s_qk (.tuple #[.slice a315 n316 c317, .agg #[.int .i64 y299.2.1, .slice a318 n319 c320]]) (by kernel_rfl) ?_
    refine s_qk (.slice a315 n316 c317) (by kernel_rfl) ?_
    refine s_qk (.agg #[.int .i64 y299.2.1, .slice a318 n319 c320]) (by kernel_rfl) ?_
    refine s_qk (.slice a315 n316 c317) (by kernel_rfl) ?_
    have u325 := ((((r200.frS e209 Dj.nil_l).frS e253 Dj.nil_l).frS e283 Dj.nil_l).frS e307 Dj.nil_l)
    obtain ⟨H321, q322, e323, r324⟩ := Row.store (P := Tryd.prog) (t := 33) (p := 0) e307.wf u325 (.agg #[.int .i64 y299.2.1, .slice a318 n319 c320]) [.int .i64 y299.2.1, .slice a318 n319 c320] (by kernel_rfl) (by kernel_rfl) (one_cons (rfl) (one_cons (m309.one1) (one_nil))) (Nat.le_of_ble_eq_true (by kernel_rfl)) [.int .i64 y299.2.1, .slice a318 n319 c320] (by kernel_rfl)
    refine s_ek (undef) (by kernel_rfl) (map_ok q322) ?_
    refine s_nil ?_
    refine k294 _ _ ?_
    refine w_seqk fun K326 k326 => ?_
    refine w_seqk fun K327 k327 => ?_
    obtain ⟨o328, hx329, r330⟩ := bind_some r301
    refine w_mid (fun α H331 => Has α [(1, .int .i64 v_), (2, .int .i64 w), (3, .pointer (some ⟨b2, 0, none⟩)), (10, .pointer (some ⟨b185, 0, none⟩)), (67, .bool o328)] ∧ FrS [] H321 H331) (fun K333 k333 => ?_) (fun α H331 hM => ?_)
    ·refine w_reg (by kernel_rfl) ?_
     refine s_qk (.slice a291 n292 c293) (by kernel_rfl) ?_
     refine s_qk (.slice a315 n316 c317) (by kernel_rfl) ?_
     have u335 := ((m284.fr e307 Dj.nil_l).fr e323 (Dj.symm (i286.djn (r189.ltF.le (ntr (ntr (ntr e193.next e199.next) e209.next) e253.next)))))
     have u336 := (m308.fr e323 (Dj.symm (i310.djn (r189.ltF.le (ntr (ntr (ntr (ntr e193.next e199.next) e209.next) e253.next) e283.next)))))
     obtain ⟨y337, hy338, r339⟩ := bind_some hx329
     refine s_ck 36 #[.slice a291 n292 c293, .slice a315 n316 c317] (by kernel_rfl) (c_viaductref03_SameArcs e323.wf u335.sq u336.sq hy338) ?_
     rintro _ _ ⟨rfl, rfl⟩
     by_cases h342 : y337 = true
     ·have r343 := ite_t h342 r339
      rw [h342]
      refine s_qk (.bool false) (by kernel_rfl) ?_
      refine s_qk (.bool false) (by kernel_rfl) ?_
      refine s_qk (v280) (by kernel_rfl) ?_
      refine s_ql (.agg #[.int .i64 y299.2.1, .slice a318 n319 c320]) (x := aLoad Tryd.prog 33 (.pointer (some ⟨b185, 0, none⟩)) H321) (by kernel_rfl) (r324.ld (by kernel_rfl)) ?_
      have u345 := ((m285.fr e307 Dj.nil_l).fr e323 (Dj.symm (i287.djn (r189.ltF.le (ntr (ntr (ntr e193.next e199.next) e209.next) e253.next)))))
      have u346 := (m309.fr e323 (Dj.symm (i311.djn (r189.ltF.le (ntr (ntr (ntr (ntr e193.next e199.next) e209.next) e253.next) e283.next)))))
      obtain ⟨y347, hy348, r349⟩ := bind_some r343
      refine s_ck 16 #[v280, .agg #[.int .i64 y299.2.1, .slice a318 n319 c320]] (by kernel_rfl) (c_viaductseen_Same e323.wf u345 u346.sq hy348) ?_
      rintro _ H350 ⟨rfl, e351⟩
      refine s_qk (.bool (!y347)) (by kernel_rfl) ?_
      refine s_qk (.bool (!y347)) (by kernel_rfl) ?_
      refine s_nil ?_
      obtain rfl := Option.some.inj r349
      exact k333 _ _ ⟨⟨by kernel_rfl, by kernel_rfl, by kernel_rfl, by kernel_rfl, by kernel_rfl, trivial⟩, (FrS.step e323.wf (FrS.refl (W := []) e323.wf) e351 Inn.nil)⟩
     ·have r352 := ite_f h342 r339
      rw [nb h342]
      refine s_qk (.bool true) (by kernel_rfl) ?_
      refine s_qk (.bool true) (by kernel_rfl) ?_
      refine s_no (by kernel_rfl) ?_
      refine s_no (by kernel_rfl) ?_
      refine s_no (by kernel_rfl) ?_
      refine s_no (by kernel_rfl) ?_
      refine s_qk (.bool true) (by kernel_rfl) ?_
      refine s_nil ?_
      obtain rfl := Option.some.inj r352
      exact k333 _ _ ⟨⟨by kernel_rfl, by kernel_rfl, by kernel_rfl, by kernel_rfl, by kernel_rfl, trivial⟩, (FrS.refl (W := []) e323.wf)⟩
    ·obtain ⟨hh334, e332⟩ := hM
     obtain ⟨β, rfl⟩ := has_ex hh334
     clear hh334
     refine k327 _ _ ?_
     refine w_cond (o328) (by kernel_rfl) rfl (fun h354 => ?_) (fun h354 => ?_)
     ·have r355 := ite_t h354 r330
      refine w_seqk fun K356 k356 => ?_
      refine w_reg (by kernel_rfl) ?_
      refine s_qk (.bool false) (by kernel_rfl) ?_
      refine s_nil ?_
      refine k356 _ _ ?_
      refine w_ret (th_ret ?_)
      refine b_ret (fn := Tryd.f7) (vs := [.bool false]) (aRes_tmp (by kernel_rfl) (rfl)) ?_
      obtain rfl := Option.some.inj r355
      exact ⟨rfl, (FrS.step wf (FrS.step wf (FrS.step wf (FrS.step wf (FrS.step wf (FrS.step wf (FrS.step wf (FrS.step wf (((FrS.step wf (FrS.step wf ((FrS.step wf (FrS.step wf (FrS.step wf (FrS.step wf (FrS.step wf (FrS.step wf ((FrS.refl (W := []) wf).extR e4) e25 Inn.nil) e54 Inn.nil) e68 Inn.nil) e80 Inn.nil) e100 Inn.nil) e130 Inn.nil).extR e143) e149 (hb144.fresh (ntr (ntr (ntr (ntr (ntr (ntr e4.next e25.next) e54.next) e68.next) e80.next) e100.next) e130.next))) e165 Inn.nil).extR e181).extR e187) e193 (hb182.fresh (ntr (ntr (ntr (ntr (ntr (ntr (ntr (ntr (ntr e4.next e25.next) e54.next) e68.next) e80.next) e100.next) e130.next) e143.next) e149.next) e165.next))) e199 (hb188.fresh (ntr (ntr (ntr (ntr (ntr (ntr (ntr (ntr (ntr (ntr e4.next e25.next) e54.next) e68.next) e80.next) e100.next) e130.next) e143.next) e149.next) e165.next) e181.next))) e209 Inn.nil) e253 Inn.nil) e283 Inn.nil) e307 Inn.nil) e323 (hb188.fresh (ntr (ntr (ntr (ntr (ntr (ntr (ntr (ntr (ntr (ntr e4.next e25.next) e54.next) e68.next) e80.next) e100.next) e130.next) e143.next) e149.next) e165.next) e181.next))) e332 Inn.nil)⟩
     ·have r357 := ite_bf h354 r330
      refine w_skip ?_
      refine k326 _ _ ?_
      refine w_seqk fun K358 k358 => ?_
      refine w_reg (by kernel_rfl) ?_
      have u359 := (((u295.frS e307 Dj.nil_l).frS e323 (hb188.djn (r6.ltF.le (ntr (ntr (ntr (ntr (ntr (ntr (ntr (ntr (ntr e25.next e54.next) e68.next) e80.next) e100.next) e130.next) e143.next) e149.next) e165.next) e181.next)))).frS e332 Dj.nil_l)
      refine s_ql (.agg #[hd_First, hd_To, hd_Weight]) (x := aLoad Tryd.prog 57 (.pointer (some ⟨b2, 0, none⟩)) H331) (by kernel_rfl) (u359.ld (by kernel_rfl)) ?_
      have u360 := (((u296.fr e307 Dj.nil_l).fr e323 (hb188.djn (h_First.lt.le (ntr (ntr (ntr (ntr (ntr (ntr (ntr (ntr (ntr (ntr e4.next e25.next) e54.next) e68.next) e80.next) e100.next) e130.next) e143.next) e149.next) e165.next) e181.next)))).fr e332 Dj.nil_l)
      have u361 := (((u297.fr e307 Dj.nil_l).fr e323 (hb188.djn (h_To.lt.le (ntr (ntr (ntr (ntr (ntr (ntr (ntr (ntr (ntr (ntr e4.next e25.next) e54.next) e68.next) e80.next) e100.next) e130.next) e143.next) e149.next) e165.next) e181.next)))).fr e332 Dj.nil_l)
      have u362 := (((u298.fr e307 Dj.nil_l).fr e323 (hb188.djn (h_Weight.lt.le (ntr (ntr (ntr (ntr (ntr (ntr (ntr (ntr (ntr (ntr e4.next e25.next) e54.next) e68.next) e80.next) e100.next) e130.next) e143.next) e149.next) e165.next) e181.next)))).fr e332 Dj.nil_l)
      obtain ⟨y363, hy364, r365⟩ := bind_some r357
      refine s_ck 30 #[.agg #[hd_First, hd_To, hd_Weight]] (by kernel_rfl) (c_viaductlaw05_to e332.wf u360 u361 u362 hy364) ?_
      rintro _ H372 ⟨s366, f367, s368, f369, s370, f371, rfl, e373, m374, m375, m376, i377, i378, i379, d380, d381, d382⟩
      obtain ⟨a386, n387, c388, rfl⟩ := m374.form
      obtain ⟨a389, n390, c391, rfl⟩ := m375.form
      obtain ⟨a392, n393, c394, rfl⟩ := m376.form
      refine s_qk (.int .i64 v_) (by kernel_rfl) ?_
      refine s_qk (.int .i64 w) (by kernel_rfl) ?_
      obtain ⟨y395, hy396, r397⟩ := bind_some r365
      refine s_ck 37 #[.agg #[.slice a386 n387 c388, .slice a389 n390 c391, .slice a392 n393 c394], .int .i64 v_, .int .i64 w] (by kernel_rfl) (c_csr_Find e373.wf m374.sq m375.sq m376.sq hy396) ?_
      rintro _ H400 ⟨v398, f399, rfl, e401, m402, i403⟩
      refine s_qk (.tuple #[.int .i64 y395.1, v398]) (by kernel_rfl) ?_
      refine s_qk (.int .i64 y395.1) (by kernel_rfl) ?_
      refine s_qk (v398) (by kernel_rfl) ?_
      refine s_qk (.int .i64 y395.1) (by kernel_rfl) ?_
      refine s_qk (v398) (by kernel_rfl) ?_
      refine s_nil ?_
      refine k358 _ _ ?_
      refine w_seqk fun K405 k405 => ?_
      refine w_reg (by kernel_rfl) ?_
      have u406 := ((u359.frS e373 Dj.nil_l).frS e401 Dj.nil_l)
      refine s_ql (.agg #[hd_First, hd_To, hd_Weight]) (x := aLoad Tryd.prog 57 (.pointer (some ⟨b2, 0, none⟩)) H400) (by kernel_rfl) (u406.ld (by kernel_rfl)) ?_
      refine s_qk (.int .i64 v_) (by kernel_rfl) ?_
      refine s_qk (.int .i64 w) (by kernel_rfl) ?_
      have u407 := ((u360.fr e373 Dj.nil_l).fr e401 Dj.nil_l)
      have u408 := ((u361.fr e373 Dj.nil_l).fr e401 Dj.nil_l)
      have u409 := ((u362.fr e373 Dj.nil_l).fr e401 Dj.nil_l)
      obtain ⟨y410, hy411, r412⟩ := bind_some r397
      refine s_ck 38 #[.agg #[hd_First, hd_To, hd_Weight], .int .i64 v_, .int .i64 w] (by kernel_rfl) (c_viaductref05_DocFind e401.wf u407 u408 u409 hy411) ?_
      rintro _ H415 ⟨s413, f414, rfl, e416, m417, i418⟩
      obtain ⟨a420, n421, c422, rfl⟩ := m417.form
      refine s_qk (.tuple #[.int .i64 y410.1, .agg #[.int .i64 y410.2.1, .slice a420 n421 c422]]) (by kernel_rfl) ?_
      refine s_qk (.int .i64 y410.1) (by kernel_rfl) ?_
      refine s_qk (.agg #[.int .i64 y410.2.1, .slice a420 n421 c422]) (by kernel_rfl) ?_
      refine s_qk (.int .i64 y410.1) (by kernel_rfl) ?_
      have u427 := ((((r324.frS e332 Dj.nil_l).frS e373 Dj.nil_l).frS e401 Dj.nil_l).frS e416 Dj.nil_l)
      obtain ⟨H423, q424, e425, r426⟩ := Row.store (P := Tryd.prog) (t := 33) (p := 0) e416.wf u427 (.agg #[.int .i64 y410.2.1, .slice a420 n421 c422]) [.int .i64 y410.2.1, .slice a420 n421 c422] (by kernel_rfl) (by kernel_rfl) (one_cons (rfl) (one_cons (m417.one1) (one_nil))) (Nat.le_of_ble_eq_true (by kernel_rfl)) [.int .i64 y410.2.1, .slice a420 n421 c422] (by kernel_rfl)
      refine s_ek (undef) (by kernel_rfl) (map_ok q424) ?_
      refine s_nil ?_
      refine k405 _ _ ?_
      refine w_seqk fun K428 k428 => ?_
      refine w_reg (by kernel_rfl) ?_
      refine s_qk (.int .i64 y395.1) (by kernel_rfl) ?_
      refine s_qk (.int .i64 y410.1) (by kernel_rfl) ?_
      refine s_b (y395.1 = y410.1) (by kernel_rfl) (fun h429 => ?_) (fun h429 => ?_)
      ·have r430 := ite_t h429 r412
       refine s_qk (.bool true) (by kernel_rfl) ?_
       refine s_qk (v398) (by kernel_rfl) ?_
       refine s_ql (.agg #[.int .i64 y410.2.1, .slice a420 n421 c422]) (x := aLoad Tryd.prog 33 (.pointer (some ⟨b185, 0, none⟩)) H423) (by kernel_rfl) (r426.ld (by kernel_rfl)) ?_
       have u431 := ((m402.fr e416 Dj.nil_l).fr e425 (Dj.symm (i403.djn (r189.ltF.le (ntr (ntr (ntr (ntr (ntr (ntr (ntr (ntr e193.next e199.next) e209.next) e253.next) e283.next) e307.next) e323.next) e332.next) e373.next)))))
       have u432 := (m417.fr e425 (Dj.symm (i418.djn (r189.ltF.le (ntr (ntr (ntr (ntr (ntr (ntr (ntr (ntr (ntr e193.next e199.next) e209.next) e253.next) e283.next) e307.next) e323.next) e332.next) e373.next) e401.next)))))
       obtain ⟨y433, hy434, r435⟩ := bind_some r430
       refine s_ck 16 #[v398, .agg #[.int .i64 y410.2.1, .slice a420 n421 c422]] (by kernel_rfl) (c_viaductseen_Same e425.wf u431 u432.sq hy434) ?_
       rintro _ H436 ⟨rfl, e437⟩
       refine s_qk (.bool y433) (by kernel_rfl) ?_
       refine s_qk (.bool y433) (by kernel_rfl) ?_
       refine s_nil ?_
       refine k428 _ _ ?_
       refine w_ret ?_
       refine b_ret (fn := Tryd.f7) (vs := [.bool y433]) (aRes_tmp (by kernel_rfl) (rfl)) ?_
       obtain rfl := Option.some.inj r435
       exact ⟨rfl, (FrS.step wf (FrS.step wf (FrS.step wf (FrS.step wf (FrS.step wf (FrS.step wf (FrS.step wf (FrS.step wf (FrS.step wf (FrS.step wf (FrS.step wf (FrS.step wf (FrS.step wf (((FrS.step wf (FrS.step wf ((FrS.step wf (FrS.step wf (FrS.step wf (FrS.step wf (FrS.step wf (FrS.step wf ((FrS.refl (W := []) wf).extR e4) e25 Inn.nil) e54 Inn.nil) e68 Inn.nil) e80 Inn.nil) e100 Inn.nil) e130 Inn.nil).extR e143) e149 (hb144.fresh (ntr (ntr (ntr (ntr (ntr (ntr e4.next e25.next) e54.next) e68.next) e80.next) e100.next) e130.next))) e165 Inn.nil).extR e181).extR e187) e193 (hb182.fresh (ntr (ntr (ntr (ntr (ntr (ntr (ntr (ntr (ntr e4.next e25.next) e54.next) e68.next) e80.next) e100.next) e130.next) e143.next) e149.next) e165.next))) e199 (hb188.fresh (ntr (ntr (ntr (ntr (ntr (ntr (ntr (ntr (ntr (ntr e4.next e25.next) e54.next) e68.next) e80.next) e100.next) e130.next) e143.next) e149.next) e165.next) e181.next))) e209 Inn.nil) e253 Inn.nil) e283 Inn.nil) e307 Inn.nil) e323 (hb188.fresh (ntr (ntr (ntr (ntr (ntr (ntr (ntr (ntr (ntr (ntr e4.next e25.next) e54.next) e68.next) e80.next) e100.next) e130.next) e143.next) e149.next) e165.next) e181.next))) e332 Inn.nil) e373 Inn.nil) e401 Inn.nil) e416 Inn.nil) e425 (hb188.fresh (ntr (ntr (ntr (ntr (ntr (ntr (ntr (ntr (ntr (ntr e4.next e25.next) e54.next) e68.next) e80.next) e100.next) e130.next) e143.next) e149.next) e165.next) e181.next))) e437 Inn.nil)⟩
      ·have r438 := ite_f h429 r412
       refine s_qk (.bool false) (by kernel_rfl) ?_
       refine s_no (by kernel_rfl) ?_
       refine s_no (by kernel_rfl) ?_
       refine s_no (by kernel_rfl) ?_
       refine s_qk (.bool false) (by kernel_rfl) ?_
       refine s_qk (.bool false) (by kernel_rfl) ?_
       refine s_nil ?_
       refine k428 _ _ ?_
       refine w_ret ?_
       refine b_ret (fn := Tryd.f7) (vs := [.bool false]) (aRes_tmp (by kernel_rfl) (rfl)) ?_
       obtain rfl := Option.some.inj r438
       exact ⟨rfl, (FrS.step wf (FrS.step wf (FrS.step wf (FrS.step wf (FrS.step wf (FrS.step wf (FrS.step wf (FrS.step wf (FrS.step wf (FrS.step wf (FrS.step wf (FrS.step wf (((FrS.step wf (FrS.step wf ((FrS.step wf (FrS.step wf (FrS.step wf (FrS.step wf (FrS.step wf (FrS.step wf ((FrS.refl (W := []) wf).extR e4) e25 Inn.nil) e54 Inn.nil) e68 Inn.nil) e80 Inn.nil) e100 Inn.nil) e130 Inn.nil).extR e143) e149 (hb144.fresh (ntr (ntr (ntr (ntr (ntr (ntr e4.next e25.next) e54.next) e68.next) e80.next) e100.next) e130.next))) e165 Inn.nil).extR e181).extR e187) e193 (hb182.fresh (ntr (ntr (ntr (ntr (ntr (ntr (ntr (ntr (ntr e4.next e25.next) e54.next) e68.next) e80.next) e100.next) e130.next) e143.next) e149.next) e165.next))) e199 (hb188.fresh (ntr (ntr (ntr (ntr (ntr (ntr (ntr (ntr (ntr (ntr e4.next e25.next) e54.next) e68.next) e80.next) e100.next) e130.next) e143.next) e149.next) e165.next) e181.next))) e209 Inn.nil) e253 Inn.nil) e283 Inn.nil) e307 Inn.nil) e323 (hb188.fresh (ntr (ntr (ntr (ntr (ntr (ntr (ntr (ntr (ntr (ntr e4.next e25.next) e54.next) e68.next) e80.next) e100.next) e130.next) e143.next) e149.next) e165.next) e181.next))) e332 Inn.nil) e373 Inn.nil) e401 Inn.nil) e416 Inn.nil) e425 (hb188.fresh (ntr (ntr (ntr (ntr (ntr (ntr (ntr (ntr (ntr (ntr e4.next e25.next) e54.next) e68.next) e80.next) e100.next) e130.next) e143.next) e149.next) e165.next) e181.next)))⟩


end Go.Vd
