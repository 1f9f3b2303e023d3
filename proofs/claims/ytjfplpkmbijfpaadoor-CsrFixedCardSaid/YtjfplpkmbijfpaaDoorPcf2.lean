/- The walks of the functions (printed by a program of ours). -/
import Derived.Test.YtjfplpkmbijfpaaDoorPcf1
import Derived.Test.YtjfplpkmbijfpaaDoorDrG
import Derived.Test.YtjfplpkmbijfpaaDoorICf
import Derived.Test.YtjfplpkmbijfpaaDoorSoA
import Derived.Test.YtjfplpkmbijfpaaDoorVeV
set_option linter.unusedVariables false
set_option linter.unusedSimpArgs false
set_option linter.unusedSectionVars false
/-! (KCf3) -/

set_option maxRecDepth 100000
set_option maxHeartbeats 4000000
set_option linter.unusedVariables false
namespace Go.Vd
open Go.Proofs
attribute [local irreducible] wpSeq wpOrd aWp
theorem c_csr_Find {H : AH} {hd_First : Value} {fp_First : Fp} {hd_To : Value} {fp_To : Fp} {hd_Weight : Value} {fp_Weight : Fp} {First : List (Int)} {To : List (Int)} {Weight : List (Int)} {v_ : Int} {w : Int} {r : Int × Er}
  (wf : WF H) (h_First : Sq (encI .i64) 1 H hd_First First fp_First) (h_To : Sq (encI .i64) 1 H hd_To To fp_To) (h_Weight : Sq (encI .i64) 1 H hd_Weight Weight fp_Weight) (hr : z_csr_Find First To Weight v_ w = some r) :
  ACalls Tryd.prog 37 #[.agg #[hd_First, hd_To, hd_Weight], .int .i64 v_, .int .i64 w] H fun v H' => ∃ (v3 : Value) (f4 : Fp), v = .tuple #[.int .i64 r.1, v3] ∧ FrS [] H H' ∧ Ev 53 90 H' v3 r.2 f4 ∧ Inn [] H f4 := by
 refine acalls_of_body mixed Tryd.func37 rfl (Nat.le_of_ble_eq_true rfl) ?_
 unfold z_csr_Find at hr
 refine w_seqk fun K6 k6 => ?_
 refine w_reg (by kernel_rfl) ?_
 refine s_rwl wf [hd_First, hd_To, hd_Weight] (one_cons (h_First.one1) (one_cons (h_To.one1) (one_cons (h_Weight.one1) (one_nil)))) (by kernel_rfl) fun b7 H8 e9 hb10 r11 => ?_
 refine s_qk (.int .i64 0) (by kernel_rfl) ?_
 refine s_qk (.nilIface) (by kernel_rfl) ?_
 refine s_nil ?_
 refine k6 _ _ ?_
 refine w_seqk fun K13 k13 => ?_
 refine w_reg (by kernel_rfl) ?_
 refine s_ql (.agg #[hd_First, hd_To, hd_Weight]) (x := aLoad Tryd.prog 59 (.pointer (some ⟨b7, 0, none⟩)) H8) (by kernel_rfl) (r11.ld (by kernel_rfl)) ?_
 refine s_qk (.int .i64 v_) (by kernel_rfl) ?_
 have u14 := (h_First.ext e9)
 have u15 := (h_To.ext e9)
 have u16 := (h_Weight.ext e9)
 obtain ⟨y17, hy18, r19⟩ := bind_some hr
 refine s_ck 34 #[.agg #[hd_First, hd_To, hd_Weight], .int .i64 v_] (by kernel_rfl) (c_csr_Row e9.wf u14 u15 u16 hy18) ?_
 rintro _ H24 ⟨s20, f21, v22, f23, rfl, e25, m26, m27, i28, i29, d30⟩
 obtain ⟨a33, n34, c35, rfl⟩ := m26.form
 refine s_qk (.tuple #[.slice a33 n34 c35, v22]) (by kernel_rfl) ?_
 refine s_qk (.slice a33 n34 c35) (by kernel_rfl) ?_
 refine s_qk (v22) (by kernel_rfl) ?_
 refine s_qk (.slice a33 n34 c35) (by kernel_rfl) ?_
 refine s_qk (v22) (by kernel_rfl) ?_
 refine s_nil ?_
 refine k13 _ _ ?_
 refine w_seqk fun K36 k36 => ?_
 refine w_seqk fun K37 k37 => ?_
 refine w_reg (by kernel_rfl) ?_
 refine s_qk (v22) (by kernel_rfl) ?_
 rcases (m27).cases with ⟨h38, rfl⟩ | ⟨h38, t39, x40, rfl⟩
 ·have r41 := ite_t h38 r19
  refine s_qk (.bool false) (by kernel_rfl) ?_
  refine s_nil ?_
  refine k37 _ _ ?_
  refine w_cond false (by kernel_rfl) rfl (fun h => by cases h) (fun _ => ?_)
  refine w_skip ?_
  refine k36 _ _ ?_
  refine w_seqk fun K42 k42 => ?_
  refine w_seqk fun K43 k43 => ?_
  obtain ⟨o44, hx45, r46⟩ := bind_some r41
  refine w_mid (fun α H47 => Has α [(2, .int .i64 w), (8, .slice a33 n34 c35), (28, .bool o44)] ∧ FrS [] H24 H47) (fun K49 k49 => ?_) (fun α H47 hM => ?_)
  ·refine w_reg (by kernel_rfl) ?_
   refine s_qk (.int .i64 w) (by kernel_rfl) ?_
   refine s_b (w < 0) (by kernel_rfl) (fun h51 => ?_) (fun h51 => ?_)
   ·have r52 := ite_t h51 hx45
    refine s_qk (.bool true) (by kernel_rfl) ?_
    refine s_no (by kernel_rfl) ?_
    refine s_no (by kernel_rfl) ?_
    refine s_no (by kernel_rfl) ?_
    refine s_no (by kernel_rfl) ?_
    refine s_qk (.bool true) (by kernel_rfl) ?_
    refine s_nil ?_
    obtain rfl := Option.some.inj r52
    exact k49 _ _ ⟨⟨by kernel_rfl, by kernel_rfl, by kernel_rfl, trivial⟩, (FrS.refl (W := []) e25.wf)⟩
   ·have r53 := ite_f h51 hx45
    refine s_qk (.bool false) (by kernel_rfl) ?_
    refine s_qk (.int .i64 w) (by kernel_rfl) ?_
    have u54 := (r11.frS e25 Dj.nil_l)
    refine s_ql (.agg #[hd_First, hd_To, hd_Weight]) (x := aLoad Tryd.prog 59 (.pointer (some ⟨b7, 0, none⟩)) H24) (by kernel_rfl) (u54.ld (by kernel_rfl)) ?_
    have u55 := (u14.fr e25 Dj.nil_l)
    have u56 := (u15.fr e25 Dj.nil_l)
    have u57 := (u16.fr e25 Dj.nil_l)
    obtain ⟨y58, hy59, r60⟩ := bind_some r53
    refine s_ck 62 #[.agg #[hd_First, hd_To, hd_Weight]] (by kernel_rfl) (c_csr_Csr_nodes e25.wf u55 u56 u57 hy59) ?_
    rintro _ H61 ⟨rfl, e62⟩
    refine s_qk (.bool (decide (w ≥ y58))) (by kernel_rfl) ?_
    refine s_qk (.bool (decide (w ≥ y58))) (by kernel_rfl) ?_
    refine s_nil ?_
    obtain rfl := Option.some.inj r60
    exact k49 _ _ ⟨⟨by kernel_rfl, by kernel_rfl, by kernel_rfl, trivial⟩, (FrS.step e25.wf (FrS.refl (W := []) e25.wf) e62 Inn.nil)⟩
  ·obtain ⟨hh50, e48⟩ := hM
   obtain ⟨β, rfl⟩ := has_ex hh50
   clear hh50
   refine k43 _ _ ?_
   refine w_cond (o44) (by kernel_rfl) rfl (fun h63 => ?_) (fun h63 => ?_)
   ·have r64 := ite_t h63 r46
    refine w_seqk fun K65 k65 => ?_
    refine w_reg (by kernel_rfl) ?_
    refine s_qk (.iface 53 (.int .i64 7)) (by kernel_rfl) ?_
    refine s_qk (.int .i64 0) (by kernel_rfl) ?_
    refine s_qk (.iface 53 (.int .i64 7)) (by kernel_rfl) ?_
    refine s_nil ?_
    refine k65 _ _ ?_
    refine w_ret (th_ret ?_)
    refine b_ret (fn := Tryd.f37) (vs := [.int .i64 0, .iface 53 (.int .i64 7)]) (aRes_tmp (by kernel_rfl) (aRes_tmp (by kernel_rfl) (rfl))) ?_
    obtain rfl := Option.some.inj r64
    exact ⟨(.iface 53 (.int .i64 7)), [], rfl, (FrS.step wf (FrS.step wf ((FrS.refl (W := []) wf).extR e9) e25 Inn.nil) e48 Inn.nil), Ev.no, Inn.nil⟩
   ·have r66 := ite_bf h63 r46
    refine w_skip ?_
    refine k42 _ _ ?_
    refine w_seqk fun K67 k67 => ?_
    refine w_reg (by kernel_rfl) ?_
    refine s_qk (.slice a33 n34 c35) (by kernel_rfl) ?_
    refine s_qk (.int .i64 w) (by kernel_rfl) ?_
    have u68 := (m26.fr e48 Dj.nil_l)
    obtain ⟨y69, hy70, r71⟩ := bind_some r66
    refine s_ck 70 #[.slice a33 n34 c35, .int .i64 w, .func (.func 71) #[] #[]] (by kernel_rfl) (c_slices_BinarySearchFunc e48.wf u68.sq hy70) ?_
    rintro _ H72 ⟨rfl, e73⟩
    refine s_qk (.tuple #[.int .i64 y69.1, .bool y69.2]) (by kernel_rfl) ?_
    refine s_qk (.int .i64 y69.1) (by kernel_rfl) ?_
    refine s_qk (.bool y69.2) (by kernel_rfl) ?_
    refine s_qk (.int .i64 y69.1) (by kernel_rfl) ?_
    refine s_qk (.bool y69.2) (by kernel_rfl) ?_
    refine s_nil ?_
    refine k67 _ _ ?_
    refine w_seqk fun K74 k74 => ?_
    refine w_seqk fun K75 k75 => ?_
    refine w_reg (by kernel_rfl) ?_
    refine s_qk (.bool y69.2) (by kernel_rfl) ?_
    refine s_qk (.bool (!y69.2)) (by kernel_rfl) ?_
    refine s_nil ?_
    refine k75 _ _ ?_
    refine w_cond ((!y69.2)) (by kernel_rfl) rfl (fun h76 => ?_) (fun h76 => ?_)
    ·have r77 := ite_t h76 r71
     refine w_seqk fun K78 k78 => ?_
     refine w_reg (by kernel_rfl) ?_
     refine s_qk (.iface 53 (.int .i64 16)) (by kernel_rfl) ?_
     refine s_qk (.int .i64 0) (by kernel_rfl) ?_
     refine s_qk (.iface 53 (.int .i64 16)) (by kernel_rfl) ?_
     refine s_nil ?_
     refine k78 _ _ ?_
     refine w_ret (th_ret ?_)
     refine b_ret (fn := Tryd.f37) (vs := [.int .i64 0, .iface 53 (.int .i64 16)]) (aRes_tmp (by kernel_rfl) (aRes_tmp (by kernel_rfl) (rfl))) ?_
     obtain rfl := Option.some.inj r77
     exact ⟨(.iface 53 (.int .i64 16)), [], rfl, (FrS.step wf (FrS.step wf (FrS.step wf ((FrS.refl (W := []) wf).extR e9) e25 Inn.nil) e48 Inn.nil) e73 Inn.nil), Ev.no, Inn.nil⟩
    ·have r79 := ite_bf h76 r71
     refine w_skip ?_
     refine k74 _ _ ?_
     refine w_seqk fun K80 k80 => ?_
     refine w_reg (by kernel_rfl) ?_
     refine s_qk (.slice a33 n34 c35) (by kernel_rfl) ?_
     refine s_qk (.int .i64 y69.1) (by kernel_rfl) ?_
     obtain ⟨g81, r82⟩ := G_some r79
     have u83 := (u68.fr e73 Dj.nil_l)
     refine s_ql (elp (.slice a33 n34 c35) 3 y69.1.toNat 0) (x := aIndexAddr Tryd.prog 22 (.slice a33 n34 c35) (.int .i64 y69.1)) (by kernel_rfl) (u83.sq.idxb (by kernel_rfl) g81.1 g81.2) ?_
     refine s_ql (elp (.slice a33 n34 c35) 3 y69.1.toNat 2) (x := aFieldAddr Tryd.prog 51 (elp (.slice a33 n34 c35) 3 y69.1.toNat 0) 2) (by kernel_rfl) (Sq.fldq (d := 2) u83.sq g81.1 g81.2 (by kernel_rfl)) ?_
     refine s_ql (.int .i64 ((gt y17.1 y69.1).2.2)) (x := aLoad Tryd.prog 3 (elp (.slice a33 n34 c35) 3 y69.1.toNat 2) H72) (by kernel_rfl) (u83.sq.ld g81.1 g81.2 (by kernel_rfl)) ?_
     refine s_qk (.int .i64 ((gt y17.1 y69.1).2.2)) (by kernel_rfl) ?_
     refine s_qk (.nilIface) (by kernel_rfl) ?_
     refine s_nil ?_
     refine k80 _ _ ?_
     refine w_ret ?_
     refine b_ret (fn := Tryd.f37) (vs := [.int .i64 ((gt y17.1 y69.1).2.2), .nilIface]) (aRes_tmp (by kernel_rfl) (aRes_tmp (by kernel_rfl) (rfl))) ?_
     obtain rfl := Option.some.inj r82
     exact ⟨(.nilIface), [], rfl, (FrS.step wf (FrS.step wf (FrS.step wf ((FrS.refl (W := []) wf).extR e9) e25 Inn.nil) e48 Inn.nil) e73 Inn.nil), Ev.nil, Inn.nil⟩
 ·have r84 := ite_f h38 r19
  refine s_ql (.bool true) (x := aBin Tryd.prog .neq 28 (.tmp 18) (.const .nilIface) (.iface t39 x40) .nilIface) (by kernel_rfl) (aBin_nnil (by kernel_rfl)) ?_
  refine s_nil ?_
  refine k37 _ _ ?_
  refine w_cond true (by kernel_rfl) rfl (fun _ => ?_) (fun h => by cases h)
  refine w_seqk fun K85 k85 => ?_
  refine w_reg (by kernel_rfl) ?_
  refine s_qk (.iface t39 x40) (by kernel_rfl) ?_
  refine s_qk (.int .i64 0) (by kernel_rfl) ?_
  refine s_qk (.iface t39 x40) (by kernel_rfl) ?_
  refine s_nil ?_
  refine k85 _ _ ?_
  refine w_ret (th_ret ?_)
  refine b_ret (fn := Tryd.f37) (vs := [.int .i64 0, .iface t39 x40]) (aRes_tmp (by kernel_rfl) (aRes_tmp (by kernel_rfl) (rfl))) ?_
  obtain rfl := Option.some.inj r84
  exact ⟨(.iface t39 x40), f23, rfl, (FrS.step wf ((FrS.refl (W := []) wf).extR e9) e25 Inn.nil), m27, (i29.fresh e9.next)⟩

theorem c_viaductlaw05_CsrFixed {H : AH} {r : Bool}
  (wf : WF H) (hr : z_viaductlaw05_CsrFixed = some r) :
  ACalls Tryd.prog 10 #[] H fun v H' => v = .bool r ∧ FrS [] H H' := by
 refine acalls_of_body mixed Tryd.func10 rfl (Nat.le_of_ble_eq_true rfl) ?_
 unfold z_viaductlaw05_CsrFixed at hr
 refine w_seqk fun K1 k1 => ?_
 refine w_reg (by kernel_rfl) ?_
 refine s_qk (.bool false) (by kernel_rfl) ?_
 refine s_nil ?_
 refine k1 _ _ ?_
 refine w_seqk fun K2 k2 => ?_
 refine w_seqk fun K3 k3 => ?_
 refine w_reg (by kernel_rfl) ?_
 refine s_ck 28 #[] (by kernel_rfl) c_viaductlaw05_awake ?_
 rintro _ _ ⟨rfl, rfl⟩
 refine s_qk (.bool false) (by kernel_rfl) ?_
 refine s_nil ?_
 refine k3 _ _ ?_
 refine w_cond false (by kernel_rfl) rfl (fun h => by cases h) (fun _ => ?_)
 refine w_skip ?_
 refine k2 _ _ ?_
 refine w_seqk fun K4 k4 => ?_
 refine w_reg (by kernel_rfl) ?_
 refine s_qk (.agg #[.int .i64 2, .int .i64 0, .int .i64 5]) (by kernel_rfl) ?_
 refine s_qk (.agg #[.int .i64 0, .int .i64 1, .int .i64 4]) (by kernel_rfl) ?_
 refine s_qk (.agg #[.int .i64 0, .int .i64 2, .int .i64 1]) (by kernel_rfl) ?_
 refine s_owk (enc := enc_i64_i64_i64) (sz := 3) wf [(2, 0, 5), (0, 1, 4), (0, 2, 1)] 3 (by decide) (fun _ _ => rfl) (fun _ _ => rfl) rfl (by kernel_rfl) fun s5 f6 H7 e8 hf9 hm10 => ?_
 obtain ⟨a11, n12, c13, rfl⟩ := hm10.form
 refine s_qk (.agg #[.int .i64 3, .slice a11 n12 c13]) (by kernel_rfl) ?_
 obtain ⟨y15, hy16, r17⟩ := bind_some hr
 refine s_ck 45 #[.agg #[.int .i64 3, .slice a11 n12 c13]] (by kernel_rfl) (c_csr_Back e8.wf hm10.sq hy16) ?_
 rintro _ H26 ⟨s18, f19, s20, f21, s22, f23, v24, f25, rfl, e27, m28, m29, m30, m31, i32, i33, i34, i35, d36, d37, d38, d39, d40, d41⟩
 obtain ⟨a46, n47, c48, rfl⟩ := m28.form
 obtain ⟨a49, n50, c51, rfl⟩ := m29.form
 obtain ⟨a52, n53, c54, rfl⟩ := m30.form
 refine s_qk (.tuple #[.agg #[.slice a46 n47 c48, .slice a49 n50 c51, .slice a52 n53 c54], v24]) (by kernel_rfl) ?_
 refine s_qk (.agg #[.slice a46 n47 c48, .slice a49 n50 c51, .slice a52 n53 c54]) (by kernel_rfl) ?_
 refine s_qk (v24) (by kernel_rfl) ?_
 refine s_rwk e27.wf [.slice none 0 0, .slice none 0 0, .slice none 0 0] (by kernel_rfl) fun b55 H56 e57 hb58 r59 => ?_
 have u65 := (m30.ext e57)
 have u66 := (m29.ext e57)
 have u67 := (m28.ext e57)
 obtain ⟨H61, q62, e63, r64⟩ := Row.store (P := Tryd.prog) (t := 59) (p := 0) e57.wf r59 (.agg #[.slice a46 n47 c48, .slice a49 n50 c51, .slice a52 n53 c54]) [.slice a46 n47 c48, .slice a49 n50 c51, .slice a52 n53 c54] (by kernel_rfl) (by kernel_rfl) (one_cons (u67.one1) (one_cons (u66.one1) (one_cons (u65.one1) (one_nil)))) (Nat.le_of_ble_eq_true (by kernel_rfl)) [.slice a46 n47 c48, .slice a49 n50 c51, .slice a52 n53 c54] (by kernel_rfl)
 refine s_ek (undef) (by kernel_rfl) (map_ok q62) ?_
 refine s_qk (v24) (by kernel_rfl) ?_
 refine s_nil ?_
 refine k4 _ _ ?_
 refine w_seqk fun K68 k68 => ?_
 refine w_reg (by kernel_rfl) ?_
 refine s_qk (.agg #[.int .i64 0, .slice none 0 0]) (by kernel_rfl) ?_
 obtain ⟨y69, hy70, r71⟩ := bind_some r17
 refine s_ck 40 #[.agg #[.int .i64 0, .slice none 0 0]] (by kernel_rfl) (c_csr_Build e63.wf (Sq.nil (enc := enc_i64_i64_i64) (sz := 3) (by decide)) hy70) ?_
 rintro _ H80 ⟨s72, f73, s74, f75, s76, f77, v78, f79, rfl, e81, m82, m83, m84, m85, i86, i87, i88, i89, d90, d91, d92, d93, d94, d95⟩
 obtain ⟨a100, n101, c102, rfl⟩ := m82.form
 obtain ⟨a103, n104, c105, rfl⟩ := m83.form
 obtain ⟨a106, n107, c108, rfl⟩ := m84.form
 refine s_qk (.tuple #[.agg #[.slice a100 n101 c102, .slice a103 n104 c105, .slice a106 n107 c108], v78]) (by kernel_rfl) ?_
 refine s_qk (.agg #[.slice a100 n101 c102, .slice a103 n104 c105, .slice a106 n107 c108]) (by kernel_rfl) ?_
 refine s_qk (v78) (by kernel_rfl) ?_
 refine s_rwk e81.wf [.slice none 0 0, .slice none 0 0, .slice none 0 0] (by kernel_rfl) fun b109 H110 e111 hb112 r113 => ?_
 have u119 := (m84.ext e111)
 have u120 := (m83.ext e111)
 have u121 := (m82.ext e111)
 obtain ⟨H115, q116, e117, r118⟩ := Row.store (P := Tryd.prog) (t := 59) (p := 0) e111.wf r113 (.agg #[.slice a100 n101 c102, .slice a103 n104 c105, .slice a106 n107 c108]) [.slice a100 n101 c102, .slice a103 n104 c105, .slice a106 n107 c108] (by kernel_rfl) (by kernel_rfl) (one_cons (u121.one1) (one_cons (u120.one1) (one_cons (u119.one1) (one_nil)))) (Nat.le_of_ble_eq_true (by kernel_rfl)) [.slice a100 n101 c102, .slice a103 n104 c105, .slice a106 n107 c108] (by kernel_rfl)
 refine s_ek (undef) (by kernel_rfl) (map_ok q116) ?_
 refine s_qk (v78) (by kernel_rfl) ?_
 refine s_nil ?_
 refine k68 _ _ ?_
 refine w_seqk fun K122 k122 => ?_
 refine w_seqk fun K123 k123 => ?_
 obtain ⟨o124, hx125, r126⟩ := bind_some r71
 refine w_mid (fun α H127 => Has α [(1, .pointer (some ⟨b55, 0, none⟩)), (52, .bool o124)] ∧ FrS [] H115 H127) (fun K129 k129 => ?_) (fun α H127 hM => ?_)
 ·refine w_reg (by kernel_rfl) ?_
  refine s_qk (v24) (by kernel_rfl) ?_
  have u134 := (((((m31.ext e57).fr e63 (hb58.djn m31.lt)).fr e81 Dj.nil_l).ext e111).fr e117 (hb112.djn (m31.lt.le (ntr (ntr e57.next e63.next) e81.next))))
  rcases (u134).cases with ⟨h131, rfl⟩ | ⟨h131, t132, x133, rfl⟩
  ·have r135 := ite_t h131 hx125
   refine s_qk (.bool false) (by kernel_rfl) ?_
   refine s_qk (.bool false) (by kernel_rfl) ?_
   refine s_qk (v78) (by kernel_rfl) ?_
   have u139 := ((m85.ext e111).fr e117 (hb112.djn m85.lt))
   rcases (u139).cases with ⟨h136, rfl⟩ | ⟨h136, t137, x138, rfl⟩
   ·have r140 := ite_t h136 r135
    refine s_qk (.bool false) (by kernel_rfl) ?_
    refine s_qk (.bool false) (by kernel_rfl) ?_
    refine s_qk (.bool false) (by kernel_rfl) ?_
    have u141 := (((r64.frS e81 Dj.nil_l).ext e111).frS e117 (hb112.djn (r59.ltF.le (ntr e63.next e81.next))))
    refine s_ql (.agg #[.slice a46 n47 c48, .slice a49 n50 c51, .slice a52 n53 c54]) (x := aLoad Tryd.prog 59 (.pointer (some ⟨b55, 0, none⟩)) H115) (by kernel_rfl) (u141.ld (by kernel_rfl)) ?_
    have u142 := ((((u67.fr e63 (hb58.djn m28.lt)).fr e81 Dj.nil_l).ext e111).fr e117 (hb112.djn (m28.lt.le (ntr (ntr e57.next e63.next) e81.next))))
    have u143 := ((((u66.fr e63 (hb58.djn m29.lt)).fr e81 Dj.nil_l).ext e111).fr e117 (hb112.djn (m29.lt.le (ntr (ntr e57.next e63.next) e81.next))))
    have u144 := ((((u65.fr e63 (hb58.djn m30.lt)).fr e81 Dj.nil_l).ext e111).fr e117 (hb112.djn (m30.lt.le (ntr (ntr e57.next e63.next) e81.next))))
    obtain ⟨y145, hy146, r147⟩ := bind_some r140
    refine s_ck 44 #[.agg #[.slice a46 n47 c48, .slice a49 n50 c51, .slice a52 n53 c54]] (by kernel_rfl) (c_viaductlaw05_of e117.wf u142.sq u143.sq u144.sq hy146) ?_
    rintro _ H148 ⟨rfl, e149⟩
    refine s_owk (enc := (encI .i64)) (sz := 1) e149.wf [0, 1, 2, 3] 4 (by decide) (fun _ _ => rfl) (fun _ _ => rfl) rfl (by kernel_rfl) fun s150 f151 H152 e153 hf154 hm155 => ?_
    obtain ⟨a156, n157, c158, rfl⟩ := hm155.form
    refine s_owk (enc := (encI .i64)) (sz := 1) e153.wf [2, 0, 0] 3 (by decide) (fun _ _ => rfl) (fun _ _ => rfl) rfl (by kernel_rfl) fun s160 f161 H162 e163 hf164 hm165 => ?_
    obtain ⟨a166, n167, c168, rfl⟩ := hm165.form
    refine s_owk (enc := (encI .i64)) (sz := 1) e163.wf [5, 4, 1] 3 (by decide) (fun _ _ => rfl) (fun _ _ => rfl) rfl (by kernel_rfl) fun s170 f171 H172 e173 hf174 hm175 => ?_
    obtain ⟨a176, n177, c178, rfl⟩ := hm175.form
    refine s_qk (.agg #[.slice a156 n157 c158, .slice a166 n167 c168, .slice a176 n177 c178]) (by kernel_rfl) ?_
    have u180 := ((((u142.fr e149 Dj.nil_l).ext e153).ext e163).ext e173)
    have u181 := ((((u143.fr e149 Dj.nil_l).ext e153).ext e163).ext e173)
    have u182 := ((((u144.fr e149 Dj.nil_l).ext e153).ext e163).ext e173)
    have u183 := ((hm155.ext e163).ext e173)
    have u184 := (hm165.ext e173)
    obtain ⟨y185, hy186, r187⟩ := bind_some r147
    refine s_ck 43 #[.agg #[.slice a46 n47 c48, .slice a49 n50 c51, .slice a52 n53 c54], .agg #[.slice a156 n157 c158, .slice a166 n167 c168, .slice a176 n177 c178]] (by kernel_rfl) (c_viaductref05_Same e173.wf u180.sq u181.sq u182.sq u183.sq u184.sq hm175.sq hy186) ?_
    rintro _ H188 ⟨rfl, e189⟩
    by_cases h190 : y185 = true
    ·have r191 := ite_t h190 r187
     rw [h190]
     refine s_qk (.bool false) (by kernel_rfl) ?_
     refine s_qk (.bool false) (by kernel_rfl) ?_
     refine s_qk (.bool false) (by kernel_rfl) ?_
     have u193 := (((((r118.frS e149 Dj.nil_l).ext e153).ext e163).ext e173).frS e189 Dj.nil_l)
     refine s_ql (.agg #[.slice a100 n101 c102, .slice a103 n104 c105, .slice a106 n107 c108]) (x := aLoad Tryd.prog 59 (.pointer (some ⟨b109, 0, none⟩)) H188) (by kernel_rfl) (u193.ld (by kernel_rfl)) ?_
     have u194 := ((((((u121.fr e117 (hb112.djn m82.lt)).fr e149 Dj.nil_l).ext e153).ext e163).ext e173).fr e189 Dj.nil_l)
     have u195 := ((((((u120.fr e117 (hb112.djn m83.lt)).fr e149 Dj.nil_l).ext e153).ext e163).ext e173).fr e189 Dj.nil_l)
     have u196 := ((((((u119.fr e117 (hb112.djn m84.lt)).fr e149 Dj.nil_l).ext e153).ext e163).ext e173).fr e189 Dj.nil_l)
     obtain ⟨y197, hy198, r199⟩ := bind_some r191
     refine s_ck 44 #[.agg #[.slice a100 n101 c102, .slice a103 n104 c105, .slice a106 n107 c108]] (by kernel_rfl) (c_viaductlaw05_of e189.wf u194.sq u195.sq u196.sq hy198) ?_
     rintro _ H200 ⟨rfl, e201⟩
     refine s_owk (enc := (encI .i64)) (sz := 1) e201.wf [0] 1 (by decide) (fun _ _ => rfl) (fun _ _ => rfl) rfl (by kernel_rfl) fun s202 f203 H204 e205 hf206 hm207 => ?_
     obtain ⟨a208, n209, c210, rfl⟩ := hm207.form
     refine s_qk (.agg #[.slice a208 n209 c210, .slice none 0 0, .slice none 0 0]) (by kernel_rfl) ?_
     have u212 := ((u194.fr e201 Dj.nil_l).ext e205)
     have u213 := ((u195.fr e201 Dj.nil_l).ext e205)
     have u214 := ((u196.fr e201 Dj.nil_l).ext e205)
     obtain ⟨y215, hy216, r217⟩ := bind_some r199
     refine s_ck 43 #[.agg #[.slice a100 n101 c102, .slice a103 n104 c105, .slice a106 n107 c108], .agg #[.slice a208 n209 c210, .slice none 0 0, .slice none 0 0]] (by kernel_rfl) (c_viaductref05_Same e205.wf u212.sq u213.sq u214.sq hm207.sq (Sq.nil (enc := (encI .i64)) (sz := 1) (by decide)) (Sq.nil (enc := (encI .i64)) (sz := 1) (by decide)) hy216) ?_
     rintro _ H218 ⟨rfl, e219⟩
     refine s_qk (.bool (!y215)) (by kernel_rfl) ?_
     refine s_qk (.bool (!y215)) (by kernel_rfl) ?_
     refine s_nil ?_
     obtain rfl := Option.some.inj r217
     exact k129 _ _ ⟨⟨by kernel_rfl, by kernel_rfl, trivial⟩, (FrS.step e117.wf ((FrS.step e117.wf (FrS.step e117.wf ((((FrS.step e117.wf (FrS.refl (W := []) e117.wf) e149 Inn.nil).extR e153).extR e163).extR e173) e189 Inn.nil) e201 Inn.nil).extR e205) e219 Inn.nil)⟩
    ·have r220 := ite_f h190 r187
     rw [nb h190]
     refine s_qk (.bool true) (by kernel_rfl) ?_
     refine s_qk (.bool true) (by kernel_rfl) ?_
     refine s_qk (.bool true) (by kernel_rfl) ?_
     refine s_no (by kernel_rfl) ?_
     refine s_no (by kernel_rfl) ?_
     refine s_no (by kernel_rfl) ?_
     refine s_no (by kernel_rfl) ?_
     refine s_no (by kernel_rfl) ?_
     refine s_no (by kernel_rfl) ?_
     refine s_qk (.bool true) (by kernel_rfl) ?_
     refine s_nil ?_
     obtain rfl := Option.some.inj r220
     exact k129 _ _ ⟨⟨by kernel_rfl, by kernel_rfl, trivial⟩, (FrS.step e117.wf ((((FrS.step e117.wf (FrS.refl (W := []) e117.wf) e149 Inn.nil).extR e153).extR e163).extR e173) e189 Inn.nil)⟩
   ·have r222 := ite_f h136 r135
    refine s_ql (.bool true) (x := aBin Tryd.prog .neq 28 (.tmp 32) (.const .nilIface) (.iface t137 x138) .nilIface) (by kernel_rfl) (aBin_nnil (by kernel_rfl)) ?_
    refine s_qk (.bool true) (by kernel_rfl) ?_
    refine s_qk (.bool true) (by kernel_rfl) ?_
    refine s_no (by kernel_rfl) ?_
    refine s_no (by kernel_rfl) ?_
    refine s_no (by kernel_rfl) ?_
    refine s_no (by kernel_rfl) ?_
    refine s_no (by kernel_rfl) ?_
    refine s_no (by kernel_rfl) ?_
    refine s_no (by kernel_rfl) ?_
    refine s_no (by kernel_rfl) ?_
    refine s_qk (.bool true) (by kernel_rfl) ?_
    refine s_qk (.bool true) (by kernel_rfl) ?_
    refine s_no (by kernel_rfl) ?_
    refine s_no (by kernel_rfl) ?_
    refine s_no (by kernel_rfl) ?_
    refine s_no (by kernel_rfl) ?_
    refine s_no (by kernel_rfl) ?_
    refine s_no (by kernel_rfl) ?_
    refine s_qk (.bool true) (by kernel_rfl) ?_
    refine s_nil ?_
    obtain rfl := Option.some.inj r222
    exact k129 _ _ ⟨⟨by kernel_rfl, by kernel_rfl, trivial⟩, (FrS.refl (W := []) e117.wf)⟩
  ·have r223 := ite_f h131 hx125
   refine s_ql (.bool true) (x := aBin Tryd.prog .neq 28 (.tmp 29) (.const .nilIface) (.iface t132 x133) .nilIface) (by kernel_rfl) (aBin_nnil (by kernel_rfl)) ?_
   refine s_qk (.bool true) (by kernel_rfl) ?_
   refine s_no (by kernel_rfl) ?_
   refine s_no (by kernel_rfl) ?_
   refine s_qk (.bool true) (by kernel_rfl) ?_
   refine s_qk (.bool true) (by kernel_rfl) ?_
   refine s_no (by kernel_rfl) ?_
   refine s_no (by kernel_rfl) ?_
   refine s_no (by kernel_rfl) ?_
   refine s_no (by kernel_rfl) ?_
   refine s_no (by kernel_rfl) ?_
   refine s_no (by kernel_rfl) ?_
   refine s_no (by kernel_rfl) ?_
   refine s_no (by kernel_rfl) ?_
   refine s_qk (.bool true) (by kernel_rfl) ?_
   refine s_qk (.bool true) (by kernel_rfl) ?_
   refine s_no (by kernel_rfl) ?_
   refine s_no (by kernel_rfl) ?_
   refine s_no (by kernel_rfl) ?_
   refine s_no (by kernel_rfl) ?_
   refine s_no (by kernel_rfl) ?_
   refine s_no (by kernel_rfl) ?_
   refine s_qk (.bool true) (by kernel_rfl) ?_
   refine s_nil ?_
   obtain rfl := Option.some.inj r223
   exact k129 _ _ ⟨⟨by kernel_rfl, by kernel_rfl, trivial⟩, (FrS.refl (W := []) e117.wf)⟩
 ·obtain ⟨hh130, e128⟩ := hM
  obtain ⟨β, rfl⟩ := has_ex hh130
  clear hh130
  refine k123 _ _ ?_
  refine w_cond (o124) (by kernel_rfl) rfl (fun h224 => ?_) (fun h224 => ?_)
  ·have r225 := ite_t h224 r126
   refine w_seqk fun K226 k226 => ?_
   refine w_reg (by kernel_rfl) ?_
   refine s_qk (.bool false) (by kernel_rfl) ?_
   refine s_nil ?_
   refine k226 _ _ ?_
   refine w_ret (th_ret ?_)
   refine b_ret (fn := Tryd.f10) (vs := [.bool false]) (aRes_tmp (by kernel_rfl) (rfl)) ?_
   obtain rfl := Option.some.inj r225
   exact ⟨rfl, (FrS.step wf (FrS.step wf ((FrS.step wf (FrS.step wf ((FrS.step wf ((FrS.refl (W := []) wf).extR e8) e27 Inn.nil).extR e57) e63 (hb58.fresh (ntr e8.next e27.next))) e81 Inn.nil).extR e111) e117 (hb112.fresh (ntr (ntr (ntr (ntr e8.next e27.next) e57.next) e63.next) e81.next))) e128 Inn.nil)⟩
  ·have r227 := ite_bf h224 r126
   refine w_skip ?_
   refine k122 _ _ ?_
   refine w_seqk fun K228 k228 => ?_
   refine w_reg (by kernel_rfl) ?_
   obtain ⟨y229, hy230, r231⟩ := bind_some r227
   refine s_ck 26 #[.int .i64 14] (by kernel_rfl) (c_viaductref01_E e128.wf hy230) ?_
   rintro _ H232 ⟨rfl, e233⟩
   refine s_rwk e233.wf [.int .i64 0, .slice none 0 0] (by kernel_rfl) fun b234 H235 e236 hb237 r238 => ?_
   obtain ⟨H240, q241, e242, r243⟩ := Row.store (P := Tryd.prog) (t := 33) (p := 0) e236.wf r238 (.agg #[.int .i64 y229, .slice none 0 0]) [.int .i64 y229, .slice none 0 0] (by kernel_rfl) (by kernel_rfl) (one_cons (rfl) (one_cons (rfl) (one_nil))) (Nat.le_of_ble_eq_true (by kernel_rfl)) [.int .i64 y229, .slice none 0 0] (by kernel_rfl)
   refine s_ek (undef) (by kernel_rfl) (map_ok q241) ?_
   refine s_nil ?_
   refine k228 _ _ ?_
   refine w_seqk fun K244 k244 => ?_
   refine w_reg (by kernel_rfl) ?_
   refine s_mks (t := 42) (m := 8) (l := 65538) (c := 65538) (enc := (encI .i64)) (sz := 1) e242.wf (0 : Int) (by kernel_rfl) (by decide) (by decide) (by decide) (by decide) (by decide) (by kernel_rfl) fun s245 f246 H247 e248 hf249 hm250 => ?_
   obtain ⟨a251, n252, c253, rfl⟩ := hm250.form
   have hm250 : Ow (encI .i64) 1 H247 (.slice a251 n252 c253) (List.replicate (65538 : Int).toNat (0 : Int)) f246 := hm250
   refine s_qk (.agg #[.slice a251 n252 c253, .slice none 0 0, .slice none 0 0]) (by kernel_rfl) ?_
   refine s_rwk e248.wf [.slice none 0 0, .slice none 0 0, .slice none 0 0] (by kernel_rfl) fun b255 H256 e257 hb258 r259 => ?_
   have u265 := (hm250.ext e257)
   obtain ⟨H261, q262, e263, r264⟩ := Row.store (P := Tryd.prog) (t := 59) (p := 0) e257.wf r259 (.agg #[.slice a251 n252 c253, .slice none 0 0, .slice none 0 0]) [.slice a251 n252 c253, .slice none 0 0, .slice none 0 0] (by kernel_rfl) (by kernel_rfl) (one_cons (u265.one1) (one_cons (rfl) (one_cons (rfl) (one_nil)))) (Nat.le_of_ble_eq_true (by kernel_rfl)) [.slice a251 n252 c253, .slice none 0 0, .slice none 0 0] (by kernel_rfl)
   refine s_ek (undef) (by kernel_rfl) (map_ok q262) ?_
   refine s_nil ?_
   refine k244 _ _ ?_
   refine w_seqk fun K266 k266 => ?_
   refine w_seqk fun K267 k267 => ?_
   obtain ⟨o268, hx269, r270⟩ := bind_some r231
   refine w_mid (fun α H271 => Has α [(1, .pointer (some ⟨b55, 0, none⟩)), (5, .pointer (some ⟨b234, 0, none⟩)), (129, .bool o268)] ∧ FrS [] H261 H271) (fun K273 k273 => ?_) (fun α H271 hM => ?_)
   ·refine w_draw [0, 2, 1, 3, 4, 5, 6, 7, 8, 9, 11, 10, 12, 13, 14, 15, 16, 17, 18, 19, 20, 22, 21, 23, 24, 25, 26, 27, 28, 29, 30, 31, 33, 32, 34, 35, 36, 37, 38, 39, 40, 41, 42, 43, 44, 45, 46, 47, 48, 49, 50, 51, 52, 53, 55, 54, 56, 57, 58, 59, 60, 61, 62, 63, 64, 65, 66, 67, 68, 69, 70, 71, 72, 73] (by kernel_rfl) ?_
    refine d_qk (.agg #[.slice none 0 0, .slice none 0 0, .slice none 0 0]) (by kernel_rfl) ?_
    have u275 := (((r243.ext e248).ext e257).frS e263 (hb258.djn (r238.ltF.le (ntr e242.next e248.next))))
    refine d_fl (.agg #[.int .i64 y229, .slice none 0 0]) (x := aLoad Tryd.prog 33 (.pointer (some ⟨b234, 0, none⟩)) H261) (by kernel_rfl) (u275.ld (by kernel_rfl)) ?_
    obtain ⟨y276, hy277, r278⟩ := bind_some hx269
    refine d_ck 29 #[.agg #[.slice none 0 0, .slice none 0 0, .slice none 0 0]] (by kernel_rfl) (c_csr_Check e263.wf (Sq.nil (enc := (encI .i64)) (sz := 1) (by decide)) (Sq.nil (enc := (encI .i64)) (sz := 1) (by decide)) (Sq.nil (enc := (encI .i64)) (sz := 1) (by decide)) hy277) ?_
    rintro v279 H281 ⟨_, f280, rfl, e282, m283, i284⟩
    have u286 := (u275.frS e282 Dj.nil_l)
    refine ⟨st_ql (y := aLoad Tryd.prog 33 (.pointer (some ⟨b234, 0, none⟩)) H281) (by kernel_rfl) (u286.ld (by kernel_rfl)) (st_nil), ?_⟩
    obtain ⟨y287, hy288, r289⟩ := bind_some r278
    refine d_ck 16 #[v279, .agg #[.int .i64 y229, .slice none 0 0]] (by kernel_rfl) (c_viaductseen_Same e282.wf m283 (Sq.nil (enc := enc_i64_i64) (sz := 2) (by decide)) hy288) ?_
    rintro _ H290 ⟨rfl, e291⟩
    refine ⟨st_anc (by kernel_rfl) (st_nil), ?_⟩
    by_cases h292 : y287 = true
    ·have r293 := ite_t h292 r289
     rw [h292]
     refine d_qk (.bool false) (by kernel_rfl) ?_
     refine d_qk (.bool false) (by kernel_rfl) ?_
     refine d_owk (enc := (encI .i64)) (sz := 1) e291.wf [0, 2, 1, 1] 4 (by decide) (fun _ _ => rfl) (fun _ _ => rfl) rfl (by kernel_rfl) fun s295 f296 H297 e298 hf299 hm300 => ?_
     obtain ⟨a301, n302, c303, rfl⟩ := hm300.form
     refine d_owk (enc := (encI .i64)) (sz := 1) e298.wf [1] 1 (by decide) (fun _ _ => rfl) (fun _ _ => rfl) rfl (by kernel_rfl) fun s305 f306 H307 e308 hf309 hm310 => ?_
     obtain ⟨a311, n312, c313, rfl⟩ := hm310.form
     refine d_owk (enc := (encI .i64)) (sz := 1) e308.wf [1] 1 (by decide) (fun _ _ => rfl) (fun _ _ => rfl) rfl (by kernel_rfl) fun s315 f316 H317 e318 hf319 hm320 => ?_
     obtain ⟨a321, n322, c323, rfl⟩ := hm320.form
     refine d_qk (.agg #[.slice a301 n302 c303, .slice a311 n312 c313, .slice a321 n322 c323]) (by kernel_rfl) ?_
     have u325 := ((((u286.frS e291 Dj.nil_l).ext e298).ext e308).ext e318)
     refine d_fl (.agg #[.int .i64 y229, .slice none 0 0]) (x := aLoad Tryd.prog 33 (.pointer (some ⟨b234, 0, none⟩)) H317) (by kernel_rfl) (u325.ld (by kernel_rfl)) ?_
     have u326 := ((hm300.ext e308).ext e318)
     have u327 := (hm310.ext e318)
     obtain ⟨y328, hy329, r330⟩ := bind_some r293
     refine d_ck 29 #[.agg #[.slice a301 n302 c303, .slice a311 n312 c313, .slice a321 n322 c323]] (by kernel_rfl) (c_csr_Check e318.wf u326.sq u327.sq hm320.sq hy329) ?_
     rintro v331 H333 ⟨_, f332, rfl, e334, m335, i336⟩
     have u338 := (u325.frS e334 Dj.nil_l)
     refine ⟨st_ql (y := aLoad Tryd.prog 33 (.pointer (some ⟨b234, 0, none⟩)) H333) (by kernel_rfl) (u338.ld (by kernel_rfl)) (st_anc (by kernel_rfl) (st_nil)), ?_⟩
     obtain ⟨y339, hy340, r341⟩ := bind_some r330
     refine d_ck 27 #[.int .i64 3, .int .i64 1, .agg #[.int .i64 y229, .slice none 0 0]] (by kernel_rfl) (c_viaductref01_At e334.wf (Sq.nil (enc := enc_i64_i64) (sz := 2) (by decide)) hy340) ?_
     rintro _ H344 ⟨s342, f343, rfl, e345, m346, i347⟩
     obtain ⟨a349, n350, c351, rfl⟩ := m346.form
     refine ⟨st_anc (by kernel_rfl) (st_anc (by kernel_rfl) (st_nil)), ?_⟩
     have u352 := (m335.fr e345 Dj.nil_l)
     obtain ⟨y353, hy354, r355⟩ := bind_some r341
     refine d_ck 16 #[v331, .agg #[.int .i64 y339.1, .slice a349 n350 c351]] (by kernel_rfl) (c_viaductseen_Same e345.wf u352 m346.sq hy354) ?_
     rintro _ H356 ⟨rfl, e357⟩
     refine ⟨st_anc (by kernel_rfl) (st_anc (by kernel_rfl) (st_nil)), ?_⟩
     by_cases h358 : y353 = true
     ·have r359 := ite_t h358 r355
      rw [h358]
      refine d_qk (.bool false) (by kernel_rfl) ?_
      refine d_qk (.bool false) (by kernel_rfl) ?_
      refine d_qk (.bool false) (by kernel_rfl) ?_
      refine d_owk (enc := (encI .i64)) (sz := 1) e357.wf [0, 2, 2] 3 (by decide) (fun _ _ => rfl) (fun _ _ => rfl) rfl (by kernel_rfl) fun s361 f362 H363 e364 hf365 hm366 => ?_
      obtain ⟨a367, n368, c369, rfl⟩ := hm366.form
      refine d_owk (enc := (encI .i64)) (sz := 1) e364.wf [1, 1] 2 (by decide) (fun _ _ => rfl) (fun _ _ => rfl) rfl (by kernel_rfl) fun s371 f372 H373 e374 hf375 hm376 => ?_
      obtain ⟨a377, n378, c379, rfl⟩ := hm376.form
      refine d_owk (enc := (encI .i64)) (sz := 1) e374.wf [3, 4] 2 (by decide) (fun _ _ => rfl) (fun _ _ => rfl) rfl (by kernel_rfl) fun s381 f382 H383 e384 hf385 hm386 => ?_
      obtain ⟨a387, n388, c389, rfl⟩ := hm386.form
      refine d_qk (.agg #[.slice a367 n368 c369, .slice a377 n378 c379, .slice a387 n388 c389]) (by kernel_rfl) ?_
      have u391 := (((((u338.frS e345 Dj.nil_l).frS e357 Dj.nil_l).ext e364).ext e374).ext e384)
      refine d_fl (.agg #[.int .i64 y229, .slice none 0 0]) (x := aLoad Tryd.prog 33 (.pointer (some ⟨b234, 0, none⟩)) H383) (by kernel_rfl) (u391.ld (by kernel_rfl)) ?_
      have u392 := ((hm366.ext e374).ext e384)
      have u393 := (hm376.ext e384)
      obtain ⟨y394, hy395, r396⟩ := bind_some r359
      refine d_ck 29 #[.agg #[.slice a367 n368 c369, .slice a377 n378 c379, .slice a387 n388 c389]] (by kernel_rfl) (c_csr_Check e384.wf u392.sq u393.sq hm386.sq hy395) ?_
      rintro v397 H399 ⟨_, f398, rfl, e400, m401, i402⟩
      have u404 := (u391.frS e400 Dj.nil_l)
      refine ⟨st_ql (y := aLoad Tryd.prog 33 (.pointer (some ⟨b234, 0, none⟩)) H399) (by kernel_rfl) (u404.ld (by kernel_rfl)) (st_anc (by kernel_rfl) (st_anc (by kernel_rfl) (st_nil))), ?_⟩
      obtain ⟨y405, hy406, r407⟩ := bind_some r396
      refine d_ck 27 #[.int .i64 4, .int .i64 1, .agg #[.int .i64 y229, .slice none 0 0]] (by kernel_rfl) (c_viaductref01_At e400.wf (Sq.nil (enc := enc_i64_i64) (sz := 2) (by decide)) hy406) ?_
      rintro _ H410 ⟨s408, f409, rfl, e411, m412, i413⟩
      obtain ⟨a415, n416, c417, rfl⟩ := m412.form
      refine ⟨st_anc (by kernel_rfl) (st_anc (by kernel_rfl) (st_anc (by kernel_rfl) (st_nil))), ?_⟩
      have u418 := (m401.fr e411 Dj.nil_l)
      obtain ⟨y419, hy420, r421⟩ := bind_some r407
      refine d_ck 16 #[v397, .agg #[.int .i64 y405.1, .slice a415 n416 c417]] (by kernel_rfl) (c_viaductseen_Same e411.wf u418 m412.sq hy420) ?_
      rintro _ H422 ⟨rfl, e423⟩
      refine ⟨st_anc (by kernel_rfl) (st_anc (by kernel_rfl) (st_anc (by kernel_rfl) (st_nil))), ?_⟩
      by_cases h424 : y419 = true
      ·have r425 := ite_t h424 r421
       rw [h424]
       refine d_qk (.bool false) (by kernel_rfl) ?_
       refine d_qk (.bool false) (by kernel_rfl) ?_
       refine d_qk (.bool false) (by kernel_rfl) ?_
       refine d_owk (enc := (encI .i64)) (sz := 1) e423.wf [0, 1] 2 (by decide) (fun _ _ => rfl) (fun _ _ => rfl) rfl (by kernel_rfl) fun s427 f428 H429 e430 hf431 hm432 => ?_
       obtain ⟨a433, n434, c435, rfl⟩ := hm432.form
       refine d_owk (enc := (encI .i64)) (sz := 1) e430.wf [0] 1 (by decide) (fun _ _ => rfl) (fun _ _ => rfl) rfl (by kernel_rfl) fun s437 f438 H439 e440 hf441 hm442 => ?_
       obtain ⟨a443, n444, c445, rfl⟩ := hm442.form
       refine d_owk (enc := (encI .i64)) (sz := 1) e440.wf [1] 1 (by decide) (fun _ _ => rfl) (fun _ _ => rfl) rfl (by kernel_rfl) fun s447 f448 H449 e450 hf451 hm452 => ?_
       obtain ⟨a453, n454, c455, rfl⟩ := hm452.form
       refine d_qk (.agg #[.slice a433 n434 c435, .slice a443 n444 c445, .slice a453 n454 c455]) (by kernel_rfl) ?_
       have u457 := (((((u404.frS e411 Dj.nil_l).frS e423 Dj.nil_l).ext e430).ext e440).ext e450)
       refine d_fl (.agg #[.int .i64 y229, .slice none 0 0]) (x := aLoad Tryd.prog 33 (.pointer (some ⟨b234, 0, none⟩)) H449) (by kernel_rfl) (u457.ld (by kernel_rfl)) ?_
       have u458 := ((hm432.ext e440).ext e450)
       have u459 := (hm442.ext e450)
       obtain ⟨y460, hy461, r462⟩ := bind_some r425
       refine d_ck 29 #[.agg #[.slice a433 n434 c435, .slice a443 n444 c445, .slice a453 n454 c455]] (by kernel_rfl) (c_csr_Check e450.wf u458.sq u459.sq hm452.sq hy461) ?_
       rintro v463 H465 ⟨_, f464, rfl, e466, m467, i468⟩
       have u470 := (u457.frS e466 Dj.nil_l)
       refine ⟨st_ql (y := aLoad Tryd.prog 33 (.pointer (some ⟨b234, 0, none⟩)) H465) (by kernel_rfl) (u470.ld (by kernel_rfl)) (st_anc (by kernel_rfl) (st_anc (by kernel_rfl) (st_anc (by kernel_rfl) (st_nil)))), ?_⟩
       obtain ⟨y471, hy472, r473⟩ := bind_some r462
       refine d_ck 27 #[.int .i64 4, .int .i64 0, .agg #[.int .i64 y229, .slice none 0 0]] (by kernel_rfl) (c_viaductref01_At e466.wf (Sq.nil (enc := enc_i64_i64) (sz := 2) (by decide)) hy472) ?_
       rintro _ H476 ⟨s474, f475, rfl, e477, m478, i479⟩
       obtain ⟨a481, n482, c483, rfl⟩ := m478.form
       refine ⟨st_anc (by kernel_rfl) (st_anc (by kernel_rfl) (st_anc (by kernel_rfl) (st_anc (by kernel_rfl) (st_nil)))), ?_⟩
       have u484 := (m467.fr e477 Dj.nil_l)
       obtain ⟨y485, hy486, r487⟩ := bind_some r473
       refine d_ck 16 #[v463, .agg #[.int .i64 y471.1, .slice a481 n482 c483]] (by kernel_rfl) (c_viaductseen_Same e477.wf u484 m478.sq hy486) ?_
       rintro _ H488 ⟨rfl, e489⟩
       refine ⟨st_anc (by kernel_rfl) (st_anc (by kernel_rfl) (st_anc (by kernel_rfl) (st_anc (by kernel_rfl) (st_nil)))), ?_⟩
       by_cases h490 : y485 = true
       ·have r491 := ite_t h490 r487
        rw [h490]
        refine d_qk (.bool false) (by kernel_rfl) ?_
        refine d_qk (.bool false) (by kernel_rfl) ?_
        refine d_qk (.bool false) (by kernel_rfl) ?_
        refine d_owk (enc := (encI .i64)) (sz := 1) e489.wf [0, 1, 1] 3 (by decide) (fun _ _ => rfl) (fun _ _ => rfl) rfl (by kernel_rfl) fun s493 f494 H495 e496 hf497 hm498 => ?_
        obtain ⟨a499, n500, c501, rfl⟩ := hm498.form
        refine d_owk (enc := (encI .i64)) (sz := 1) e496.wf [2] 1 (by decide) (fun _ _ => rfl) (fun _ _ => rfl) rfl (by kernel_rfl) fun s503 f504 H505 e506 hf507 hm508 => ?_
        obtain ⟨a509, n510, c511, rfl⟩ := hm508.form
        refine d_owk (enc := (encI .i64)) (sz := 1) e506.wf [1] 1 (by decide) (fun _ _ => rfl) (fun _ _ => rfl) rfl (by kernel_rfl) fun s513 f514 H515 e516 hf517 hm518 => ?_
        obtain ⟨a519, n520, c521, rfl⟩ := hm518.form
        refine d_qk (.agg #[.slice a499 n500 c501, .slice a509 n510 c511, .slice a519 n520 c521]) (by kernel_rfl) ?_
        have u523 := ((hm498.ext e506).ext e516)
        have u524 := (hm508.ext e516)
        obtain ⟨y525, hy526, r527⟩ := bind_some r491
        refine d_ck 29 #[.agg #[.slice a499 n500 c501, .slice a509 n510 c511, .slice a519 n520 c521]] (by kernel_rfl) (c_csr_Check e516.wf u523.sq u524.sq hm518.sq hy526) ?_
        rintro v528 H530 ⟨_, f529, rfl, e531, m532, i533⟩
        refine ⟨st_anc (by kernel_rfl) (st_anc (by kernel_rfl) (st_anc (by kernel_rfl) (st_anc (by kernel_rfl) (st_nil)))), ?_⟩
        obtain ⟨y535, hy536, r537⟩ := bind_some r527
        refine d_ck 26 #[.int .i64 7] (by kernel_rfl) (c_viaductref01_E e531.wf hy536) ?_
        rintro _ H538 ⟨rfl, e539⟩
        refine ⟨st_anc (by kernel_rfl) (st_anc (by kernel_rfl) (st_anc (by kernel_rfl) (st_anc (by kernel_rfl) (st_nil)))), ?_⟩
        obtain ⟨y540, hy541, r542⟩ := bind_some r537
        refine d_ck 27 #[.int .i64 4, .int .i64 0, .agg #[.int .i64 y535, .slice none 0 0]] (by kernel_rfl) (c_viaductref01_At e539.wf (Sq.nil (enc := enc_i64_i64) (sz := 2) (by decide)) hy541) ?_
        rintro _ H545 ⟨s543, f544, rfl, e546, m547, i548⟩
        obtain ⟨a550, n551, c552, rfl⟩ := m547.form
        refine ⟨st_anc (by kernel_rfl) (st_anc (by kernel_rfl) (st_anc (by kernel_rfl) (st_anc (by kernel_rfl) (st_nil)))), ?_⟩
        have u553 := ((m532.fr e539 Dj.nil_l).fr e546 Dj.nil_l)
        obtain ⟨y554, hy555, r556⟩ := bind_some r542
        refine d_ck 16 #[v528, .agg #[.int .i64 y540.1, .slice a550 n551 c552]] (by kernel_rfl) (c_viaductseen_Same e546.wf u553 m547.sq hy555) ?_
        rintro _ H557 ⟨rfl, e558⟩
        refine ⟨st_anc (by kernel_rfl) (st_anc (by kernel_rfl) (st_anc (by kernel_rfl) (st_anc (by kernel_rfl) (st_nil)))), ?_⟩
        by_cases h559 : y554 = true
        ·have r560 := ite_t h559 r556
         rw [h559]
         refine d_qk (.bool false) (by kernel_rfl) ?_
         refine d_qk (.bool false) (by kernel_rfl) ?_
         refine d_qk (.bool false) (by kernel_rfl) ?_
         refine d_owk (enc := (encI .i64)) (sz := 1) e558.wf [1, 1] 2 (by decide) (fun _ _ => rfl) (fun _ _ => rfl) rfl (by kernel_rfl) fun s562 f563 H564 e565 hf566 hm567 => ?_
         obtain ⟨a568, n569, c570, rfl⟩ := hm567.form
         refine d_owk (enc := (encI .i64)) (sz := 1) e565.wf [2] 1 (by decide) (fun _ _ => rfl) (fun _ _ => rfl) rfl (by kernel_rfl) fun s572 f573 H574 e575 hf576 hm577 => ?_
         obtain ⟨a578, n579, c580, rfl⟩ := hm577.form
         refine d_owk (enc := (encI .i64)) (sz := 1) e575.wf [1] 1 (by decide) (fun _ _ => rfl) (fun _ _ => rfl) rfl (by kernel_rfl) fun s582 f583 H584 e585 hf586 hm587 => ?_
         obtain ⟨a588, n589, c590, rfl⟩ := hm587.form
         refine d_qk (.agg #[.slice a568 n569 c570, .slice a578 n579 c580, .slice a588 n589 c590]) (by kernel_rfl) ?_
         have u592 := ((((((((((((u470.frS e477 Dj.nil_l).frS e489 Dj.nil_l).ext e496).ext e506).ext e516).frS e531 Dj.nil_l).frS e539 Dj.nil_l).frS e546 Dj.nil_l).frS e558 Dj.nil_l).ext e565).ext e575).ext e585)
         refine d_fl (.agg #[.int .i64 y229, .slice none 0 0]) (x := aLoad Tryd.prog 33 (.pointer (some ⟨b234, 0, none⟩)) H584) (by kernel_rfl) (u592.ld (by kernel_rfl)) ?_
         have u593 := ((hm567.ext e575).ext e585)
         have u594 := (hm577.ext e585)
         obtain ⟨y595, hy596, r597⟩ := bind_some r560
         refine d_ck 29 #[.agg #[.slice a568 n569 c570, .slice a578 n579 c580, .slice a588 n589 c590]] (by kernel_rfl) (c_csr_Check e585.wf u593.sq u594.sq hm587.sq hy596) ?_
         rintro v598 H600 ⟨_, f599, rfl, e601, m602, i603⟩
         have u605 := (u592.frS e601 Dj.nil_l)
         refine ⟨st_ql (y := aLoad Tryd.prog 33 (.pointer (some ⟨b234, 0, none⟩)) H600) (by kernel_rfl) (u605.ld (by kernel_rfl)) (st_anc (by kernel_rfl) (st_anc (by kernel_rfl) (st_anc (by kernel_rfl) (st_anc (by kernel_rfl) (st_nil))))), ?_⟩
         obtain ⟨y606, hy607, r608⟩ := bind_some r597
         refine d_ck 16 #[v598, .agg #[.int .i64 y229, .slice none 0 0]] (by kernel_rfl) (c_viaductseen_Same e601.wf m602 (Sq.nil (enc := enc_i64_i64) (sz := 2) (by decide)) hy607) ?_
         rintro _ H609 ⟨rfl, e610⟩
         refine ⟨st_anc (by kernel_rfl) (st_anc (by kernel_rfl) (st_anc (by kernel_rfl) (st_anc (by kernel_rfl) (st_anc (by kernel_rfl) (st_nil))))), ?_⟩
         by_cases h611 : y606 = true
         ·have r612 := ite_t h611 r608
          rw [h611]
          refine d_qk (.bool false) (by kernel_rfl) ?_
          refine d_qk (.bool false) (by kernel_rfl) ?_
          refine d_qk (.bool false) (by kernel_rfl) ?_
          have u614 := ((((((((((((((((((((((((((((((((r264.frS e282 Dj.nil_l).frS e291 Dj.nil_l).ext e298).ext e308).ext e318).frS e334 Dj.nil_l).frS e345 Dj.nil_l).frS e357 Dj.nil_l).ext e364).ext e374).ext e384).frS e400 Dj.nil_l).frS e411 Dj.nil_l).frS e423 Dj.nil_l).ext e430).ext e440).ext e450).frS e466 Dj.nil_l).frS e477 Dj.nil_l).frS e489 Dj.nil_l).ext e496).ext e506).ext e516).frS e531 Dj.nil_l).frS e539 Dj.nil_l).frS e546 Dj.nil_l).frS e558 Dj.nil_l).ext e565).ext e575).ext e585).frS e601 Dj.nil_l).frS e610 Dj.nil_l)
          refine d_ql (.agg #[.slice a251 n252 c253, .slice none 0 0, .slice none 0 0]) (x := aLoad Tryd.prog 59 (.pointer (some ⟨b255, 0, none⟩)) H609) (by kernel_rfl) (u614.ld (by kernel_rfl)) ?_
          have u615 := (((((((((((((((((((((((((((((((((u265.fr e263 (hb258.djn hm250.lt)).fr e282 Dj.nil_l).fr e291 Dj.nil_l).ext e298).ext e308).ext e318).fr e334 Dj.nil_l).fr e345 Dj.nil_l).fr e357 Dj.nil_l).ext e364).ext e374).ext e384).fr e400 Dj.nil_l).fr e411 Dj.nil_l).fr e423 Dj.nil_l).ext e430).ext e440).ext e450).fr e466 Dj.nil_l).fr e477 Dj.nil_l).fr e489 Dj.nil_l).ext e496).ext e506).ext e516).fr e531 Dj.nil_l).fr e539 Dj.nil_l).fr e546 Dj.nil_l).fr e558 Dj.nil_l).ext e565).ext e575).ext e585).fr e601 Dj.nil_l).fr e610 Dj.nil_l)
          obtain ⟨y616, hy617, r618⟩ := bind_some r612
          refine d_ck 29 #[.agg #[.slice a251 n252 c253, .slice none 0 0, .slice none 0 0]] (by kernel_rfl) (c_csr_Check e610.wf u615.sq (Sq.nil (enc := (encI .i64)) (sz := 1) (by decide)) (Sq.nil (enc := (encI .i64)) (sz := 1) (by decide)) hy617) ?_
          rintro v619 H621 ⟨_, f620, rfl, e622, m623, i624⟩
          refine ⟨st_anc (by kernel_rfl) (st_anc (by kernel_rfl) (st_anc (by kernel_rfl) (st_anc (by kernel_rfl) (st_anc (by kernel_rfl) (st_nil))))), ?_⟩
          obtain ⟨y626, hy627, r628⟩ := bind_some r618
          refine d_ck 26 #[.int .i64 9] (by kernel_rfl) (c_viaductref01_E e622.wf hy627) ?_
          rintro _ H629 ⟨rfl, e630⟩
          refine ⟨st_anc (by kernel_rfl) (st_anc (by kernel_rfl) (st_anc (by kernel_rfl) (st_anc (by kernel_rfl) (st_anc (by kernel_rfl) (st_nil))))), ?_⟩
          have u631 := (m623.fr e630 Dj.nil_l)
          obtain ⟨y632, hy633, r634⟩ := bind_some r628
          refine d_ck 16 #[v619, .agg #[.int .i64 y626, .slice none 0 0]] (by kernel_rfl) (c_viaductseen_Same e630.wf u631 (Sq.nil (enc := enc_i64_i64) (sz := 2) (by decide)) hy633) ?_
          rintro _ H635 ⟨rfl, e636⟩
          refine ⟨st_anc (by kernel_rfl) (st_anc (by kernel_rfl) (st_anc (by kernel_rfl) (st_anc (by kernel_rfl) (st_anc (by kernel_rfl) (st_nil))))), ?_⟩
          by_cases h637 : y632 = true
          ·have r638 := ite_t h637 r634
           rw [h637]
           refine d_qk (.bool false) (by kernel_rfl) ?_
           refine d_qk (.bool false) (by kernel_rfl) ?_
           refine d_qk (.bool false) (by kernel_rfl) ?_
           refine d_qk (.pointer (some ⟨b255, 0, none⟩)) (by kernel_rfl) ?_
           have u640 := (((u614.frS e622 Dj.nil_l).frS e630 Dj.nil_l).frS e636 Dj.nil_l)
           refine d_ql (.slice a251 n252 c253) (x := aLoad Tryd.prog 42 (.pointer (some ⟨b255, 0, none⟩)) H635) (by kernel_rfl) (u640.ld (by kernel_rfl)) ?_
           obtain ⟨g641, r642⟩ := G_some r638
           have u646 := (((u615.fr e622 Dj.nil_l).fr e630 Dj.nil_l).fr e636 Dj.nil_l)
           obtain ⟨s643, q644, hs645⟩ := Sq.cut (P := Tryd.prog) u646.sq (t := 42) (by kernel_rfl) (lo := (some (.int .i64 1))) (hi := none) (l := (1 : Int).toNat) (r := (List.replicate (65538 : Int).toNat (0 : Int)).length) (aBound_int _ (by have := g641; omega)) (rfl) (by have := g641; omega) (by have := g641; omega)
           obtain ⟨a647, n648, c649, rfl⟩ := hs645.form
           refine d_ql (.slice a647 n648 c649) (by kernel_rfl) q644 ?_
           refine d_qk (.agg #[.slice a647 n648 c649, .slice none 0 0, .slice none 0 0]) (by kernel_rfl) ?_
           obtain ⟨y651, hy652, r653⟩ := bind_some r642
           refine d_ck 29 #[.agg #[.slice a647 n648 c649, .slice none 0 0, .slice none 0 0]] (by kernel_rfl) (c_csr_Check e636.wf hs645 (Sq.nil (enc := (encI .i64)) (sz := 1) (by decide)) (Sq.nil (enc := (encI .i64)) (sz := 1) (by decide)) hy652) ?_
           rintro v654 H656 ⟨_, f655, rfl, e657, m658, i659⟩
           refine ⟨st_anc (by kernel_rfl) (st_anc (by kernel_rfl) (st_anc (by kernel_rfl) (st_anc (by kernel_rfl) (st_anc (by kernel_rfl) (st_nil))))), ?_⟩
           rcases (m658).cases with ⟨h661, rfl⟩ | ⟨h661, t662, x663, rfl⟩
           ·have r664 := ite_t h661 r653
            refine d_qk (.bool false) (by kernel_rfl) ?_
            refine d_qk (.bool false) (by kernel_rfl) ?_
            refine d_nil ?_
            obtain rfl := Option.some.inj r664
            exact k273 _ _ ⟨⟨by kernel_rfl, by kernel_rfl, by kernel_rfl, trivial⟩, (FrS.step e263.wf (FrS.step e263.wf (FrS.step e263.wf (FrS.step e263.wf (FrS.step e263.wf (FrS.step e263.wf ((((FrS.step e263.wf (FrS.step e263.wf (FrS.step e263.wf (FrS.step e263.wf ((((FrS.step e263.wf (FrS.step e263.wf (FrS.step e263.wf ((((FrS.step e263.wf (FrS.step e263.wf (FrS.step e263.wf ((((FrS.step e263.wf (FrS.step e263.wf (FrS.step e263.wf ((((FrS.step e263.wf (FrS.step e263.wf (FrS.refl (W := []) e263.wf) e282 Inn.nil) e291 Inn.nil).extR e298).extR e308).extR e318) e334 Inn.nil) e345 Inn.nil) e357 Inn.nil).extR e364).extR e374).extR e384) e400 Inn.nil) e411 Inn.nil) e423 Inn.nil).extR e430).extR e440).extR e450) e466 Inn.nil) e477 Inn.nil) e489 Inn.nil).extR e496).extR e506).extR e516) e531 Inn.nil) e539 Inn.nil) e546 Inn.nil) e558 Inn.nil).extR e565).extR e575).extR e585) e601 Inn.nil) e610 Inn.nil) e622 Inn.nil) e630 Inn.nil) e636 Inn.nil) e657 Inn.nil)⟩
           ·have r665 := ite_f h661 r653
            refine d_ql (.bool true) (x := aBin Tryd.prog .neq 28 (.tmp 127) (.const .nilIface) (.iface t662 x663) .nilIface) (by kernel_rfl) (aBin_nnil (by kernel_rfl)) ?_
            refine d_qk (.bool true) (by kernel_rfl) ?_
            refine d_nil ?_
            obtain rfl := Option.some.inj r665
            exact k273 _ _ ⟨⟨by kernel_rfl, by kernel_rfl, by kernel_rfl, trivial⟩, (FrS.step e263.wf (FrS.step e263.wf (FrS.step e263.wf (FrS.step e263.wf (FrS.step e263.wf (FrS.step e263.wf ((((FrS.step e263.wf (FrS.step e263.wf (FrS.step e263.wf (FrS.step e263.wf ((((FrS.step e263.wf (FrS.step e263.wf (FrS.step e263.wf ((((FrS.step e263.wf (FrS.step e263.wf (FrS.step e263.wf ((((FrS.step e263.wf (FrS.step e263.wf (FrS.step e263.wf ((((FrS.step e263.wf (FrS.step e263.wf (FrS.refl (W := []) e263.wf) e282 Inn.nil) e291 Inn.nil).extR e298).extR e308).extR e318) e334 Inn.nil) e345 Inn.nil) e357 Inn.nil).extR e364).extR e374).extR e384) e400 Inn.nil) e411 Inn.nil) e423 Inn.nil).extR e430).extR e440).extR e450) e466 Inn.nil) e477 Inn.nil) e489 Inn.nil).extR e496).extR e506).extR e516) e531 Inn.nil) e539 Inn.nil) e546 Inn.nil) e558 Inn.nil).extR e565).extR e575).extR e585) e601 Inn.nil) e610 Inn.nil) e622 Inn.nil) e630 Inn.nil) e636 Inn.nil) e657 Inn.nil)⟩
          ·have r666 := ite_f h637 r634
           rw [nb h637]
           refine d_qk (.bool true) (by kernel_rfl) ?_
           refine d_qk (.bool true) (by kernel_rfl) ?_
           refine d_qk (.bool true) (by kernel_rfl) ?_
           refine d_idle (by kernel_rfl) ?_
           refine d_idle (by kernel_rfl) ?_
           refine d_idle (by kernel_rfl) ?_
           refine d_idle (by kernel_rfl) ?_
           refine d_idle (by kernel_rfl) ?_
           refine d_idle (by kernel_rfl) ?_
           refine d_qk (.bool true) (by kernel_rfl) ?_
           refine d_nil ?_
           obtain rfl := Option.some.inj r666
           exact k273 _ _ ⟨⟨by kernel_rfl, by kernel_rfl, by kernel_rfl, trivial⟩, (FrS.step e263.wf (FrS.step e263.wf (FrS.step e263.wf (FrS.step e263.wf (FrS.step e263.wf ((((FrS.step e263.wf (FrS.step e263.wf (FrS.step e263.wf (FrS.step e263.wf ((((FrS.step e263.wf (FrS.step e263.wf (FrS.step e263.wf ((((FrS.step e263.wf (FrS.step e263.wf (FrS.step e263.wf ((((FrS.step e263.wf (FrS.step e263.wf (FrS.step e263.wf ((((FrS.step e263.wf (FrS.step e263.wf (FrS.refl (W := []) e263.wf) e282 Inn.nil) e291 Inn.nil).extR e298).extR e308).extR e318) e334 Inn.nil) e345 Inn.nil) e357 Inn.nil).extR e364).extR e374).extR e384) e400 Inn.nil) e411 Inn.nil) e423 Inn.nil).extR e430).extR e440).extR e450) e466 Inn.nil) e477 Inn.nil) e489 Inn.nil).extR e496).extR e506).extR e516) e531 Inn.nil) e539 Inn.nil) e546 Inn.nil) e558 Inn.nil).extR e565).extR e575).extR e585) e601 Inn.nil) e610 Inn.nil) e622 Inn.nil) e630 Inn.nil) e636 Inn.nil)⟩
         ·have r668 := ite_f h611 r608
          rw [nb h611]
          refine d_qk (.bool true) (by kernel_rfl) ?_
          refine d_qk (.bool true) (by kernel_rfl) ?_
          refine d_qk (.bool true) (by kernel_rfl) ?_
          refine d_idle (by kernel_rfl) ?_
          refine d_idle (by kernel_rfl) ?_
          refine d_idle (by kernel_rfl) ?_
          refine d_idle (by kernel_rfl) ?_
          refine d_idle (by kernel_rfl) ?_
          refine d_qk (.bool true) (by kernel_rfl) ?_
          refine d_qk (.bool true) (by kernel_rfl) ?_
          refine d_idle (by kernel_rfl) ?_
          refine d_idle (by kernel_rfl) ?_
          refine d_idle (by kernel_rfl) ?_
          refine d_idle (by kernel_rfl) ?_
          refine d_idle (by kernel_rfl) ?_
          refine d_idle (by kernel_rfl) ?_
          refine d_qk (.bool true) (by kernel_rfl) ?_
          refine d_nil ?_
          obtain rfl := Option.some.inj r668
          exact k273 _ _ ⟨⟨by kernel_rfl, by kernel_rfl, by kernel_rfl, trivial⟩, (FrS.step e263.wf (FrS.step e263.wf ((((FrS.step e263.wf (FrS.step e263.wf (FrS.step e263.wf (FrS.step e263.wf ((((FrS.step e263.wf (FrS.step e263.wf (FrS.step e263.wf ((((FrS.step e263.wf (FrS.step e263.wf (FrS.step e263.wf ((((FrS.step e263.wf (FrS.step e263.wf (FrS.step e263.wf ((((FrS.step e263.wf (FrS.step e263.wf (FrS.refl (W := []) e263.wf) e282 Inn.nil) e291 Inn.nil).extR e298).extR e308).extR e318) e334 Inn.nil) e345 Inn.nil) e357 Inn.nil).extR e364).extR e374).extR e384) e400 Inn.nil) e411 Inn.nil) e423 Inn.nil).extR e430).extR e440).extR e450) e466 Inn.nil) e477 Inn.nil) e489 Inn.nil).extR e496).extR e506).extR e516) e531 Inn.nil) e539 Inn.nil) e546 Inn.nil) e558 Inn.nil).extR e565).extR e575).extR e585) e601 Inn.nil) e610 Inn.nil)⟩
        ·have r670 := ite_f h559 r556
         rw [nb h559]
         refine d_qk (.bool true) (by kernel_rfl) ?_
         refine d_qk (.bool true) (by kernel_rfl) ?_
         refine d_qk (.bool true) (by kernel_rfl) ?_
         refine d_idle (by kernel_rfl) ?_
         refine d_idle (by kernel_rfl) ?_
         refine d_idle (by kernel_rfl) ?_
         refine d_idle (by kernel_rfl) ?_
         refine d_idle (by kernel_rfl) ?_
         refine d_idle (by kernel_rfl) ?_
         refine d_idle (by kernel_rfl) ?_
         refine d_idle (by kernel_rfl) ?_
         refine d_qk (.bool true) (by kernel_rfl) ?_
         refine d_qk (.bool true) (by kernel_rfl) ?_
         refine d_idle (by kernel_rfl) ?_
         refine d_idle (by kernel_rfl) ?_
         refine d_idle (by kernel_rfl) ?_
         refine d_idle (by kernel_rfl) ?_
         refine d_idle (by kernel_rfl) ?_
         refine d_qk (.bool true) (by kernel_rfl) ?_
         refine d_qk (.bool true) (by kernel_rfl) ?_
         refine d_idle (by kernel_rfl) ?_
         refine d_idle (by kernel_rfl) ?_
         refine d_idle (by kernel_rfl) ?_
         refine d_idle (by kernel_rfl) ?_
         refine d_idle (by kernel_rfl) ?_
         refine d_idle (by kernel_rfl) ?_
         refine d_qk (.bool true) (by kernel_rfl) ?_
         refine d_nil ?_
         obtain rfl := Option.some.inj r670
         exact k273 _ _ ⟨⟨by kernel_rfl, by kernel_rfl, by kernel_rfl, trivial⟩, (FrS.step e263.wf (FrS.step e263.wf (FrS.step e263.wf (FrS.step e263.wf ((((FrS.step e263.wf (FrS.step e263.wf (FrS.step e263.wf ((((FrS.step e263.wf (FrS.step e263.wf (FrS.step e263.wf ((((FrS.step e263.wf (FrS.step e263.wf (FrS.step e263.wf ((((FrS.step e263.wf (FrS.step e263.wf (FrS.refl (W := []) e263.wf) e282 Inn.nil) e291 Inn.nil).extR e298).extR e308).extR e318) e334 Inn.nil) e345 Inn.nil) e357 Inn.nil).extR e364).extR e374).extR e384) e400 Inn.nil) e411 Inn.nil) e423 Inn.nil).extR e430).extR e440).extR e450) e466 Inn.nil) e477 Inn.nil) e489 Inn.nil).extR e496).extR e506).extR e516) e531 Inn.nil) e539 Inn.nil) e546 Inn.nil) e558 Inn.nil)⟩
       ·have r672 := ite_f h490 r487
        rw [nb h490]
        refine d_qk (.bool true) (by kernel_rfl) ?_
        refine d_qk (.bool true) (by kernel_rfl) ?_
        refine d_qk (.bool true) (by kernel_rfl) ?_
        refine d_idle (by kernel_rfl) ?_
        refine d_idle (by kernel_rfl) ?_
        refine d_idle (by kernel_rfl) ?_
        refine d_idle (by kernel_rfl) ?_
        refine d_idle (by kernel_rfl) ?_
        refine d_idle (by kernel_rfl) ?_
        refine d_idle (by kernel_rfl) ?_
        refine d_idle (by kernel_rfl) ?_
        refine d_idle (by kernel_rfl) ?_
        refine d_qk (.bool true) (by kernel_rfl) ?_
        refine d_qk (.bool true) (by kernel_rfl) ?_
        refine d_idle (by kernel_rfl) ?_
        refine d_idle (by kernel_rfl) ?_
        refine d_idle (by kernel_rfl) ?_
        refine d_idle (by kernel_rfl) ?_
        refine d_idle (by kernel_rfl) ?_
        refine d_idle (by kernel_rfl) ?_
        refine d_idle (by kernel_rfl) ?_
        refine d_idle (by kernel_rfl) ?_
        refine d_qk (.bool true) (by kernel_rfl) ?_
        refine d_qk (.bool true) (by kernel_rfl) ?_
        refine d_idle (by kernel_rfl) ?_
        refine d_idle (by kernel_rfl) ?_
        refine d_idle (by kernel_rfl) ?_
        refine d_idle (by kernel_rfl) ?_
        refine d_idle (by kernel_rfl) ?_
        refine d_qk (.bool true) (by kernel_rfl) ?_
        refine d_qk (.bool true) (by kernel_rfl) ?_
        refine d_idle (by kernel_rfl) ?_
        refine d_idle (by kernel_rfl) ?_
        refine d_idle (by kernel_rfl) ?_
        refine d_idle (by kernel_rfl) ?_
        refine d_idle (by kernel_rfl) ?_
        refine d_idle (by kernel_rfl) ?_
        refine d_qk (.bool true) (by kernel_rfl) ?_
        refine d_nil ?_
        obtain rfl := Option.some.inj r672
        exact k273 _ _ ⟨⟨by kernel_rfl, by kernel_rfl, by kernel_rfl, trivial⟩, (FrS.step e263.wf (FrS.step e263.wf (FrS.step e263.wf ((((FrS.step e263.wf (FrS.step e263.wf (FrS.step e263.wf ((((FrS.step e263.wf (FrS.step e263.wf (FrS.step e263.wf ((((FrS.step e263.wf (FrS.step e263.wf (FrS.refl (W := []) e263.wf) e282 Inn.nil) e291 Inn.nil).extR e298).extR e308).extR e318) e334 Inn.nil) e345 Inn.nil) e357 Inn.nil).extR e364).extR e374).extR e384) e400 Inn.nil) e411 Inn.nil) e423 Inn.nil).extR e430).extR e440).extR e450) e466 Inn.nil) e477 Inn.nil) e489 Inn.nil)⟩
      ·have r674 := ite_f h424 r421
       rw [nb h424]
       refine d_qk (.bool true) (by kernel_rfl) ?_
       refine d_qk (.bool true) (by kernel_rfl) ?_
       refine d_qk (.bool true) (by kernel_rfl) ?_
       refine d_idle (by kernel_rfl) ?_
       refine d_idle (by kernel_rfl) ?_
       refine d_idle (by kernel_rfl) ?_
       refine d_idle (by kernel_rfl) ?_
       refine d_idle (by kernel_rfl) ?_
       refine d_idle (by kernel_rfl) ?_
       refine d_idle (by kernel_rfl) ?_
       refine d_idle (by kernel_rfl) ?_
       refine d_idle (by kernel_rfl) ?_
       refine d_qk (.bool true) (by kernel_rfl) ?_
       refine d_qk (.bool true) (by kernel_rfl) ?_
       refine d_idle (by kernel_rfl) ?_
       refine d_idle (by kernel_rfl) ?_
       refine d_idle (by kernel_rfl) ?_
       refine d_idle (by kernel_rfl) ?_
       refine d_idle (by kernel_rfl) ?_
       refine d_idle (by kernel_rfl) ?_
       refine d_idle (by kernel_rfl) ?_
       refine d_idle (by kernel_rfl) ?_
       refine d_idle (by kernel_rfl) ?_
       refine d_qk (.bool true) (by kernel_rfl) ?_
       refine d_qk (.bool true) (by kernel_rfl) ?_
       refine d_idle (by kernel_rfl) ?_
       refine d_idle (by kernel_rfl) ?_
       refine d_idle (by kernel_rfl) ?_
       refine d_idle (by kernel_rfl) ?_
       refine d_idle (by kernel_rfl) ?_
       refine d_idle (by kernel_rfl) ?_
       refine d_idle (by kernel_rfl) ?_
       refine d_idle (by kernel_rfl) ?_
       refine d_qk (.bool true) (by kernel_rfl) ?_
       refine d_qk (.bool true) (by kernel_rfl) ?_
       refine d_idle (by kernel_rfl) ?_
       refine d_idle (by kernel_rfl) ?_
       refine d_idle (by kernel_rfl) ?_
       refine d_idle (by kernel_rfl) ?_
       refine d_idle (by kernel_rfl) ?_
       refine d_qk (.bool true) (by kernel_rfl) ?_
       refine d_qk (.bool true) (by kernel_rfl) ?_
       refine d_idle (by kernel_rfl) ?_
       refine d_idle (by kernel_rfl) ?_
       refine d_idle (by kernel_rfl) ?_
       refine d_idle (by kernel_rfl) ?_
       refine d_idle (by kernel_rfl) ?_
       refine d_idle (by kernel_rfl) ?_
       refine d_qk (.bool true) (by kernel_rfl) ?_
       refine d_nil ?_
       obtain rfl := Option.some.inj r674
       exact k273 _ _ ⟨⟨by kernel_rfl, by kernel_rfl, by kernel_rfl, trivial⟩, (FrS.step e263.wf (FrS.step e263.wf (FrS.step e263.wf ((((FrS.step e263.wf (FrS.step e263.wf (FrS.step e263.wf ((((FrS.step e263.wf (FrS.step e263.wf (FrS.refl (W := []) e263.wf) e282 Inn.nil) e291 Inn.nil).extR e298).extR e308).extR e318) e334 Inn.nil) e345 Inn.nil) e357 Inn.nil).extR e364).extR e374).extR e384) e400 Inn.nil) e411 Inn.nil) e423 Inn.nil)⟩
     ·have r676 := ite_f h358 r355
      rw [nb h358]
      refine d_qk (.bool true) (by kernel_rfl) ?_
      refine d_qk (.bool true) (by kernel_rfl) ?_
      refine d_qk (.bool true) (by kernel_rfl) ?_
      refine d_idle (by kernel_rfl) ?_
      refine d_idle (by kernel_rfl) ?_
      refine d_idle (by kernel_rfl) ?_
      refine d_idle (by kernel_rfl) ?_
      refine d_idle (by kernel_rfl) ?_
      refine d_idle (by kernel_rfl) ?_
      refine d_idle (by kernel_rfl) ?_
      refine d_idle (by kernel_rfl) ?_
      refine d_idle (by kernel_rfl) ?_
      refine d_qk (.bool true) (by kernel_rfl) ?_
      refine d_qk (.bool true) (by kernel_rfl) ?_
      refine d_idle (by kernel_rfl) ?_
      refine d_idle (by kernel_rfl) ?_
      refine d_idle (by kernel_rfl) ?_
      refine d_idle (by kernel_rfl) ?_
      refine d_idle (by kernel_rfl) ?_
      refine d_idle (by kernel_rfl) ?_
      refine d_idle (by kernel_rfl) ?_
      refine d_idle (by kernel_rfl) ?_
      refine d_idle (by kernel_rfl) ?_
      refine d_qk (.bool true) (by kernel_rfl) ?_
      refine d_qk (.bool true) (by kernel_rfl) ?_
      refine d_idle (by kernel_rfl) ?_
      refine d_idle (by kernel_rfl) ?_
      refine d_idle (by kernel_rfl) ?_
      refine d_idle (by kernel_rfl) ?_
      refine d_idle (by kernel_rfl) ?_
      refine d_idle (by kernel_rfl) ?_
      refine d_idle (by kernel_rfl) ?_
      refine d_idle (by kernel_rfl) ?_
      refine d_idle (by kernel_rfl) ?_
      refine d_qk (.bool true) (by kernel_rfl) ?_
      refine d_qk (.bool true) (by kernel_rfl) ?_
      refine d_idle (by kernel_rfl) ?_
      refine d_idle (by kernel_rfl) ?_
      refine d_idle (by kernel_rfl) ?_
      refine d_idle (by kernel_rfl) ?_
      refine d_idle (by kernel_rfl) ?_
      refine d_idle (by kernel_rfl) ?_
      refine d_idle (by kernel_rfl) ?_
      refine d_idle (by kernel_rfl) ?_
      refine d_qk (.bool true) (by kernel_rfl) ?_
      refine d_qk (.bool true) (by kernel_rfl) ?_
      refine d_idle (by kernel_rfl) ?_
      refine d_idle (by kernel_rfl) ?_
      refine d_idle (by kernel_rfl) ?_
      refine d_idle (by kernel_rfl) ?_
      refine d_idle (by kernel_rfl) ?_
      refine d_qk (.bool true) (by kernel_rfl) ?_
      refine d_qk (.bool true) (by kernel_rfl) ?_
      refine d_idle (by kernel_rfl) ?_
      refine d_idle (by kernel_rfl) ?_
      refine d_idle (by kernel_rfl) ?_
      refine d_idle (by kernel_rfl) ?_
      refine d_idle (by kernel_rfl) ?_
      refine d_idle (by kernel_rfl) ?_
      refine d_qk (.bool true) (by kernel_rfl) ?_
      refine d_nil ?_
      obtain rfl := Option.some.inj r676
      exact k273 _ _ ⟨⟨by kernel_rfl, by kernel_rfl, by kernel_rfl, trivial⟩, (FrS.step e263.wf (FrS.step e263.wf (FrS.step e263.wf ((((FrS.step e263.wf (FrS.step e263.wf (FrS.refl (W := []) e263.wf) e282 Inn.nil) e291 Inn.nil).extR e298).extR e308).extR e318) e334 Inn.nil) e345 Inn.nil) e357 Inn.nil)⟩
    ·have r678 := ite_f h292 r289
     rw [nb h292]
     refine d_qk (.bool true) (by kernel_rfl) ?_
     refine d_qk (.bool true) (by kernel_rfl) ?_
     refine d_idle (by kernel_rfl) ?_
     refine d_idle (by kernel_rfl) ?_
     refine d_idle (by kernel_rfl) ?_
     refine d_idle (by kernel_rfl) ?_
     refine d_idle (by kernel_rfl) ?_
     refine d_idle (by kernel_rfl) ?_
     refine d_idle (by kernel_rfl) ?_
     refine d_idle (by kernel_rfl) ?_
     refine d_idle (by kernel_rfl) ?_
     refine d_qk (.bool true) (by kernel_rfl) ?_
     refine d_qk (.bool true) (by kernel_rfl) ?_
     refine d_idle (by kernel_rfl) ?_
     refine d_idle (by kernel_rfl) ?_
     refine d_idle (by kernel_rfl) ?_
     refine d_idle (by kernel_rfl) ?_
     refine d_idle (by kernel_rfl) ?_
     refine d_idle (by kernel_rfl) ?_
     refine d_idle (by kernel_rfl) ?_
     refine d_idle (by kernel_rfl) ?_
     refine d_idle (by kernel_rfl) ?_
     refine d_qk (.bool true) (by kernel_rfl) ?_
     refine d_qk (.bool true) (by kernel_rfl) ?_
     refine d_idle (by kernel_rfl) ?_
     refine d_idle (by kernel_rfl) ?_
     refine d_idle (by kernel_rfl) ?_
     refine d_idle (by kernel_rfl) ?_
     refine d_idle (by kernel_rfl) ?_
     refine d_idle (by kernel_rfl) ?_
     refine d_idle (by kernel_rfl) ?_
     refine d_idle (by kernel_rfl) ?_
     refine d_idle (by kernel_rfl) ?_
     refine d_qk (.bool true) (by kernel_rfl) ?_
     refine d_qk (.bool true) (by kernel_rfl) ?_
     refine d_idle (by kernel_rfl) ?_
     refine d_idle (by kernel_rfl) ?_
     refine d_idle (by kernel_rfl) ?_
     refine d_idle (by kernel_rfl) ?_
     refine d_idle (by kernel_rfl) ?_
     refine d_idle (by kernel_rfl) ?_
     refine d_idle (by kernel_rfl) ?_
     refine d_idle (by kernel_rfl) ?_
     refine d_idle (by kernel_rfl) ?_
     refine d_qk (.bool true) (by kernel_rfl) ?_
     refine d_qk (.bool true) (by kernel_rfl) ?_
     refine d_idle (by kernel_rfl) ?_
     refine d_idle (by kernel_rfl) ?_
     refine d_idle (by kernel_rfl) ?_
     refine d_idle (by kernel_rfl) ?_
     refine d_idle (by kernel_rfl) ?_
     refine d_idle (by kernel_rfl) ?_
     refine d_idle (by kernel_rfl) ?_
     refine d_idle (by kernel_rfl) ?_
     refine d_qk (.bool true) (by kernel_rfl) ?_
     refine d_qk (.bool true) (by kernel_rfl) ?_
     refine d_idle (by kernel_rfl) ?_
     refine d_idle (by kernel_rfl) ?_
     refine d_idle (by kernel_rfl) ?_
     refine d_idle (by kernel_rfl) ?_
     refine d_idle (by kernel_rfl) ?_
     refine d_qk (.bool true) (by kernel_rfl) ?_
     refine d_qk (.bool true) (by kernel_rfl) ?_
     refine d_idle (by kernel_rfl) ?_
     refine d_idle (by kernel_rfl) ?_
     refine d_idle (by kernel_rfl) ?_
     refine d_idle (by kernel_rfl) ?_
     refine d_idle (by kernel_rfl) ?_
     refine d_idle (by kernel_rfl) ?_
     refine d_qk (.bool true) (by kernel_rfl) ?_
     refine d_nil ?_
     obtain rfl := Option.some.inj r678
     exact k273 _ _ ⟨⟨by kernel_rfl, by kernel_rfl, by kernel_rfl, trivial⟩, (FrS.step e263.wf (FrS.step e263.wf (FrS.refl (W := []) e263.wf) e282 Inn.nil) e291 Inn.nil)⟩
   ·obtain ⟨hh274, e272⟩ := hM
    obtain ⟨β, rfl⟩ := has_ex hh274
    clear hh274
    refine k267 _ _ ?_
    refine w_cond (o268) (by kernel_rfl) rfl (fun h680 => ?_) (fun h680 => ?_)
    ·have r681 := ite_t h680 r270
     refine w_seqk fun K682 k682 => ?_
     refine w_reg (by kernel_rfl) ?_
     refine s_qk (.bool false) (by kernel_rfl) ?_
     refine s_nil ?_
     refine k682 _ _ ?_
     refine w_ret (th_ret ?_)
     refine b_ret (fn := Tryd.f10) (vs := [.bool false]) (aRes_tmp (by kernel_rfl) (rfl)) ?_
     obtain rfl := Option.some.inj r681
     exact ⟨rfl, (FrS.step wf (FrS.step wf (((FrS.step wf ((FrS.step wf (FrS.step wf (FrS.step wf ((FrS.step wf (FrS.step wf ((FrS.step wf ((FrS.refl (W := []) wf).extR e8) e27 Inn.nil).extR e57) e63 (hb58.fresh (ntr e8.next e27.next))) e81 Inn.nil).extR e111) e117 (hb112.fresh (ntr (ntr (ntr (ntr e8.next e27.next) e57.next) e63.next) e81.next))) e128 Inn.nil) e233 Inn.nil).extR e236) e242 (hb237.fresh (ntr (ntr (ntr (ntr (ntr (ntr (ntr (ntr e8.next e27.next) e57.next) e63.next) e81.next) e111.next) e117.next) e128.next) e233.next))).extR e248).extR e257) e263 (hb258.fresh (ntr (ntr (ntr (ntr (ntr (ntr (ntr (ntr (ntr (ntr (ntr e8.next e27.next) e57.next) e63.next) e81.next) e111.next) e117.next) e128.next) e233.next) e236.next) e242.next) e248.next))) e272 Inn.nil)⟩
    ·have r683 := ite_bf h680 r270
     refine w_skip ?_
     refine k266 _ _ ?_
     refine w_seqk fun K684 k684 => ?_
     refine w_reg (by kernel_rfl) ?_
     have u685 := (((((((((((r64.frS e81 Dj.nil_l).ext e111).frS e117 (hb112.djn (r59.ltF.le (ntr e63.next e81.next)))).frS e128 Dj.nil_l).frS e233 Dj.nil_l).ext e236).frS e242 (hb237.djn (r59.ltF.le (ntr (ntr (ntr (ntr (ntr e63.next e81.next) e111.next) e117.next) e128.next) e233.next)))).ext e248).ext e257).frS e263 (hb258.djn (r59.ltF.le (ntr (ntr (ntr (ntr (ntr (ntr (ntr (ntr e63.next e81.next) e111.next) e117.next) e128.next) e233.next) e236.next) e242.next) e248.next)))).frS e272 Dj.nil_l)
     refine s_ql (.agg #[.slice a46 n47 c48, .slice a49 n50 c51, .slice a52 n53 c54]) (x := aLoad Tryd.prog 59 (.pointer (some ⟨b55, 0, none⟩)) H271) (by kernel_rfl) (u685.ld (by kernel_rfl)) ?_
     have u686 := ((((((((((((u67.fr e63 (hb58.djn m28.lt)).fr e81 Dj.nil_l).ext e111).fr e117 (hb112.djn (m28.lt.le (ntr (ntr e57.next e63.next) e81.next)))).fr e128 Dj.nil_l).fr e233 Dj.nil_l).ext e236).fr e242 (hb237.djn (m28.lt.le (ntr (ntr (ntr (ntr (ntr (ntr e57.next e63.next) e81.next) e111.next) e117.next) e128.next) e233.next)))).ext e248).ext e257).fr e263 (hb258.djn (m28.lt.le (ntr (ntr (ntr (ntr (ntr (ntr (ntr (ntr (ntr e57.next e63.next) e81.next) e111.next) e117.next) e128.next) e233.next) e236.next) e242.next) e248.next)))).fr e272 Dj.nil_l)
     have u687 := ((((((((((((u66.fr e63 (hb58.djn m29.lt)).fr e81 Dj.nil_l).ext e111).fr e117 (hb112.djn (m29.lt.le (ntr (ntr e57.next e63.next) e81.next)))).fr e128 Dj.nil_l).fr e233 Dj.nil_l).ext e236).fr e242 (hb237.djn (m29.lt.le (ntr (ntr (ntr (ntr (ntr (ntr e57.next e63.next) e81.next) e111.next) e117.next) e128.next) e233.next)))).ext e248).ext e257).fr e263 (hb258.djn (m29.lt.le (ntr (ntr (ntr (ntr (ntr (ntr (ntr (ntr (ntr e57.next e63.next) e81.next) e111.next) e117.next) e128.next) e233.next) e236.next) e242.next) e248.next)))).fr e272 Dj.nil_l)
     have u688 := ((((((((((((u65.fr e63 (hb58.djn m30.lt)).fr e81 Dj.nil_l).ext e111).fr e117 (hb112.djn (m30.lt.le (ntr (ntr e57.next e63.next) e81.next)))).fr e128 Dj.nil_l).fr e233 Dj.nil_l).ext e236).fr e242 (hb237.djn (m30.lt.le (ntr (ntr (ntr (ntr (ntr (ntr e57.next e63.next) e81.next) e111.next) e117.next) e128.next) e233.next)))).ext e248).ext e257).fr e263 (hb258.djn (m30.lt.le (ntr (ntr (ntr (ntr (ntr (ntr (ntr (ntr (ntr e57.next e63.next) e81.next) e111.next) e117.next) e128.next) e233.next) e236.next) e242.next) e248.next)))).fr e272 Dj.nil_l)
     obtain ⟨y689, hy690, r691⟩ := bind_some r683
     refine s_ck 34 #[.agg #[.slice a46 n47 c48, .slice a49 n50 c51, .slice a52 n53 c54], .int .i64 3] (by kernel_rfl) (c_csr_Row e272.wf u686.sq u687.sq u688.sq hy690) ?_
     rintro _ H696 ⟨s692, f693, v694, f695, rfl, e697, m698, m699, i700, i701, d702⟩
     obtain ⟨a705, n706, c707, rfl⟩ := m698.form
     refine s_qk (.tuple #[.slice a705 n706 c707, v694]) (by kernel_rfl) ?_
     refine s_qk (.slice a705 n706 c707) (by kernel_rfl) ?_
     refine s_qk (v694) (by kernel_rfl) ?_
     refine s_qk (v694) (by kernel_rfl) ?_
     refine s_nil ?_
     refine k684 _ _ ?_
     refine w_seqk fun K708 k708 => ?_
     refine w_reg (by kernel_rfl) ?_
     have u709 := (u685.frS e697 Dj.nil_l)
     refine s_ql (.agg #[.slice a46 n47 c48, .slice a49 n50 c51, .slice a52 n53 c54]) (x := aLoad Tryd.prog 59 (.pointer (some ⟨b55, 0, none⟩)) H696) (by kernel_rfl) (u709.ld (by kernel_rfl)) ?_
     have u710 := (u686.fr e697 Dj.nil_l)
     have u711 := (u687.fr e697 Dj.nil_l)
     have u712 := (u688.fr e697 Dj.nil_l)
     obtain ⟨y713, hy714, r715⟩ := bind_some r691
     refine s_ck 37 #[.agg #[.slice a46 n47 c48, .slice a49 n50 c51, .slice a52 n53 c54], .int .i64 0, .int .i64 0] (by kernel_rfl) (c_csr_Find e697.wf u710.sq u711.sq u712.sq hy714) ?_
     rintro _ H718 ⟨v716, f717, rfl, e719, m720, i721⟩
     refine s_qk (.tuple #[.int .i64 y713.1, v716]) (by kernel_rfl) ?_
     refine s_qk (.int .i64 y713.1) (by kernel_rfl) ?_
     refine s_qk (v716) (by kernel_rfl) ?_
     refine s_qk (v716) (by kernel_rfl) ?_
     refine s_nil ?_
     refine k708 _ _ ?_
     refine w_seqk fun K723 k723 => ?_
     refine w_reg (by kernel_rfl) ?_
     have u724 := (u709.frS e719 Dj.nil_l)
     refine s_ql (.agg #[.slice a46 n47 c48, .slice a49 n50 c51, .slice a52 n53 c54]) (x := aLoad Tryd.prog 59 (.pointer (some ⟨b55, 0, none⟩)) H718) (by kernel_rfl) (u724.ld (by kernel_rfl)) ?_
     have u725 := (u710.fr e719 Dj.nil_l)
     have u726 := (u711.fr e719 Dj.nil_l)
     have u727 := (u712.fr e719 Dj.nil_l)
     obtain ⟨y728, hy729, r730⟩ := bind_some r715
     refine s_ck 37 #[.agg #[.slice a46 n47 c48, .slice a49 n50 c51, .slice a52 n53 c54], .int .i64 (-1), .int .i64 9] (by kernel_rfl) (c_csr_Find e719.wf u725.sq u726.sq u727.sq hy729) ?_
     rintro _ H733 ⟨v731, f732, rfl, e734, m735, i736⟩
     refine s_qk (.tuple #[.int .i64 y728.1, v731]) (by kernel_rfl) ?_
     refine s_qk (.int .i64 y728.1) (by kernel_rfl) ?_
     refine s_qk (v731) (by kernel_rfl) ?_
     refine s_qk (.int .i64 y728.1) (by kernel_rfl) ?_
     refine s_qk (v731) (by kernel_rfl) ?_
     refine s_nil ?_
     refine k723 _ _ ?_
     refine w_seqk fun K738 k738 => ?_
     refine w_reg (by kernel_rfl) ?_
     have u739 := (u724.frS e734 Dj.nil_l)
     refine s_ql (.agg #[.slice a46 n47 c48, .slice a49 n50 c51, .slice a52 n53 c54]) (x := aLoad Tryd.prog 59 (.pointer (some ⟨b55, 0, none⟩)) H733) (by kernel_rfl) (u739.ld (by kernel_rfl)) ?_
     have u740 := (u725.fr e734 Dj.nil_l)
     have u741 := (u726.fr e734 Dj.nil_l)
     have u742 := (u727.fr e734 Dj.nil_l)
     obtain ⟨y743, hy744, r745⟩ := bind_some r730
     refine s_ck 37 #[.agg #[.slice a46 n47 c48, .slice a49 n50 c51, .slice a52 n53 c54], .int .i64 0, .int .i64 3] (by kernel_rfl) (c_csr_Find e734.wf u740.sq u741.sq u742.sq hy744) ?_
     rintro _ H748 ⟨v746, f747, rfl, e749, m750, i751⟩
     refine s_qk (.tuple #[.int .i64 y743.1, v746]) (by kernel_rfl) ?_
     refine s_qk (.int .i64 y743.1) (by kernel_rfl) ?_
     refine s_qk (v746) (by kernel_rfl) ?_
     refine s_qk (.int .i64 y743.1) (by kernel_rfl) ?_
     refine s_qk (v746) (by kernel_rfl) ?_
     refine s_nil ?_
     refine k738 _ _ ?_
     refine w_seqk fun K753 k753 => ?_
     refine w_reg (by kernel_rfl) ?_
     refine s_owk (enc := (encI .i64)) (sz := 1) e749.wf [1] 1 (by decide) (fun _ _ => rfl) (fun _ _ => rfl) rfl (by kernel_rfl) fun s754 f755 H756 e757 hf758 hm759 => ?_
     obtain ⟨a760, n761, c762, rfl⟩ := hm759.form
     refine s_qk (.agg #[.slice a760 n761 c762, .slice none 0 0, .slice none 0 0]) (by kernel_rfl) ?_
     obtain ⟨y764, hy765, r766⟩ := bind_some r745
     refine s_ck 34 #[.agg #[.slice a760 n761 c762, .slice none 0 0, .slice none 0 0], .int .i64 0] (by kernel_rfl) (c_csr_Row e757.wf hm759.sq (Sq.nil (enc := (encI .i64)) (sz := 1) (by decide)) (Sq.nil (enc := (encI .i64)) (sz := 1) (by decide)) hy765) ?_
     rintro _ H771 ⟨s767, f768, v769, f770, rfl, e772, m773, m774, i775, i776, d777⟩
     obtain ⟨a780, n781, c782, rfl⟩ := m773.form
     refine s_qk (.tuple #[.slice a780 n781 c782, v769]) (by kernel_rfl) ?_
     refine s_qk (.slice a780 n781 c782) (by kernel_rfl) ?_
     refine s_qk (v769) (by kernel_rfl) ?_
     refine s_qk (.slice a780 n781 c782) (by kernel_rfl) ?_
     refine s_qk (v769) (by kernel_rfl) ?_
     refine s_nil ?_
     refine k753 _ _ ?_
     refine w_seqk fun K783 k783 => ?_
     refine w_reg (by kernel_rfl) ?_
     refine s_qk (v694) (by kernel_rfl) ?_
     obtain ⟨y784, hy785, r786⟩ := bind_some r766
     refine s_ck 26 #[.int .i64 7] (by kernel_rfl) (c_viaductref01_E e772.wf hy785) ?_
     rintro _ H787 ⟨rfl, e788⟩
     have u789 := ((((((m699.fr e719 Dj.nil_l).fr e734 Dj.nil_l).fr e749 Dj.nil_l).ext e757).fr e772 Dj.nil_l).fr e788 Dj.nil_l)
     obtain ⟨y790, hy791, r792⟩ := bind_some r786
     refine s_ck 16 #[v694, .agg #[.int .i64 y784, .slice none 0 0]] (by kernel_rfl) (c_viaductseen_Same e788.wf u789 (Sq.nil (enc := enc_i64_i64) (sz := 2) (by decide)) hy791) ?_
     rintro _ H793 ⟨rfl, e794⟩
     by_cases h795 : y790 = true
     ·have r796 := ite_t h795 r792
      rw [h795]
      refine s_qk (.bool true) (by kernel_rfl) ?_
      refine s_qk (v716) (by kernel_rfl) ?_
      obtain ⟨y798, hy799, r800⟩ := bind_some r796
      refine s_ck 26 #[.int .i64 16] (by kernel_rfl) (c_viaductref01_E e794.wf hy799) ?_
      rintro _ H801 ⟨rfl, e802⟩
      have u803 := (((((((m720.fr e734 Dj.nil_l).fr e749 Dj.nil_l).ext e757).fr e772 Dj.nil_l).fr e788 Dj.nil_l).fr e794 Dj.nil_l).fr e802 Dj.nil_l)
      obtain ⟨y804, hy805, r806⟩ := bind_some r800
      refine s_ck 16 #[v716, .agg #[.int .i64 y798, .slice none 0 0]] (by kernel_rfl) (c_viaductseen_Same e802.wf u803 (Sq.nil (enc := enc_i64_i64) (sz := 2) (by decide)) hy805) ?_
      rintro _ H807 ⟨rfl, e808⟩
      by_cases h809 : y804 = true
      ·have r810 := ite_t h809 r806
       rw [h809]
       refine s_qk (.bool true) (by kernel_rfl) ?_
       refine s_qk (.bool true) (by kernel_rfl) ?_
       refine s_qk (v731) (by kernel_rfl) ?_
       obtain ⟨y812, hy813, r814⟩ := bind_some r810
       refine s_ck 26 #[.int .i64 7] (by kernel_rfl) (c_viaductref01_E e808.wf hy813) ?_
       rintro _ H815 ⟨rfl, e816⟩
       have u817 := ((((((((m735.fr e749 Dj.nil_l).ext e757).fr e772 Dj.nil_l).fr e788 Dj.nil_l).fr e794 Dj.nil_l).fr e802 Dj.nil_l).fr e808 Dj.nil_l).fr e816 Dj.nil_l)
       obtain ⟨y818, hy819, r820⟩ := bind_some r814
       refine s_ck 16 #[v731, .agg #[.int .i64 y812, .slice none 0 0]] (by kernel_rfl) (c_viaductseen_Same e816.wf u817 (Sq.nil (enc := enc_i64_i64) (sz := 2) (by decide)) hy819) ?_
       rintro _ H821 ⟨rfl, e822⟩
       by_cases h823 : y818 = true
       ·have r824 := ite_t h823 r820
        rw [h823]
        refine s_qk (.bool true) (by kernel_rfl) ?_
        refine s_qk (.bool true) (by kernel_rfl) ?_
        refine s_qk (v746) (by kernel_rfl) ?_
        obtain ⟨y826, hy827, r828⟩ := bind_some r824
        refine s_ck 26 #[.int .i64 7] (by kernel_rfl) (c_viaductref01_E e822.wf hy827) ?_
        rintro _ H829 ⟨rfl, e830⟩
        have u831 := (((((((((m750.ext e757).fr e772 Dj.nil_l).fr e788 Dj.nil_l).fr e794 Dj.nil_l).fr e802 Dj.nil_l).fr e808 Dj.nil_l).fr e816 Dj.nil_l).fr e822 Dj.nil_l).fr e830 Dj.nil_l)
        obtain ⟨y832, hy833, r834⟩ := bind_some r828
        refine s_ck 16 #[v746, .agg #[.int .i64 y826, .slice none 0 0]] (by kernel_rfl) (c_viaductseen_Same e830.wf u831 (Sq.nil (enc := enc_i64_i64) (sz := 2) (by decide)) hy833) ?_
        rintro _ H835 ⟨rfl, e836⟩
        by_cases h837 : y832 = true
        ·have r838 := ite_t h837 r834
         rw [h837]
         refine s_qk (.bool true) (by kernel_rfl) ?_
         refine s_qk (.bool true) (by kernel_rfl) ?_
         refine s_qk (v769) (by kernel_rfl) ?_
         have u840 := ((((((((((((((((((r243.ext e248).ext e257).frS e263 (hb258.djn (r238.ltF.le (ntr e242.next e248.next)))).frS e272 Dj.nil_l).frS e697 Dj.nil_l).frS e719 Dj.nil_l).frS e734 Dj.nil_l).frS e749 Dj.nil_l).ext e757).frS e772 Dj.nil_l).frS e788 Dj.nil_l).frS e794 Dj.nil_l).frS e802 Dj.nil_l).frS e808 Dj.nil_l).frS e816 Dj.nil_l).frS e822 Dj.nil_l).frS e830 Dj.nil_l).frS e836 Dj.nil_l)
         refine s_ql (.agg #[.int .i64 y229, .slice none 0 0]) (x := aLoad Tryd.prog 33 (.pointer (some ⟨b234, 0, none⟩)) H835) (by kernel_rfl) (u840.ld (by kernel_rfl)) ?_
         have u841 := ((((((((m774.fr e788 Dj.nil_l).fr e794 Dj.nil_l).fr e802 Dj.nil_l).fr e808 Dj.nil_l).fr e816 Dj.nil_l).fr e822 Dj.nil_l).fr e830 Dj.nil_l).fr e836 Dj.nil_l)
         obtain ⟨y842, hy843, r844⟩ := bind_some r838
         refine s_ck 16 #[v769, .agg #[.int .i64 y229, .slice none 0 0]] (by kernel_rfl) (c_viaductseen_Same e836.wf u841 (Sq.nil (enc := enc_i64_i64) (sz := 2) (by decide)) hy843) ?_
         rintro _ H845 ⟨rfl, e846⟩
         refine s_qk (.bool y842) (by kernel_rfl) ?_
         refine s_qk (.bool y842) (by kernel_rfl) ?_
         refine s_nil ?_
         refine k783 _ _ ?_
         refine w_ret ?_
         refine b_ret (fn := Tryd.f10) (vs := [.bool y842]) (aRes_tmp (by kernel_rfl) (rfl)) ?_
         obtain rfl := Option.some.inj r844
         exact ⟨rfl, (FrS.step wf (FrS.step wf (FrS.step wf (FrS.step wf (FrS.step wf (FrS.step wf (FrS.step wf (FrS.step wf (FrS.step wf (FrS.step wf ((FrS.step wf (FrS.step wf (FrS.step wf (FrS.step wf (FrS.step wf (FrS.step wf (((FrS.step wf ((FrS.step wf (FrS.step wf (FrS.step wf ((FrS.step wf (FrS.step wf ((FrS.step wf ((FrS.refl (W := []) wf).extR e8) e27 Inn.nil).extR e57) e63 (hb58.fresh (ntr e8.next e27.next))) e81 Inn.nil).extR e111) e117 (hb112.fresh (ntr (ntr (ntr (ntr e8.next e27.next) e57.next) e63.next) e81.next))) e128 Inn.nil) e233 Inn.nil).extR e236) e242 (hb237.fresh (ntr (ntr (ntr (ntr (ntr (ntr (ntr (ntr e8.next e27.next) e57.next) e63.next) e81.next) e111.next) e117.next) e128.next) e233.next))).extR e248).extR e257) e263 (hb258.fresh (ntr (ntr (ntr (ntr (ntr (ntr (ntr (ntr (ntr (ntr (ntr e8.next e27.next) e57.next) e63.next) e81.next) e111.next) e117.next) e128.next) e233.next) e236.next) e242.next) e248.next))) e272 Inn.nil) e697 Inn.nil) e719 Inn.nil) e734 Inn.nil) e749 Inn.nil).extR e757) e772 Inn.nil) e788 Inn.nil) e794 Inn.nil) e802 Inn.nil) e808 Inn.nil) e816 Inn.nil) e822 Inn.nil) e830 Inn.nil) e836 Inn.nil) e846 Inn.nil)⟩
        ·have r847 := ite_f h837 r834
         rw [nb h837]
         refine s_qk (.bool false) (by kernel_rfl) ?_
         refine s_qk (.bool false) (by kernel_rfl) ?_
         refine s_no (by kernel_rfl) ?_
         refine s_no (by kernel_rfl) ?_
         refine s_no (by kernel_rfl) ?_
         refine s_qk (.bool false) (by kernel_rfl) ?_
         refine s_qk (.bool false) (by kernel_rfl) ?_
         refine s_nil ?_
         refine k783 _ _ ?_
         refine w_ret ?_
         refine b_ret (fn := Tryd.f10) (vs := [.bool false]) (aRes_tmp (by kernel_rfl) (rfl)) ?_
         obtain rfl := Option.some.inj r847
         exact ⟨rfl, (FrS.step wf (FrS.step wf (FrS.step wf (FrS.step wf (FrS.step wf (FrS.step wf (FrS.step wf (FrS.step wf (FrS.step wf ((FrS.step wf (FrS.step wf (FrS.step wf (FrS.step wf (FrS.step wf (FrS.step wf (((FrS.step wf ((FrS.step wf (FrS.step wf (FrS.step wf ((FrS.step wf (FrS.step wf ((FrS.step wf ((FrS.refl (W := []) wf).extR e8) e27 Inn.nil).extR e57) e63 (hb58.fresh (ntr e8.next e27.next))) e81 Inn.nil).extR e111) e117 (hb112.fresh (ntr (ntr (ntr (ntr e8.next e27.next) e57.next) e63.next) e81.next))) e128 Inn.nil) e233 Inn.nil).extR e236) e242 (hb237.fresh (ntr (ntr (ntr (ntr (ntr (ntr (ntr (ntr e8.next e27.next) e57.next) e63.next) e81.next) e111.next) e117.next) e128.next) e233.next))).extR e248).extR e257) e263 (hb258.fresh (ntr (ntr (ntr (ntr (ntr (ntr (ntr (ntr (ntr (ntr (ntr e8.next e27.next) e57.next) e63.next) e81.next) e111.next) e117.next) e128.next) e233.next) e236.next) e242.next) e248.next))) e272 Inn.nil) e697 Inn.nil) e719 Inn.nil) e734 Inn.nil) e749 Inn.nil).extR e757) e772 Inn.nil) e788 Inn.nil) e794 Inn.nil) e802 Inn.nil) e808 Inn.nil) e816 Inn.nil) e822 Inn.nil) e830 Inn.nil) e836 Inn.nil)⟩
       ·have r849 := ite_f h823 r820
        rw [nb h823]
        refine s_qk (.bool false) (by kernel_rfl) ?_
        refine s_qk (.bool false) (by kernel_rfl) ?_
        refine s_no (by kernel_rfl) ?_
        refine s_no (by kernel_rfl) ?_
        refine s_no (by kernel_rfl) ?_
        refine s_qk (.bool false) (by kernel_rfl) ?_
        refine s_qk (.bool false) (by kernel_rfl) ?_
        refine s_no (by kernel_rfl) ?_
        refine s_no (by kernel_rfl) ?_
        refine s_no (by kernel_rfl) ?_
        refine s_qk (.bool false) (by kernel_rfl) ?_
        refine s_qk (.bool false) (by kernel_rfl) ?_
        refine s_nil ?_
        refine k783 _ _ ?_
        refine w_ret ?_
        refine b_ret (fn := Tryd.f10) (vs := [.bool false]) (aRes_tmp (by kernel_rfl) (rfl)) ?_
        obtain rfl := Option.some.inj r849
        exact ⟨rfl, (FrS.step wf (FrS.step wf (FrS.step wf (FrS.step wf (FrS.step wf (FrS.step wf (FrS.step wf ((FrS.step wf (FrS.step wf (FrS.step wf (FrS.step wf (FrS.step wf (FrS.step wf (((FrS.step wf ((FrS.step wf (FrS.step wf (FrS.step wf ((FrS.step wf (FrS.step wf ((FrS.step wf ((FrS.refl (W := []) wf).extR e8) e27 Inn.nil).extR e57) e63 (hb58.fresh (ntr e8.next e27.next))) e81 Inn.nil).extR e111) e117 (hb112.fresh (ntr (ntr (ntr (ntr e8.next e27.next) e57.next) e63.next) e81.next))) e128 Inn.nil) e233 Inn.nil).extR e236) e242 (hb237.fresh (ntr (ntr (ntr (ntr (ntr (ntr (ntr (ntr e8.next e27.next) e57.next) e63.next) e81.next) e111.next) e117.next) e128.next) e233.next))).extR e248).extR e257) e263 (hb258.fresh (ntr (ntr (ntr (ntr (ntr (ntr (ntr (ntr (ntr (ntr (ntr e8.next e27.next) e57.next) e63.next) e81.next) e111.next) e117.next) e128.next) e233.next) e236.next) e242.next) e248.next))) e272 Inn.nil) e697 Inn.nil) e719 Inn.nil) e734 Inn.nil) e749 Inn.nil).extR e757) e772 Inn.nil) e788 Inn.nil) e794 Inn.nil) e802 Inn.nil) e808 Inn.nil) e816 Inn.nil) e822 Inn.nil)⟩
      ·have r851 := ite_f h809 r806
       rw [nb h809]
       refine s_qk (.bool false) (by kernel_rfl) ?_
       refine s_qk (.bool false) (by kernel_rfl) ?_
       refine s_no (by kernel_rfl) ?_
       refine s_no (by kernel_rfl) ?_
       refine s_no (by kernel_rfl) ?_
       refine s_qk (.bool false) (by kernel_rfl) ?_
       refine s_qk (.bool false) (by kernel_rfl) ?_
       refine s_no (by kernel_rfl) ?_
       refine s_no (by kernel_rfl) ?_
       refine s_no (by kernel_rfl) ?_
       refine s_qk (.bool false) (by kernel_rfl) ?_
       refine s_qk (.bool false) (by kernel_rfl) ?_
       refine s_no (by kernel_rfl) ?_
       refine s_no (by kernel_rfl) ?_
       refine s_no (by kernel_rfl) ?_
       refine s_qk (.bool false) (by kernel_rfl) ?_
       refine s_qk (.bool false) (by kernel_rfl) ?_
       refine s_nil ?_
       refine k783 _ _ ?_
       refine w_ret ?_
       refine b_ret (fn := Tryd.f10) (vs := [.bool false]) (aRes_tmp (by kernel_rfl) (rfl)) ?_
       obtain rfl := Option.some.inj r851
       exact ⟨rfl, (FrS.step wf (FrS.step wf (FrS.step wf (FrS.step wf (FrS.step wf ((FrS.step wf (FrS.step wf (FrS.step wf (FrS.step wf (FrS.step wf (FrS.step wf (((FrS.step wf ((FrS.step wf (FrS.step wf (FrS.step wf ((FrS.step wf (FrS.step wf ((FrS.step wf ((FrS.refl (W := []) wf).extR e8) e27 Inn.nil).extR e57) e63 (hb58.fresh (ntr e8.next e27.next))) e81 Inn.nil).extR e111) e117 (hb112.fresh (ntr (ntr (ntr (ntr e8.next e27.next) e57.next) e63.next) e81.next))) e128 Inn.nil) e233 Inn.nil).extR e236) e242 (hb237.fresh (ntr (ntr (ntr (ntr (ntr (ntr (ntr (ntr e8.next e27.next) e57.next) e63.next) e81.next) e111.next) e117.next) e128.next) e233.next))).extR e248).extR e257) e263 (hb258.fresh (ntr (ntr (ntr (ntr (ntr (ntr (ntr (ntr (ntr (ntr (ntr e8.next e27.next) e57.next) e63.next) e81.next) e111.next) e117.next) e128.next) e233.next) e236.next) e242.next) e248.next))) e272 Inn.nil) e697 Inn.nil) e719 Inn.nil) e734 Inn.nil) e749 Inn.nil).extR e757) e772 Inn.nil) e788 Inn.nil) e794 Inn.nil) e802 Inn.nil) e808 Inn.nil)⟩
     ·have r853 := ite_f h795 r792
      rw [nb h795]
      refine s_qk (.bool false) (by kernel_rfl) ?_
      refine s_no (by kernel_rfl) ?_
      refine s_no (by kernel_rfl) ?_
      refine s_no (by kernel_rfl) ?_
      refine s_qk (.bool false) (by kernel_rfl) ?_
      refine s_qk (.bool false) (by kernel_rfl) ?_
      refine s_no (by kernel_rfl) ?_
      refine s_no (by kernel_rfl) ?_
      refine s_no (by kernel_rfl) ?_
      refine s_qk (.bool false) (by kernel_rfl) ?_
      refine s_qk (.bool false) (by kernel_rfl) ?_
      refine s_no (by kernel_rfl) ?_
      refine s_no (by kernel_rfl) ?_
      refine s_no (by kernel_rfl) ?_
      refine s_qk (.bool false) (by kernel_rfl) ?_
      refine s_qk (.bool false) (by kernel_rfl) ?_
      refine s_no (by kernel_rfl) ?_
      refine s_no (by kernel_rfl) ?_
      refine s_no (by kernel_rfl) ?_
      refine s_qk (.bool false) (by kernel_rfl) ?_
      refine s_qk (.bool false) (by kernel_rfl) ?_
      refine s_nil ?_
      refine k783 _ _ ?_
      refine w_ret ?_
      refine b_ret (fn := Tryd.f10) (vs := [.bool false]) (aRes_tmp (by kernel_rfl) (rfl)) ?_
      obtain rfl := Option.some.inj r853
      exact ⟨rfl, (FrS.step wf (FrS.step wf (FrS.step wf ((FrS.step wf (FrS.step wf (FrS.step wf (FrS.step wf (FrS.step wf (FrS.step wf (((FrS.step wf ((FrS.step wf (FrS.step wf (FrS.step wf ((FrS.step wf (FrS.step wf ((FrS.step wf ((FrS.refl (W := []) wf).extR e8) e27 Inn.nil).extR e57) e63 (hb58.fresh (ntr e8.next e27.next))) e81 Inn.nil).extR e111) e117 (hb112.fresh (ntr (ntr (ntr (ntr e8.next e27.next) e57.next) e63.next) e81.next))) e128 Inn.nil) e233 Inn.nil).extR e236) e242 (hb237.fresh (ntr (ntr (ntr (ntr (ntr (ntr (ntr (ntr e8.next e27.next) e57.next) e63.next) e81.next) e111.next) e117.next) e128.next) e233.next))).extR e248).extR e257) e263 (hb258.fresh (ntr (ntr (ntr (ntr (ntr (ntr (ntr (ntr (ntr (ntr (ntr e8.next e27.next) e57.next) e63.next) e81.next) e111.next) e117.next) e128.next) e233.next) e236.next) e242.next) e248.next))) e272 Inn.nil) e697 Inn.nil) e719 Inn.nil) e734 Inn.nil) e749 Inn.nil).extR e757) e772 Inn.nil) e788 Inn.nil) e794 Inn.nil)⟩


end Go.Vd
