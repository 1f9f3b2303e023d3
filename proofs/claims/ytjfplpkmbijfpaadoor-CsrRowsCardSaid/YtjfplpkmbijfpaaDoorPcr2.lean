/- The walks of the functions (printed by a program of ours). -/
import Derived.Test.YtjfplpkmbijfpaaDoorPcr1
import Derived.Test.YtjfplpkmbijfpaaDoorDrG
import Derived.Test.YtjfplpkmbijfpaaDoorICr
import Derived.Test.YtjfplpkmbijfpaaDoorSoA
import Derived.Test.YtjfplpkmbijfpaaDoorVeV
set_option linter.unusedVariables false
set_option linter.unusedSimpArgs false
set_option linter.unusedSectionVars false
/-! (KCr3) -/

set_option maxRecDepth 100000
set_option maxHeartbeats 4000000
set_option linter.unusedVariables false
namespace Go.Vd
open Go.Proofs
attribute [local irreducible] wpSeq wpOrd aWp
theorem c_csr_Graph {H : AH} {hd_First : Value} {fp_First : Fp} {hd_To : Value} {fp_To : Fp} {hd_Weight : Value} {fp_Weight : Fp} {First : List (Int)} {To : List (Int)} {Weight : List (Int)} {r : Int × List (Int × Int × Int) × Er}
  (wf : WF H) (h_First : Sq (encI .i64) 1 H hd_First First fp_First) (h_To : Sq (encI .i64) 1 H hd_To To fp_To) (h_Weight : Sq (encI .i64) 1 H hd_Weight Weight fp_Weight) (hr : z_csr_Graph First To Weight = some r) :
  ACalls Tryd.prog 32 #[.agg #[hd_First, hd_To, hd_Weight]] H fun v H' => ∃ (s3 : Value) (f4 : Fp) (v7 : Value) (f8 : Fp), v = .tuple #[.agg #[.int .i64 r.1, s3], v7] ∧ FrS [] H H' ∧ Ow enc_i64_i64_i64 3 H' s3 r.2.1 f4 ∧ Ev 53 90 H' v7 r.2.2 f8 ∧ Inn [] H f4 ∧ Inn [] H f8 ∧ Dj f4 f8 := by
 refine acalls_of_body mixed Tryd.func32 rfl (Nat.le_of_ble_eq_true rfl) ?_
 unfold z_csr_Graph at hr
 refine w_seqk fun K12 k12 => ?_
 refine w_reg (by kernel_rfl) ?_
 refine s_rwl wf [hd_First, hd_To, hd_Weight] (one_cons (h_First.one1) (one_cons (h_To.one1) (one_cons (h_Weight.one1) (one_nil)))) (by kernel_rfl) fun b13 H14 e15 hb16 r17 => ?_
 refine s_rwk e15.wf [.int .i64 0, .slice none 0 0] (by kernel_rfl) fun b19 H20 e21 hb22 r23 => ?_
 refine s_qk (.nilIface) (by kernel_rfl) ?_
 refine s_nil ?_
 refine k12 _ _ ?_
 refine w_seqk fun K25 k25 => ?_
 refine w_seqk fun K26 k26 => ?_
 refine w_reg (by kernel_rfl) ?_
 have u27 := (r17.ext e21)
 refine s_ql (.agg #[hd_First, hd_To, hd_Weight]) (x := aLoad Tryd.prog 59 (.pointer (some ⟨b13, 0, none⟩)) H20) (by kernel_rfl) (u27.ld (by kernel_rfl)) ?_
 have u28 := ((h_First.ext e15).ext e21)
 have u29 := ((h_To.ext e15).ext e21)
 have u30 := ((h_Weight.ext e15).ext e21)
 obtain ⟨y31, hy32, r33⟩ := bind_some hr
 refine s_ck 29 #[.agg #[hd_First, hd_To, hd_Weight]] (by kernel_rfl) (c_csr_Check e21.wf u28 u29 u30 hy32) ?_
 rintro v34 H36 ⟨_, f35, rfl, e37, m38, i39⟩
 refine s_qk (v34) (by kernel_rfl) ?_
 refine s_nil ?_
 refine k26 _ _ ?_
 refine w_seqk fun K41 k41 => ?_
 refine w_reg (by kernel_rfl) ?_
 refine s_qk (v34) (by kernel_rfl) ?_
 rcases (m38).cases with ⟨h42, rfl⟩ | ⟨h42, t43, x44, rfl⟩
 ·have r45 := ite_t h42 r33
  refine s_qk (.bool false) (by kernel_rfl) ?_
  refine s_nil ?_
  refine k41 _ _ ?_
  refine w_cond false (by kernel_rfl) rfl (fun h => by cases h) (fun _ => ?_)
  refine w_skip ?_
  refine k25 _ _ ?_
  refine w_seqk fun K46 k46 => ?_
  refine w_reg (by kernel_rfl) ?_
  have u47 := (u27.frS e37 Dj.nil_l)
  refine s_ql (.agg #[hd_First, hd_To, hd_Weight]) (x := aLoad Tryd.prog 59 (.pointer (some ⟨b13, 0, none⟩)) H36) (by kernel_rfl) (u47.ld (by kernel_rfl)) ?_
  have u48 := (u28.fr e37 Dj.nil_l)
  have u49 := (u29.fr e37 Dj.nil_l)
  have u50 := (u30.fr e37 Dj.nil_l)
  obtain ⟨y51, hy52, r53⟩ := bind_some r45
  refine s_ck 62 #[.agg #[hd_First, hd_To, hd_Weight]] (by kernel_rfl) (c_csr_Csr_nodes e37.wf u48 u49 u50 hy52) ?_
  rintro _ H54 ⟨rfl, e55⟩
  refine s_qk (.agg #[.int .i64 y51, .slice none 0 0]) (by kernel_rfl) ?_
  refine s_rwk e55.wf [.int .i64 0, .slice none 0 0] (by kernel_rfl) fun b56 H57 e58 hb59 r60 => ?_
  obtain ⟨H62, q63, e64, r65⟩ := Row.store (P := Tryd.prog) (t := 24) (p := 0) e58.wf r60 (.agg #[.int .i64 y51, .slice none 0 0]) [.int .i64 y51, .slice none 0 0] (by kernel_rfl) (by kernel_rfl) (one_cons (rfl) (one_cons (rfl) (one_nil))) (Nat.le_of_ble_eq_true (by kernel_rfl)) [.int .i64 y51, .slice none 0 0] (by kernel_rfl)
  refine s_ek (undef) (by kernel_rfl) (map_ok q63) ?_
  refine s_nil ?_
  refine k46 _ _ ?_
  refine w_seqk fun K66 k66 => ?_
  refine w_seqk fun K67 k67 => ?_
  refine w_reg (by kernel_rfl) ?_
  refine s_qk (.pointer (some ⟨b56, 0, none⟩)) (by kernel_rfl) ?_
  refine s_ql (.int .i64 y51) (x := aLoad Tryd.prog 3 (.pointer (some ⟨b56, 0, none⟩)) H62) (by kernel_rfl) (r65.ld (by kernel_rfl)) ?_
  refine s_qk (.int .i64 0) (by kernel_rfl) ?_
  refine s_nil ?_
  refine k67 _ _ ?_
  obtain ⟨o68, hx69, r70⟩ := bind_some r53
  refine w_mid (fun α H71 => ∃ (s75 : Value) (f76 : Fp), Has α [(2, .pointer (some ⟨b19, 0, none⟩)), (5, .pointer (some ⟨b56, 0, none⟩))] ∧ FrS [b56] H62 H71 ∧ Ow enc_i64_i64_i64 3 H71 s75 o68 f76 ∧ Row H71 b56 [.int .i64 y51, s75] ∧ Inn [] H62 f76) (fun K80 k80 => ?_) (fun α H71 hM => ?_)
  ·refine w_block ?_
   obtain ⟨n82, hn83⟩ := loopO_iff.1 hx69
   refine w_loopn (fun n α H84 => ∃ (i0 : Int), ∃ (g1 : List (Int × Int × Int)), ∃ (s88 : Value), ∃ (f89 : Fp), iterO (fun zz_ => z_csr_Graph_l0 First To Weight y51 zz_.1 zz_.2) n (i0, g1) = some o68 ∧ Has α [(1, .pointer (some ⟨b13, 0, none⟩)), (2, .pointer (some ⟨b19, 0, none⟩)), (5, .pointer (some ⟨b56, 0, none⟩)), (17, .int .i64 y51), (18, .int .i64 i0)] ∧ FrS [b56] H62 H84 ∧ Ow enc_i64_i64_i64 3 H84 s88 g1 f89 ∧ Row H84 b56 [.int .i64 y51, s88] ∧ Inn [] H62 f89) n82 ⟨0, [], (.slice none 0 0), [], hn83, ⟨by kernel_rfl, by kernel_rfl, by kernel_rfl, by kernel_rfl, by kernel_rfl, trivial⟩, (FrS.refl (W := [b56]) e64.wf), (Ow.nil (by decide)), r65, Inn.nil⟩ ?_
   rintro n82 α H84 ⟨i0, g1, s88, f89, hi94, hh93, e85, m87, m91, i92⟩ K99 k99
   obtain ⟨n95, z96, rfl, hz97, hn98⟩ := iter_succ hi94
   obtain ⟨β, rfl⟩ := has_ex hh93
   clear hh93
   replace hz97 : z_csr_Graph_l0 First To Weight y51 i0 g1 = some z96 := hz97
   unfold z_csr_Graph_l0 at hz97
   obtain ⟨a100, n101, c102, rfl⟩ := m87.form
   refine w_seqk fun K103 k103 => ?_
   refine w_reg (by kernel_rfl) ?_
   refine s_qk (.bool (decide (i0 < y51))) (by kernel_rfl) ?_
   refine s_nil ?_
   refine k103 _ _ ?_
   refine w_seqk fun K104 k104 => ?_
   refine w_condp (i0 < y51) (by kernel_rfl) rfl (fun h105 => ?_) (fun h105 => ?_)
   ·have r106 := ite_t h105 hz97
    refine w_skip ?_
    refine k104 _ _ ?_
    refine w_seqk fun K107 k107 => ?_
    refine w_block ?_
    refine w_seqk fun K108 k108 => ?_
    refine w_reg (by kernel_rfl) ?_
    refine s_qk (.int .i64 i0) (by kernel_rfl) ?_
    refine s_qk (.int .i64 i0) (by kernel_rfl) ?_
    refine s_nil ?_
    refine k108 _ _ ?_
    refine w_draw [0, 1, 2, 3, 4, 5, 6, 7] (by kernel_rfl) ?_
    refine d_qk (.pointer (some ⟨b56, 1, none⟩)) (by kernel_rfl) ?_
    refine d_fl (.slice a100 n101 c102) (x := aLoad Tryd.prog 22 (.pointer (some ⟨b56, 1, none⟩)) H84) (by kernel_rfl) (m91.ld (by kernel_rfl)) ?_
    have u109 := ((((u47.frS e55 Dj.nil_l).ext e58).frS e64 (hb59.djn (r17.ltF.le (ntr (ntr e21.next e37.next) e55.next)))).frS e85 (hb59.djn (r17.ltF.le (ntr (ntr e21.next e37.next) e55.next))))
    refine d_ql (.agg #[hd_First, hd_To, hd_Weight]) (x := aLoad Tryd.prog 59 (.pointer (some ⟨b13, 0, none⟩)) H84) (by kernel_rfl) (u109.ld (by kernel_rfl)) ?_
    refine d_qk (.int .i64 i0) (by kernel_rfl) ?_
    have u110 := ((((u48.fr e55 Dj.nil_l).ext e58).fr e64 (hb59.djn (h_First.lt.le (ntr (ntr (ntr e15.next e21.next) e37.next) e55.next)))).fr e85 (hb59.djn (h_First.lt.le (ntr (ntr (ntr e15.next e21.next) e37.next) e55.next))))
    have u111 := ((((u49.fr e55 Dj.nil_l).ext e58).fr e64 (hb59.djn (h_To.lt.le (ntr (ntr (ntr e15.next e21.next) e37.next) e55.next)))).fr e85 (hb59.djn (h_To.lt.le (ntr (ntr (ntr e15.next e21.next) e37.next) e55.next))))
    have u112 := ((((u50.fr e55 Dj.nil_l).ext e58).fr e64 (hb59.djn (h_Weight.lt.le (ntr (ntr (ntr e15.next e21.next) e37.next) e55.next)))).fr e85 (hb59.djn (h_Weight.lt.le (ntr (ntr (ntr e15.next e21.next) e37.next) e55.next))))
    obtain ⟨y113, hy114, r115⟩ := bind_some r106
    refine d_ck 66 #[.agg #[hd_First, hd_To, hd_Weight], .int .i64 i0] (by kernel_rfl) (c_csr_Csr_row e85.wf u110 u111 u112 hy114) ?_
    rintro s116 H118 ⟨_, f117, rfl, e119, m120, i121⟩
    obtain ⟨a123, n124, c125, rfl⟩ := m120.form
    have u126 := (m91.frS e119 Dj.nil_l)
    refine ⟨st_ql (y := aLoad Tryd.prog 22 (.pointer (some ⟨b56, 1, none⟩)) H118) (by kernel_rfl) (u126.ld (by kernel_rfl)) (st_nil), ?_⟩
    have u127 := (m87.fr e119 Dj.nil_l)
    obtain ⟨g128, r129⟩ := G_some r115
    obtain ⟨s130, H131, f132, q136, e133, hm134, hf135⟩ := Ow.append (P := Tryd.prog) 24 e119.wf u127 m120.sq (fun _ _ => rfl) (at_ := #[22, 22]) rfl rfl (by kernel_rfl) (by kernel_rfl) (by decide) (by have := g128; first | omega | (simp only [List.length_cons, List.length_nil] at this ⊢; omega) | (simp at this ⊢; omega))
    obtain ⟨a137, n138, c139, rfl⟩ := hm134.form
    refine d_ek (.slice a137 n138 c139) (by kernel_rfl) (q136) (st_anc (by kernel_rfl) (st_nil)) ?_
    refine d_qk (.pointer (some ⟨b56, 1, none⟩)) (by kernel_rfl) ?_
    have u145 := (u126.frS e133 (i92.djn (r60.ltF.le e64.next)))
    obtain ⟨H141, q142, e143, r144⟩ := Row.store (P := Tryd.prog) (t := 22) (p := 1) e133.wf u145 (.slice a137 n138 c139) [.slice a137 n138 c139] (by kernel_rfl) (by kernel_rfl) (one_cons (hm134.one1) (one_nil)) (Nat.le_of_ble_eq_true (by kernel_rfl)) [.int .i64 y51, .slice a137 n138 c139] (by kernel_rfl)
    refine d_ek (undef) (by kernel_rfl) (map_ok q142) (st_anc (by kernel_rfl) (st_nil)) ?_
    refine d_nil ?_
    refine k107 _ _ ?_
    refine w_reg (by kernel_rfl) ?_
    obtain ⟨g146, r147⟩ := G_some r129
    refine s_w ((i0 + 1)) (k := .i64) (x := (i0 + 1)) (by kernel_rfl) (wrap64 g146) ?_
    refine s_qk (.int .i64 (i0 + 1)) (by kernel_rfl) ?_
    refine s_nil ?_
    have u148 := (hm134.fr e143 (Dj.symm (hf135.dj (i92.djn (r60.ltF.le e64.next)) (r60.ltF.le (ntr (ntr e64.next e85.next) e119.next)))))
    obtain rfl := Option.some.inj r147
    exact k99 n95 _ _ (Nat.lt_succ_self _) ⟨(i0 + 1), (g1 ++ y113), (.slice a137 n138 c139), f132, hn98, ⟨by kernel_rfl, by kernel_rfl, by kernel_rfl, by kernel_rfl, by kernel_rfl, trivial⟩, (FrS.step e64.wf (FrS.step e64.wf (FrS.step e64.wf (FrS.step e64.wf (FrS.refl (W := [b56]) e64.wf) e85 Inn.refl') e119 Inn.nil) e133 (i92.fresh (Nat.le_refl _))) e143 Inn.refl'), u148, r144, (Inn.trans (i92.fresh (Nat.le_refl _)) (ntr e85.next e119.next) hf135)⟩
   ·have r149 := ite_f h105 hz97
    refine w_exit (th_exit (th_exit (bl_eq ?_)))
    obtain rfl := Option.some.inj r149
    obtain rfl := it_inr hn98
    exact k80 _ _ ⟨(.slice a100 n101 c102), f89, ⟨by kernel_rfl, by kernel_rfl, trivial⟩, (FrS.step e64.wf (FrS.refl (W := [b56]) e64.wf) e85 Inn.refl'), m87, m91, (i92.fresh (Nat.le_refl _))⟩
  ·obtain ⟨s75, f76, hh81, e72, m74, m78, i79⟩ := hM
   obtain ⟨β, rfl⟩ := has_ex hh81
   clear hh81
   obtain ⟨a150, n151, c152, rfl⟩ := m74.form
   refine k66 _ _ ?_
   refine w_seqk fun K153 k153 => ?_
   refine w_reg (by kernel_rfl) ?_
   refine s_ql (.agg #[.int .i64 y51, .slice a150 n151 c152]) (x := aLoad Tryd.prog 24 (.pointer (some ⟨b56, 0, none⟩)) H71) (by kernel_rfl) (m78.ld (by kernel_rfl)) ?_
   have u158 := (((((r23.frS e37 Dj.nil_l).frS e55 Dj.nil_l).ext e58).frS e64 (hb59.djn (r23.ltF.le (ntr e37.next e55.next)))).frS e72 (hb59.djn (r23.ltF.le (ntr e37.next e55.next))))
   obtain ⟨H154, q155, e156, r157⟩ := Row.store (P := Tryd.prog) (t := 24) (p := 0) e72.wf u158 (.agg #[.int .i64 y51, .slice a150 n151 c152]) [.int .i64 y51, .slice a150 n151 c152] (by kernel_rfl) (by kernel_rfl) (one_cons (rfl) (one_cons (m74.one1) (one_nil))) (Nat.le_of_ble_eq_true (by kernel_rfl)) [.int .i64 y51, .slice a150 n151 c152] (by kernel_rfl)
   refine s_ek (undef) (by kernel_rfl) (map_ok q155) ?_
   refine s_qk (.nilIface) (by kernel_rfl) ?_
   refine s_nil ?_
   refine k153 _ _ ?_
   refine w_ret ?_
   refine b_ret (fn := Tryd.f32) (vs := [.agg #[.int .i64 y51, .slice a150 n151 c152], .nilIface]) (aRes_cell (Eq.trans (b := aLoad Tryd.prog 24 (.pointer (some ⟨b19, 0, none⟩)) H154) (by kernel_rfl) (r157.ld (by kernel_rfl))) (aRes_tmp (by kernel_rfl) (rfl))) ?_
   have u159 := (m74.fr e156 (Dj.symm (i79.djn (r23.ltF.le (ntr (ntr (ntr e37.next e55.next) e58.next) e64.next)))))
   obtain rfl := Option.some.inj r70
   exact ⟨(.slice a150 n151 c152), f76, (.nilIface), [], rfl, (FrS.step wf (FrS.step wf (FrS.step wf ((FrS.step wf (FrS.step wf (((FrS.refl (W := []) wf).extR e15).extR e21) e37 Inn.nil) e55 Inn.nil).extR e58) e64 (hb59.fresh (ntr (ntr (ntr e15.next e21.next) e37.next) e55.next))) e72 (hb59.fresh (ntr (ntr (ntr e15.next e21.next) e37.next) e55.next))) e156 (hb22.fresh e15.next)), u159, Ev.nil, (i79.fresh (ntr (ntr (ntr (ntr (ntr e15.next e21.next) e37.next) e55.next) e58.next) e64.next)), Inn.nil, Dj.nil_r⟩
 ·have r160 := ite_f h42 r33
  refine s_ql (.bool true) (x := aBin Tryd.prog .neq 28 (.tmp 9) (.const .nilIface) (.iface t43 x44) .nilIface) (by kernel_rfl) (aBin_nnil (by kernel_rfl)) ?_
  refine s_nil ?_
  refine k41 _ _ ?_
  refine w_cond true (by kernel_rfl) rfl (fun _ => ?_) (fun h => by cases h)
  refine w_seqk fun K161 k161 => ?_
  refine w_reg (by kernel_rfl) ?_
  refine s_qk (.agg #[.int .i64 0, .slice none 0 0]) (by kernel_rfl) ?_
  refine s_qk (.iface t43 x44) (by kernel_rfl) ?_
  have u166 := (r23.frS e37 Dj.nil_l)
  obtain ⟨H162, q163, e164, r165⟩ := Row.store (P := Tryd.prog) (t := 24) (p := 0) e37.wf u166 (.agg #[.int .i64 0, .slice none 0 0]) [.int .i64 0, .slice none 0 0] (by kernel_rfl) (by kernel_rfl) (one_cons (rfl) (one_cons (rfl) (one_nil))) (Nat.le_of_ble_eq_true (by kernel_rfl)) [.int .i64 0, .slice none 0 0] (by kernel_rfl)
  refine s_ek (undef) (by kernel_rfl) (map_ok q163) ?_
  refine s_qk (.iface t43 x44) (by kernel_rfl) ?_
  refine s_nil ?_
  refine k161 _ _ ?_
  refine w_ret (th_ret ?_)
  refine b_ret (fn := Tryd.f32) (vs := [.agg #[.int .i64 0, .slice none 0 0], .iface t43 x44]) (aRes_cell (Eq.trans (b := aLoad Tryd.prog 24 (.pointer (some ⟨b19, 0, none⟩)) H162) (by kernel_rfl) (r165.ld (by kernel_rfl))) (aRes_tmp (by kernel_rfl) (rfl))) ?_
  have u167 := (m38.fr e164 (Dj.symm (i39.djn r23.ltF)))
  obtain rfl := Option.some.inj r160
  exact ⟨(.slice none 0 0), [], (.iface t43 x44), f35, rfl, (FrS.step wf (FrS.step wf (((FrS.refl (W := []) wf).extR e15).extR e21) e37 Inn.nil) e164 (hb22.fresh e15.next)), (Ow.nil (by decide)), u167, Inn.nil, (i39.fresh (ntr e15.next e21.next)), Dj.nil_l⟩

theorem c_viaductref03_SameArcs {H : AH} {hd_a : Value} {fp_a : Fp} {hd_b : Value} {fp_b : Fp} {a : List (Int × Int × Int)} {b : List (Int × Int × Int)} {r : Bool}
  (wf : WF H) (h_a : Sq enc_i64_i64_i64 3 H hd_a a fp_a) (h_b : Sq enc_i64_i64_i64 3 H hd_b b fp_b) (hr : z_viaductref03_SameArcs a b = some r) :
  ACalls Tryd.prog 36 #[hd_a, hd_b] H fun v H' => v = .bool r ∧ H = H' := by
 refine acalls_of_body mixed Tryd.func36 rfl (Nat.le_of_ble_eq_true rfl) ?_
 unfold z_viaductref03_SameArcs at hr
 refine w_seqk fun K1 k1 => ?_
 refine w_reg (by kernel_rfl) ?_
 refine s_qk (.bool false) (by kernel_rfl) ?_
 refine s_nil ?_
 refine k1 _ _ ?_
 refine w_seqk fun K2 k2 => ?_
 refine w_seqk fun K3 k3 => ?_
 refine w_reg (by kernel_rfl) ?_
 refine s_qk (hd_a) (by kernel_rfl) ?_
 refine s_ql (.int .i64 (a.length : Int)) (x := aLen Tryd.prog 22 hd_a H) (by kernel_rfl) (h_a.lenb (by kernel_rfl)) ?_
 refine s_qk (hd_b) (by kernel_rfl) ?_
 refine s_ql (.int .i64 (b.length : Int)) (x := aLen Tryd.prog 22 hd_b H) (by kernel_rfl) (h_b.lenb (by kernel_rfl)) ?_
 refine s_qk (.bool (!decide ((a.length : Int) = (b.length : Int)))) (by kernel_rfl) ?_
 refine s_nil ?_
 refine k3 _ _ ?_
 refine w_condn ((a.length : Int) = (b.length : Int)) (by kernel_rfl) rfl (fun h4 => ?_) (fun h4 => ?_)
 ·have r5 := ite_f h4 hr
  refine w_seqk fun K6 k6 => ?_
  refine w_reg (by kernel_rfl) ?_
  refine s_qk (.bool false) (by kernel_rfl) ?_
  refine s_nil ?_
  refine k6 _ _ ?_
  refine w_ret (th_ret ?_)
  refine b_ret (fn := Tryd.f36) (vs := [.bool false]) (aRes_tmp (by kernel_rfl) (rfl)) ?_
  obtain rfl := Option.some.inj r5
  exact ⟨rfl, rfl⟩
 ·have r7 := ite_t h4 hr
  refine w_skip ?_
  refine k2 _ _ ?_
  refine w_seqk fun K8 k8 => ?_
  refine w_seqk fun K9 k9 => ?_
  refine w_reg (by kernel_rfl) ?_
  refine s_qk (hd_a) (by kernel_rfl) ?_
  refine s_ql (.int .i64 (a.length : Int)) (x := aLen Tryd.prog 22 hd_a H) (by kernel_rfl) (h_a.lenb (by kernel_rfl)) ?_
  refine s_qk (.int .i64 0) (by kernel_rfl) ?_
  refine s_nil ?_
  refine k9 _ _ ?_
  obtain ⟨z13, hx11, r12⟩ := bind_some r7
  refine w_mid (fun α H14 => ∃ o10, z13 = Sum.inr o10 ∧ Has α [] ∧ H = H14) (fun K16 k16 => ?_) (fun α H14 hM => ?_)
  ·refine w_block ?_
   obtain ⟨n18, hn19⟩ := loopO_iff.1 hx11
   refine w_loopn (fun n α H20 => ∃ (i0 : Int), iterO (fun zz_ => z_viaductref03_SameArcs_l0 a b zz_) n i0 = some z13 ∧ Has α [(0, hd_a), (1, hd_b), (12, .int .i64 (a.length : Int)), (13, .int .i64 i0)] ∧ H = H20) n18 ⟨0, hn19, ⟨by kernel_rfl, by kernel_rfl, by kernel_rfl, by kernel_rfl, trivial⟩, rfl⟩ ?_
   rintro n18 α H20 ⟨i0, hi23, hh22, rfl⟩ K28 k28
   obtain ⟨n24, z25, rfl, hz26, hn27⟩ := iter_succ hi23
   obtain ⟨β, rfl⟩ := has_ex hh22
   clear hh22
   replace hz26 : z_viaductref03_SameArcs_l0 a b i0 = some z25 := hz26
   unfold z_viaductref03_SameArcs_l0 at hz26
   refine w_seqk fun K29 k29 => ?_
   refine w_reg (by kernel_rfl) ?_
   refine s_qk (.bool (decide (i0 < (a.length : Int)))) (by kernel_rfl) ?_
   refine s_nil ?_
   refine k29 _ _ ?_
   refine w_seqk fun K30 k30 => ?_
   refine w_condp (i0 < (a.length : Int)) (by kernel_rfl) rfl (fun h31 => ?_) (fun h31 => ?_)
   ·have r32 := ite_t h31 hz26
    refine w_skip ?_
    refine k30 _ _ ?_
    refine w_seqk fun K33 k33 => ?_
    refine w_block ?_
    refine w_seqk fun K34 k34 => ?_
    refine w_reg (by kernel_rfl) ?_
    refine s_qk (.int .i64 i0) (by kernel_rfl) ?_
    refine s_qk (.int .i64 i0) (by kernel_rfl) ?_
    refine s_nil ?_
    refine k34 _ _ ?_
    refine w_seqk fun K35 k35 => ?_
    refine w_draw [0, 1, 2, 3, 4, 5, 6, 7, 8] (by kernel_rfl) ?_
    refine d_qk (hd_a) (by kernel_rfl) ?_
    refine d_qk (.int .i64 i0) (by kernel_rfl) ?_
    obtain ⟨g36, r37⟩ := G_some r32
    refine d_ql (elp hd_a 3 i0.toNat 0) (x := aIndexAddr Tryd.prog 22 hd_a (.int .i64 i0)) (by kernel_rfl) (h_a.idxb (by kernel_rfl) g36 h31) ?_
    refine d_ql (.agg #[.int .i64 ((gt a i0).1), .int .i64 ((gt a i0).2.1), .int .i64 ((gt a i0).2.2)]) (x := aLoad Tryd.prog 51 (elp hd_a 3 i0.toNat 0) H) (by kernel_rfl) (h_a.ld g36 h31 (by kernel_rfl)) ?_
    refine d_qk (hd_b) (by kernel_rfl) ?_
    refine d_qk (.int .i64 i0) (by kernel_rfl) ?_
    obtain ⟨g38, r39⟩ := G_some r37
    refine d_ql (elp hd_b 3 i0.toNat 0) (x := aIndexAddr Tryd.prog 22 hd_b (.int .i64 i0)) (by kernel_rfl) (h_b.idxb (by kernel_rfl) g36 g38) ?_
    refine d_ql (.agg #[.int .i64 ((gt b i0).1), .int .i64 ((gt b i0).2.1), .int .i64 ((gt b i0).2.2)]) (x := aLoad Tryd.prog 51 (elp hd_b 3 i0.toNat 0) H) (by kernel_rfl) (h_b.ld g36 g38 (by kernel_rfl)) ?_
    refine d_ql (.bool (!decide (((gt a i0).1) = ((gt b i0).1) ∧ ((gt a i0).2.1) = ((gt b i0).2.1) ∧ ((gt a i0).2.2) = ((gt b i0).2.2)))) (x := aBin Tryd.prog .neq 51 (.tmp 19) (.tmp 23) (.agg #[.int .i64 ((gt a i0).1), .int .i64 ((gt a i0).2.1), .int .i64 ((gt a i0).2.2)]) (.agg #[.int .i64 ((gt b i0).1), .int .i64 ((gt b i0).2.1), .int .i64 ((gt b i0).2.2)])) (by kernel_rfl) (aBin_neq51 _ _ ((gt a i0).1) ((gt a i0).2.1) ((gt a i0).2.2) ((gt b i0).1) ((gt b i0).2.1) ((gt b i0).2.2)) ?_
    refine d_nil ?_
    refine k35 _ _ ?_
    refine w_condn (((gt a i0).1) = ((gt b i0).1) ∧ ((gt a i0).2.1) = ((gt b i0).2.1) ∧ ((gt a i0).2.2) = ((gt b i0).2.2)) (by kernel_rfl) rfl (fun h40 => ?_) (fun h40 => ?_)
    ·have r41 := ite_f h40 r39
     refine w_seqk fun K42 k42 => ?_
     refine w_reg (by kernel_rfl) ?_
     refine s_qk (.bool false) (by kernel_rfl) ?_
     refine s_nil ?_
     refine k42 _ _ ?_
     refine w_ret (bl_ret (th_ret (th_ret (bl_ret (th_ret (th_ret ?_))))))
     obtain ⟨v43, hv44, hz45⟩ := map_some r41
     subst hz45
     obtain rfl := it_inr hn27
     have hq46 := elim_inl r12
     rw [hq46] at hv44
     refine b_ret (fn := Tryd.f36) (vs := [.bool false]) (aRes_tmp (by kernel_rfl) (rfl)) ?_
     obtain rfl := Option.some.inj hv44
     exact ⟨rfl, rfl⟩
    ·have r47 := ite_t h40 r39
     refine w_skip ?_
     refine k33 _ _ ?_
     refine w_reg (by kernel_rfl) ?_
     obtain ⟨g48, r49⟩ := G_some r47
     refine s_w ((i0 + 1)) (k := .i64) (x := (i0 + 1)) (by kernel_rfl) (wrap64 (by have := g48; omega)) ?_
     refine s_qk (.int .i64 (i0 + 1)) (by kernel_rfl) ?_
     refine s_nil ?_
     obtain rfl := Option.some.inj r49
     exact k28 n24 _ _ (Nat.lt_succ_self _) ⟨(i0 + 1), hn27, ⟨by kernel_rfl, by kernel_rfl, by kernel_rfl, by kernel_rfl, trivial⟩, rfl⟩
   ·have r50 := ite_f h31 hz26
    refine w_exit (th_exit (th_exit (bl_eq ?_)))
    obtain rfl := Option.some.inj r50
    obtain rfl := it_inr hn27
    exact k16 _ _ ⟨_, rfl, trivial, rfl⟩
  ·obtain ⟨o10, rfl, hh17, rfl⟩ := hM
   have r51 := elim_inr r12
   obtain ⟨β, rfl⟩ := has_ex hh17
   clear hh17
   refine k8 _ _ ?_
   refine w_seqk fun K52 k52 => ?_
   refine w_reg (by kernel_rfl) ?_
   refine s_qk (.bool true) (by kernel_rfl) ?_
   refine s_nil ?_
   refine k52 _ _ ?_
   refine w_ret ?_
   refine b_ret (fn := Tryd.f36) (vs := [.bool true]) (aRes_tmp (by kernel_rfl) (rfl)) ?_
   obtain rfl := Option.some.inj r51
   exact ⟨rfl, rfl⟩

theorem c_viaductref03_Same {H : AH} {hd_Arcs : Value} {fp_Arcs : Fp} {hd_Arcs_ : Value} {fp_Arcs_ : Fp} {N_ : Int} {Arcs : List (Int × Int × Int)} {N_2 : Int} {Arcs_ : List (Int × Int × Int)} {r : Bool}
  (wf : WF H) (h_Arcs : Sq enc_i64_i64_i64 3 H hd_Arcs Arcs fp_Arcs) (h_Arcs_ : Sq enc_i64_i64_i64 3 H hd_Arcs_ Arcs_ fp_Arcs_) (hr : z_viaductref03_Same N_ Arcs N_2 Arcs_ = some r) :
  ACalls Tryd.prog 15 #[.agg #[.int .i64 N_, hd_Arcs], .agg #[.int .i64 N_2, hd_Arcs_]] H fun v H' => v = .bool r ∧ FrS [] H H' := by
 refine acalls_of_body mixed Tryd.func15 rfl (Nat.le_of_ble_eq_true rfl) ?_
 unfold z_viaductref03_Same at hr
 refine w_seqk fun K1 k1 => ?_
 refine w_reg (by kernel_rfl) ?_
 refine s_rwl wf [.int .i64 N_, hd_Arcs] (one_cons (rfl) (one_cons (h_Arcs.one1) (one_nil))) (by kernel_rfl) fun b2 H3 e4 hb5 r6 => ?_
 have u13 := (h_Arcs_.ext e4)
 refine s_rwl e4.wf [.int .i64 N_2, hd_Arcs_] (one_cons (rfl) (one_cons (u13.one1) (one_nil))) (by kernel_rfl) fun b8 H9 e10 hb11 r12 => ?_
 refine s_qk (.bool false) (by kernel_rfl) ?_
 refine s_nil ?_
 refine k1 _ _ ?_
 refine w_seqk fun K15 k15 => ?_
 refine w_reg (by kernel_rfl) ?_
 refine s_qk (.pointer (some ⟨b2, 0, none⟩)) (by kernel_rfl) ?_
 have u16 := (r6.ext e10)
 refine s_ql (.int .i64 N_) (x := aLoad Tryd.prog 3 (.pointer (some ⟨b2, 0, none⟩)) H9) (by kernel_rfl) (u16.ld (by kernel_rfl)) ?_
 refine s_qk (.pointer (some ⟨b8, 0, none⟩)) (by kernel_rfl) ?_
 refine s_ql (.int .i64 N_2) (x := aLoad Tryd.prog 3 (.pointer (some ⟨b8, 0, none⟩)) H9) (by kernel_rfl) (r12.ld (by kernel_rfl)) ?_
 refine s_b (N_ = N_2) (by kernel_rfl) (fun h17 => ?_) (fun h17 => ?_)
 ·have r18 := ite_t h17 hr
  refine s_qk (.bool true) (by kernel_rfl) ?_
  refine s_qk (.pointer (some ⟨b2, 1, none⟩)) (by kernel_rfl) ?_
  refine s_ql (hd_Arcs) (x := aLoad Tryd.prog 22 (.pointer (some ⟨b2, 1, none⟩)) H9) (by kernel_rfl) (u16.ld (by kernel_rfl)) ?_
  refine s_qk (.pointer (some ⟨b8, 1, none⟩)) (by kernel_rfl) ?_
  refine s_ql (hd_Arcs_) (x := aLoad Tryd.prog 22 (.pointer (some ⟨b8, 1, none⟩)) H9) (by kernel_rfl) (r12.ld (by kernel_rfl)) ?_
  have u19 := ((h_Arcs.ext e4).ext e10)
  have u20 := (u13.ext e10)
  obtain ⟨y21, hy22, r23⟩ := bind_some r18
  refine s_ck 36 #[hd_Arcs, hd_Arcs_] (by kernel_rfl) (c_viaductref03_SameArcs e10.wf u19 u20 hy22) ?_
  rintro _ _ ⟨rfl, rfl⟩
  refine s_qk (.bool y21) (by kernel_rfl) ?_
  refine s_qk (.bool y21) (by kernel_rfl) ?_
  refine s_nil ?_
  refine k15 _ _ ?_
  refine w_ret ?_
  refine b_ret (fn := Tryd.f15) (vs := [.bool y21]) (aRes_tmp (by kernel_rfl) (rfl)) ?_
  obtain rfl := Option.some.inj r23
  exact ⟨rfl, (((FrS.refl (W := []) wf).extR e4).extR e10)⟩
 ·have r26 := ite_f h17 hr
  refine s_qk (.bool false) (by kernel_rfl) ?_
  refine s_no (by kernel_rfl) ?_
  refine s_no (by kernel_rfl) ?_
  refine s_no (by kernel_rfl) ?_
  refine s_no (by kernel_rfl) ?_
  refine s_no (by kernel_rfl) ?_
  refine s_qk (.bool false) (by kernel_rfl) ?_
  refine s_qk (.bool false) (by kernel_rfl) ?_
  refine s_nil ?_
  refine k15 _ _ ?_
  refine w_ret ?_
  refine b_ret (fn := Tryd.f15) (vs := [.bool false]) (aRes_tmp (by kernel_rfl) (rfl)) ?_
  obtain rfl := Option.some.inj r26
  exact ⟨rfl, (((FrS.refl (W := []) wf).extR e4).extR e10)⟩

theorem c_viaductlaw05_CsrRows {H : AH} {hd_Arcs : Value} {fp_Arcs : Fp} {N_ : Int} {Arcs : List (Int × Int × Int)} {r : Bool}
  (wf : WF H) (h_Arcs : Sq enc_i64_i64_i64 3 H hd_Arcs Arcs fp_Arcs) (hr : z_viaductlaw05_CsrRows N_ Arcs = some r) :
  ACalls Tryd.prog 8 #[.agg #[.int .i64 N_, hd_Arcs]] H fun v H' => v = .bool r ∧ FrS [] H H' := by
 refine acalls_of_body mixed Tryd.func8 rfl (Nat.le_of_ble_eq_true rfl) ?_
 unfold z_viaductlaw05_CsrRows at hr
 refine w_seqk fun K1 k1 => ?_
 refine w_reg (by kernel_rfl) ?_
 refine s_rwl wf [.int .i64 N_, hd_Arcs] (one_cons (rfl) (one_cons (h_Arcs.one1) (one_nil))) (by kernel_rfl) fun b2 H3 e4 hb5 r6 => ?_
 refine s_qk (.bool false) (by kernel_rfl) ?_
 refine s_nil ?_
 refine k1 _ _ ?_
 refine w_seqk fun K8 k8 => ?_
 refine w_seqk fun K9 k9 => ?_
 refine w_reg (by kernel_rfl) ?_
 refine s_ck 28 #[] (by kernel_rfl) c_viaductlaw05_awake ?_
 rintro _ _ ⟨rfl, rfl⟩
 refine s_qk (.bool false) (by kernel_rfl) ?_
 refine s_nil ?_
 refine k9 _ _ ?_
 refine w_cond false (by kernel_rfl) rfl (fun h => by cases h) (fun _ => ?_)
 refine w_skip ?_
 refine k8 _ _ ?_
 refine w_seqk fun K10 k10 => ?_
 refine w_seqk fun K11 k11 => ?_
 refine w_reg (by kernel_rfl) ?_
 refine s_ql (.agg #[.int .i64 N_, hd_Arcs]) (x := aLoad Tryd.prog 24 (.pointer (some ⟨b2, 0, none⟩)) H3) (by kernel_rfl) (r6.ld (by kernel_rfl)) ?_
 have u12 := (h_Arcs.ext e4)
 obtain ⟨y13, hy14, r15⟩ := bind_some hr
 refine s_ck 39 #[.agg #[.int .i64 N_, hd_Arcs], .int .i64 40] (by kernel_rfl) (c_viaductref04_Few e4.wf u12 hy14) ?_
 rintro _ H16 ⟨rfl, e17⟩
 refine s_qk (.bool (!y13)) (by kernel_rfl) ?_
 refine s_nil ?_
 refine k11 _ _ ?_
 refine w_cond ((!y13)) (by kernel_rfl) rfl (fun h18 => ?_) (fun h18 => ?_)
 ·have r19 := ite_t h18 r15
  refine w_seqk fun K20 k20 => ?_
  refine w_reg (by kernel_rfl) ?_
  refine s_qk (.bool true) (by kernel_rfl) ?_
  refine s_nil ?_
  refine k20 _ _ ?_
  refine w_ret (th_ret ?_)
  refine b_ret (fn := Tryd.f8) (vs := [.bool true]) (aRes_tmp (by kernel_rfl) (rfl)) ?_
  obtain rfl := Option.some.inj r19
  exact ⟨rfl, (FrS.step wf ((FrS.refl (W := []) wf).extR e4) e17 Inn.nil)⟩
 ·have r21 := ite_bf h18 r15
  refine w_skip ?_
  refine k10 _ _ ?_
  refine w_seqk fun K22 k22 => ?_
  refine w_reg (by kernel_rfl) ?_
  have u23 := (r6.frS e17 Dj.nil_l)
  refine s_ql (.agg #[.int .i64 N_, hd_Arcs]) (x := aLoad Tryd.prog 24 (.pointer (some ⟨b2, 0, none⟩)) H16) (by kernel_rfl) (u23.ld (by kernel_rfl)) ?_
  have u24 := (u12.fr e17 Dj.nil_l)
  obtain ⟨y25, hy26, r27⟩ := bind_some r21
  refine s_ck 40 #[.agg #[.int .i64 N_, hd_Arcs]] (by kernel_rfl) (c_csr_Build e17.wf u24 hy26) ?_
  rintro _ H36 ⟨s28, f29, s30, f31, s32, f33, v34, f35, rfl, e37, m38, m39, m40, m41, i42, i43, i44, i45, d46, d47, d48, d49, d50, d51⟩
  obtain ⟨a56, n57, c58, rfl⟩ := m38.form
  obtain ⟨a59, n60, c61, rfl⟩ := m39.form
  obtain ⟨a62, n63, c64, rfl⟩ := m40.form
  refine s_qk (.tuple #[.agg #[.slice a56 n57 c58, .slice a59 n60 c61, .slice a62 n63 c64], v34]) (by kernel_rfl) ?_
  refine s_qk (.agg #[.slice a56 n57 c58, .slice a59 n60 c61, .slice a62 n63 c64]) (by kernel_rfl) ?_
  refine s_qk (v34) (by kernel_rfl) ?_
  refine s_rwk e37.wf [.slice none 0 0, .slice none 0 0, .slice none 0 0] (by kernel_rfl) fun b65 H66 e67 hb68 r69 => ?_
  have u75 := (m40.ext e67)
  have u76 := (m39.ext e67)
  have u77 := (m38.ext e67)
  obtain ⟨H71, q72, e73, r74⟩ := Row.store (P := Tryd.prog) (t := 59) (p := 0) e67.wf r69 (.agg #[.slice a56 n57 c58, .slice a59 n60 c61, .slice a62 n63 c64]) [.slice a56 n57 c58, .slice a59 n60 c61, .slice a62 n63 c64] (by kernel_rfl) (by kernel_rfl) (one_cons (u77.one1) (one_cons (u76.one1) (one_cons (u75.one1) (one_nil)))) (Nat.le_of_ble_eq_true (by kernel_rfl)) [.slice a56 n57 c58, .slice a59 n60 c61, .slice a62 n63 c64] (by kernel_rfl)
  refine s_ek (undef) (by kernel_rfl) (map_ok q72) ?_
  refine s_qk (v34) (by kernel_rfl) ?_
  refine s_nil ?_
  refine k22 _ _ ?_
  refine w_seqk fun K78 k78 => ?_
  refine w_seqk fun K79 k79 => ?_
  refine w_reg (by kernel_rfl) ?_
  refine s_qk (v34) (by kernel_rfl) ?_
  have u83 := ((m41.ext e67).fr e73 (hb68.djn m41.lt))
  rcases (u83).cases with ⟨h80, rfl⟩ | ⟨h80, t81, x82, rfl⟩
  ·have r84 := ite_t h80 r27
   refine s_qk (.bool false) (by kernel_rfl) ?_
   refine s_nil ?_
   refine k79 _ _ ?_
   refine w_cond false (by kernel_rfl) rfl (fun h => by cases h) (fun _ => ?_)
   refine w_skip ?_
   refine k78 _ _ ?_
   refine w_seqk fun K85 k85 => ?_
   refine w_reg (by kernel_rfl) ?_
   refine s_qk (.slice none 0 0) (by kernel_rfl) ?_
   refine s_nil ?_
   refine k85 _ _ ?_
   refine w_seqk fun K86 k86 => ?_
   refine w_seqk fun K87 k87 => ?_
   refine w_reg (by kernel_rfl) ?_
   refine s_qk (.pointer (some ⟨b2, 0, none⟩)) (by kernel_rfl) ?_
   have u88 := (((u23.frS e37 Dj.nil_l).ext e67).frS e73 (hb68.djn (r6.ltF.le (ntr e17.next e37.next))))
   refine s_ql (.int .i64 N_) (x := aLoad Tryd.prog 3 (.pointer (some ⟨b2, 0, none⟩)) H71) (by kernel_rfl) (u88.ld (by kernel_rfl)) ?_
   refine s_qk (.int .i64 0) (by kernel_rfl) ?_
   refine s_nil ?_
   refine k87 _ _ ?_
   obtain ⟨z92, hx90, r91⟩ := bind_some r84
   refine w_mid (fun α H93 => ∃ o89, z92 = Sum.inr o89 ∧ ∃ (s97 : Value) (f98 : Fp), Has α [(1, .pointer (some ⟨b2, 0, none⟩)), (3, .pointer (some ⟨b65, 0, none⟩)), (5, s97)] ∧ FrS [] H71 H93 ∧ Ow enc_i64_i64_i64 3 H93 s97 o89 f98 ∧ Inn [] H71 f98) (fun K100 k100 => ?_) (fun α H93 hM => ?_)
   ·refine w_block ?_
    obtain ⟨n102, hn103⟩ := loopO_iff.1 hx90
    refine w_loopn (fun n α H104 => ∃ (i4 : Int), ∃ (all5 : List (Int × Int × Int)), ∃ (s108 : Value), ∃ (f109 : Fp), iterO (fun zz_ => z_viaductlaw05_CsrRows_l2 N_ y25 zz_.1 zz_.2) n (i4, all5) = some z92 ∧ Has α [(1, .pointer (some ⟨b2, 0, none⟩)), (3, .pointer (some ⟨b65, 0, none⟩)), (5, s108), (30, .int .i64 N_), (31, .int .i64 i4)] ∧ FrS [] H71 H104 ∧ Ow enc_i64_i64_i64 3 H104 s108 all5 f109 ∧ Inn [] H71 f109) n102 ⟨0, [], (.slice none 0 0), [], hn103, ⟨by kernel_rfl, by kernel_rfl, by kernel_rfl, by kernel_rfl, by kernel_rfl, trivial⟩, (FrS.refl (W := []) e73.wf), (Ow.nil (by decide)), Inn.nil⟩ ?_
    rintro n102 α H104 ⟨i4, all5, s108, f109, hi112, hh111, e105, m107, i110⟩ K117 k117
    obtain ⟨n113, z114, rfl, hz115, hn116⟩ := iter_succ hi112
    obtain ⟨β, rfl⟩ := has_ex hh111
    clear hh111
    replace hz115 : z_viaductlaw05_CsrRows_l2 N_ y25 i4 all5 = some z114 := hz115
    unfold z_viaductlaw05_CsrRows_l2 at hz115
    obtain ⟨a118, n119, c120, rfl⟩ := m107.form
    refine w_seqk fun K121 k121 => ?_
    refine w_reg (by kernel_rfl) ?_
    refine s_qk (.bool (decide (i4 < N_))) (by kernel_rfl) ?_
    refine s_nil ?_
    refine k121 _ _ ?_
    refine w_seqk fun K122 k122 => ?_
    refine w_condp (i4 < N_) (by kernel_rfl) rfl (fun h123 => ?_) (fun h123 => ?_)
    ·have r124 := ite_t h123 hz115
     refine w_skip ?_
     refine k122 _ _ ?_
     refine w_seqk fun K125 k125 => ?_
     refine w_block ?_
     refine w_seqk fun K126 k126 => ?_
     refine w_reg (by kernel_rfl) ?_
     refine s_qk (.int .i64 i4) (by kernel_rfl) ?_
     refine s_qk (.int .i64 i4) (by kernel_rfl) ?_
     refine s_nil ?_
     refine k126 _ _ ?_
     refine w_seqk fun K127 k127 => ?_
     refine w_reg (by kernel_rfl) ?_
     have u128 := (r74.frS e105 Dj.nil_l)
     refine s_ql (.agg #[.slice a56 n57 c58, .slice a59 n60 c61, .slice a62 n63 c64]) (x := aLoad Tryd.prog 59 (.pointer (some ⟨b65, 0, none⟩)) H104) (by kernel_rfl) (u128.ld (by kernel_rfl)) ?_
     refine s_qk (.int .i64 i4) (by kernel_rfl) ?_
     have u129 := ((u77.fr e73 (hb68.djn m38.lt)).fr e105 Dj.nil_l)
     have u130 := ((u76.fr e73 (hb68.djn m39.lt)).fr e105 Dj.nil_l)
     have u131 := ((u75.fr e73 (hb68.djn m40.lt)).fr e105 Dj.nil_l)
     obtain ⟨y132, hy133, r134⟩ := bind_some r124
     refine s_ck 34 #[.agg #[.slice a56 n57 c58, .slice a59 n60 c61, .slice a62 n63 c64], .int .i64 i4] (by kernel_rfl) (c_csr_Row e105.wf u129.sq u130.sq u131.sq hy133) ?_
     rintro _ H139 ⟨s135, f136, v137, f138, rfl, e140, m141, m142, i143, i144, d145⟩
     obtain ⟨a148, n149, c150, rfl⟩ := m141.form
     refine s_qk (.tuple #[.slice a148 n149 c150, v137]) (by kernel_rfl) ?_
     refine s_qk (.slice a148 n149 c150) (by kernel_rfl) ?_
     refine s_qk (v137) (by kernel_rfl) ?_
     refine s_qk (.slice a148 n149 c150) (by kernel_rfl) ?_
     refine s_qk (v137) (by kernel_rfl) ?_
     refine s_nil ?_
     refine k127 _ _ ?_
     refine w_seqk fun K151 k151 => ?_
     refine w_seqk fun K152 k152 => ?_
     refine w_reg (by kernel_rfl) ?_
     refine s_qk (v137) (by kernel_rfl) ?_
     rcases (m142).cases with ⟨h153, rfl⟩ | ⟨h153, t154, x155, rfl⟩
     ·have r156 := ite_t h153 r134
      refine s_qk (.bool false) (by kernel_rfl) ?_
      refine s_nil ?_
      refine k152 _ _ ?_
      refine w_cond false (by kernel_rfl) rfl (fun h => by cases h) (fun _ => ?_)
      refine w_skip ?_
      refine k151 _ _ ?_
      refine w_seqk fun K157 k157 => ?_
      refine w_reg (by kernel_rfl) ?_
      refine s_qk (.slice a118 n119 c120) (by kernel_rfl) ?_
      refine s_qk (.slice a148 n149 c150) (by kernel_rfl) ?_
      have u158 := (m107.fr e140 Dj.nil_l)
      obtain ⟨g159, r160⟩ := G_some r156
      obtain ⟨s161, H162, f163, q167, e164, hm165, hf166⟩ := Ow.append (P := Tryd.prog) 24 e140.wf u158 m141.sq (fun _ _ => rfl) (at_ := #[22, 22]) rfl rfl (by kernel_rfl) (by kernel_rfl) (by decide) (by have := g159; first | omega | (simp only [List.length_cons, List.length_nil] at this ⊢; omega) | (simp at this ⊢; omega))
      obtain ⟨a168, n169, c170, rfl⟩ := hm165.form
      refine s_ek (.slice a168 n169 c170) (by kernel_rfl) (q167) ?_
      refine s_qk (.slice a168 n169 c170) (by kernel_rfl) ?_
      refine s_nil ?_
      refine k157 _ _ ?_
      refine w_seqk fun K172 k172 => ?_
      refine w_reg (by kernel_rfl) ?_
      refine s_qk (.pointer (some ⟨b2, 0, none⟩)) (by kernel_rfl) ?_
      have u173 := (((u88.frS e105 Dj.nil_l).frS e140 Dj.nil_l).frS e164 (i110.djn (r6.ltF.le (ntr (ntr (ntr e17.next e37.next) e67.next) e73.next))))
      refine s_ql (.int .i64 N_) (x := aLoad Tryd.prog 3 (.pointer (some ⟨b2, 0, none⟩)) H162) (by kernel_rfl) (u173.ld (by kernel_rfl)) ?_
      refine s_qk (.int .i64 0) (by kernel_rfl) ?_
      refine s_nil ?_
      refine k172 _ _ ?_
      obtain ⟨z177, hx175, r176⟩ := bind_some r160
      refine w_mid (fun α H178 => ∃ o174, z177 = Sum.inr o174 ∧ Has α [(1, .pointer (some ⟨b2, 0, none⟩)), (3, .pointer (some ⟨b65, 0, none⟩)), (5, .slice a168 n169 c170), (30, .int .i64 N_), (31, .int .i64 i4)] ∧ FrS [] H162 H178) (fun K180 k180 => ?_) (fun α H178 hM => ?_)
      ·refine w_block ?_
       obtain ⟨n182, hn183⟩ := loopO_iff.1 hx175
       refine w_loopn (fun n α H184 => ∃ (i3 : Int), iterO (fun zz_ => z_viaductlaw05_CsrRows_l1 N_ y25 i4 y132 zz_) n i3 = some z177 ∧ Has α [(1, .pointer (some ⟨b2, 0, none⟩)), (3, .pointer (some ⟨b65, 0, none⟩)), (5, .slice a168 n169 c170), (6, .int .i64 i4), (7, .slice a148 n149 c150), (30, .int .i64 N_), (31, .int .i64 i4), (46, .int .i64 N_), (47, .int .i64 i3)] ∧ FrS [] H162 H184) n182 ⟨0, hn183, ⟨by kernel_rfl, by kernel_rfl, by kernel_rfl, by kernel_rfl, by kernel_rfl, by kernel_rfl, by kernel_rfl, by kernel_rfl, by kernel_rfl, trivial⟩, (FrS.refl (W := []) e164.wf)⟩ ?_
       rintro n182 α H184 ⟨i3, hi187, hh186, e185⟩ K192 k192
       obtain ⟨n188, z189, rfl, hz190, hn191⟩ := iter_succ hi187
       obtain ⟨β, rfl⟩ := has_ex hh186
       clear hh186
       replace hz190 : z_viaductlaw05_CsrRows_l1 N_ y25 i4 y132 i3 = some z189 := hz190
       unfold z_viaductlaw05_CsrRows_l1 at hz190
       refine w_seqk fun K193 k193 => ?_
       refine w_reg (by kernel_rfl) ?_
       refine s_qk (.bool (decide (i3 < N_))) (by kernel_rfl) ?_
       refine s_nil ?_
       refine k193 _ _ ?_
       refine w_seqk fun K194 k194 => ?_
       refine w_condp (i3 < N_) (by kernel_rfl) rfl (fun h195 => ?_) (fun h195 => ?_)
       ·have r196 := ite_t h195 hz190
        refine w_skip ?_
        refine k194 _ _ ?_
        refine w_seqk fun K197 k197 => ?_
        refine w_block ?_
        refine w_seqk fun K198 k198 => ?_
        refine w_reg (by kernel_rfl) ?_
        refine s_qk (.int .i64 i3) (by kernel_rfl) ?_
        refine s_qk (.int .i64 i3) (by kernel_rfl) ?_
        refine s_nil ?_
        refine k198 _ _ ?_
        refine w_seqk fun K199 k199 => ?_
        refine w_reg (by kernel_rfl) ?_
        refine s_qk (.int .i64 0) (by kernel_rfl) ?_
        refine s_qk (.bool false) (by kernel_rfl) ?_
        refine s_nil ?_
        refine k199 _ _ ?_
        refine w_seqk fun K200 k200 => ?_
        refine w_seqk fun K201 k201 => ?_
        refine w_reg (by kernel_rfl) ?_
        refine s_qk (.slice a148 n149 c150) (by kernel_rfl) ?_
        have u202 := ((m141.fr e164 (Dj.symm (i143.djn m107.lt))).fr e185 Dj.nil_l)
        refine s_ql (.int .i64 (y132.1.length : Int)) (x := aLen Tryd.prog 22 (.slice a148 n149 c150) H184) (by kernel_rfl) (u202.sq.lenb (by kernel_rfl)) ?_
        refine s_qk (.int .i64 0) (by kernel_rfl) ?_
        refine s_nil ?_
        refine k201 _ _ ?_
        obtain ⟨o203, hx204, r205⟩ := bind_some r196
        refine w_mid (fun α H206 => Has α [(1, .pointer (some ⟨b2, 0, none⟩)), (3, .pointer (some ⟨b65, 0, none⟩)), (5, .slice a168 n169 c170), (6, .int .i64 i4), (7, .slice a148 n149 c150), (9, .int .i64 i3), (10, .int .i64 o203.1), (11, .bool o203.2), (30, .int .i64 N_), (31, .int .i64 i4), (46, .int .i64 N_), (47, .int .i64 i3)] ∧ FrS [] H184 H206) (fun K208 k208 => ?_) (fun α H206 hM => ?_)
        ·refine w_block ?_
         obtain ⟨n210, hn211⟩ := loopO_iff.1 hx204
         refine w_loopn (fun n α H212 => ∃ (weight0 : Int), ∃ (there1 : Bool), ∃ (i2 : Int), iterO (fun zz_ => z_viaductlaw05_CsrRows_l0 y132 i3 zz_.1 zz_.2.1 zz_.2.2) n (weight0, there1, i2) = some o203 ∧ Has α [(1, .pointer (some ⟨b2, 0, none⟩)), (3, .pointer (some ⟨b65, 0, none⟩)), (5, .slice a168 n169 c170), (6, .int .i64 i4), (7, .slice a148 n149 c150), (9, .int .i64 i3), (10, .int .i64 weight0), (11, .bool there1), (30, .int .i64 N_), (31, .int .i64 i4), (46, .int .i64 N_), (47, .int .i64 i3), (50, .slice a148 n149 c150), (51, .int .i64 (y132.1.length : Int)), (52, .int .i64 i2)] ∧ FrS [] H184 H212) n210 ⟨0, false, 0, hn211, ⟨by kernel_rfl, by kernel_rfl, by kernel_rfl, by kernel_rfl, by kernel_rfl, by kernel_rfl, by kernel_rfl, by kernel_rfl, by kernel_rfl, by kernel_rfl, by kernel_rfl, by kernel_rfl, by kernel_rfl, by kernel_rfl, by kernel_rfl, trivial⟩, (FrS.refl (W := []) e185.wf)⟩ ?_
         rintro n210 α H212 ⟨weight0, there1, i2, hi215, hh214, e213⟩ K220 k220
         obtain ⟨n216, z217, rfl, hz218, hn219⟩ := iter_succ hi215
         obtain ⟨β, rfl⟩ := has_ex hh214
         clear hh214
         replace hz218 : z_viaductlaw05_CsrRows_l0 y132 i3 weight0 there1 i2 = some z217 := hz218
         unfold z_viaductlaw05_CsrRows_l0 at hz218
         refine w_seqk fun K221 k221 => ?_
         refine w_reg (by kernel_rfl) ?_
         refine s_qk (.bool (decide (i2 < (y132.1.length : Int)))) (by kernel_rfl) ?_
         refine s_nil ?_
         refine k221 _ _ ?_
         refine w_seqk fun K222 k222 => ?_
         refine w_condp (i2 < (y132.1.length : Int)) (by kernel_rfl) rfl (fun h223 => ?_) (fun h223 => ?_)
         ·have r224 := ite_t h223 hz218
          refine w_skip ?_
          refine k222 _ _ ?_
          refine w_seqk fun K225 k225 => ?_
          refine w_block ?_
          refine w_seqk fun K226 k226 => ?_
          refine w_reg (by kernel_rfl) ?_
          obtain ⟨g227, r228⟩ := G_some r224
          have u229 := (u202.fr e213 Dj.nil_l)
          refine s_ql (elp (.slice a148 n149 c150) 3 i2.toNat 0) (x := aIndexAddr Tryd.prog 22 (.slice a148 n149 c150) (.int .i64 i2)) (by kernel_rfl) (u229.sq.idxb (by kernel_rfl) g227 h223) ?_
          refine s_ql (.agg #[.int .i64 ((gt y132.1 i2).1), .int .i64 ((gt y132.1 i2).2.1), .int .i64 ((gt y132.1 i2).2.2)]) (x := aLoad Tryd.prog 51 (elp (.slice a148 n149 c150) 3 i2.toNat 0) H212) (by kernel_rfl) (u229.sq.ld g227 h223 (by kernel_rfl)) ?_
          refine s_rwk e213.wf [.int .i64 0, .int .i64 0, .int .i64 0] (by kernel_rfl) fun b230 H231 e232 hb233 r234 => ?_
          obtain ⟨H236, q237, e238, r239⟩ := Row.store (P := Tryd.prog) (t := 51) (p := 0) e232.wf r234 (.agg #[.int .i64 ((gt y132.1 i2).1), .int .i64 ((gt y132.1 i2).2.1), .int .i64 ((gt y132.1 i2).2.2)]) [.int .i64 ((gt y132.1 i2).1), .int .i64 ((gt y132.1 i2).2.1), .int .i64 ((gt y132.1 i2).2.2)] (by kernel_rfl) (by kernel_rfl) (one_cons (rfl) (one_cons (rfl) (one_cons (rfl) (one_nil)))) (Nat.le_of_ble_eq_true (by kernel_rfl)) [.int .i64 ((gt y132.1 i2).1), .int .i64 ((gt y132.1 i2).2.1), .int .i64 ((gt y132.1 i2).2.2)] (by kernel_rfl)
          refine s_ek (undef) (by kernel_rfl) (map_ok q237) ?_
          refine s_nil ?_
          refine k226 _ _ ?_
          refine w_seqk fun K240 k240 => ?_
          refine w_reg (by kernel_rfl) ?_
          refine s_qk (.pointer (some ⟨b230, 1, none⟩)) (by kernel_rfl) ?_
          refine s_ql (.int .i64 ((gt y132.1 i2).2.1)) (x := aLoad Tryd.prog 3 (.pointer (some ⟨b230, 1, none⟩)) H236) (by kernel_rfl) (r239.ld (by kernel_rfl)) ?_
          refine s_qk (.int .i64 i3) (by kernel_rfl) ?_
          refine s_qk (.bool (decide (((gt y132.1 i2).2.1) = i3))) (by kernel_rfl) ?_
          refine s_nil ?_
          refine k240 _ _ ?_
          refine w_condp (((gt y132.1 i2).2.1) = i3) (by kernel_rfl) rfl (fun h241 => ?_) (fun h241 => ?_)
          ·have r242 := ite_t h241 r228
           refine w_reg (by kernel_rfl) ?_
           refine s_qk (.pointer (some ⟨b230, 2, none⟩)) (by kernel_rfl) ?_
           refine s_ql (.int .i64 ((gt y132.1 i2).2.2)) (x := aLoad Tryd.prog 3 (.pointer (some ⟨b230, 2, none⟩)) H236) (by kernel_rfl) (r239.ld (by kernel_rfl)) ?_
           refine s_qk (.int .i64 ((gt y132.1 i2).2.2)) (by kernel_rfl) ?_
           refine s_qk (.bool true) (by kernel_rfl) ?_
           refine s_nil ?_
           refine k225 _ _ ?_
           refine w_reg (by kernel_rfl) ?_
           obtain ⟨g243, r244⟩ := G_some r242
           refine s_w ((i2 + 1)) (k := .i64) (x := (i2 + 1)) (by kernel_rfl) (wrap64 (by have := g243; omega)) ?_
           refine s_qk (.int .i64 (i2 + 1)) (by kernel_rfl) ?_
           refine s_nil ?_
           obtain rfl := Option.some.inj r244
           exact k220 n216 _ _ (Nat.lt_succ_self _) ⟨(gt y132.1 i2).2.2, true, (i2 + 1), hn219, ⟨by kernel_rfl, by kernel_rfl, by kernel_rfl, by kernel_rfl, by kernel_rfl, by kernel_rfl, by kernel_rfl, by kernel_rfl, by kernel_rfl, by kernel_rfl, by kernel_rfl, by kernel_rfl, by kernel_rfl, by kernel_rfl, by kernel_rfl, trivial⟩, (FrS.step e185.wf ((FrS.step e185.wf (FrS.refl (W := []) e185.wf) e213 Inn.nil).extR e232) e238 (hb233.fresh e213.next))⟩
          ·have r245 := ite_f h241 r228
           refine w_skip ?_
           refine k225 _ _ ?_
           refine w_reg (by kernel_rfl) ?_
           obtain ⟨g246, r247⟩ := G_some r245
           refine s_w ((i2 + 1)) (k := .i64) (x := (i2 + 1)) (by kernel_rfl) (wrap64 (by have := g246; omega)) ?_
           refine s_qk (.int .i64 (i2 + 1)) (by kernel_rfl) ?_
           refine s_nil ?_
           obtain rfl := Option.some.inj r247
           exact k220 n216 _ _ (Nat.lt_succ_self _) ⟨weight0, there1, (i2 + 1), hn219, ⟨by kernel_rfl, by kernel_rfl, by kernel_rfl, by kernel_rfl, by kernel_rfl, by kernel_rfl, by kernel_rfl, by kernel_rfl, by kernel_rfl, by kernel_rfl, by kernel_rfl, by kernel_rfl, by kernel_rfl, by kernel_rfl, by kernel_rfl, trivial⟩, (FrS.step e185.wf ((FrS.step e185.wf (FrS.refl (W := []) e185.wf) e213 Inn.nil).extR e232) e238 (hb233.fresh e213.next))⟩
         ·have r248 := ite_f h223 hz218
          refine w_exit (th_exit (th_exit (bl_eq ?_)))
          obtain rfl := Option.some.inj r248
          obtain rfl := it_inr hn219
          exact k208 _ _ ⟨⟨by kernel_rfl, by kernel_rfl, by kernel_rfl, by kernel_rfl, by kernel_rfl, by kernel_rfl, by kernel_rfl, by kernel_rfl, by kernel_rfl, by kernel_rfl, by kernel_rfl, by kernel_rfl, trivial⟩, (FrS.step e185.wf (FrS.refl (W := []) e185.wf) e213 Inn.nil)⟩
        ·obtain ⟨hh209, e207⟩ := hM
         obtain ⟨β, rfl⟩ := has_ex hh209
         clear hh209
         refine k200 _ _ ?_
         refine w_seqk fun K249 k249 => ?_
         refine w_reg (by kernel_rfl) ?_
         have u250 := ((((u128.frS e140 Dj.nil_l).frS e164 (i110.djn (r69.ltF.le e73.next))).frS e185 Dj.nil_l).frS e207 Dj.nil_l)
         refine s_ql (.agg #[.slice a56 n57 c58, .slice a59 n60 c61, .slice a62 n63 c64]) (x := aLoad Tryd.prog 59 (.pointer (some ⟨b65, 0, none⟩)) H206) (by kernel_rfl) (u250.ld (by kernel_rfl)) ?_
         refine s_qk (.int .i64 i4) (by kernel_rfl) ?_
         refine s_qk (.int .i64 i3) (by kernel_rfl) ?_
         have u251 := ((((u129.fr e140 Dj.nil_l).fr e164 (i110.djn (m38.lt.le (ntr e67.next e73.next)))).fr e185 Dj.nil_l).fr e207 Dj.nil_l)
         have u252 := ((((u130.fr e140 Dj.nil_l).fr e164 (i110.djn (m39.lt.le (ntr e67.next e73.next)))).fr e185 Dj.nil_l).fr e207 Dj.nil_l)
         have u253 := ((((u131.fr e140 Dj.nil_l).fr e164 (i110.djn (m40.lt.le (ntr e67.next e73.next)))).fr e185 Dj.nil_l).fr e207 Dj.nil_l)
         obtain ⟨y254, hy255, r256⟩ := bind_some r205
         refine s_ck 37 #[.agg #[.slice a56 n57 c58, .slice a59 n60 c61, .slice a62 n63 c64], .int .i64 i4, .int .i64 i3] (by kernel_rfl) (c_csr_Find e207.wf u251.sq u252.sq u253.sq hy255) ?_
         rintro _ H259 ⟨v257, f258, rfl, e260, m261, i262⟩
         refine s_qk (.tuple #[.int .i64 y254.1, v257]) (by kernel_rfl) ?_
         refine s_qk (.int .i64 y254.1) (by kernel_rfl) ?_
         refine s_qk (v257) (by kernel_rfl) ?_
         refine s_qk (.int .i64 y254.1) (by kernel_rfl) ?_
         refine s_qk (v257) (by kernel_rfl) ?_
         refine s_nil ?_
         refine k249 _ _ ?_
         refine w_seqk fun K264 k264 => ?_
         refine w_reg (by kernel_rfl) ?_
         refine s_qk (.int .i64 y254.1) (by kernel_rfl) ?_
         refine s_qk (.int .i64 o203.1) (by kernel_rfl) ?_
         refine s_bn (y254.1 = o203.1) (by kernel_rfl) (fun h265 => ?_) (fun h265 => ?_)
         ·have r266 := ite_t h265 r256
          refine s_qk (.bool false) (by kernel_rfl) ?_
          refine s_qk (.bool o203.2) (by kernel_rfl) ?_
          refine s_qk (v257) (by kernel_rfl) ?_
          rcases (m261).cases with ⟨h267, rfl⟩ | ⟨h267, t268, x269, rfl⟩
          ·have r270 := ite_t h267 r266
           refine s_qk (.bool true) (by kernel_rfl) ?_
           refine s_bn (o203.2 = true) (by kernel_rfl) (fun h271 => ?_) (fun h271 => ?_)
           ·have r272 := ite_t h271 r270
            refine s_qk (.bool false) (by kernel_rfl) ?_
            refine s_qk (.bool false) (by kernel_rfl) ?_
            refine s_qk (.bool o203.2) (by kernel_rfl) ?_
            refine s_qk (.bool (!o203.2)) (by kernel_rfl) ?_
            refine s_qk (.bool (!o203.2)) (by kernel_rfl) ?_
            by_cases h273 : (!o203.2) = true
            ·have r274 := ite_t h273 r272
             rw [h273]
             refine s_qk (.nilIface) (by kernel_rfl) ?_
             obtain ⟨y275, hy276, r277⟩ := bind_some r274
             refine s_ck 26 #[.int .i64 16] (by kernel_rfl) (c_viaductref01_E e260.wf hy276) ?_
             rintro _ H278 ⟨rfl, e279⟩
             obtain ⟨y280, hy281, r282⟩ := bind_some r277
             refine s_ck 16 #[.nilIface, .agg #[.int .i64 y275, .slice none 0 0]] (by kernel_rfl) (c_viaductseen_Same e279.wf (Ev.nil (tn := 53) (tf := 90)) (Sq.nil (enc := enc_i64_i64) (sz := 2) (by decide)) hy281) ?_
             rintro _ H283 ⟨rfl, e284⟩
             refine s_qk (.bool (!y280)) (by kernel_rfl) ?_
             refine s_qk (.bool (!y280)) (by kernel_rfl) ?_
             refine s_qk (.bool (!y280)) (by kernel_rfl) ?_
             refine s_nil ?_
             refine k264 _ _ ?_
             refine w_cond ((!y280)) (by kernel_rfl) rfl (fun h285 => ?_) (fun h285 => ?_)
             ·have r286 := ite_t h285 r282
              refine w_seqk fun K287 k287 => ?_
              refine w_reg (by kernel_rfl) ?_
              refine s_qk (.bool false) (by kernel_rfl) ?_
              refine s_nil ?_
              refine k287 _ _ ?_
              refine w_ret (bl_ret (th_ret (th_ret (bl_ret (th_ret (bl_ret (th_ret (th_ret (bl_ret (th_ret (th_ret ?_)))))))))))
              obtain ⟨v288, hv289, hz290⟩ := map_some r286
              subst hz290
              obtain rfl := it_inr hn191
              have hq291 := elim_inl r176
              rw [hq291] at hv289
              obtain ⟨v292, hv293, hz294⟩ := map_some hv289
              subst hz294
              obtain rfl := it_inr hn116
              have hq295 := elim_inl r91
              rw [hq295] at hv293
              refine b_ret (fn := Tryd.f8) (vs := [.bool false]) (aRes_tmp (by kernel_rfl) (rfl)) ?_
              obtain rfl := Option.some.inj hv293
              exact ⟨rfl, (FrS.step wf (FrS.step wf (FrS.step wf (FrS.step wf (FrS.step wf (FrS.step wf (FrS.step wf (FrS.step wf (FrS.step wf ((FrS.step wf (FrS.step wf ((FrS.refl (W := []) wf).extR e4) e17 Inn.nil) e37 Inn.nil).extR e67) e73 (hb68.fresh (ntr (ntr e4.next e17.next) e37.next))) e105 Inn.nil) e140 Inn.nil) e164 (i110.fresh (ntr (ntr (ntr (ntr e4.next e17.next) e37.next) e67.next) e73.next))) e185 Inn.nil) e207 Inn.nil) e260 Inn.nil) e279 Inn.nil) e284 Inn.nil)⟩
             ·have r296 := ite_bf h285 r282
              refine w_skip ?_
              refine k197 _ _ ?_
              refine w_reg (by kernel_rfl) ?_
              obtain ⟨g297, r298⟩ := G_some r296
              refine s_w ((i3 + 1)) (k := .i64) (x := (i3 + 1)) (by kernel_rfl) (wrap64 g297) ?_
              refine s_qk (.int .i64 (i3 + 1)) (by kernel_rfl) ?_
              refine s_nil ?_
              obtain rfl := Option.some.inj r298
              exact k192 n188 _ _ (Nat.lt_succ_self _) ⟨(i3 + 1), hn191, ⟨by kernel_rfl, by kernel_rfl, by kernel_rfl, by kernel_rfl, by kernel_rfl, by kernel_rfl, by kernel_rfl, by kernel_rfl, by kernel_rfl, trivial⟩, (FrS.step e164.wf (FrS.step e164.wf (FrS.step e164.wf (FrS.step e164.wf (FrS.step e164.wf (FrS.refl (W := []) e164.wf) e185 Inn.nil) e207 Inn.nil) e260 Inn.nil) e279 Inn.nil) e284 Inn.nil)⟩
            ·have r299 := ite_f h273 r272
             rw [nb h273]
             refine s_no (by kernel_rfl) ?_
             refine s_no (by kernel_rfl) ?_
             refine s_no (by kernel_rfl) ?_
             refine s_no (by kernel_rfl) ?_
             refine s_qk (.bool false) (by kernel_rfl) ?_
             refine s_qk (.bool false) (by kernel_rfl) ?_
             refine s_nil ?_
             refine k264 _ _ ?_
             refine w_cond false (by kernel_rfl) rfl (fun h => by cases h) (fun _ => ?_)
             refine w_skip ?_
             refine k197 _ _ ?_
             refine w_reg (by kernel_rfl) ?_
             obtain ⟨g300, r301⟩ := G_some r299
             refine s_w ((i3 + 1)) (k := .i64) (x := (i3 + 1)) (by kernel_rfl) (wrap64 g300) ?_
             refine s_qk (.int .i64 (i3 + 1)) (by kernel_rfl) ?_
             refine s_nil ?_
             obtain rfl := Option.some.inj r301
             exact k192 n188 _ _ (Nat.lt_succ_self _) ⟨(i3 + 1), hn191, ⟨by kernel_rfl, by kernel_rfl, by kernel_rfl, by kernel_rfl, by kernel_rfl, by kernel_rfl, by kernel_rfl, by kernel_rfl, by kernel_rfl, trivial⟩, (FrS.step e164.wf (FrS.step e164.wf (FrS.step e164.wf (FrS.refl (W := []) e164.wf) e185 Inn.nil) e207 Inn.nil) e260 Inn.nil)⟩
           ·have r302 := ite_f h271 r270
            refine s_qk (.bool true) (by kernel_rfl) ?_
            refine s_qk (.bool true) (by kernel_rfl) ?_
            refine s_no (by kernel_rfl) ?_
            refine s_no (by kernel_rfl) ?_
            refine s_no (by kernel_rfl) ?_
            refine s_no (by kernel_rfl) ?_
            refine s_no (by kernel_rfl) ?_
            refine s_no (by kernel_rfl) ?_
            refine s_no (by kernel_rfl) ?_
            refine s_no (by kernel_rfl) ?_
            refine s_qk (.bool true) (by kernel_rfl) ?_
            refine s_nil ?_
            refine k264 _ _ ?_
            refine w_cond true (by kernel_rfl) rfl (fun _ => ?_) (fun h => by cases h)
            refine w_seqk fun K303 k303 => ?_
            refine w_reg (by kernel_rfl) ?_
            refine s_qk (.bool false) (by kernel_rfl) ?_
            refine s_nil ?_
            refine k303 _ _ ?_
            refine w_ret (bl_ret (th_ret (th_ret (bl_ret (th_ret (bl_ret (th_ret (th_ret (bl_ret (th_ret (th_ret ?_)))))))))))
            obtain ⟨v304, hv305, hz306⟩ := map_some r302
            subst hz306
            obtain rfl := it_inr hn191
            have hq307 := elim_inl r176
            rw [hq307] at hv305
            obtain ⟨v308, hv309, hz310⟩ := map_some hv305
            subst hz310
            obtain rfl := it_inr hn116
            have hq311 := elim_inl r91
            rw [hq311] at hv309
            refine b_ret (fn := Tryd.f8) (vs := [.bool false]) (aRes_tmp (by kernel_rfl) (rfl)) ?_
            obtain rfl := Option.some.inj hv309
            exact ⟨rfl, (FrS.step wf (FrS.step wf (FrS.step wf (FrS.step wf (FrS.step wf (FrS.step wf (FrS.step wf ((FrS.step wf (FrS.step wf ((FrS.refl (W := []) wf).extR e4) e17 Inn.nil) e37 Inn.nil).extR e67) e73 (hb68.fresh (ntr (ntr e4.next e17.next) e37.next))) e105 Inn.nil) e140 Inn.nil) e164 (i110.fresh (ntr (ntr (ntr (ntr e4.next e17.next) e37.next) e67.next) e73.next))) e185 Inn.nil) e207 Inn.nil) e260 Inn.nil)⟩
          ·have r312 := ite_f h267 r266
           refine s_ql (.bool false) (x := aBin Tryd.prog .eql 28 (.tmp 75) (.const .nilIface) (.iface t268 x269) .nilIface) (by kernel_rfl) (aBin_nil (by kernel_rfl)) ?_
           refine s_bn (o203.2 = false) (by kernel_rfl) (fun h313 => ?_) (fun h313 => ?_)
           ·have r314 := ite_t h313 r312
            refine s_qk (.bool false) (by kernel_rfl) ?_
            refine s_qk (.bool false) (by kernel_rfl) ?_
            refine s_qk (.bool o203.2) (by kernel_rfl) ?_
            refine s_qk (.bool (!o203.2)) (by kernel_rfl) ?_
            refine s_qk (.bool (!o203.2)) (by kernel_rfl) ?_
            by_cases h315 : (!o203.2) = true
            ·have r316 := ite_t h315 r314
             rw [h315]
             refine s_qk (.iface t268 x269) (by kernel_rfl) ?_
             obtain ⟨y317, hy318, r319⟩ := bind_some r316
             refine s_ck 26 #[.int .i64 16] (by kernel_rfl) (c_viaductref01_E e260.wf hy318) ?_
             rintro _ H320 ⟨rfl, e321⟩
             have u322 := (m261.fr e321 Dj.nil_l)
             obtain ⟨y323, hy324, r325⟩ := bind_some r319
             refine s_ck 16 #[.iface t268 x269, .agg #[.int .i64 y317, .slice none 0 0]] (by kernel_rfl) (c_viaductseen_Same e321.wf u322 (Sq.nil (enc := enc_i64_i64) (sz := 2) (by decide)) hy324) ?_
             rintro _ H326 ⟨rfl, e327⟩
             refine s_qk (.bool (!y323)) (by kernel_rfl) ?_
             refine s_qk (.bool (!y323)) (by kernel_rfl) ?_
             refine s_qk (.bool (!y323)) (by kernel_rfl) ?_
             refine s_nil ?_
             refine k264 _ _ ?_
             refine w_cond ((!y323)) (by kernel_rfl) rfl (fun h328 => ?_) (fun h328 => ?_)
             ·have r329 := ite_t h328 r325
              refine w_seqk fun K330 k330 => ?_
              refine w_reg (by kernel_rfl) ?_
              refine s_qk (.bool false) (by kernel_rfl) ?_
              refine s_nil ?_
              refine k330 _ _ ?_
              refine w_ret (bl_ret (th_ret (th_ret (bl_ret (th_ret (bl_ret (th_ret (th_ret (bl_ret (th_ret (th_ret ?_)))))))))))
              obtain ⟨v331, hv332, hz333⟩ := map_some r329
              subst hz333
              obtain rfl := it_inr hn191
              have hq334 := elim_inl r176
              rw [hq334] at hv332
              obtain ⟨v335, hv336, hz337⟩ := map_some hv332
              subst hz337
              obtain rfl := it_inr hn116
              have hq338 := elim_inl r91
              rw [hq338] at hv336
              refine b_ret (fn := Tryd.f8) (vs := [.bool false]) (aRes_tmp (by kernel_rfl) (rfl)) ?_
              obtain rfl := Option.some.inj hv336
              exact ⟨rfl, (FrS.step wf (FrS.step wf (FrS.step wf (FrS.step wf (FrS.step wf (FrS.step wf (FrS.step wf (FrS.step wf (FrS.step wf ((FrS.step wf (FrS.step wf ((FrS.refl (W := []) wf).extR e4) e17 Inn.nil) e37 Inn.nil).extR e67) e73 (hb68.fresh (ntr (ntr e4.next e17.next) e37.next))) e105 Inn.nil) e140 Inn.nil) e164 (i110.fresh (ntr (ntr (ntr (ntr e4.next e17.next) e37.next) e67.next) e73.next))) e185 Inn.nil) e207 Inn.nil) e260 Inn.nil) e321 Inn.nil) e327 Inn.nil)⟩
             ·have r339 := ite_bf h328 r325
              refine w_skip ?_
              refine k197 _ _ ?_
              refine w_reg (by kernel_rfl) ?_
              obtain ⟨g340, r341⟩ := G_some r339
              refine s_w ((i3 + 1)) (k := .i64) (x := (i3 + 1)) (by kernel_rfl) (wrap64 g340) ?_
              refine s_qk (.int .i64 (i3 + 1)) (by kernel_rfl) ?_
              refine s_nil ?_
              obtain rfl := Option.some.inj r341
              exact k192 n188 _ _ (Nat.lt_succ_self _) ⟨(i3 + 1), hn191, ⟨by kernel_rfl, by kernel_rfl, by kernel_rfl, by kernel_rfl, by kernel_rfl, by kernel_rfl, by kernel_rfl, by kernel_rfl, by kernel_rfl, trivial⟩, (FrS.step e164.wf (FrS.step e164.wf (FrS.step e164.wf (FrS.step e164.wf (FrS.step e164.wf (FrS.refl (W := []) e164.wf) e185 Inn.nil) e207 Inn.nil) e260 Inn.nil) e321 Inn.nil) e327 Inn.nil)⟩
            ·have r342 := ite_f h315 r314
             rw [nb h315]
             refine s_no (by kernel_rfl) ?_
             refine s_no (by kernel_rfl) ?_
             refine s_no (by kernel_rfl) ?_
             refine s_no (by kernel_rfl) ?_
             refine s_qk (.bool false) (by kernel_rfl) ?_
             refine s_qk (.bool false) (by kernel_rfl) ?_
             refine s_nil ?_
             refine k264 _ _ ?_
             refine w_cond false (by kernel_rfl) rfl (fun h => by cases h) (fun _ => ?_)
             refine w_skip ?_
             refine k197 _ _ ?_
             refine w_reg (by kernel_rfl) ?_
             obtain ⟨g343, r344⟩ := G_some r342
             refine s_w ((i3 + 1)) (k := .i64) (x := (i3 + 1)) (by kernel_rfl) (wrap64 g343) ?_
             refine s_qk (.int .i64 (i3 + 1)) (by kernel_rfl) ?_
             refine s_nil ?_
             obtain rfl := Option.some.inj r344
             exact k192 n188 _ _ (Nat.lt_succ_self _) ⟨(i3 + 1), hn191, ⟨by kernel_rfl, by kernel_rfl, by kernel_rfl, by kernel_rfl, by kernel_rfl, by kernel_rfl, by kernel_rfl, by kernel_rfl, by kernel_rfl, trivial⟩, (FrS.step e164.wf (FrS.step e164.wf (FrS.step e164.wf (FrS.refl (W := []) e164.wf) e185 Inn.nil) e207 Inn.nil) e260 Inn.nil)⟩
           ·have r345 := ite_f h313 r312
            refine s_qk (.bool true) (by kernel_rfl) ?_
            refine s_qk (.bool true) (by kernel_rfl) ?_
            refine s_no (by kernel_rfl) ?_
            refine s_no (by kernel_rfl) ?_
            refine s_no (by kernel_rfl) ?_
            refine s_no (by kernel_rfl) ?_
            refine s_no (by kernel_rfl) ?_
            refine s_no (by kernel_rfl) ?_
            refine s_no (by kernel_rfl) ?_
            refine s_no (by kernel_rfl) ?_
            refine s_qk (.bool true) (by kernel_rfl) ?_
            refine s_nil ?_
            refine k264 _ _ ?_
            refine w_cond true (by kernel_rfl) rfl (fun _ => ?_) (fun h => by cases h)
            refine w_seqk fun K346 k346 => ?_
            refine w_reg (by kernel_rfl) ?_
            refine s_qk (.bool false) (by kernel_rfl) ?_
            refine s_nil ?_
            refine k346 _ _ ?_
            refine w_ret (bl_ret (th_ret (th_ret (bl_ret (th_ret (bl_ret (th_ret (th_ret (bl_ret (th_ret (th_ret ?_)))))))))))
            obtain ⟨v347, hv348, hz349⟩ := map_some r345
            subst hz349
            obtain rfl := it_inr hn191
            have hq350 := elim_inl r176
            rw [hq350] at hv348
            obtain ⟨v351, hv352, hz353⟩ := map_some hv348
            subst hz353
            obtain rfl := it_inr hn116
            have hq354 := elim_inl r91
            rw [hq354] at hv352
            refine b_ret (fn := Tryd.f8) (vs := [.bool false]) (aRes_tmp (by kernel_rfl) (rfl)) ?_
            obtain rfl := Option.some.inj hv352
            exact ⟨rfl, (FrS.step wf (FrS.step wf (FrS.step wf (FrS.step wf (FrS.step wf (FrS.step wf (FrS.step wf ((FrS.step wf (FrS.step wf ((FrS.refl (W := []) wf).extR e4) e17 Inn.nil) e37 Inn.nil).extR e67) e73 (hb68.fresh (ntr (ntr e4.next e17.next) e37.next))) e105 Inn.nil) e140 Inn.nil) e164 (i110.fresh (ntr (ntr (ntr (ntr e4.next e17.next) e37.next) e67.next) e73.next))) e185 Inn.nil) e207 Inn.nil) e260 Inn.nil)⟩
         ·have r355 := ite_f h265 r256
          refine s_qk (.bool true) (by kernel_rfl) ?_
          refine s_no (by kernel_rfl) ?_
          refine s_no (by kernel_rfl) ?_
          refine s_no (by kernel_rfl) ?_
          refine s_no (by kernel_rfl) ?_
          refine s_qk (.bool true) (by kernel_rfl) ?_
          refine s_qk (.bool true) (by kernel_rfl) ?_
          refine s_no (by kernel_rfl) ?_
          refine s_no (by kernel_rfl) ?_
          refine s_no (by kernel_rfl) ?_
          refine s_no (by kernel_rfl) ?_
          refine s_no (by kernel_rfl) ?_
          refine s_no (by kernel_rfl) ?_
          refine s_no (by kernel_rfl) ?_
          refine s_no (by kernel_rfl) ?_
          refine s_qk (.bool true) (by kernel_rfl) ?_
          refine s_nil ?_
          refine k264 _ _ ?_
          refine w_cond true (by kernel_rfl) rfl (fun _ => ?_) (fun h => by cases h)
          refine w_seqk fun K356 k356 => ?_
          refine w_reg (by kernel_rfl) ?_
          refine s_qk (.bool false) (by kernel_rfl) ?_
          refine s_nil ?_
          refine k356 _ _ ?_
          refine w_ret (bl_ret (th_ret (th_ret (bl_ret (th_ret (bl_ret (th_ret (th_ret (bl_ret (th_ret (th_ret ?_)))))))))))
          obtain ⟨v357, hv358, hz359⟩ := map_some r355
          subst hz359
          obtain rfl := it_inr hn191
          have hq360 := elim_inl r176
          rw [hq360] at hv358
          obtain ⟨v361, hv362, hz363⟩ := map_some hv358
          subst hz363
          obtain rfl := it_inr hn116
          have hq364 := elim_inl r91
          rw [hq364] at hv362
          refine b_ret (fn := Tryd.f8) (vs := [.bool false]) (aRes_tmp (by kernel_rfl) (rfl)) ?_
          obtain rfl := Option.some.inj hv362
          exact ⟨rfl, (FrS.step wf (FrS.step wf (FrS.step wf (FrS.step wf (FrS.step wf (FrS.step wf (FrS.step wf ((FrS.step wf (FrS.step wf ((FrS.refl (W := []) wf).extR e4) e17 Inn.nil) e37 Inn.nil).extR e67) e73 (hb68.fresh (ntr (ntr e4.next e17.next) e37.next))) e105 Inn.nil) e140 Inn.nil) e164 (i110.fresh (ntr (ntr (ntr (ntr e4.next e17.next) e37.next) e67.next) e73.next))) e185 Inn.nil) e207 Inn.nil) e260 Inn.nil)⟩
       ·have r365 := ite_f h195 hz190
        refine w_exit (th_exit (th_exit (bl_eq ?_)))
        obtain rfl := Option.some.inj r365
        obtain rfl := it_inr hn191
        exact k180 _ _ ⟨_, rfl, ⟨by kernel_rfl, by kernel_rfl, by kernel_rfl, by kernel_rfl, by kernel_rfl, trivial⟩, (FrS.step e164.wf (FrS.refl (W := []) e164.wf) e185 Inn.nil)⟩
      ·obtain ⟨o174, rfl, hh181, e179⟩ := hM
       have r366 := elim_inr r176
       obtain ⟨β, rfl⟩ := has_ex hh181
       clear hh181
       refine k125 _ _ ?_
       refine w_reg (by kernel_rfl) ?_
       obtain ⟨g367, r368⟩ := G_some r366
       refine s_w ((i4 + 1)) (k := .i64) (x := (i4 + 1)) (by kernel_rfl) (wrap64 g367) ?_
       refine s_qk (.int .i64 (i4 + 1)) (by kernel_rfl) ?_
       refine s_nil ?_
       have u369 := (hm165.fr e179 Dj.nil_l)
       obtain rfl := Option.some.inj r368
       exact k117 n113 _ _ (Nat.lt_succ_self _) ⟨(i4 + 1), (all5 ++ y132.1), (.slice a168 n169 c170), f163, hn116, ⟨by kernel_rfl, by kernel_rfl, by kernel_rfl, by kernel_rfl, by kernel_rfl, trivial⟩, (FrS.step e73.wf (FrS.step e73.wf (FrS.step e73.wf (FrS.step e73.wf (FrS.refl (W := []) e73.wf) e105 Inn.nil) e140 Inn.nil) e164 (i110.fresh (Nat.le_refl _))) e179 Inn.nil), u369, (Inn.trans (i110.fresh (Nat.le_refl _)) (ntr e105.next e140.next) hf166)⟩
     ·have r370 := ite_f h153 r134
      refine s_ql (.bool true) (x := aBin Tryd.prog .neq 28 (.tmp 40) (.const .nilIface) (.iface t154 x155) .nilIface) (by kernel_rfl) (aBin_nnil (by kernel_rfl)) ?_
      refine s_nil ?_
      refine k152 _ _ ?_
      refine w_cond true (by kernel_rfl) rfl (fun _ => ?_) (fun h => by cases h)
      refine w_seqk fun K371 k371 => ?_
      refine w_reg (by kernel_rfl) ?_
      refine s_qk (.bool false) (by kernel_rfl) ?_
      refine s_nil ?_
      refine k371 _ _ ?_
      refine w_ret (th_ret (bl_ret (th_ret (th_ret (bl_ret (th_ret (th_ret ?_)))))))
      obtain ⟨v372, hv373, hz374⟩ := map_some r370
      subst hz374
      obtain rfl := it_inr hn116
      have hq375 := elim_inl r91
      rw [hq375] at hv373
      refine b_ret (fn := Tryd.f8) (vs := [.bool false]) (aRes_tmp (by kernel_rfl) (rfl)) ?_
      obtain rfl := Option.some.inj hv373
      exact ⟨rfl, (FrS.step wf (FrS.step wf (FrS.step wf ((FrS.step wf (FrS.step wf ((FrS.refl (W := []) wf).extR e4) e17 Inn.nil) e37 Inn.nil).extR e67) e73 (hb68.fresh (ntr (ntr e4.next e17.next) e37.next))) e105 Inn.nil) e140 Inn.nil)⟩
    ·have r376 := ite_f h123 hz115
     refine w_exit (th_exit (th_exit (bl_eq ?_)))
     obtain rfl := Option.some.inj r376
     obtain rfl := it_inr hn116
     exact k100 _ _ ⟨_, rfl, (.slice a118 n119 c120), f109, ⟨by kernel_rfl, by kernel_rfl, by kernel_rfl, trivial⟩, (FrS.step e73.wf (FrS.refl (W := []) e73.wf) e105 Inn.nil), m107, (i110.fresh (Nat.le_refl _))⟩
   ·obtain ⟨o89, rfl, s97, f98, hh101, e94, m96, i99⟩ := hM
    have r377 := elim_inr r91
    obtain ⟨β, rfl⟩ := has_ex hh101
    clear hh101
    obtain ⟨a378, n379, c380, rfl⟩ := m96.form
    refine k86 _ _ ?_
    refine w_seqk fun K381 k381 => ?_
    refine w_reg (by kernel_rfl) ?_
    have u382 := (r74.frS e94 Dj.nil_l)
    refine s_ql (.agg #[.slice a56 n57 c58, .slice a59 n60 c61, .slice a62 n63 c64]) (x := aLoad Tryd.prog 59 (.pointer (some ⟨b65, 0, none⟩)) H93) (by kernel_rfl) (u382.ld (by kernel_rfl)) ?_
    have u383 := ((u77.fr e73 (hb68.djn m38.lt)).fr e94 Dj.nil_l)
    have u384 := ((u76.fr e73 (hb68.djn m39.lt)).fr e94 Dj.nil_l)
    have u385 := ((u75.fr e73 (hb68.djn m40.lt)).fr e94 Dj.nil_l)
    obtain ⟨y386, hy387, r388⟩ := bind_some r377
    refine s_ck 32 #[.agg #[.slice a56 n57 c58, .slice a59 n60 c61, .slice a62 n63 c64]] (by kernel_rfl) (c_csr_Graph e94.wf u383.sq u384.sq u385.sq hy387) ?_
    rintro _ H393 ⟨s389, f390, v391, f392, rfl, e394, m395, m396, i397, i398, d399⟩
    obtain ⟨a402, n403, c404, rfl⟩ := m395.form
    refine s_qk (.tuple #[.agg #[.int .i64 y386.1, .slice a402 n403 c404], v391]) (by kernel_rfl) ?_
    refine s_qk (.agg #[.int .i64 y386.1, .slice a402 n403 c404]) (by kernel_rfl) ?_
    refine s_qk (v391) (by kernel_rfl) ?_
    refine s_rwk e394.wf [.int .i64 0, .slice none 0 0] (by kernel_rfl) fun b405 H406 e407 hb408 r409 => ?_
    have u415 := (m395.ext e407)
    obtain ⟨H411, q412, e413, r414⟩ := Row.store (P := Tryd.prog) (t := 24) (p := 0) e407.wf r409 (.agg #[.int .i64 y386.1, .slice a402 n403 c404]) [.int .i64 y386.1, .slice a402 n403 c404] (by kernel_rfl) (by kernel_rfl) (one_cons (rfl) (one_cons (u415.one1) (one_nil))) (Nat.le_of_ble_eq_true (by kernel_rfl)) [.int .i64 y386.1, .slice a402 n403 c404] (by kernel_rfl)
    refine s_ek (undef) (by kernel_rfl) (map_ok q412) ?_
    refine s_qk (v391) (by kernel_rfl) ?_
    refine s_nil ?_
    refine k381 _ _ ?_
    refine w_seqk fun K416 k416 => ?_
    refine w_reg (by kernel_rfl) ?_
    refine s_qk (v391) (by kernel_rfl) ?_
    have u420 := ((m396.ext e407).fr e413 (hb408.djn m396.lt))
    rcases (u420).cases with ⟨h417, rfl⟩ | ⟨h417, t418, x419, rfl⟩
    ·have r421 := ite_t h417 r388
     refine s_qk (.bool true) (by kernel_rfl) ?_
     refine s_qk (.bool true) (by kernel_rfl) ?_
     refine s_ql (.agg #[.int .i64 y386.1, .slice a402 n403 c404]) (x := aLoad Tryd.prog 24 (.pointer (some ⟨b405, 0, none⟩)) H411) (by kernel_rfl) (r414.ld (by kernel_rfl)) ?_
     refine s_qk (.pointer (some ⟨b2, 0, none⟩)) (by kernel_rfl) ?_
     have u422 := ((((u88.frS e94 Dj.nil_l).frS e394 Dj.nil_l).ext e407).frS e413 (hb408.djn (r6.ltF.le (ntr (ntr (ntr (ntr (ntr e17.next e37.next) e67.next) e73.next) e94.next) e394.next))))
     refine s_ql (.int .i64 N_) (x := aLoad Tryd.prog 3 (.pointer (some ⟨b2, 0, none⟩)) H411) (by kernel_rfl) (u422.ld (by kernel_rfl)) ?_
     refine s_qk (.slice a378 n379 c380) (by kernel_rfl) ?_
     refine s_qk (.agg #[.int .i64 N_, .slice a378 n379 c380]) (by kernel_rfl) ?_
     have u423 := (u415.fr e413 (hb408.djn m395.lt))
     have u424 := (((m96.fr e394 Dj.nil_l).ext e407).fr e413 (hb408.djn (m96.lt.le e394.next)))
     obtain ⟨y425, hy426, r427⟩ := bind_some r421
     refine s_ck 15 #[.agg #[.int .i64 y386.1, .slice a402 n403 c404], .agg #[.int .i64 N_, .slice a378 n379 c380]] (by kernel_rfl) (c_viaductref03_Same e413.wf u423.sq u424.sq hy426) ?_
     rintro _ H428 ⟨rfl, e429⟩
     refine s_qk (.bool y425) (by kernel_rfl) ?_
     refine s_qk (.bool y425) (by kernel_rfl) ?_
     refine s_nil ?_
     refine k416 _ _ ?_
     refine w_ret ?_
     refine b_ret (fn := Tryd.f8) (vs := [.bool y425]) (aRes_tmp (by kernel_rfl) (rfl)) ?_
     obtain rfl := Option.some.inj r427
     exact ⟨rfl, (FrS.step wf (FrS.step wf ((FrS.step wf (FrS.step wf (FrS.step wf ((FrS.step wf (FrS.step wf ((FrS.refl (W := []) wf).extR e4) e17 Inn.nil) e37 Inn.nil).extR e67) e73 (hb68.fresh (ntr (ntr e4.next e17.next) e37.next))) e94 Inn.nil) e394 Inn.nil).extR e407) e413 (hb408.fresh (ntr (ntr (ntr (ntr (ntr (ntr e4.next e17.next) e37.next) e67.next) e73.next) e94.next) e394.next))) e429 Inn.nil)⟩
    ·have r430 := ite_f h417 r388
     refine s_ql (.bool false) (x := aBin Tryd.prog .eql 28 (.tmp 96) (.const .nilIface) (.iface t418 x419) .nilIface) (by kernel_rfl) (aBin_nil (by kernel_rfl)) ?_
     refine s_qk (.bool false) (by kernel_rfl) ?_
     refine s_no (by kernel_rfl) ?_
     refine s_no (by kernel_rfl) ?_
     refine s_no (by kernel_rfl) ?_
     refine s_no (by kernel_rfl) ?_
     refine s_no (by kernel_rfl) ?_
     refine s_no (by kernel_rfl) ?_
     refine s_qk (.bool false) (by kernel_rfl) ?_
     refine s_qk (.bool false) (by kernel_rfl) ?_
     refine s_nil ?_
     refine k416 _ _ ?_
     refine w_ret ?_
     refine b_ret (fn := Tryd.f8) (vs := [.bool false]) (aRes_tmp (by kernel_rfl) (rfl)) ?_
     obtain rfl := Option.some.inj r430
     exact ⟨rfl, (FrS.step wf ((FrS.step wf (FrS.step wf (FrS.step wf ((FrS.step wf (FrS.step wf ((FrS.refl (W := []) wf).extR e4) e17 Inn.nil) e37 Inn.nil).extR e67) e73 (hb68.fresh (ntr (ntr e4.next e17.next) e37.next))) e94 Inn.nil) e394 Inn.nil).extR e407) e413 (hb408.fresh (ntr (ntr (ntr (ntr (ntr (ntr e4.next e17.next) e37.next) e67.next) e73.next) e94.next) e394.next)))⟩
  ·have r431 := ite_f h80 r27
   refine s_ql (.bool true) (x := aBin Tryd.prog .neq 28 (.tmp 27) (.const .nilIface) (.iface t81 x82) .nilIface) (by kernel_rfl) (aBin_nnil (by kernel_rfl)) ?_
   refine s_nil ?_
   refine k79 _ _ ?_
   refine w_cond true (by kernel_rfl) rfl (fun _ => ?_) (fun h => by cases h)
   refine w_seqk fun K432 k432 => ?_
   refine w_reg (by kernel_rfl) ?_
   refine s_qk (.bool false) (by kernel_rfl) ?_
   refine s_nil ?_
   refine k432 _ _ ?_
   refine w_ret (th_ret ?_)
   refine b_ret (fn := Tryd.f8) (vs := [.bool false]) (aRes_tmp (by kernel_rfl) (rfl)) ?_
   obtain rfl := Option.some.inj r431
   exact ⟨rfl, (FrS.step wf ((FrS.step wf (FrS.step wf ((FrS.refl (W := []) wf).extR e4) e17 Inn.nil) e37 Inn.nil).extR e67) e73 (hb68.fresh (ntr (ntr e4.next e17.next) e37.next)))⟩


end Go.Vd
