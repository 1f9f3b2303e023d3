/- The walks of the functions (printed by a program of ours). -/
import Derived.Test.YtbjamignglibpaaPkj1
import Derived.Test.YtbjamignglibpaaVeC
import Derived.Test.YtbjamignglibpaaIWj
import Derived.Test.YtbjamignglibpaaVeN
import Derived.Test.YtbjamignglibpaaSoA
import Derived.Test.YtbjamignglibpaaVeV
set_option linter.unusedVariables false
set_option linter.unusedSimpArgs false
set_option linter.unusedSectionVars false
/-! (KWj3) -/

set_option maxRecDepth 100000
set_option maxHeartbeats 4000000
set_option linter.unusedVariables false
namespace Go.Vd
open Go.Proofs
attribute [local irreducible] wpSeq wpOrd aWp
theorem c_walk_Length {H : AH} {hd_First : Value} {fp_First : Fp} {hd_To : Value} {fp_To : Fp} {hd_Weight : Value} {fp_Weight : Fp} {hd_list : Value} {fp_list : Fp} {First : List (Int)} {To : List (Int)} {Weight : List (Int)} {list : List (Int)} {r : Int × Er}
  (wf : WF H) (h_First : Sq (encI .i64) 1 H hd_First First fp_First) (h_To : Sq (encI .i64) 1 H hd_To To fp_To) (h_Weight : Sq (encI .i64) 1 H hd_Weight Weight fp_Weight) (h_list : Sq (encI .i64) 1 H hd_list list fp_list) (hr : z_walk_Length First To Weight list = some r) :
  ACalls Try.prog 13 #[.agg #[hd_First, hd_To, hd_Weight], hd_list] H fun v H' => ∃ (v3 : Value) (f4 : Fp), v = .tuple #[.int .u64 r.1, v3] ∧ FrS [] H H' ∧ Ev 82 123 H' v3 r.2 f4 ∧ Inn [] H f4 := by
 refine acalls_of_body mixed Try.func13 rfl (Nat.le_of_ble_eq_true rfl) ?_
 unfold z_walk_Length at hr
 refine w_seqk fun K6 k6 => ?_
 refine w_reg (by kernel_rfl) ?_
 refine s_rwl wf [hd_First, hd_To, hd_Weight] (one_cons (h_First.one1) (one_cons (h_To.one1) (one_cons (h_Weight.one1) (one_nil)))) (by kernel_rfl) fun b7 H8 e9 hb10 r11 => ?_
 refine s_qk (.int .u64 0) (by kernel_rfl) ?_
 refine s_qk (.nilIface) (by kernel_rfl) ?_
 refine s_nil ?_
 refine k6 _ _ ?_
 refine w_seqk fun K13 k13 => ?_
 refine w_seqk fun K14 k14 => ?_
 refine w_reg (by kernel_rfl) ?_
 refine s_ql (.agg #[hd_First, hd_To, hd_Weight]) (x := aLoad Try.prog 34 (.pointer (some ⟨b7, 0, none⟩)) H8) (by kernel_rfl) (r11.ld (by kernel_rfl)) ?_
 have u15 := (h_First.ext e9)
 have u16 := (h_To.ext e9)
 have u17 := (h_Weight.ext e9)
 obtain ⟨y18, hy19, r20⟩ := bind_some hr
 refine s_ck 41 #[.agg #[hd_First, hd_To, hd_Weight]] (by kernel_rfl) (c_csr_Check e9.wf u15 u16 u17 hy19) ?_
 rintro v21 H23 ⟨_, f22, rfl, e24, m25, i26⟩
 refine s_qk (v21) (by kernel_rfl) ?_
 refine s_nil ?_
 refine k14 _ _ ?_
 refine w_seqk fun K28 k28 => ?_
 refine w_reg (by kernel_rfl) ?_
 refine s_qk (v21) (by kernel_rfl) ?_
 rcases (m25).cases with ⟨h29, rfl⟩ | ⟨h29, t30, x31, rfl⟩
 ·have r32 := ite_t h29 r20
  refine s_qk (.bool false) (by kernel_rfl) ?_
  refine s_nil ?_
  refine k28 _ _ ?_
  refine w_cond false (by kernel_rfl) rfl (fun h => by cases h) (fun _ => ?_)
  refine w_skip ?_
  refine k13 _ _ ?_
  refine w_seqk fun K33 k33 => ?_
  refine w_seqk fun K34 k34 => ?_
  refine w_reg (by kernel_rfl) ?_
  refine s_qk (hd_list) (by kernel_rfl) ?_
  have u35 := ((h_list.ext e9).fr e24 Dj.nil_l)
  refine s_ql (.int .i64 (list.length : Int)) (x := aLen Try.prog 22 hd_list H23) (by kernel_rfl) (u35.lenb (by kernel_rfl)) ?_
  refine s_qk (.bool (decide ((list.length : Int) = 0))) (by kernel_rfl) ?_
  refine s_nil ?_
  refine k34 _ _ ?_
  refine w_condp ((list.length : Int) = 0) (by kernel_rfl) rfl (fun h36 => ?_) (fun h36 => ?_)
  ·have r37 := ite_t h36 r32
   refine w_seqk fun K38 k38 => ?_
   refine w_reg (by kernel_rfl) ?_
   refine s_qk (.iface 82 (.int .i64 5)) (by kernel_rfl) ?_
   refine s_qk (.int .u64 0) (by kernel_rfl) ?_
   refine s_qk (.iface 82 (.int .i64 5)) (by kernel_rfl) ?_
   refine s_nil ?_
   refine k38 _ _ ?_
   refine w_ret (th_ret ?_)
   refine b_ret (fn := Try.f13) (vs := [.int .u64 0, .iface 82 (.int .i64 5)]) (aRes_tmp (by kernel_rfl) (aRes_tmp (by kernel_rfl) (rfl))) ?_
   obtain rfl := Option.some.inj r37
   exact ⟨(.iface 82 (.int .i64 5)), [], rfl, (FrS.step wf ((FrS.refl (W := []) wf).extR e9) e24 Inn.nil), Ev.no, Inn.nil⟩
  ·have r39 := ite_f h36 r32
   refine w_skip ?_
   refine k33 _ _ ?_
   refine w_seqk fun K40 k40 => ?_
   refine w_seqk fun K41 k41 => ?_
   refine w_reg (by kernel_rfl) ?_
   refine s_qk (hd_list) (by kernel_rfl) ?_
   refine s_ql (.int .i64 (list.length : Int)) (x := aLen Try.prog 22 hd_list H23) (by kernel_rfl) (u35.lenb (by kernel_rfl)) ?_
   refine s_qk (.int .i64 0) (by kernel_rfl) ?_
   refine s_nil ?_
   refine k41 _ _ ?_
   obtain ⟨z45, hx43, r44⟩ := bind_some r39
   refine w_mid (fun α H46 => ∃ o42, z45 = Sum.inr o42 ∧ Has α [(1, hd_list), (2, .pointer (some ⟨b7, 0, none⟩))] ∧ H23 = H46) (fun K48 k48 => ?_) (fun α H46 hM => ?_)
   ·refine w_block ?_
    obtain ⟨n50, hn51⟩ := loopO_iff.1 hx43
    refine w_loopn (fun n α H52 => ∃ (i0 : Int), iterO (fun zz_ => z_walk_Length_l0 First list zz_) n i0 = some z45 ∧ Has α [(1, hd_list), (2, .pointer (some ⟨b7, 0, none⟩)), (22, hd_list), (23, .int .i64 (list.length : Int)), (24, .int .i64 i0)] ∧ H23 = H52) n50 ⟨0, hn51, ⟨by kernel_rfl, by kernel_rfl, by kernel_rfl, by kernel_rfl, by kernel_rfl, trivial⟩, rfl⟩ ?_
    rintro n50 α H52 ⟨i0, hi55, hh54, rfl⟩ K60 k60
    obtain ⟨n56, z57, rfl, hz58, hn59⟩ := iter_succ hi55
    obtain ⟨β, rfl⟩ := has_ex hh54
    clear hh54
    replace hz58 : z_walk_Length_l0 First list i0 = some z57 := hz58
    unfold z_walk_Length_l0 at hz58
    refine w_seqk fun K61 k61 => ?_
    refine w_reg (by kernel_rfl) ?_
    refine s_qk (.bool (decide (i0 < (list.length : Int)))) (by kernel_rfl) ?_
    refine s_nil ?_
    refine k61 _ _ ?_
    refine w_seqk fun K62 k62 => ?_
    refine w_condp (i0 < (list.length : Int)) (by kernel_rfl) rfl (fun h63 => ?_) (fun h63 => ?_)
    ·have r64 := ite_t h63 hz58
     refine w_skip ?_
     refine k62 _ _ ?_
     refine w_seqk fun K65 k65 => ?_
     refine w_block ?_
     refine w_seqk fun K66 k66 => ?_
     refine w_reg (by kernel_rfl) ?_
     refine s_qk (.int .i64 i0) (by kernel_rfl) ?_
     obtain ⟨g67, r68⟩ := G_some r64
     refine s_ql (elp hd_list 1 i0.toNat 0) (x := aIndexAddr Try.prog 22 hd_list (.int .i64 i0)) (by kernel_rfl) (u35.idxb (by kernel_rfl) g67 h63) ?_
     refine s_ql (.int .i64 (gt list i0)) (x := aLoad Try.prog 3 (elp hd_list 1 i0.toNat 0) H23) (by kernel_rfl) (u35.ld g67 h63 (by kernel_rfl)) ?_
     refine s_qk (.int .i64 i0) (by kernel_rfl) ?_
     refine s_qk (.int .i64 (gt list i0)) (by kernel_rfl) ?_
     refine s_nil ?_
     refine k66 _ _ ?_
     refine w_seqk fun K69 k69 => ?_
     obtain ⟨o70, hx71, r72⟩ := bind_some r68
     refine w_mid (fun α H73 => Has α [(1, hd_list), (2, .pointer (some ⟨b7, 0, none⟩)), (7, .int .i64 i0), (22, hd_list), (23, .int .i64 (list.length : Int)), (24, .int .i64 i0), (38, .bool o70)] ∧ H23 = H73) (fun K75 k75 => ?_) (fun α H73 hM => ?_)
     ·refine w_reg (by kernel_rfl) ?_
      refine s_qk (.int .i64 (gt list i0)) (by kernel_rfl) ?_
      refine s_b ((gt list i0) < 0) (by kernel_rfl) (fun h77 => ?_) (fun h77 => ?_)
      ·have r78 := ite_t h77 hx71
       refine s_qk (.bool true) (by kernel_rfl) ?_
       refine s_no (by kernel_rfl) ?_
       refine s_no (by kernel_rfl) ?_
       refine s_no (by kernel_rfl) ?_
       refine s_no (by kernel_rfl) ?_
       refine s_no (by kernel_rfl) ?_
       refine s_no (by kernel_rfl) ?_
       refine s_qk (.bool true) (by kernel_rfl) ?_
       refine s_nil ?_
       obtain rfl := Option.some.inj r78
       exact k75 _ _ ⟨⟨by kernel_rfl, by kernel_rfl, by kernel_rfl, by kernel_rfl, by kernel_rfl, by kernel_rfl, by kernel_rfl, trivial⟩, rfl⟩
      ·have r79 := ite_f h77 hx71
       refine s_qk (.bool false) (by kernel_rfl) ?_
       refine s_qk (.int .i64 (gt list i0)) (by kernel_rfl) ?_
       refine s_qk (.pointer (some ⟨b7, 0, none⟩)) (by kernel_rfl) ?_
       have u80 := (r11.frS e24 Dj.nil_l)
       refine s_ql (hd_First) (x := aLoad Try.prog 22 (.pointer (some ⟨b7, 0, none⟩)) H23) (by kernel_rfl) (u80.ld (by kernel_rfl)) ?_
       have u81 := (u15.fr e24 Dj.nil_l)
       refine s_ql (.int .i64 (First.length : Int)) (x := aLen Try.prog 22 hd_First H23) (by kernel_rfl) (u81.lenb (by kernel_rfl)) ?_
       obtain ⟨g82, r83⟩ := G_some r79
       refine s_w (((First.length : Int) - 1)) (k := .i64) (x := ((First.length : Int) - 1)) (by kernel_rfl) (wrap64 g82) ?_
       refine s_qk (.bool (decide ((gt list i0) ≥ ((First.length : Int) - 1)))) (by kernel_rfl) ?_
       refine s_qk (.bool (decide ((gt list i0) ≥ ((First.length : Int) - 1)))) (by kernel_rfl) ?_
       refine s_nil ?_
       obtain rfl := Option.some.inj r83
       exact k75 _ _ ⟨⟨by kernel_rfl, by kernel_rfl, by kernel_rfl, by kernel_rfl, by kernel_rfl, by kernel_rfl, by kernel_rfl, trivial⟩, rfl⟩
     ·obtain ⟨hh76, rfl⟩ := hM
      obtain ⟨β, rfl⟩ := has_ex hh76
      clear hh76
      refine k69 _ _ ?_
      refine w_cond (o70) (by kernel_rfl) rfl (fun h84 => ?_) (fun h84 => ?_)
      ·have r85 := ite_t h84 r72
       refine w_seqk fun K86 k86 => ?_
       refine w_reg (by kernel_rfl) ?_
       refine s_qk (.int .i64 i0) (by kernel_rfl) ?_
       refine s_qk (.iface 82 (.int .i64 7)) (by kernel_rfl) ?_
       obtain ⟨y87, hy88, r89⟩ := bind_some r85
       refine s_ck 42 #[.int .i64 3, .int .i64 i0, .iface 82 (.int .i64 7)] (by kernel_rfl) (c_fault_At e24.wf (Ev.no (tf := 123)) hy88) ?_
       rintro v90 H92 ⟨_, f91, rfl, e93, m94, i95⟩
       refine s_qk (.int .u64 0) (by kernel_rfl) ?_
       refine s_qk (v90) (by kernel_rfl) ?_
       refine s_nil ?_
       refine k86 _ _ ?_
       refine w_ret (bl_ret (th_ret (th_ret (bl_ret (th_ret (th_ret ?_))))))
       obtain ⟨v97, hv98, hz99⟩ := map_some r89
       subst hz99
       obtain rfl := it_inr hn59
       have hq100 := elim_inl r44
       rw [hq100] at hv98
       refine b_ret (fn := Try.f13) (vs := [.int .u64 0, v90]) (aRes_tmp (by kernel_rfl) (aRes_tmp (by kernel_rfl) (rfl))) ?_
       obtain rfl := Option.some.inj hv98
       exact ⟨(v90), f91, rfl, (FrS.step wf (FrS.step wf ((FrS.refl (W := []) wf).extR e9) e24 Inn.nil) e93 Inn.nil), m94, (i95.fresh (ntr e9.next e24.next))⟩
      ·have r101 := ite_bf h84 r72
       refine w_skip ?_
       refine k65 _ _ ?_
       refine w_reg (by kernel_rfl) ?_
       obtain ⟨g102, r103⟩ := G_some r101
       refine s_w ((i0 + 1)) (k := .i64) (x := (i0 + 1)) (by kernel_rfl) (wrap64 (by have := g102; omega)) ?_
       refine s_qk (.int .i64 (i0 + 1)) (by kernel_rfl) ?_
       refine s_nil ?_
       obtain rfl := Option.some.inj r103
       exact k60 n56 _ _ (Nat.lt_succ_self _) ⟨(i0 + 1), hn59, ⟨by kernel_rfl, by kernel_rfl, by kernel_rfl, by kernel_rfl, by kernel_rfl, trivial⟩, rfl⟩
    ·have r104 := ite_f h63 hz58
     refine w_exit (th_exit (th_exit (bl_eq ?_)))
     obtain rfl := Option.some.inj r104
     obtain rfl := it_inr hn59
     exact k48 _ _ ⟨_, rfl, ⟨by kernel_rfl, by kernel_rfl, trivial⟩, rfl⟩
   ·obtain ⟨o42, rfl, hh49, rfl⟩ := hM
    have r105 := elim_inr r44
    obtain ⟨β, rfl⟩ := has_ex hh49
    clear hh49
    refine k40 _ _ ?_
    refine w_seqk fun K106 k106 => ?_
    refine w_reg (by kernel_rfl) ?_
    refine s_qk (.int .u64 0) (by kernel_rfl) ?_
    refine s_nil ?_
    refine k106 _ _ ?_
    refine w_seqk fun K107 k107 => ?_
    refine w_seqk fun K108 k108 => ?_
    refine w_reg (by kernel_rfl) ?_
    refine s_qk (hd_list) (by kernel_rfl) ?_
    refine s_ql (.int .i64 (list.length : Int)) (x := aLen Try.prog 22 hd_list H23) (by kernel_rfl) (u35.lenb (by kernel_rfl)) ?_
    obtain ⟨g109, r110⟩ := G_some r105
    refine s_w (((list.length : Int) - 1)) (k := .i64) (x := ((list.length : Int) - 1)) (by kernel_rfl) (wrap64 g109) ?_
    refine s_qk (.int .i64 0) (by kernel_rfl) ?_
    refine s_nil ?_
    refine k108 _ _ ?_
    obtain ⟨z114, hx112, r113⟩ := bind_some r110
    refine w_mid (fun α H115 => ∃ o111, z114 = Sum.inr o111 ∧ Has α [(9, .int .u64 o111)] ∧ FrS [] H23 H115) (fun K117 k117 => ?_) (fun α H115 hM => ?_)
    ·refine w_block ?_
     obtain ⟨n119, hn120⟩ := loopO_iff.1 hx112
     refine w_loopn (fun n α H121 => ∃ (i1 : Int), ∃ (sum2 : Int), iterO (fun zz_ => z_walk_Length_l1 First To Weight list zz_.1 zz_.2) n (i1, sum2) = some z114 ∧ Has α [(1, hd_list), (2, .pointer (some ⟨b7, 0, none⟩)), (9, .int .u64 sum2), (45, .int .i64 ((list.length : Int) - 1)), (46, .int .i64 i1)] ∧ FrS [] H23 H121) n119 ⟨0, 0, hn120, ⟨by kernel_rfl, by kernel_rfl, by kernel_rfl, by kernel_rfl, by kernel_rfl, trivial⟩, (FrS.refl (W := []) e24.wf)⟩ ?_
     rintro n119 α H121 ⟨i1, sum2, hi124, hh123, e122⟩ K129 k129
     obtain ⟨n125, z126, rfl, hz127, hn128⟩ := iter_succ hi124
     obtain ⟨β, rfl⟩ := has_ex hh123
     clear hh123
     replace hz127 : z_walk_Length_l1 First To Weight list i1 sum2 = some z126 := hz127
     unfold z_walk_Length_l1 at hz127
     refine w_seqk fun K130 k130 => ?_
     refine w_reg (by kernel_rfl) ?_
     refine s_qk (.bool (decide (i1 < ((list.length : Int) - 1)))) (by kernel_rfl) ?_
     refine s_nil ?_
     refine k130 _ _ ?_
     refine w_seqk fun K131 k131 => ?_
     refine w_condp (i1 < ((list.length : Int) - 1)) (by kernel_rfl) rfl (fun h132 => ?_) (fun h132 => ?_)
     ·have r133 := ite_t h132 hz127
      refine w_skip ?_
      refine k131 _ _ ?_
      refine w_seqk fun K134 k134 => ?_
      refine w_block ?_
      refine w_seqk fun K135 k135 => ?_
      refine w_reg (by kernel_rfl) ?_
      refine s_qk (.int .i64 i1) (by kernel_rfl) ?_
      refine s_qk (.int .i64 i1) (by kernel_rfl) ?_
      refine s_nil ?_
      refine k135 _ _ ?_
      refine w_seqk fun K136 k136 => ?_
      refine w_draw [0, 1, 2, 3, 4, 5, 6, 7, 8, 9, 10, 11, 12, 13, 14, 15] (by kernel_rfl) ?_
      have u137 := ((r11.frS e24 Dj.nil_l).frS e122 Dj.nil_l)
      refine d_ql (.agg #[hd_First, hd_To, hd_Weight]) (x := aLoad Try.prog 34 (.pointer (some ⟨b7, 0, none⟩)) H121) (by kernel_rfl) (u137.ld (by kernel_rfl)) ?_
      refine d_qk (hd_list) (by kernel_rfl) ?_
      refine d_qk (.int .i64 i1) (by kernel_rfl) ?_
      obtain ⟨g138, r139⟩ := G_some r133
      have u140 := (u35.fr e122 Dj.nil_l)
      refine d_ql (elp hd_list 1 i1.toNat 0) (x := aIndexAddr Try.prog 22 hd_list (.int .i64 i1)) (by kernel_rfl) (u140.idxb (by kernel_rfl) g138.1 g138.2) ?_
      refine d_ql (.int .i64 (gt list i1)) (x := aLoad Try.prog 3 (elp hd_list 1 i1.toNat 0) H121) (by kernel_rfl) (u140.ld g138.1 g138.2 (by kernel_rfl)) ?_
      refine d_qk (hd_list) (by kernel_rfl) ?_
      refine d_qk (.int .i64 i1) (by kernel_rfl) ?_
      obtain ⟨g141, r142⟩ := G_some r139
      refine d_w ((i1 + 1)) (k := .i64) (x := (i1 + 1)) (by kernel_rfl) (wrap64 (by have := g141; omega)) ?_
      obtain ⟨g143, r144⟩ := G_some r142
      refine d_ql (elp hd_list 1 (i1 + 1).toNat 0) (x := aIndexAddr Try.prog 22 hd_list (.int .i64 (i1 + 1))) (by kernel_rfl) (u140.idxb (by kernel_rfl) g143.1 g143.2) ?_
      refine d_ql (.int .i64 (gt list (i1 + 1))) (x := aLoad Try.prog 3 (elp hd_list 1 (i1 + 1).toNat 0) H121) (by kernel_rfl) (u140.ld g143.1 g143.2 (by kernel_rfl)) ?_
      have u145 := ((u15.fr e24 Dj.nil_l).fr e122 Dj.nil_l)
      have u146 := ((u16.fr e24 Dj.nil_l).fr e122 Dj.nil_l)
      have u147 := ((u17.fr e24 Dj.nil_l).fr e122 Dj.nil_l)
      obtain ⟨y148, hy149, r150⟩ := bind_some r144
      refine d_ck 43 #[.agg #[hd_First, hd_To, hd_Weight], .int .i64 (gt list i1), .int .i64 (gt list (i1 + 1))] (by kernel_rfl) (c_walk_arc e122.wf u145 u146 u147 hy149) ?_
      rintro _ H153 ⟨v151, f152, rfl, e154, m155, i156⟩
      refine ⟨st_nil, ?_⟩
      refine d_qk (.tuple #[.int .i64 y148.1, v151]) (by kernel_rfl) ?_
      refine d_qk (.int .i64 y148.1) (by kernel_rfl) ?_
      refine d_qk (v151) (by kernel_rfl) ?_
      refine d_qk (.int .i64 y148.1) (by kernel_rfl) ?_
      refine d_qk (v151) (by kernel_rfl) ?_
      refine d_nil ?_
      refine k136 _ _ ?_
      refine w_seqk fun K158 k158 => ?_
      refine w_seqk fun K159 k159 => ?_
      refine w_reg (by kernel_rfl) ?_
      refine s_qk (v151) (by kernel_rfl) ?_
      rcases (m155).cases with ⟨h160, rfl⟩ | ⟨h160, t161, x162, rfl⟩
      ·have r163 := ite_t h160 r150
       refine s_qk (.bool false) (by kernel_rfl) ?_
       refine s_nil ?_
       refine k159 _ _ ?_
       refine w_cond false (by kernel_rfl) rfl (fun h => by cases h) (fun _ => ?_)
       refine w_skip ?_
       refine k158 _ _ ?_
       refine w_reg (by kernel_rfl) ?_
       refine s_qk (.int .u64 sum2) (by kernel_rfl) ?_
       refine s_qk (.int .i64 y148.1) (by kernel_rfl) ?_
       obtain ⟨g164, r165⟩ := G_some r163
       refine s_w (y148.1) (k := .u64) (x := y148.1) (by kernel_rfl) (wrapu64 g164) ?_
       obtain ⟨g166, r167⟩ := G_some r165
       refine s_w ((sum2 + y148.1)) (k := .u64) (x := (sum2 + y148.1)) (by kernel_rfl) (wrapu64 g166) ?_
       refine s_qk (.int .u64 (sum2 + y148.1)) (by kernel_rfl) ?_
       refine s_nil ?_
       refine k134 _ _ ?_
       refine w_reg (by kernel_rfl) ?_
       refine s_w ((i1 + 1)) (k := .i64) (x := (i1 + 1)) (by kernel_rfl) (wrap64 (by have := g141; omega)) ?_
       refine s_qk (.int .i64 (i1 + 1)) (by kernel_rfl) ?_
       refine s_nil ?_
       obtain rfl := Option.some.inj r167
       exact k129 n125 _ _ (Nat.lt_succ_self _) ⟨(i1 + 1), (sum2 + y148.1), hn128, ⟨by kernel_rfl, by kernel_rfl, by kernel_rfl, by kernel_rfl, by kernel_rfl, trivial⟩, (FrS.step e24.wf (FrS.step e24.wf (FrS.refl (W := []) e24.wf) e122 Inn.nil) e154 Inn.nil)⟩
      ·have r168 := ite_f h160 r150
       refine s_ql (.bool true) (x := aBin Try.prog .neq 31 (.tmp 63) (.const .nilIface) (.iface t161 x162) .nilIface) (by kernel_rfl) (aBin_nnil (by kernel_rfl)) ?_
       refine s_nil ?_
       refine k159 _ _ ?_
       refine w_cond true (by kernel_rfl) rfl (fun _ => ?_) (fun h => by cases h)
       refine w_seqk fun K169 k169 => ?_
       refine w_reg (by kernel_rfl) ?_
       refine s_qk (.int .i64 i1) (by kernel_rfl) ?_
       refine s_qk (.iface t161 x162) (by kernel_rfl) ?_
       obtain ⟨y170, hy171, r172⟩ := bind_some r168
       refine s_ck 42 #[.int .i64 4, .int .i64 i1, .iface t161 x162] (by kernel_rfl) (c_fault_At e154.wf m155 hy171) ?_
       rintro v173 H175 ⟨_, f174, rfl, e176, m177, i178⟩
       refine s_qk (.int .u64 0) (by kernel_rfl) ?_
       refine s_qk (v173) (by kernel_rfl) ?_
       refine s_nil ?_
       refine k169 _ _ ?_
       refine w_ret (th_ret (bl_ret (th_ret (th_ret (bl_ret (th_ret (th_ret ?_)))))))
       obtain ⟨v180, hv181, hz182⟩ := map_some r172
       subst hz182
       obtain rfl := it_inr hn128
       have hq183 := elim_inl r113
       rw [hq183] at hv181
       refine b_ret (fn := Try.f13) (vs := [.int .u64 0, v173]) (aRes_tmp (by kernel_rfl) (aRes_tmp (by kernel_rfl) (rfl))) ?_
       obtain rfl := Option.some.inj hv181
       exact ⟨(v173), f174, rfl, (FrS.step wf (FrS.step wf (FrS.step wf (FrS.step wf ((FrS.refl (W := []) wf).extR e9) e24 Inn.nil) e122 Inn.nil) e154 Inn.nil) e176 Inn.nil), m177, (Inn.trans (i156.fresh (ntr (ntr e9.next e24.next) e122.next)) (ntr (ntr (ntr e9.next e24.next) e122.next) e154.next) i178)⟩
     ·have r184 := ite_f h132 hz127
      refine w_exit (th_exit (th_exit (bl_eq ?_)))
      obtain rfl := Option.some.inj r184
      obtain rfl := it_inr hn128
      exact k117 _ _ ⟨_, rfl, ⟨by kernel_rfl, trivial⟩, (FrS.step e24.wf (FrS.refl (W := []) e24.wf) e122 Inn.nil)⟩
    ·obtain ⟨o111, rfl, hh118, e116⟩ := hM
     have r185 := elim_inr r113
     obtain ⟨β, rfl⟩ := has_ex hh118
     clear hh118
     refine k107 _ _ ?_
     refine w_seqk fun K186 k186 => ?_
     refine w_reg (by kernel_rfl) ?_
     refine s_qk (.int .u64 o111) (by kernel_rfl) ?_
     refine s_qk (.int .u64 o111) (by kernel_rfl) ?_
     refine s_qk (.nilIface) (by kernel_rfl) ?_
     refine s_nil ?_
     refine k186 _ _ ?_
     refine w_ret ?_
     refine b_ret (fn := Try.f13) (vs := [.int .u64 o111, .nilIface]) (aRes_tmp (by kernel_rfl) (aRes_tmp (by kernel_rfl) (rfl))) ?_
     obtain rfl := Option.some.inj r185
     exact ⟨(.nilIface), [], rfl, (FrS.step wf (FrS.step wf ((FrS.refl (W := []) wf).extR e9) e24 Inn.nil) e116 Inn.nil), Ev.nil, Inn.nil⟩
 ·have r187 := ite_f h29 r20
  refine s_ql (.bool true) (x := aBin Try.prog .neq 31 (.tmp 15) (.const .nilIface) (.iface t30 x31) .nilIface) (by kernel_rfl) (aBin_nnil (by kernel_rfl)) ?_
  refine s_nil ?_
  refine k28 _ _ ?_
  refine w_cond true (by kernel_rfl) rfl (fun _ => ?_) (fun h => by cases h)
  refine w_seqk fun K188 k188 => ?_
  refine w_reg (by kernel_rfl) ?_
  refine s_qk (.iface t30 x31) (by kernel_rfl) ?_
  refine s_qk (.int .u64 0) (by kernel_rfl) ?_
  refine s_qk (.iface t30 x31) (by kernel_rfl) ?_
  refine s_nil ?_
  refine k188 _ _ ?_
  refine w_ret (th_ret ?_)
  refine b_ret (fn := Try.f13) (vs := [.int .u64 0, .iface t30 x31]) (aRes_tmp (by kernel_rfl) (aRes_tmp (by kernel_rfl) (rfl))) ?_
  obtain rfl := Option.some.inj r187
  exact ⟨(.iface t30 x31), f22, rfl, (FrS.step wf ((FrS.refl (W := []) wf).extR e9) e24 Inn.nil), m25, (i26.fresh e9.next)⟩

theorem c_slices_Grow {H : AH} {n_ : Int} {r : List (Int)}
  (wf : WF H) (hr : z_slices_Grow n_ = some r) :
  ACalls Try.prog 70 #[.slice none 0 0, .int .i64 n_] H fun v H' => ∃ (s3 : Value) (f4 : Fp), v = s3 ∧ FrS [] H H' ∧ Ow (encI .i64) 1 H' s3 r f4 ∧ Inn [] H f4 := by
 refine acalls_of_body mixed Try.func70 rfl (Nat.le_of_ble_eq_true rfl) ?_
 unfold z_slices_Grow at hr
 refine w_seqk fun K6 k6 => ?_
 refine w_reg (by kernel_rfl) ?_
 refine s_qk (.slice none 0 0) (by kernel_rfl) ?_
 refine s_nil ?_
 refine k6 _ _ ?_
 refine w_seqk fun K7 k7 => ?_
 refine w_seqk fun K8 k8 => ?_
 refine w_reg (by kernel_rfl) ?_
 refine s_qk (.int .i64 n_) (by kernel_rfl) ?_
 refine s_qk (.bool (decide (n_ < 0))) (by kernel_rfl) ?_
 refine s_nil ?_
 refine k8 _ _ ?_
 refine w_condp (n_ < 0) (by kernel_rfl) rfl (fun h9 => ?_) (fun h9 => ?_)
 ·have r10 := ite_t h9 hr
  refine w_reg (by kernel_rfl) ?_
  refine s_qk (.iface 9 (.string ⟨#[99, 97, 110, 110, 111, 116, 32, 98, 101, 32, 110, 101, 103, 97, 116, 105, 118, 101]⟩)) (by kernel_rfl) ?_
  exact (no_none r10).elim
 ·have r11 := ite_f h9 hr
  refine w_skip ?_
  refine k7 _ _ ?_
  refine w_seqk fun K12 k12 => ?_
  refine w_seqk fun K13 k13 => ?_
  refine w_reg (by kernel_rfl) ?_
  refine s_qk (.int .i64 n_) (by kernel_rfl) ?_
  refine s_qk (.slice none 0 0) (by kernel_rfl) ?_
  refine s_qk (.int .i64 0) (by kernel_rfl) ?_
  refine s_qk (.slice none 0 0) (by kernel_rfl) ?_
  refine s_qk (.int .i64 0) (by kernel_rfl) ?_
  refine s_qk (.int .i64 0) (by kernel_rfl) ?_
  obtain ⟨g14, r15⟩ := G_some r11
  refine s_w ((n_ - 0)) (k := .i64) (x := (n_ - 0)) (by kernel_rfl) (wrap64 g14) ?_
  refine s_qk (.int .i64 (n_ - 0)) (by kernel_rfl) ?_
  refine s_nil ?_
  refine k13 _ _ ?_
  refine w_seqk fun K16 k16 => ?_
  refine w_reg (by kernel_rfl) ?_
  refine s_qk (.int .i64 (n_ - 0)) (by kernel_rfl) ?_
  refine s_qk (.bool (decide ((n_ - 0) > 0))) (by kernel_rfl) ?_
  refine s_nil ?_
  refine k16 _ _ ?_
  refine w_condp ((n_ - 0) > 0) (by kernel_rfl) rfl (fun h17 => ?_) (fun h17 => ?_)
  ·have r18 := ite_t h17 r15
   refine w_reg (by kernel_rfl) ?_
   refine s_qk (.slice none 0 0) (by kernel_rfl) ?_
   refine s_qk (.slice none 0 0) (by kernel_rfl) ?_
   refine s_qk (.int .i64 0) (by kernel_rfl) ?_
   refine s_qk (.slice none 0 0) (by kernel_rfl) ?_
   refine s_qk (.int .i64 (n_ - 0)) (by kernel_rfl) ?_
   obtain ⟨g19, r20⟩ := G_some r18
   have q27_ := g19
   obtain ⟨s21, H22, f23, q27, e24, hm25, hf26⟩ := Ow.appendZ (P := Try.prog) (m := 8) (k := .i64) (k1 := .i64) (n := (n_ - 0)) (at_ := #[22, 3]) (0 : Int) wf (Ow.nil (enc := (encI .i64)) (sz := 1) (by decide)) rfl rfl (by kernel_rfl) (by kernel_rfl) (by decide) q27_.1 (by omega) (by have := q27_; omega) (by have := q27_; first | omega | (simp only [List.length_nil] at this ⊢; omega))
   obtain ⟨a28, n29, c30, rfl⟩ := hm25.form
   refine s_ek (.slice a28 n29 c30) (by kernel_rfl) (q27) ?_
   refine s_qk (.slice none 0 0) (by kernel_rfl) ?_
   refine s_qk (.int .i64 0) (by kernel_rfl) ?_
   obtain ⟨g32, r33⟩ := G_some r20
   obtain ⟨s34, q35, hs36⟩ := Ow.head (P := Try.prog) hm25 (t := 22) (by kernel_rfl) (hi := (some (.int .i64 0))) (r := (0 : Int).toNat) (aBound_int _ (by have := g32; omega)) (by have := g32; omega)
   obtain ⟨a37, n38, c39, rfl⟩ := hs36.form
   refine s_ql (.slice a37 n38 c39) (by kernel_rfl) q35 ?_
   refine s_qk (.slice a37 n38 c39) (by kernel_rfl) ?_
   refine s_nil ?_
   refine k12 _ _ ?_
   refine w_seqk fun K41 k41 => ?_
   refine w_reg (by kernel_rfl) ?_
   refine s_qk (.slice a37 n38 c39) (by kernel_rfl) ?_
   refine s_qk (.slice a37 n38 c39) (by kernel_rfl) ?_
   refine s_nil ?_
   refine k41 _ _ ?_
   refine w_ret ?_
   refine b_ret (fn := Try.f70) (vs := [.slice a37 n38 c39]) (aRes_tmp (by kernel_rfl) (rfl)) ?_
   obtain rfl := Option.some.inj r33
   exact ⟨(.slice a37 n38 c39), f23, rfl, (FrS.step wf (FrS.refl (W := []) wf) e24 Inn.nil), hs36, (hf26.fresh (Nat.le_refl _))⟩
  ·have r42 := ite_f h17 r15
   refine w_skip ?_
   refine k12 _ _ ?_
   refine w_seqk fun K43 k43 => ?_
   refine w_reg (by kernel_rfl) ?_
   refine s_qk (.slice none 0 0) (by kernel_rfl) ?_
   refine s_qk (.slice none 0 0) (by kernel_rfl) ?_
   refine s_nil ?_
   refine k43 _ _ ?_
   refine w_ret ?_
   refine b_ret (fn := Try.f70) (vs := [.slice none 0 0]) (aRes_tmp (by kernel_rfl) (rfl)) ?_
   obtain rfl := Option.some.inj r42
   exact ⟨(.slice none 0 0), [], rfl, (FrS.refl (W := []) wf), (Ow.nil (by decide)), Inn.nil⟩

theorem c_slices_Concat {H : AH} {b_slices : Nat} {hd_slices_ : Value} {fp_slices_ : Fp} {hd_slices_2 : Value} {fp_slices_2 : Fp} {slices_ : List (Int)} {slices_2 : List (Int)} {r : List (Int)}
  (wf : WF H) (h_slices_ : Sq (encI .i64) 1 H hd_slices_ slices_ fp_slices_) (h_slices_2 : Sq (encI .i64) 1 H hd_slices_2 slices_2 fp_slices_2) (h_slices : Row H b_slices [hd_slices_, hd_slices_2]) (hr : z_slices_Concat slices_ slices_2 = some r) :
  ACalls Try.prog 46 #[.slice (some ⟨b_slices, 0, none⟩) 2 2] H fun v H' => ∃ (s3 : Value) (f4 : Fp), v = s3 ∧ FrS [] H H' ∧ Ow (encI .i64) 1 H' s3 r f4 ∧ Inn [] H f4 := by
 refine acalls_of_body mixed Try.func46 rfl (Nat.le_of_ble_eq_true rfl) ?_
 unfold z_slices_Concat at hr
 refine w_seqk fun K6 k6 => ?_
 refine w_reg (by kernel_rfl) ?_
 refine s_qk (.slice none 0 0) (by kernel_rfl) ?_
 refine s_nil ?_
 refine k6 _ _ ?_
 refine w_seqk fun K7 k7 => ?_
 refine w_reg (by kernel_rfl) ?_
 refine s_qk (.int .i64 0) (by kernel_rfl) ?_
 refine s_nil ?_
 refine k7 _ _ ?_
 refine w_seqk fun K8 k8 => ?_
 refine w_seqk fun K9 k9 => ?_
 refine w_reg (by kernel_rfl) ?_
 refine s_qk (.slice (some ⟨b_slices, 0, none⟩) 2 2) (by kernel_rfl) ?_
 refine s_qk (.int .i64 2) (by kernel_rfl) ?_
 refine s_qk (.int .i64 0) (by kernel_rfl) ?_
 refine s_nil ?_
 refine k9 _ _ ?_
 refine w_block ?_
 refine w_unroll ?_
 refine w_seqk fun K10 k10 => ?_
 refine w_reg (by kernel_rfl) ?_
 refine s_qk (.bool true) (by kernel_rfl) ?_
 refine s_nil ?_
 refine k10 _ _ ?_
 refine w_seqk fun K11 k11 => ?_
 refine w_cond true (by kernel_rfl) rfl (fun _ => ?_) (fun h => by cases h)
 refine w_skip ?_
 refine k11 _ _ ?_
 refine w_seqk fun K12 k12 => ?_
 refine w_block ?_
 refine w_seqk fun K13 k13 => ?_
 refine w_reg (by kernel_rfl) ?_
 refine s_qk (.pointer (some ⟨b_slices, 0, none⟩)) (by kernel_rfl) ?_
 refine s_ql (hd_slices_) (x := aLoad Try.prog 22 (.pointer (some ⟨b_slices, 0, none⟩)) H) (by kernel_rfl) (h_slices.ld (by kernel_rfl)) ?_
 refine s_qk (hd_slices_) (by kernel_rfl) ?_
 refine s_nil ?_
 refine k13 _ _ ?_
 refine w_seqk fun K14 k14 => ?_
 refine w_reg (by kernel_rfl) ?_
 refine s_qk (.int .i64 0) (by kernel_rfl) ?_
 refine s_qk (hd_slices_) (by kernel_rfl) ?_
 refine s_ql (.int .i64 (slices_.length : Int)) (x := aLen Try.prog 22 hd_slices_ H) (by kernel_rfl) (h_slices_.lenb (by kernel_rfl)) ?_
 obtain ⟨g15, r16⟩ := G_some hr
 refine s_w ((0 + (slices_.length : Int))) (k := .i64) (x := (0 + (slices_.length : Int))) (by kernel_rfl) (wrap64 g15) ?_
 refine s_qk (.int .i64 (0 + (slices_.length : Int))) (by kernel_rfl) ?_
 refine s_nil ?_
 refine k14 _ _ ?_
 refine w_seqk fun K17 k17 => ?_
 refine w_reg (by kernel_rfl) ?_
 refine s_qk (.int .i64 (0 + (slices_.length : Int))) (by kernel_rfl) ?_
 refine s_qk (.bool (decide ((0 + (slices_.length : Int)) < 0))) (by kernel_rfl) ?_
 refine s_nil ?_
 refine k17 _ _ ?_
 refine w_condp ((0 + (slices_.length : Int)) < 0) (by kernel_rfl) rfl (fun h18 => ?_) (fun h18 => ?_)
 ·have r19 := ite_t h18 r16
  refine w_reg (by kernel_rfl) ?_
  refine s_qk (.iface 9 (.string ⟨#[108, 101, 110, 32, 111, 117, 116, 32, 111, 102, 32, 114, 97, 110, 103, 101]⟩)) (by kernel_rfl) ?_
  exact (no_none r19).elim
 ·have r20 := ite_f h18 r16
  refine w_skip ?_
  refine k12 _ _ ?_
  refine w_reg (by kernel_rfl) ?_
  refine s_qk (.int .i64 1) (by kernel_rfl) ?_
  refine s_qk (.int .i64 1) (by kernel_rfl) ?_
  refine s_nil ?_
  refine w_unroll ?_
  refine w_seqk fun K21 k21 => ?_
  refine w_reg (by kernel_rfl) ?_
  refine s_qk (.bool true) (by kernel_rfl) ?_
  refine s_nil ?_
  refine k21 _ _ ?_
  refine w_seqk fun K22 k22 => ?_
  refine w_cond true (by kernel_rfl) rfl (fun _ => ?_) (fun h => by cases h)
  refine w_skip ?_
  refine k22 _ _ ?_
  refine w_seqk fun K23 k23 => ?_
  refine w_block ?_
  refine w_seqk fun K24 k24 => ?_
  refine w_reg (by kernel_rfl) ?_
  refine s_qk (.pointer (some ⟨b_slices, 1, none⟩)) (by kernel_rfl) ?_
  refine s_ql (hd_slices_2) (x := aLoad Try.prog 22 (.pointer (some ⟨b_slices, 1, none⟩)) H) (by kernel_rfl) (h_slices.ld (by kernel_rfl)) ?_
  refine s_qk (hd_slices_2) (by kernel_rfl) ?_
  refine s_nil ?_
  refine k24 _ _ ?_
  refine w_seqk fun K25 k25 => ?_
  refine w_reg (by kernel_rfl) ?_
  refine s_qk (.int .i64 (0 + (slices_.length : Int))) (by kernel_rfl) ?_
  refine s_qk (hd_slices_2) (by kernel_rfl) ?_
  refine s_ql (.int .i64 (slices_2.length : Int)) (x := aLen Try.prog 22 hd_slices_2 H) (by kernel_rfl) (h_slices_2.lenb (by kernel_rfl)) ?_
  obtain ⟨g26, r27⟩ := G_some r20
  refine s_w (((0 + (slices_.length : Int)) + (slices_2.length : Int))) (k := .i64) (x := ((0 + (slices_.length : Int)) + (slices_2.length : Int))) (by kernel_rfl) (wrap64 g26) ?_
  refine s_qk (.int .i64 ((0 + (slices_.length : Int)) + (slices_2.length : Int))) (by kernel_rfl) ?_
  refine s_nil ?_
  refine k25 _ _ ?_
  refine w_seqk fun K28 k28 => ?_
  refine w_reg (by kernel_rfl) ?_
  refine s_qk (.int .i64 ((0 + (slices_.length : Int)) + (slices_2.length : Int))) (by kernel_rfl) ?_
  refine s_qk (.bool (decide (((0 + (slices_.length : Int)) + (slices_2.length : Int)) < 0))) (by kernel_rfl) ?_
  refine s_nil ?_
  refine k28 _ _ ?_
  refine w_condp (((0 + (slices_.length : Int)) + (slices_2.length : Int)) < 0) (by kernel_rfl) rfl (fun h29 => ?_) (fun h29 => ?_)
  ·have r30 := ite_t h29 r27
   refine w_reg (by kernel_rfl) ?_
   refine s_qk (.iface 9 (.string ⟨#[108, 101, 110, 32, 111, 117, 116, 32, 111, 102, 32, 114, 97, 110, 103, 101]⟩)) (by kernel_rfl) ?_
   exact (no_none r30).elim
  ·have r31 := ite_f h29 r27
   refine w_skip ?_
   refine k23 _ _ ?_
   refine w_reg (by kernel_rfl) ?_
   refine s_qk (.int .i64 2) (by kernel_rfl) ?_
   refine s_qk (.int .i64 2) (by kernel_rfl) ?_
   refine s_nil ?_
   refine w_unroll ?_
   refine w_seqk fun K32 k32 => ?_
   refine w_reg (by kernel_rfl) ?_
   refine s_qk (.bool false) (by kernel_rfl) ?_
   refine s_nil ?_
   refine k32 _ _ ?_
   refine w_seqk fun K33 k33 => ?_
   refine w_cond false (by kernel_rfl) rfl (fun h => by cases h) (fun _ => ?_)
   refine w_exit (th_exit (th_exit (bl_eq ?_)))
   refine k8 _ _ ?_
   refine w_seqk fun K34 k34 => ?_
   refine w_reg (by kernel_rfl) ?_
   refine s_qk (.int .i64 ((0 + (slices_.length : Int)) + (slices_2.length : Int))) (by kernel_rfl) ?_
   obtain ⟨y35, hy36, r37⟩ := bind_some r31
   refine s_ck 70 #[.slice none 0 0, .int .i64 ((0 + (slices_.length : Int)) + (slices_2.length : Int))] (by kernel_rfl) (c_slices_Grow wf hy36) ?_
   rintro s38 H40 ⟨_, f39, rfl, e41, m42, i43⟩
   obtain ⟨a45, n46, c47, rfl⟩ := m42.form
   refine s_qk (.slice a45 n46 c47) (by kernel_rfl) ?_
   refine s_nil ?_
   refine k34 _ _ ?_
   refine w_seqk fun K48 k48 => ?_
   refine w_seqk fun K49 k49 => ?_
   refine w_reg (by kernel_rfl) ?_
   refine s_qk (.slice (some ⟨b_slices, 0, none⟩) 2 2) (by kernel_rfl) ?_
   refine s_qk (.int .i64 2) (by kernel_rfl) ?_
   refine s_qk (.int .i64 0) (by kernel_rfl) ?_
   refine s_nil ?_
   refine k49 _ _ ?_
   refine w_block ?_
   refine w_unroll ?_
   refine w_seqk fun K50 k50 => ?_
   refine w_reg (by kernel_rfl) ?_
   refine s_qk (.bool true) (by kernel_rfl) ?_
   refine s_nil ?_
   refine k50 _ _ ?_
   refine w_seqk fun K51 k51 => ?_
   refine w_cond true (by kernel_rfl) rfl (fun _ => ?_) (fun h => by cases h)
   refine w_skip ?_
   refine k51 _ _ ?_
   refine w_seqk fun K52 k52 => ?_
   refine w_block ?_
   refine w_seqk fun K53 k53 => ?_
   refine w_reg (by kernel_rfl) ?_
   refine s_qk (.pointer (some ⟨b_slices, 0, none⟩)) (by kernel_rfl) ?_
   have u54 := (h_slices.frS e41 Dj.nil_l)
   refine s_ql (hd_slices_) (x := aLoad Try.prog 22 (.pointer (some ⟨b_slices, 0, none⟩)) H40) (by kernel_rfl) (u54.ld (by kernel_rfl)) ?_
   refine s_qk (hd_slices_) (by kernel_rfl) ?_
   refine s_nil ?_
   refine k53 _ _ ?_
   refine w_reg (by kernel_rfl) ?_
   refine s_qk (.slice a45 n46 c47) (by kernel_rfl) ?_
   refine s_qk (hd_slices_) (by kernel_rfl) ?_
   obtain ⟨g55, r56⟩ := G_some r37
   have u64 := (h_slices_.fr e41 Dj.nil_l)
   obtain ⟨s57, H58, f59, q63, e60, hm61, hf62⟩ := Ow.append (P := Try.prog) 8 e41.wf m42 u64 (fun _ _ => rfl) (at_ := #[22, 22]) rfl rfl (by kernel_rfl) (by kernel_rfl) (by decide) (by have := g55; first | omega | (simp only [List.length_cons, List.length_nil] at this ⊢; omega) | (simp at this ⊢; omega))
   obtain ⟨a65, n66, c67, rfl⟩ := hm61.form
   refine s_ek (.slice a65 n66 c67) (by kernel_rfl) (q63) ?_
   refine s_qk (.slice a65 n66 c67) (by kernel_rfl) ?_
   refine s_nil ?_
   refine k52 _ _ ?_
   refine w_reg (by kernel_rfl) ?_
   refine s_qk (.int .i64 1) (by kernel_rfl) ?_
   refine s_qk (.int .i64 1) (by kernel_rfl) ?_
   refine s_nil ?_
   refine w_unroll ?_
   refine w_seqk fun K69 k69 => ?_
   refine w_reg (by kernel_rfl) ?_
   refine s_qk (.bool true) (by kernel_rfl) ?_
   refine s_nil ?_
   refine k69 _ _ ?_
   refine w_seqk fun K70 k70 => ?_
   refine w_cond true (by kernel_rfl) rfl (fun _ => ?_) (fun h => by cases h)
   refine w_skip ?_
   refine k70 _ _ ?_
   refine w_seqk fun K71 k71 => ?_
   refine w_block ?_
   refine w_seqk fun K72 k72 => ?_
   refine w_reg (by kernel_rfl) ?_
   refine s_qk (.pointer (some ⟨b_slices, 1, none⟩)) (by kernel_rfl) ?_
   have u73 := (u54.frS e60 (i43.djn h_slices.ltF))
   refine s_ql (hd_slices_2) (x := aLoad Try.prog 22 (.pointer (some ⟨b_slices, 1, none⟩)) H58) (by kernel_rfl) (u73.ld (by kernel_rfl)) ?_
   refine s_qk (hd_slices_2) (by kernel_rfl) ?_
   refine s_nil ?_
   refine k72 _ _ ?_
   refine w_reg (by kernel_rfl) ?_
   refine s_qk (.slice a65 n66 c67) (by kernel_rfl) ?_
   refine s_qk (hd_slices_2) (by kernel_rfl) ?_
   obtain ⟨g74, r75⟩ := G_some r56
   have u83 := ((h_slices_2.fr e41 Dj.nil_l).fr e60 (i43.djn h_slices_2.lt))
   obtain ⟨s76, H77, f78, q82, e79, hm80, hf81⟩ := Ow.append (P := Try.prog) 8 e60.wf hm61 u83 (fun _ _ => rfl) (at_ := #[22, 22]) rfl rfl (by kernel_rfl) (by kernel_rfl) (by decide) (by have := g74; first | omega | (simp only [List.length_cons, List.length_nil] at this ⊢; omega) | (simp at this ⊢; omega))
   obtain ⟨a84, n85, c86, rfl⟩ := hm80.form
   refine s_ek (.slice a84 n85 c86) (by kernel_rfl) (q82) ?_
   refine s_qk (.slice a84 n85 c86) (by kernel_rfl) ?_
   refine s_nil ?_
   refine k71 _ _ ?_
   refine w_reg (by kernel_rfl) ?_
   refine s_qk (.int .i64 2) (by kernel_rfl) ?_
   refine s_qk (.int .i64 2) (by kernel_rfl) ?_
   refine s_nil ?_
   refine w_unroll ?_
   refine w_seqk fun K88 k88 => ?_
   refine w_reg (by kernel_rfl) ?_
   refine s_qk (.bool false) (by kernel_rfl) ?_
   refine s_nil ?_
   refine k88 _ _ ?_
   refine w_seqk fun K89 k89 => ?_
   refine w_cond false (by kernel_rfl) rfl (fun h => by cases h) (fun _ => ?_)
   refine w_exit (th_exit (th_exit (bl_eq ?_)))
   refine k48 _ _ ?_
   refine w_seqk fun K90 k90 => ?_
   refine w_reg (by kernel_rfl) ?_
   refine s_qk (.slice a84 n85 c86) (by kernel_rfl) ?_
   refine s_qk (.slice a84 n85 c86) (by kernel_rfl) ?_
   refine s_nil ?_
   refine k90 _ _ ?_
   refine w_ret ?_
   refine b_ret (fn := Try.f46) (vs := [.slice a84 n85 c86]) (aRes_tmp (by kernel_rfl) (rfl)) ?_
   obtain rfl := Option.some.inj r75
   exact ⟨(.slice a84 n85 c86), f78, rfl, (FrS.step wf (FrS.step wf (FrS.step wf (FrS.refl (W := []) wf) e41 Inn.nil) e60 (i43.fresh (Nat.le_refl _))) e79 (Inn.trans (i43.fresh (Nat.le_refl _)) e41.next hf62)), hm80, (Inn.trans (Inn.trans (i43.fresh (Nat.le_refl _)) e41.next hf62) (ntr e41.next e60.next) hf81)⟩

theorem c_walk_Join {H : AH} {hd_a : Value} {fp_a : Fp} {hd_b : Value} {fp_b : Fp} {a : List (Int)} {b : List (Int)} {r : List (Int) × Er}
  (wf : WF H) (h_a : Sq (encI .i64) 1 H hd_a a fp_a) (h_b : Sq (encI .i64) 1 H hd_b b fp_b) (hr : z_walk_Join a b = some r) :
  ACalls Try.prog 16 #[hd_a, hd_b] H fun v H' => ∃ (s3 : Value) (f4 : Fp) (v7 : Value) (f8 : Fp), v = .tuple #[s3, v7] ∧ FrS [] H H' ∧ Ow (encI .i64) 1 H' s3 r.1 f4 ∧ Ev 82 123 H' v7 r.2 f8 ∧ Inn [] H f4 ∧ Inn [] H f8 ∧ Dj f4 f8 := by
 refine acalls_of_body mixed Try.func16 rfl (Nat.le_of_ble_eq_true rfl) ?_
 unfold z_walk_Join at hr
 refine w_seqk fun K12 k12 => ?_
 refine w_reg (by kernel_rfl) ?_
 refine s_qk (.slice none 0 0) (by kernel_rfl) ?_
 refine s_qk (.nilIface) (by kernel_rfl) ?_
 refine s_nil ?_
 refine k12 _ _ ?_
 refine w_seqk fun K13 k13 => ?_
 refine w_reg (by kernel_rfl) ?_
 refine s_qk (.nilIface) (by kernel_rfl) ?_
 refine s_nil ?_
 refine k13 _ _ ?_
 refine w_seqk fun K14 k14 => ?_
 refine w_block ?_
 refine w_seqk fun K15 k15 => ?_
 obtain ⟨o16, hx17, r18⟩ := bind_some hr
 refine w_mid (fun α H19 => Has α [(0, hd_a), (1, hd_b), (6, .nilIface), (7, .bool o16)] ∧ H = H19) (fun K21 k21 => ?_) (fun α H19 hM => ?_)
 ·refine w_reg (by kernel_rfl) ?_
  refine s_qk (hd_a) (by kernel_rfl) ?_
  refine s_ql (.int .i64 (a.length : Int)) (x := aLen Try.prog 22 hd_a H) (by kernel_rfl) (h_a.lenb (by kernel_rfl)) ?_
  refine s_b ((a.length : Int) = 0) (by kernel_rfl) (fun h23 => ?_) (fun h23 => ?_)
  ·have r24 := ite_t h23 hx17
   refine s_qk (.bool true) (by kernel_rfl) ?_
   refine s_no (by kernel_rfl) ?_
   refine s_no (by kernel_rfl) ?_
   refine s_no (by kernel_rfl) ?_
   refine s_qk (.bool true) (by kernel_rfl) ?_
   refine s_qk (.bool true) (by kernel_rfl) ?_
   refine s_nil ?_
   obtain rfl := Option.some.inj r24
   exact k21 _ _ ⟨⟨by kernel_rfl, by kernel_rfl, by kernel_rfl, by kernel_rfl, trivial⟩, rfl⟩
  ·have r25 := ite_f h23 hx17
   refine s_qk (.bool false) (by kernel_rfl) ?_
   refine s_qk (hd_b) (by kernel_rfl) ?_
   refine s_ql (.int .i64 (b.length : Int)) (x := aLen Try.prog 22 hd_b H) (by kernel_rfl) (h_b.lenb (by kernel_rfl)) ?_
   refine s_qk (.bool (decide ((b.length : Int) = 0))) (by kernel_rfl) ?_
   refine s_qk (.bool (decide ((b.length : Int) = 0))) (by kernel_rfl) ?_
   refine s_qk (.bool (decide ((b.length : Int) = 0))) (by kernel_rfl) ?_
   refine s_nil ?_
   obtain rfl := Option.some.inj r25
   exact k21 _ _ ⟨⟨by kernel_rfl, by kernel_rfl, by kernel_rfl, by kernel_rfl, trivial⟩, rfl⟩
 ·obtain ⟨hh22, rfl⟩ := hM
  obtain ⟨β, rfl⟩ := has_ex hh22
  clear hh22
  refine k15 _ _ ?_
  obtain ⟨o26, hx27, r28⟩ := bind_some r18
  refine w_mid (fun α H29 => ∃ (v33 : Value) (f34 : Fp), Has α [(0, hd_a), (1, hd_b), (6, v33)] ∧ H = H29 ∧ Ev 82 123 H29 v33 o26 f34 ∧ Inn [] H f34) (fun K36 k36 => ?_) (fun α H29 hM => ?_)
  ·refine w_cond (o16) (by kernel_rfl) rfl (fun h38 => ?_) (fun h38 => ?_)
   ·have r39 := ite_t h38 hx27
    refine w_reg (by kernel_rfl) ?_
    refine s_qk (.iface 82 (.int .i64 5)) (by kernel_rfl) ?_
    refine s_qk (.iface 82 (.int .i64 5)) (by kernel_rfl) ?_
    refine s_nil ?_
    obtain rfl := Option.some.inj r39
    exact k36 _ _ ⟨(.iface 82 (.int .i64 5)), [], ⟨by kernel_rfl, by kernel_rfl, by kernel_rfl, trivial⟩, rfl, Ev.no, Inn.nil⟩
   ·have r40 := ite_bf h38 hx27
    refine w_seqk fun K41 k41 => ?_
    refine w_draw [0, 1, 2, 3, 4, 5, 6, 7, 8, 9, 10] (by kernel_rfl) ?_
    refine d_qk (hd_a) (by kernel_rfl) ?_
    refine d_qk (hd_a) (by kernel_rfl) ?_
    refine d_ql (.int .i64 (a.length : Int)) (x := aLen Try.prog 22 hd_a H) (by kernel_rfl) (h_a.lenb (by kernel_rfl)) ?_
    obtain ⟨g42, r43⟩ := G_some r40
    refine d_w (((a.length : Int) - 1)) (k := .i64) (x := ((a.length : Int) - 1)) (by kernel_rfl) (wrap64 g42) ?_
    obtain ⟨g44, r45⟩ := G_some r43
    refine d_ql (elp hd_a 1 ((a.length : Int) - 1).toNat 0) (x := aIndexAddr Try.prog 22 hd_a (.int .i64 ((a.length : Int) - 1))) (by kernel_rfl) (h_a.idxb (by kernel_rfl) g44.1 g44.2) ?_
    refine d_ql (.int .i64 (gt a ((a.length : Int) - 1))) (x := aLoad Try.prog 3 (elp hd_a 1 ((a.length : Int) - 1).toNat 0) H) (by kernel_rfl) (h_a.ld g44.1 g44.2 (by kernel_rfl)) ?_
    refine d_qk (hd_b) (by kernel_rfl) ?_
    obtain ⟨g46, r47⟩ := G_some r45
    refine d_ql (elp hd_b 1 (0 : Int).toNat 0) (x := aIndexAddr Try.prog 22 hd_b (.int .i64 0)) (by kernel_rfl) (h_b.idxb (by kernel_rfl) (by decide) g46) ?_
    refine d_ql (.int .i64 (gt b 0)) (x := aLoad Try.prog 3 (elp hd_b 1 (0 : Int).toNat 0) H) (by kernel_rfl) (h_b.ld (by decide) g46 (by kernel_rfl)) ?_
    refine d_qk (.bool (!decide ((gt a ((a.length : Int) - 1)) = (gt b 0)))) (by kernel_rfl) ?_
    refine d_qk (.bool (!decide ((gt a ((a.length : Int) - 1)) = (gt b 0)))) (by kernel_rfl) ?_
    refine d_nil ?_
    refine k41 _ _ ?_
    refine w_condn ((gt a ((a.length : Int) - 1)) = (gt b 0)) (by kernel_rfl) rfl (fun h48 => ?_) (fun h48 => ?_)
    ·have r49 := ite_f h48 r47
     refine w_reg (by kernel_rfl) ?_
     refine s_qk (.iface 82 (.int .i64 16)) (by kernel_rfl) ?_
     refine s_qk (.iface 82 (.int .i64 16)) (by kernel_rfl) ?_
     refine s_nil ?_
     obtain rfl := Option.some.inj r49
     exact k36 _ _ ⟨(.iface 82 (.int .i64 16)), [], ⟨by kernel_rfl, by kernel_rfl, by kernel_rfl, trivial⟩, rfl, Ev.no, Inn.nil⟩
    ·have r50 := ite_t h48 r47
     refine w_skip ?_
     obtain rfl := Option.some.inj r50
     exact k36 _ _ ⟨(.nilIface), [], ⟨by kernel_rfl, by kernel_rfl, by kernel_rfl, trivial⟩, rfl, Ev.nil, Inn.nil⟩
  ·obtain ⟨v33, f34, hh37, rfl, m32, i35⟩ := hM
   obtain ⟨β, rfl⟩ := has_ex hh37
   clear hh37
   refine k14 _ _ ?_
   refine w_seqk fun K51 k51 => ?_
   refine w_seqk fun K52 k52 => ?_
   refine w_reg (by kernel_rfl) ?_
   refine s_qk (v33) (by kernel_rfl) ?_
   rcases (m32).cases with ⟨h53, rfl⟩ | ⟨h53, t54, x55, rfl⟩
   ·have r56 := ite_t h53 r28
    refine s_qk (.bool false) (by kernel_rfl) ?_
    refine s_nil ?_
    refine k52 _ _ ?_
    refine w_cond false (by kernel_rfl) rfl (fun h => by cases h) (fun _ => ?_)
    refine w_skip ?_
    refine k51 _ _ ?_
    refine w_seqk fun K57 k57 => ?_
    refine w_reg (by kernel_rfl) ?_
    refine s_qk (hd_a) (by kernel_rfl) ?_
    refine s_qk (hd_b) (by kernel_rfl) ?_
    obtain ⟨g58, r59⟩ := G_some r56
    obtain ⟨s60, q61, hs62⟩ := Sq.cut (P := Try.prog) h_b (t := 22) (by kernel_rfl) (lo := (some (.int .i64 1))) (hi := none) (l := (1 : Int).toNat) (r := b.length) (aBound_int _ (by have := g58; omega)) (rfl) (by have := g58; omega) (by have := g58; omega)
    obtain ⟨a63, n64, c65, rfl⟩ := hs62.form
    refine s_ql (.slice a63 n64 c65) (by kernel_rfl) q61 ?_
    obtain ⟨a67, n68, c69, rfl⟩ := h_a.form
    refine s_lsl wf [.slice a67 n68 c69, .slice a63 n64 c65] 2 (one_cons (h_a.one1) (one_cons (hs62.one1) (one_nil))) (by kernel_rfl) fun b70 H71 e72 hb73 r74 => ?_
    have u76 := (h_a.ext e72)
    have u77 := (hs62.ext e72)
    obtain ⟨y78, hy79, r80⟩ := bind_some r59
    refine s_ck 46 #[.slice (some ⟨b70, 0, none⟩) 2 2] (by kernel_rfl) (c_slices_Concat e72.wf u76 u77 r74 hy79) ?_
    rintro s81 H83 ⟨_, f82, rfl, e84, m85, i86⟩
    obtain ⟨a88, n89, c90, rfl⟩ := m85.form
    refine s_qk (.slice a88 n89 c90) (by kernel_rfl) ?_
    refine s_qk (.nilIface) (by kernel_rfl) ?_
    refine s_nil ?_
    refine k57 _ _ ?_
    refine w_ret ?_
    refine b_ret (fn := Try.f16) (vs := [.slice a88 n89 c90, .nilIface]) (aRes_tmp (by kernel_rfl) (aRes_tmp (by kernel_rfl) (rfl))) ?_
    obtain rfl := Option.some.inj r80
    exact ⟨(.slice a88 n89 c90), f82, (.nilIface), [], rfl, (FrS.step wf ((FrS.refl (W := []) wf).extR e72) e84 Inn.nil), m85, Ev.nil, (i86.fresh e72.next), Inn.nil, Dj.nil_r⟩
   ·have r91 := ite_f h53 r28
    refine s_ql (.bool true) (x := aBin Try.prog .neq 31 (.tmp 29) (.const .nilIface) (.iface t54 x55) .nilIface) (by kernel_rfl) (aBin_nnil (by kernel_rfl)) ?_
    refine s_nil ?_
    refine k52 _ _ ?_
    refine w_cond true (by kernel_rfl) rfl (fun _ => ?_) (fun h => by cases h)
    refine w_seqk fun K92 k92 => ?_
    refine w_reg (by kernel_rfl) ?_
    refine s_qk (.iface t54 x55) (by kernel_rfl) ?_
    refine s_qk (.slice none 0 0) (by kernel_rfl) ?_
    refine s_qk (.iface t54 x55) (by kernel_rfl) ?_
    refine s_nil ?_
    refine k92 _ _ ?_
    refine w_ret (th_ret ?_)
    refine b_ret (fn := Try.f16) (vs := [.slice none 0 0, .iface t54 x55]) (aRes_tmp (by kernel_rfl) (aRes_tmp (by kernel_rfl) (rfl))) ?_
    obtain rfl := Option.some.inj r91
    exact ⟨(.slice none 0 0), [], (.iface t54 x55), f34, rfl, (FrS.refl (W := []) wf), (Ow.nil (by decide)), m32, Inn.nil, (i35.fresh (Nat.le_refl _)), Dj.nil_l⟩

theorem c_slices_Reverse {H : AH} {hd_s : Value} {fp_s : Fp} {s : List (Int)} {r : List (Int)}
  (wf : WF H) (h_s : Ow (encI .i64) 1 H hd_s s fp_s) (hr : z_slices_Reverse s = some r) :
  ACalls Try.prog 45 #[hd_s] H fun v H' => v = .tuple #[] ∧ FrS fp_s H H' ∧ Ow (encI .i64) 1 H' hd_s r fp_s := by
 refine acalls_of_body mixed Try.func45 rfl (Nat.le_of_ble_eq_true rfl) ?_
 unfold z_slices_Reverse at hr
 refine w_seqk fun K3 k3 => ?_
 refine w_reg (by kernel_rfl) ?_
 refine s_qk (hd_s) (by kernel_rfl) ?_
 refine s_ql (.int .i64 (s.length : Int)) (x := aLen Try.prog 22 hd_s H) (by kernel_rfl) (h_s.sq.lenb (by kernel_rfl)) ?_
 obtain ⟨g4, r5⟩ := G_some hr
 refine s_w (((s.length : Int) - 1)) (k := .i64) (x := ((s.length : Int) - 1)) (by kernel_rfl) (wrap64 g4) ?_
 refine s_qk (.int .i64 0) (by kernel_rfl) ?_
 refine s_qk (.int .i64 ((s.length : Int) - 1)) (by kernel_rfl) ?_
 refine s_nil ?_
 refine k3 _ _ ?_
 obtain ⟨o6, hx7, r8⟩ := bind_some r5
 refine w_mid (fun α H9 => Has α [] ∧ FrS fp_s H H9 ∧ Ow (encI .i64) 1 H9 hd_s o6 fp_s) (fun K13 k13 => ?_) (fun α H9 hM => ?_)
 ·refine w_block ?_
  obtain ⟨n15, hn16⟩ := loopO_iff.1 hx7
  refine w_loopn (fun n α H17 => ∃ (s0 : List (Int)), ∃ (i1 : Int), ∃ (j2 : Int), iterO (fun zz_ => z_slices_Reverse_l0 zz_.1 zz_.2.1 zz_.2.2) n (s0, i1, j2) = some o6 ∧ Has α [(0, hd_s), (2, .int .i64 i1), (3, .int .i64 j2)] ∧ FrS fp_s H H17 ∧ Ow (encI .i64) 1 H17 hd_s s0 fp_s) n15 ⟨s, 0, ((s.length : Int) - 1), hn16, ⟨by kernel_rfl, by kernel_rfl, by kernel_rfl, trivial⟩, (FrS.refl (W := fp_s) wf), h_s⟩ ?_
  rintro n15 α H17 ⟨s0, i1, j2, hi22, hh21, e18, m20⟩ K27 k27
  obtain ⟨n23, z24, rfl, hz25, hn26⟩ := iter_succ hi22
  obtain ⟨β, rfl⟩ := has_ex hh21
  clear hh21
  replace hz25 : z_slices_Reverse_l0 s0 i1 j2 = some z24 := hz25
  unfold z_slices_Reverse_l0 at hz25
  refine w_seqk fun K28 k28 => ?_
  refine w_seqk fun K29 k29 => ?_
  refine w_reg (by kernel_rfl) ?_
  refine s_qk (.int .i64 i1) (by kernel_rfl) ?_
  refine s_qk (.int .i64 j2) (by kernel_rfl) ?_
  refine s_qk (.bool (decide (i1 < j2))) (by kernel_rfl) ?_
  refine s_nil ?_
  refine k29 _ _ ?_
  refine w_condp (i1 < j2) (by kernel_rfl) rfl (fun h30 => ?_) (fun h30 => ?_)
  ·have r31 := ite_t h30 hz25
   refine w_skip ?_
   refine k28 _ _ ?_
   refine w_seqk fun K32 k32 => ?_
   refine w_block ?_
   refine w_draw [0, 1, 2, 3, 4, 5, 6, 7, 8, 9, 10, 11, 12, 13, 14, 15] (by kernel_rfl) ?_
   refine d_qk (hd_s) (by kernel_rfl) ?_
   refine d_qk (.int .i64 i1) (by kernel_rfl) ?_
   refine d_qk (hd_s) (by kernel_rfl) ?_
   refine d_qk (.int .i64 j2) (by kernel_rfl) ?_
   refine d_qk (hd_s) (by kernel_rfl) ?_
   refine d_qk (.int .i64 j2) (by kernel_rfl) ?_
   obtain ⟨g33, r34⟩ := G_some r31
   refine d_ql (elp hd_s 1 j2.toNat 0) (x := aIndexAddr Try.prog 22 hd_s (.int .i64 j2)) (by kernel_rfl) (m20.sq.idxb (by kernel_rfl) g33.1 g33.2) ?_
   refine d_ql (.int .i64 (gt s0 j2)) (x := aLoad Try.prog 3 (elp hd_s 1 j2.toNat 0) H17) (by kernel_rfl) (m20.sq.ld g33.1 g33.2 (by kernel_rfl)) ?_
   refine d_qk (hd_s) (by kernel_rfl) ?_
   refine d_qk (.int .i64 i1) (by kernel_rfl) ?_
   obtain ⟨g35, r36⟩ := G_some r34
   refine d_ql (elp hd_s 1 i1.toNat 0) (x := aIndexAddr Try.prog 22 hd_s (.int .i64 i1)) (by kernel_rfl) (m20.sq.idxb (by kernel_rfl) g35.1 g35.2) ?_
   refine d_ql (.int .i64 (gt s0 i1)) (x := aLoad Try.prog 3 (elp hd_s 1 i1.toNat 0) H17) (by kernel_rfl) (m20.sq.ld g35.1 g35.2 (by kernel_rfl)) ?_
   refine d_ql (elp hd_s 1 i1.toNat 0) (x := aIndexAddr Try.prog 22 hd_s (.int .i64 i1)) (by kernel_rfl) (m20.sq.idxb (by kernel_rfl) g35.1 g35.2) ?_
   obtain ⟨H37, q38, e39, hm40⟩ := Ow.store (P := Try.prog) (t := 3) (off := 0) e18.wf m20 g35.1 g35.2 (.int .i64 (gt s0 j2)) [.int .i64 (gt s0 j2)] (by kernel_rfl) (by kernel_rfl) rfl (gt s0 j2) (Nat.le_of_ble_eq_true rfl) (by kernel_rfl)
   refine d_ek (undef) (by kernel_rfl) (map_ok q38) (st_nil) ?_
   obtain ⟨g41, r42⟩ := G_some r36
   refine d_ql (elp hd_s 1 j2.toNat 0) (x := aIndexAddr Try.prog 22 hd_s (.int .i64 j2)) (by kernel_rfl) (hm40.sq.idxb (by kernel_rfl) g33.1 g41) ?_
   obtain ⟨H43, q44, e45, hm46⟩ := Ow.store (P := Try.prog) (t := 3) (off := 0) e39.wf hm40 g33.1 g41 (.int .i64 (gt s0 i1)) [.int .i64 (gt s0 i1)] (by kernel_rfl) (by kernel_rfl) rfl (gt s0 i1) (Nat.le_of_ble_eq_true rfl) (by kernel_rfl)
   refine d_ek (undef) (by kernel_rfl) (map_ok q44) (st_nil) ?_
   refine d_nil ?_
   refine k32 _ _ ?_
   refine w_reg (by kernel_rfl) ?_
   refine s_qk (.int .i64 i1) (by kernel_rfl) ?_
   obtain ⟨g47, r48⟩ := G_some r42
   refine s_w ((i1 + 1)) (k := .i64) (x := (i1 + 1)) (by kernel_rfl) (wrap64 (by have := g47; omega)) ?_
   refine s_qk (.int .i64 j2) (by kernel_rfl) ?_
   obtain ⟨g49, r50⟩ := G_some r48
   refine s_w ((j2 - 1)) (k := .i64) (x := (j2 - 1)) (by kernel_rfl) (wrap64 g49) ?_
   refine s_qk (.int .i64 (i1 + 1)) (by kernel_rfl) ?_
   refine s_qk (.int .i64 (j2 - 1)) (by kernel_rfl) ?_
   refine s_nil ?_
   obtain rfl := Option.some.inj r50
   exact k27 n23 _ _ (Nat.lt_succ_self _) ⟨((s0.set i1.toNat (gt s0 j2)).set j2.toNat (gt s0 i1)), (i1 + 1), (j2 - 1), hn26, ⟨by kernel_rfl, by kernel_rfl, by kernel_rfl, trivial⟩, (FrS.step wf (FrS.step wf (FrS.step wf (FrS.refl (W := fp_s) wf) e18 Inn.refl') e39 Inn.refl') e45 Inn.refl'), hm46⟩
  ·have r51 := ite_f h30 hz25
   refine w_exit (th_exit (th_exit (bl_eq ?_)))
   obtain rfl := Option.some.inj r51
   obtain rfl := it_inr hn26
   exact k13 _ _ ⟨trivial, (FrS.step wf (FrS.refl (W := fp_s) wf) e18 Inn.refl'), m20⟩
 ·obtain ⟨hh14, e10, m12⟩ := hM
  obtain ⟨β, rfl⟩ := has_ex hh14
  clear hh14
  refine b_nrm (fn := Try.f45) (vs := []) (rfl) ?_
  obtain rfl := Option.some.inj r8
  exact ⟨rfl, (FrS.step wf (FrS.refl (W := fp_s) wf) e10 Inn.refl'), m12⟩

theorem c_walk_Back {H : AH} {hd_list : Value} {fp_list : Fp} {list : List (Int)} {r : List (Int)}
  (wf : WF H) (h_list : Sq (encI .i64) 1 H hd_list list fp_list) (hr : z_walk_Back list = some r) :
  ACalls Try.prog 15 #[hd_list] H fun v H' => ∃ (s3 : Value) (f4 : Fp), v = s3 ∧ FrS [] H H' ∧ Ow (encI .i64) 1 H' s3 r f4 ∧ Inn [] H f4 := by
 refine acalls_of_body mixed Try.func15 rfl (Nat.le_of_ble_eq_true rfl) ?_
 unfold z_walk_Back at hr
 refine w_seqk fun K6 k6 => ?_
 refine w_reg (by kernel_rfl) ?_
 refine s_qk (.slice none 0 0) (by kernel_rfl) ?_
 refine s_nil ?_
 refine k6 _ _ ?_
 refine w_seqk fun K7 k7 => ?_
 refine w_reg (by kernel_rfl) ?_
 refine s_qk (hd_list) (by kernel_rfl) ?_
 refine s_ql (.int .i64 (list.length : Int)) (x := aLen Try.prog 22 hd_list H) (by kernel_rfl) (h_list.lenb (by kernel_rfl)) ?_
 obtain ⟨g8, r9⟩ := G_some hr
 refine s_mks (t := 22) (m := 8) (l := (list.length : Int)) (c := (list.length : Int)) (enc := (encI .i64)) (sz := 1) wf (0 : Int) (by kernel_rfl) (by decide) g8.1 (Int.le_refl _) (by omega) (by have := g8; omega) (by kernel_rfl) fun s10 f11 H12 e13 hf14 hm15 => ?_
 obtain ⟨a16, n17, c18, rfl⟩ := hm15.form
 have hm15 : Ow (encI .i64) 1 H12 (.slice a16 n17 c18) (List.replicate list.length (0 : Int)) f11 := hm15
 refine s_qk (.slice a16 n17 c18) (by kernel_rfl) ?_
 refine s_nil ?_
 refine k7 _ _ ?_
 refine w_seqk fun K20 k20 => ?_
 refine w_reg (by kernel_rfl) ?_
 refine s_qk (.slice a16 n17 c18) (by kernel_rfl) ?_
 refine s_qk (hd_list) (by kernel_rfl) ?_
 have u25 := (h_list.ext e13)
 obtain ⟨H21, q24, e22, hm23⟩ := Ow.copy (P := Try.prog) (m := 8) e13.wf hm15 u25 (at_ := #[22, 22]) rfl (by kernel_rfl) (fun _ _ => rfl)
 refine s_ek (.int .i64 ((min list.length (List.replicate list.length (0 : Int)).length : Nat) : Int)) (by kernel_rfl) (q24) ?_
 refine s_nil ?_
 refine k20 _ _ ?_
 refine w_seqk fun K26 k26 => ?_
 refine w_reg (by kernel_rfl) ?_
 refine s_qk (.slice a16 n17 c18) (by kernel_rfl) ?_
 obtain ⟨y27, hy28, r29⟩ := bind_some r9
 refine s_ck 45 #[.slice a16 n17 c18] (by kernel_rfl) (c_slices_Reverse e22.wf hm23 hy28) ?_
 rintro _ H30 ⟨rfl, e31, m32⟩
 refine s_nil ?_
 refine k26 _ _ ?_
 refine w_seqk fun K33 k33 => ?_
 refine w_reg (by kernel_rfl) ?_
 refine s_qk (.slice a16 n17 c18) (by kernel_rfl) ?_
 refine s_qk (.slice a16 n17 c18) (by kernel_rfl) ?_
 refine s_nil ?_
 refine k33 _ _ ?_
 refine w_ret ?_
 refine b_ret (fn := Try.f15) (vs := [.slice a16 n17 c18]) (aRes_tmp (by kernel_rfl) (rfl)) ?_
 obtain rfl := Option.some.inj r29
 exact ⟨(.slice a16 n17 c18), f11, rfl, (FrS.step wf (FrS.step wf ((FrS.refl (W := []) wf).extR e13) e22 (hf14.fresh (Nat.le_refl _))) e31 (hf14.fresh (Nat.le_refl _))), m32, (hf14.fresh (Nat.le_refl _))⟩

theorem c_search_nodes {H : AH} {hd_First : Value} {fp_First : Fp} {hd_To : Value} {fp_To : Fp} {hd_Weight : Value} {fp_Weight : Fp} {First : List (Int)} {To : List (Int)} {Weight : List (Int)} {r : Int}
  (wf : WF H) (h_First : Sq (encI .i64) 1 H hd_First First fp_First) (h_To : Sq (encI .i64) 1 H hd_To To fp_To) (h_Weight : Sq (encI .i64) 1 H hd_Weight Weight fp_Weight) (hr : z_search_nodes First To Weight = some r) :
  ACalls Try.prog 53 #[.agg #[hd_First, hd_To, hd_Weight]] H fun v H' => v = .int .i64 r ∧ FrS [] H H' := by
 refine acalls_of_body mixed Try.func53 rfl (Nat.le_of_ble_eq_true rfl) ?_
 unfold z_search_nodes at hr
 refine w_seqk fun K1 k1 => ?_
 refine w_reg (by kernel_rfl) ?_
 refine s_rwl wf [hd_First, hd_To, hd_Weight] (one_cons (h_First.one1) (one_cons (h_To.one1) (one_cons (h_Weight.one1) (one_nil)))) (by kernel_rfl) fun b2 H3 e4 hb5 r6 => ?_
 refine s_qk (.int .i64 0) (by kernel_rfl) ?_
 refine s_nil ?_
 refine k1 _ _ ?_
 refine w_seqk fun K8 k8 => ?_
 refine w_reg (by kernel_rfl) ?_
 refine s_qk (.pointer (some ⟨b2, 0, none⟩)) (by kernel_rfl) ?_
 refine s_ql (hd_First) (x := aLoad Try.prog 22 (.pointer (some ⟨b2, 0, none⟩)) H3) (by kernel_rfl) (r6.ld (by kernel_rfl)) ?_
 have u9 := (h_First.ext e4)
 refine s_ql (.int .i64 (First.length : Int)) (x := aLen Try.prog 22 hd_First H3) (by kernel_rfl) (u9.lenb (by kernel_rfl)) ?_
 obtain ⟨g10, r11⟩ := G_some hr
 refine s_w (((First.length : Int) - 1)) (k := .i64) (x := ((First.length : Int) - 1)) (by kernel_rfl) (wrap64 g10) ?_
 refine s_qk (.int .i64 ((First.length : Int) - 1)) (by kernel_rfl) ?_
 refine s_nil ?_
 refine k8 _ _ ?_
 refine w_ret ?_
 refine b_ret (fn := Try.f53) (vs := [.int .i64 ((First.length : Int) - 1)]) (aRes_tmp (by kernel_rfl) (rfl)) ?_
 obtain rfl := Option.some.inj r11
 exact ⟨rfl, ((FrS.refl (W := []) wf).extR e4)⟩

theorem c_search_node {H : AH} {hd_First : Value} {fp_First : Fp} {hd_To : Value} {fp_To : Fp} {hd_Weight : Value} {fp_Weight : Fp} {hd_list : Value} {fp_list : Fp} {First : List (Int)} {To : List (Int)} {Weight : List (Int)} {list : List (Int)} {r : Er}
  (wf : WF H) (h_First : Sq (encI .i64) 1 H hd_First First fp_First) (h_To : Sq (encI .i64) 1 H hd_To To fp_To) (h_Weight : Sq (encI .i64) 1 H hd_Weight Weight fp_Weight) (h_list : Sq (encI .i64) 1 H hd_list list fp_list) (hr : z_search_node First To Weight list = some r) :
  ACalls Try.prog 49 #[.agg #[hd_First, hd_To, hd_Weight], hd_list] H fun v H' => ∃ (v3 : Value) (f4 : Fp), v = v3 ∧ FrS [] H H' ∧ Ev 82 123 H' v3 r f4 ∧ Inn [] H f4 := by
 refine acalls_of_body mixed Try.func49 rfl (Nat.le_of_ble_eq_true rfl) ?_
 unfold z_search_node at hr
 refine w_seqk fun K6 k6 => ?_
 refine w_reg (by kernel_rfl) ?_
 refine s_rwl wf [hd_First, hd_To, hd_Weight] (one_cons (h_First.one1) (one_cons (h_To.one1) (one_cons (h_Weight.one1) (one_nil)))) (by kernel_rfl) fun b7 H8 e9 hb10 r11 => ?_
 refine s_qk (.nilIface) (by kernel_rfl) ?_
 refine s_nil ?_
 refine k6 _ _ ?_
 refine w_seqk fun K13 k13 => ?_
 refine w_seqk fun K14 k14 => ?_
 refine w_reg (by kernel_rfl) ?_
 refine s_ql (.agg #[hd_First, hd_To, hd_Weight]) (x := aLoad Try.prog 34 (.pointer (some ⟨b7, 0, none⟩)) H8) (by kernel_rfl) (r11.ld (by kernel_rfl)) ?_
 have u15 := (h_First.ext e9)
 have u16 := (h_To.ext e9)
 have u17 := (h_Weight.ext e9)
 obtain ⟨y18, hy19, r20⟩ := bind_some hr
 refine s_ck 41 #[.agg #[hd_First, hd_To, hd_Weight]] (by kernel_rfl) (c_csr_Check e9.wf u15 u16 u17 hy19) ?_
 rintro v21 H23 ⟨_, f22, rfl, e24, m25, i26⟩
 refine s_qk (v21) (by kernel_rfl) ?_
 refine s_nil ?_
 refine k14 _ _ ?_
 refine w_seqk fun K28 k28 => ?_
 refine w_reg (by kernel_rfl) ?_
 refine s_qk (v21) (by kernel_rfl) ?_
 rcases (m25).cases with ⟨h29, rfl⟩ | ⟨h29, t30, x31, rfl⟩
 ·have r32 := ite_t h29 r20
  refine s_qk (.bool false) (by kernel_rfl) ?_
  refine s_nil ?_
  refine k28 _ _ ?_
  refine w_cond false (by kernel_rfl) rfl (fun h => by cases h) (fun _ => ?_)
  refine w_skip ?_
  refine k13 _ _ ?_
  refine w_seqk fun K33 k33 => ?_
  refine w_seqk fun K34 k34 => ?_
  refine w_reg (by kernel_rfl) ?_
  refine s_qk (hd_list) (by kernel_rfl) ?_
  have u35 := ((h_list.ext e9).fr e24 Dj.nil_l)
  refine s_ql (.int .i64 (list.length : Int)) (x := aLen Try.prog 22 hd_list H23) (by kernel_rfl) (u35.lenb (by kernel_rfl)) ?_
  refine s_qk (.int .i64 0) (by kernel_rfl) ?_
  refine s_nil ?_
  refine k34 _ _ ?_
  obtain ⟨z39, hx37, r38⟩ := bind_some r32
  refine w_mid (fun α H40 => ∃ o36, z39 = Sum.inr o36 ∧ Has α [] ∧ FrS [] H23 H40) (fun K42 k42 => ?_) (fun α H40 hM => ?_)
  ·refine w_block ?_
   obtain ⟨n44, hn45⟩ := loopO_iff.1 hx37
   refine w_loopn (fun n α H46 => ∃ (i0 : Int), iterO (fun zz_ => z_search_node_l0 First To Weight list zz_) n i0 = some z39 ∧ Has α [(2, .pointer (some ⟨b7, 0, none⟩)), (13, hd_list), (14, .int .i64 (list.length : Int)), (15, .int .i64 i0)] ∧ FrS [] H23 H46) n44 ⟨0, hn45, ⟨by kernel_rfl, by kernel_rfl, by kernel_rfl, by kernel_rfl, trivial⟩, (FrS.refl (W := []) e24.wf)⟩ ?_
   rintro n44 α H46 ⟨i0, hi49, hh48, e47⟩ K54 k54
   obtain ⟨n50, z51, rfl, hz52, hn53⟩ := iter_succ hi49
   obtain ⟨β, rfl⟩ := has_ex hh48
   clear hh48
   replace hz52 : z_search_node_l0 First To Weight list i0 = some z51 := hz52
   unfold z_search_node_l0 at hz52
   refine w_seqk fun K55 k55 => ?_
   refine w_reg (by kernel_rfl) ?_
   refine s_qk (.bool (decide (i0 < (list.length : Int)))) (by kernel_rfl) ?_
   refine s_nil ?_
   refine k55 _ _ ?_
   refine w_seqk fun K56 k56 => ?_
   refine w_condp (i0 < (list.length : Int)) (by kernel_rfl) rfl (fun h57 => ?_) (fun h57 => ?_)
   ·have r58 := ite_t h57 hz52
    refine w_skip ?_
    refine k56 _ _ ?_
    refine w_seqk fun K59 k59 => ?_
    refine w_block ?_
    refine w_seqk fun K60 k60 => ?_
    refine w_reg (by kernel_rfl) ?_
    obtain ⟨g61, r62⟩ := G_some r58
    have u63 := (u35.fr e47 Dj.nil_l)
    refine s_ql (elp hd_list 1 i0.toNat 0) (x := aIndexAddr Try.prog 22 hd_list (.int .i64 i0)) (by kernel_rfl) (u63.idxb (by kernel_rfl) g61 h57) ?_
    refine s_ql (.int .i64 (gt list i0)) (x := aLoad Try.prog 3 (elp hd_list 1 i0.toNat 0) H46) (by kernel_rfl) (u63.ld g61 h57 (by kernel_rfl)) ?_
    refine s_qk (.int .i64 (gt list i0)) (by kernel_rfl) ?_
    refine s_nil ?_
    refine k60 _ _ ?_
    refine w_seqk fun K64 k64 => ?_
    refine w_reg (by kernel_rfl) ?_
    refine s_qk (.int .i64 (gt list i0)) (by kernel_rfl) ?_
    refine s_b ((gt list i0) < 0) (by kernel_rfl) (fun h65 => ?_) (fun h65 => ?_)
    ·have r66 := ite_t h65 r62
     refine s_qk (.bool true) (by kernel_rfl) ?_
     refine s_no (by kernel_rfl) ?_
     refine s_no (by kernel_rfl) ?_
     refine s_no (by kernel_rfl) ?_
     refine s_no (by kernel_rfl) ?_
     refine s_qk (.bool true) (by kernel_rfl) ?_
     refine s_nil ?_
     refine k64 _ _ ?_
     refine w_cond true (by kernel_rfl) rfl (fun _ => ?_) (fun h => by cases h)
     refine w_seqk fun K67 k67 => ?_
     refine w_reg (by kernel_rfl) ?_
     refine s_qk (.iface 82 (.int .i64 7)) (by kernel_rfl) ?_
     refine s_qk (.iface 82 (.int .i64 7)) (by kernel_rfl) ?_
     refine s_nil ?_
     refine k67 _ _ ?_
     refine w_ret (bl_ret (th_ret (th_ret (bl_ret (th_ret (th_ret ?_))))))
     obtain ⟨v68, hv69, hz70⟩ := map_some r66
     subst hz70
     obtain rfl := it_inr hn53
     have hq71 := elim_inl r38
     rw [hq71] at hv69
     refine b_ret (fn := Try.f49) (vs := [.iface 82 (.int .i64 7)]) (aRes_tmp (by kernel_rfl) (rfl)) ?_
     obtain rfl := Option.some.inj hv69
     exact ⟨(.iface 82 (.int .i64 7)), [], rfl, (FrS.step wf (FrS.step wf ((FrS.refl (W := []) wf).extR e9) e24 Inn.nil) e47 Inn.nil), Ev.no, Inn.nil⟩
    ·have r72 := ite_f h65 r62
     refine s_qk (.bool false) (by kernel_rfl) ?_
     refine s_qk (.int .i64 (gt list i0)) (by kernel_rfl) ?_
     have u73 := ((r11.frS e24 Dj.nil_l).frS e47 Dj.nil_l)
     refine s_ql (.agg #[hd_First, hd_To, hd_Weight]) (x := aLoad Try.prog 34 (.pointer (some ⟨b7, 0, none⟩)) H46) (by kernel_rfl) (u73.ld (by kernel_rfl)) ?_
     have u74 := ((u15.fr e24 Dj.nil_l).fr e47 Dj.nil_l)
     have u75 := ((u16.fr e24 Dj.nil_l).fr e47 Dj.nil_l)
     have u76 := ((u17.fr e24 Dj.nil_l).fr e47 Dj.nil_l)
     obtain ⟨y77, hy78, r79⟩ := bind_some r72
     refine s_ck 53 #[.agg #[hd_First, hd_To, hd_Weight]] (by kernel_rfl) (c_search_nodes e47.wf u74 u75 u76 hy78) ?_
     rintro _ H80 ⟨rfl, e81⟩
     refine s_qk (.bool (decide ((gt list i0) ≥ y77))) (by kernel_rfl) ?_
     refine s_qk (.bool (decide ((gt list i0) ≥ y77))) (by kernel_rfl) ?_
     refine s_nil ?_
     refine k64 _ _ ?_
     refine w_condp ((gt list i0) ≥ y77) (by kernel_rfl) rfl (fun h82 => ?_) (fun h82 => ?_)
     ·have r83 := ite_t h82 r79
      refine w_seqk fun K84 k84 => ?_
      refine w_reg (by kernel_rfl) ?_
      refine s_qk (.iface 82 (.int .i64 7)) (by kernel_rfl) ?_
      refine s_qk (.iface 82 (.int .i64 7)) (by kernel_rfl) ?_
      refine s_nil ?_
      refine k84 _ _ ?_
      refine w_ret (bl_ret (th_ret (th_ret (bl_ret (th_ret (th_ret ?_))))))
      obtain ⟨v85, hv86, hz87⟩ := map_some r83
      subst hz87
      obtain rfl := it_inr hn53
      have hq88 := elim_inl r38
      rw [hq88] at hv86
      refine b_ret (fn := Try.f49) (vs := [.iface 82 (.int .i64 7)]) (aRes_tmp (by kernel_rfl) (rfl)) ?_
      obtain rfl := Option.some.inj hv86
      exact ⟨(.iface 82 (.int .i64 7)), [], rfl, (FrS.step wf (FrS.step wf (FrS.step wf ((FrS.refl (W := []) wf).extR e9) e24 Inn.nil) e47 Inn.nil) e81 Inn.nil), Ev.no, Inn.nil⟩
     ·have r89 := ite_f h82 r79
      refine w_skip ?_
      refine k59 _ _ ?_
      refine w_reg (by kernel_rfl) ?_
      obtain ⟨g90, r91⟩ := G_some r89
      refine s_w ((i0 + 1)) (k := .i64) (x := (i0 + 1)) (by kernel_rfl) (wrap64 (by have := g90; omega)) ?_
      refine s_qk (.int .i64 (i0 + 1)) (by kernel_rfl) ?_
      refine s_nil ?_
      obtain rfl := Option.some.inj r91
      exact k54 n50 _ _ (Nat.lt_succ_self _) ⟨(i0 + 1), hn53, ⟨by kernel_rfl, by kernel_rfl, by kernel_rfl, by kernel_rfl, trivial⟩, (FrS.step e24.wf (FrS.step e24.wf (FrS.refl (W := []) e24.wf) e47 Inn.nil) e81 Inn.nil)⟩
   ·have r92 := ite_f h57 hz52
    refine w_exit (th_exit (th_exit (bl_eq ?_)))
    obtain rfl := Option.some.inj r92
    obtain rfl := it_inr hn53
    exact k42 _ _ ⟨_, rfl, trivial, (FrS.step e24.wf (FrS.refl (W := []) e24.wf) e47 Inn.nil)⟩
  ·obtain ⟨o36, rfl, hh43, e41⟩ := hM
   have r93 := elim_inr r38
   obtain ⟨β, rfl⟩ := has_ex hh43
   clear hh43
   refine k33 _ _ ?_
   refine w_seqk fun K94 k94 => ?_
   refine w_reg (by kernel_rfl) ?_
   refine s_qk (.nilIface) (by kernel_rfl) ?_
   refine s_nil ?_
   refine k94 _ _ ?_
   refine w_ret ?_
   refine b_ret (fn := Try.f49) (vs := [.nilIface]) (aRes_tmp (by kernel_rfl) (rfl)) ?_
   obtain rfl := Option.some.inj r93
   exact ⟨(.nilIface), [], rfl, (FrS.step wf (FrS.step wf ((FrS.refl (W := []) wf).extR e9) e24 Inn.nil) e41 Inn.nil), Ev.nil, Inn.nil⟩
 ·have r95 := ite_f h29 r20
  refine s_ql (.bool true) (x := aBin Try.prog .neq 31 (.tmp 10) (.const .nilIface) (.iface t30 x31) .nilIface) (by kernel_rfl) (aBin_nnil (by kernel_rfl)) ?_
  refine s_nil ?_
  refine k28 _ _ ?_
  refine w_cond true (by kernel_rfl) rfl (fun _ => ?_) (fun h => by cases h)
  refine w_seqk fun K96 k96 => ?_
  refine w_reg (by kernel_rfl) ?_
  refine s_qk (.iface t30 x31) (by kernel_rfl) ?_
  refine s_qk (.iface t30 x31) (by kernel_rfl) ?_
  refine s_nil ?_
  refine k96 _ _ ?_
  refine w_ret (th_ret ?_)
  refine b_ret (fn := Try.f49) (vs := [.iface t30 x31]) (aRes_tmp (by kernel_rfl) (rfl)) ?_
  obtain rfl := Option.some.inj r95
  exact ⟨(.iface t30 x31), f22, rfl, (FrS.step wf ((FrS.refl (W := []) wf).extR e9) e24 Inn.nil), m25, (i26.fresh e9.next)⟩

theorem c_search_free {H : AH} {r : Unit}
  (wf : WF H) (hr : z_search_free = some r) :
  ACalls Try.prog 51 #[] H fun v H' => v = .agg #[.int .i64 4611686018427387904, .int .i64 4611686018427387904, .int .u64 18446744073709551615] ∧ FrS [] H H' := by
 refine acalls_of_body mixed Try.func51 rfl (Nat.le_of_ble_eq_true rfl) ?_
 unfold z_search_free at hr
 refine w_seqk fun K1 k1 => ?_
 refine w_reg (by kernel_rfl) ?_
 refine s_rwk wf [.int .i64 0, .int .i64 0, .int .u64 0] (by kernel_rfl) fun b2 H3 e4 hb5 r6 => ?_
 refine s_nil ?_
 refine k1 _ _ ?_
 refine w_seqk fun K8 k8 => ?_
 refine w_reg (by kernel_rfl) ?_
 refine s_qk (.agg #[.int .i64 4611686018427387904, .int .i64 4611686018427387904, .int .u64 18446744073709551615]) (by kernel_rfl) ?_
 obtain ⟨H9, q10, e11, r12⟩ := Row.store (P := Try.prog) (t := 95) (p := 0) e4.wf r6 (.agg #[.int .i64 4611686018427387904, .int .i64 4611686018427387904, .int .u64 18446744073709551615]) [.int .i64 4611686018427387904, .int .i64 4611686018427387904, .int .u64 18446744073709551615] (by kernel_rfl) (by kernel_rfl) (one_cons (rfl) (one_cons (rfl) (one_cons (rfl) (one_nil)))) (Nat.le_of_ble_eq_true (by kernel_rfl)) [.int .i64 4611686018427387904, .int .i64 4611686018427387904, .int .u64 18446744073709551615] (by kernel_rfl)
 refine s_ek (undef) (by kernel_rfl) (map_ok q10) ?_
 refine s_nil ?_
 refine k8 _ _ ?_
 refine w_ret ?_
 refine b_ret (fn := Try.f51) (vs := [.agg #[.int .i64 4611686018427387904, .int .i64 4611686018427387904, .int .u64 18446744073709551615]]) (aRes_cell (Eq.trans (b := aLoad Try.prog 95 (.pointer (some ⟨b2, 0, none⟩)) H9) (by kernel_rfl) (r12.ld (by kernel_rfl))) (rfl)) ?_
 obtain rfl := Option.some.inj hr
 exact ⟨rfl, (FrS.step wf ((FrS.refl (W := []) wf).extR e4) e11 (hb5.fresh (Nat.le_refl _)))⟩

theorem c_heap_New {H : AH} {n_ : Int} {r : (Unit) ⊕ (List (Int))}
  (wf : WF H) (hr : z_heap_New n_ = some r) :
  ACalls Try.prog 71 #[.int .i64 n_] H fun v H' => Sum.elim (fun (r : Unit) => v = .tuple #[.pointer none, .iface 82 (.int .i64 1)] ∧ H = H') (fun (r : List (Int)) => ∃ (s3 : Value) (f4 : Fp) (b7 : Nat), v = .tuple #[.pointer (some ⟨b7, 0, none⟩), .nilIface] ∧ FrS [] H H' ∧ Ow (encI .i64) 1 H' s3 r f4 ∧ Row H' b7 [.slice none 0 0, s3] ∧ Inn [] H f4 ∧ Inn [] H [b7] ∧ Dj f4 [b7]) r := by
 refine acalls_of_body mixed Try.func71 rfl (Nat.le_of_ble_eq_true rfl) ?_
 unfold z_heap_New at hr
 refine w_seqk fun K11 k11 => ?_
 refine w_reg (by kernel_rfl) ?_
 refine s_qk (.pointer none) (by kernel_rfl) ?_
 refine s_qk (.nilIface) (by kernel_rfl) ?_
 refine s_nil ?_
 refine k11 _ _ ?_
 refine w_seqk fun K12 k12 => ?_
 refine w_seqk fun K13 k13 => ?_
 obtain ⟨o14, hx15, r16⟩ := bind_some hr
 refine w_mid (fun α H17 => Has α [(0, .int .i64 n_), (9, .bool o14)] ∧ H = H17) (fun K19 k19 => ?_) (fun α H17 hM => ?_)
 ·refine w_reg (by kernel_rfl) ?_
  refine s_qk (.int .i64 n_) (by kernel_rfl) ?_
  refine s_b (n_ < 0) (by kernel_rfl) (fun h21 => ?_) (fun h21 => ?_)
  ·have r22 := ite_t h21 hx15
   refine s_qk (.bool true) (by kernel_rfl) ?_
   refine s_no (by kernel_rfl) ?_
   refine s_no (by kernel_rfl) ?_
   refine s_qk (.bool true) (by kernel_rfl) ?_
   refine s_nil ?_
   obtain rfl := Option.some.inj r22
   exact k19 _ _ ⟨⟨by kernel_rfl, by kernel_rfl, trivial⟩, rfl⟩
  ·have r23 := ite_f h21 hx15
   refine s_qk (.bool false) (by kernel_rfl) ?_
   refine s_qk (.int .i64 n_) (by kernel_rfl) ?_
   refine s_qk (.bool (decide (n_ > 65536))) (by kernel_rfl) ?_
   refine s_qk (.bool (decide (n_ > 65536))) (by kernel_rfl) ?_
   refine s_nil ?_
   obtain rfl := Option.some.inj r23
   exact k19 _ _ ⟨⟨by kernel_rfl, by kernel_rfl, trivial⟩, rfl⟩
 ·obtain ⟨hh20, rfl⟩ := hM
  obtain ⟨β, rfl⟩ := has_ex hh20
  clear hh20
  refine k13 _ _ ?_
  refine w_cond (o14) (by kernel_rfl) rfl (fun h24 => ?_) (fun h24 => ?_)
  ·have r25 := ite_t h24 r16
   refine w_seqk fun K26 k26 => ?_
   refine w_reg (by kernel_rfl) ?_
   refine s_qk (.iface 82 (.int .i64 1)) (by kernel_rfl) ?_
   refine s_qk (.pointer none) (by kernel_rfl) ?_
   refine s_qk (.iface 82 (.int .i64 1)) (by kernel_rfl) ?_
   refine s_nil ?_
   refine k26 _ _ ?_
   refine w_ret (th_ret ?_)
   refine b_ret (fn := Try.f71) (vs := [.pointer none, .iface 82 (.int .i64 1)]) (aRes_tmp (by kernel_rfl) (aRes_tmp (by kernel_rfl) (rfl))) ?_
   obtain rfl := Option.some.inj r25
   exact (elimP_l ⟨rfl, rfl⟩)
  ·have r27 := ite_bf h24 r16
   refine w_skip ?_
   refine k12 _ _ ?_
   refine w_seqk fun K28 k28 => ?_
   refine w_reg (by kernel_rfl) ?_
   refine s_qk (.int .i64 n_) (by kernel_rfl) ?_
   obtain ⟨g29, r30⟩ := G_some r27
   refine s_mks (t := 22) (m := 8) (l := n_) (c := n_) (enc := (encI .i64)) (sz := 1) wf (0 : Int) (by kernel_rfl) (by decide) g29.1 (Int.le_refl _) (by omega) (by have := g29; omega) (by kernel_rfl) fun s31 f32 H33 e34 hf35 hm36 => ?_
   obtain ⟨a37, n38, c39, rfl⟩ := hm36.form
   have hm36 : Ow (encI .i64) 1 H33 (.slice a37 n38 c39) (List.replicate n_.toNat (0 : Int)) f32 := hm36
   refine s_qk (.agg #[.slice none 0 0, .slice a37 n38 c39]) (by kernel_rfl) ?_
   refine s_rwl e34.wf [.slice none 0 0, .slice a37 n38 c39] (one_cons (rfl) (one_cons (hm36.one1) (one_nil))) (by kernel_rfl) fun b41 H42 e43 hb44 r45 => ?_
   refine s_qk (.pointer (some ⟨b41, 0, none⟩)) (by kernel_rfl) ?_
   refine s_qk (.nilIface) (by kernel_rfl) ?_
   refine s_nil ?_
   refine k28 _ _ ?_
   refine w_ret ?_
   refine b_ret (fn := Try.f71) (vs := [.pointer (some ⟨b41, 0, none⟩), .nilIface]) (aRes_tmp (by kernel_rfl) (aRes_tmp (by kernel_rfl) (rfl))) ?_
   have u47 := (hm36.ext e43)
   obtain rfl := Option.some.inj r30
   exact (elimP_r ⟨(.slice a37 n38 c39), f32, b41, rfl, (((FrS.refl (W := []) wf).extR e34).extR e43), u47, r45, (hf35.fresh (Nat.le_refl _)), (hb44.fresh e34.next), (Dj.symm (hb44.djn hm36.lt))⟩)

theorem c_stamp_New {H : AH} {n_ : Int} {age : Int} {r : (Unit) ⊕ (List (Int × Int) × Int)}
  (wf : WF H) (hr : z_stamp_New n_ age = some r) :
  ACalls Try.prog 72 #[.int .i64 n_, .int .u32 age] H fun v H' => Sum.elim (fun (r : Unit) => v = .tuple #[.pointer none, .iface 82 (.int .i64 1)] ∧ H = H') (fun (r : List (Int × Int) × Int) => ∃ (s3 : Value) (f4 : Fp) (b7 : Nat), v = .tuple #[.pointer (some ⟨b7, 0, none⟩), .nilIface] ∧ FrS [] H H' ∧ Ow enc_u64_u32 2 H' s3 r.1 f4 ∧ Row H' b7 [s3, .int .u32 r.2, .int .i64 0] ∧ Inn [] H f4 ∧ Inn [] H [b7] ∧ Dj f4 [b7]) r := by
 refine acalls_of_body mixed Try.func72 rfl (Nat.le_of_ble_eq_true rfl) ?_
 unfold z_stamp_New at hr
 refine w_seqk fun K11 k11 => ?_
 refine w_reg (by kernel_rfl) ?_
 refine s_qk (.pointer none) (by kernel_rfl) ?_
 refine s_qk (.nilIface) (by kernel_rfl) ?_
 refine s_nil ?_
 refine k11 _ _ ?_
 refine w_seqk fun K12 k12 => ?_
 refine w_seqk fun K13 k13 => ?_
 obtain ⟨o14, hx15, r16⟩ := bind_some hr
 refine w_mid (fun α H17 => Has α [(0, .int .i64 n_), (1, .int .u32 age), (11, .bool o14)] ∧ H = H17) (fun K19 k19 => ?_) (fun α H17 hM => ?_)
 ·refine w_reg (by kernel_rfl) ?_
  refine s_qk (.int .i64 n_) (by kernel_rfl) ?_
  refine s_b (n_ < 0) (by kernel_rfl) (fun h21 => ?_) (fun h21 => ?_)
  ·have r22 := ite_t h21 hx15
   refine s_qk (.bool true) (by kernel_rfl) ?_
   refine s_no (by kernel_rfl) ?_
   refine s_no (by kernel_rfl) ?_
   refine s_qk (.bool true) (by kernel_rfl) ?_
   refine s_nil ?_
   obtain rfl := Option.some.inj r22
   exact k19 _ _ ⟨⟨by kernel_rfl, by kernel_rfl, by kernel_rfl, trivial⟩, rfl⟩
  ·have r23 := ite_f h21 hx15
   refine s_qk (.bool false) (by kernel_rfl) ?_
   refine s_qk (.int .i64 n_) (by kernel_rfl) ?_
   refine s_qk (.bool (decide (n_ > 65536))) (by kernel_rfl) ?_
   refine s_qk (.bool (decide (n_ > 65536))) (by kernel_rfl) ?_
   refine s_nil ?_
   obtain rfl := Option.some.inj r23
   exact k19 _ _ ⟨⟨by kernel_rfl, by kernel_rfl, by kernel_rfl, trivial⟩, rfl⟩
 ·obtain ⟨hh20, rfl⟩ := hM
  obtain ⟨β, rfl⟩ := has_ex hh20
  clear hh20
  refine k13 _ _ ?_
  refine w_cond (o14) (by kernel_rfl) rfl (fun h24 => ?_) (fun h24 => ?_)
  ·have r25 := ite_t h24 r16
   refine w_seqk fun K26 k26 => ?_
   refine w_reg (by kernel_rfl) ?_
   refine s_qk (.iface 82 (.int .i64 1)) (by kernel_rfl) ?_
   refine s_qk (.pointer none) (by kernel_rfl) ?_
   refine s_qk (.iface 82 (.int .i64 1)) (by kernel_rfl) ?_
   refine s_nil ?_
   refine k26 _ _ ?_
   refine w_ret (th_ret ?_)
   refine b_ret (fn := Try.f72) (vs := [.pointer none, .iface 82 (.int .i64 1)]) (aRes_tmp (by kernel_rfl) (aRes_tmp (by kernel_rfl) (rfl))) ?_
   obtain rfl := Option.some.inj r25
   exact (elimP_l ⟨rfl, rfl⟩)
  ·have r27 := ite_bf h24 r16
   refine w_skip ?_
   refine k12 _ _ ?_
   refine w_seqk fun K28 k28 => ?_
   refine w_reg (by kernel_rfl) ?_
   refine s_qk (.int .i64 n_) (by kernel_rfl) ?_
   obtain ⟨g29, r30⟩ := G_some r27
   refine s_mks (t := 139) (m := 16) (l := n_) (c := n_) (enc := enc_u64_u32) (sz := 2) wf (0, 0) (by kernel_rfl) (by decide) g29.1 (Int.le_refl _) (by omega) (by have := g29; omega) (by kernel_rfl) fun s31 f32 H33 e34 hf35 hm36 => ?_
   obtain ⟨a37, n38, c39, rfl⟩ := hm36.form
   have hm36 : Ow enc_u64_u32 2 H33 (.slice a37 n38 c39) (List.replicate n_.toNat (0, 0)) f32 := hm36
   refine s_qk (.int .u32 age) (by kernel_rfl) ?_
   refine s_ql (.int .u32 (max age 1)) (x := aMax Try.prog [.int .u32 age, .int .u32 1]) (by kernel_rfl) (aMax_two _ _) ?_
   refine s_qk (.agg #[.slice a37 n38 c39, .int .u32 (max age 1), .int .i64 0]) (by kernel_rfl) ?_
   refine s_rwl e34.wf [.slice a37 n38 c39, .int .u32 (max age 1), .int .i64 0] (one_cons (hm36.one1) (one_cons (rfl) (one_cons (rfl) (one_nil)))) (by kernel_rfl) fun b41 H42 e43 hb44 r45 => ?_
   refine s_qk (.pointer (some ⟨b41, 0, none⟩)) (by kernel_rfl) ?_
   refine s_qk (.nilIface) (by kernel_rfl) ?_
   refine s_nil ?_
   refine k28 _ _ ?_
   refine w_ret ?_
   refine b_ret (fn := Try.f72) (vs := [.pointer (some ⟨b41, 0, none⟩), .nilIface]) (aRes_tmp (by kernel_rfl) (aRes_tmp (by kernel_rfl) (rfl))) ?_
   have u47 := (hm36.ext e43)
   obtain rfl := Option.some.inj r30
   exact (elimP_r ⟨(.slice a37 n38 c39), f32, b41, rfl, (((FrS.refl (W := []) wf).extR e34).extR e43), u47, r45, (hf35.fresh (Nat.le_refl _)), (hb44.fresh e34.next), (Dj.symm (hb44.djn hm36.lt))⟩)

theorem c_stamp_Stamp_Set {H : AH} {b_s : Nat} {hd_s_ : Value} {fp_s_ : Fp} {s_ : List (Int × Int)} {s_2 : Int} {s_3 : Int} {i : Int} {v_ : Int} {r : Er × List (Int × Int) × Int}
  (wf : WF H) (h_s_ : Ow enc_u64_u32 2 H hd_s_ s_ fp_s_) (h_s : Row H b_s [hd_s_, .int .u32 s_2, .int .i64 s_3]) (dj_b_s_fp_s_ : Dj [b_s] fp_s_) (hr : z_stamp_Stamp_Set s_ s_2 s_3 i v_ = some r) :
  ACalls Try.prog 86 #[.pointer (some ⟨b_s, 0, none⟩), .int .i64 i, .int .u64 v_] H fun v H' => ∃ (v3 : Value) (f4 : Fp), v = v3 ∧ FrS ([b_s] ++ fp_s_) H H' ∧ Ev 82 123 H' v3 r.1 f4 ∧ Ow enc_u64_u32 2 H' hd_s_ r.2.1 fp_s_ ∧ Row H' b_s [hd_s_, .int .u32 s_2, .int .i64 r.2.2] ∧ Inn [] H f4 := by
 refine acalls_of_body mixed Try.func86 rfl (Nat.le_of_ble_eq_true rfl) ?_
 unfold z_stamp_Stamp_Set at hr
 refine w_seqk fun K10 k10 => ?_
 refine w_reg (by kernel_rfl) ?_
 refine s_qk (.nilIface) (by kernel_rfl) ?_
 refine s_nil ?_
 refine k10 _ _ ?_
 refine w_seqk fun K11 k11 => ?_
 refine w_seqk fun K12 k12 => ?_
 refine w_reg (by kernel_rfl) ?_
 refine s_qk (.pointer (some ⟨b_s, 0, none⟩)) (by kernel_rfl) ?_
 refine s_qk (.bool false) (by kernel_rfl) ?_
 refine s_nil ?_
 refine k12 _ _ ?_
 refine w_cond false (by kernel_rfl) rfl (fun h => by cases h) (fun _ => ?_)
 refine w_skip ?_
 refine k11 _ _ ?_
 refine w_seqk fun K13 k13 => ?_
 refine w_seqk fun K14 k14 => ?_
 obtain ⟨o15, hx16, r17⟩ := bind_some hr
 refine w_mid (fun α H18 => Has α [(0, .pointer (some ⟨b_s, 0, none⟩)), (1, .int .i64 i), (2, .int .u64 v_), (20, .bool o15)] ∧ H = H18) (fun K20 k20 => ?_) (fun α H18 hM => ?_)
 ·refine w_reg (by kernel_rfl) ?_
  refine s_qk (.int .i64 i) (by kernel_rfl) ?_
  refine s_b (i < 0) (by kernel_rfl) (fun h22 => ?_) (fun h22 => ?_)
  ·have r23 := ite_t h22 hx16
   refine s_qk (.bool true) (by kernel_rfl) ?_
   refine s_no (by kernel_rfl) ?_
   refine s_no (by kernel_rfl) ?_
   refine s_no (by kernel_rfl) ?_
   refine s_no (by kernel_rfl) ?_
   refine s_no (by kernel_rfl) ?_
   refine s_no (by kernel_rfl) ?_
   refine s_no (by kernel_rfl) ?_
   refine s_qk (.bool true) (by kernel_rfl) ?_
   refine s_nil ?_
   obtain rfl := Option.some.inj r23
   exact k20 _ _ ⟨⟨by kernel_rfl, by kernel_rfl, by kernel_rfl, by kernel_rfl, trivial⟩, rfl⟩
  ·have r24 := ite_f h22 hx16
   refine s_qk (.bool false) (by kernel_rfl) ?_
   refine s_qk (.int .i64 i) (by kernel_rfl) ?_
   refine s_qk (.pointer (some ⟨b_s, 0, none⟩)) (by kernel_rfl) ?_
   refine s_qk (.pointer (some ⟨b_s, 0, none⟩)) (by kernel_rfl) ?_
   refine s_qk (.pointer (some ⟨b_s, 0, none⟩)) (by kernel_rfl) ?_
   refine s_ql (hd_s_) (x := aLoad Try.prog 139 (.pointer (some ⟨b_s, 0, none⟩)) H) (by kernel_rfl) (h_s.ld (by kernel_rfl)) ?_
   refine s_ql (.int .i64 (s_.length : Int)) (x := aLen Try.prog 139 hd_s_ H) (by kernel_rfl) (h_s_.sq.lenb (by kernel_rfl)) ?_
   refine s_qk (.bool (decide (i ≥ (s_.length : Int)))) (by kernel_rfl) ?_
   refine s_qk (.bool (decide (i ≥ (s_.length : Int)))) (by kernel_rfl) ?_
   refine s_nil ?_
   obtain rfl := Option.some.inj r24
   exact k20 _ _ ⟨⟨by kernel_rfl, by kernel_rfl, by kernel_rfl, by kernel_rfl, trivial⟩, rfl⟩
 ·obtain ⟨hh21, rfl⟩ := hM
  obtain ⟨β, rfl⟩ := has_ex hh21
  clear hh21
  refine k14 _ _ ?_
  refine w_cond (o15) (by kernel_rfl) rfl (fun h25 => ?_) (fun h25 => ?_)
  ·have r26 := ite_t h25 r17
   refine w_seqk fun K27 k27 => ?_
   refine w_reg (by kernel_rfl) ?_
   refine s_qk (.iface 82 (.int .i64 7)) (by kernel_rfl) ?_
   refine s_qk (.iface 82 (.int .i64 7)) (by kernel_rfl) ?_
   refine s_nil ?_
   refine k27 _ _ ?_
   refine w_ret (th_ret ?_)
   refine b_ret (fn := Try.f86) (vs := [.iface 82 (.int .i64 7)]) (aRes_tmp (by kernel_rfl) (rfl)) ?_
   obtain rfl := Option.some.inj r26
   exact ⟨(.iface 82 (.int .i64 7)), [], rfl, (FrS.refl (W := ([b_s] ++ fp_s_)) wf), Ev.no, h_s_, h_s, Inn.nil⟩
  ·have r28 := ite_bf h25 r17
   refine w_skip ?_
   refine k13 _ _ ?_
   refine w_seqk fun K29 k29 => ?_
   refine w_seqk fun K30 k30 => ?_
   refine w_draw [0, 1, 2, 3, 4, 5, 6, 7, 8, 9, 10, 11, 12] (by kernel_rfl) ?_
   refine d_qk (.pointer (some ⟨b_s, 0, none⟩)) (by kernel_rfl) ?_
   refine d_qk (.pointer (some ⟨b_s, 0, none⟩)) (by kernel_rfl) ?_
   refine d_qk (.pointer (some ⟨b_s, 0, none⟩)) (by kernel_rfl) ?_
   refine d_ql (hd_s_) (x := aLoad Try.prog 139 (.pointer (some ⟨b_s, 0, none⟩)) H) (by kernel_rfl) (h_s.ld (by kernel_rfl)) ?_
   refine d_qk (.int .i64 i) (by kernel_rfl) ?_
   obtain ⟨g31, r32⟩ := G_some r28
   refine d_ql (elp hd_s_ 2 i.toNat 0) (x := aIndexAddr Try.prog 139 hd_s_ (.int .i64 i)) (by kernel_rfl) (h_s_.sq.idxb (by kernel_rfl) g31.1 g31.2) ?_
   refine d_ql (elp hd_s_ 2 i.toNat 1) (x := aFieldAddr Try.prog 143 (elp hd_s_ 2 i.toNat 0) 1) (by kernel_rfl) (Sq.fldq (d := 1) h_s_.sq g31.1 g31.2 (by kernel_rfl)) ?_
   refine d_ql (.int .u32 ((gt s_ i).2)) (x := aLoad Try.prog 135 (elp hd_s_ 2 i.toNat 1) H) (by kernel_rfl) (h_s_.sq.ld g31.1 g31.2 (by kernel_rfl)) ?_
   refine d_qk (.pointer (some ⟨b_s, 0, none⟩)) (by kernel_rfl) ?_
   refine d_qk (.pointer (some ⟨b_s, 0, none⟩)) (by kernel_rfl) ?_
   refine d_qk (.pointer (some ⟨b_s, 1, none⟩)) (by kernel_rfl) ?_
   refine d_ql (.int .u32 s_2) (x := aLoad Try.prog 135 (.pointer (some ⟨b_s, 1, none⟩)) H) (by kernel_rfl) (h_s.ld (by kernel_rfl)) ?_
   refine d_qk (.bool (!decide (((gt s_ i).2) = s_2))) (by kernel_rfl) ?_
   refine d_nil ?_
   refine k30 _ _ ?_
   obtain ⟨o33, hx34, r35⟩ := bind_some r32
   refine w_mid (fun α H36 => Has α [(0, .pointer (some ⟨b_s, 0, none⟩)), (1, .int .i64 i), (2, .int .u64 v_)] ∧ FrS [b_s] H H36 ∧ Row H36 b_s [hd_s_, .int .u32 s_2, .int .i64 o33]) (fun K40 k40 => ?_) (fun α H36 hM => ?_)
   ·refine w_condn (((gt s_ i).2) = s_2) (by kernel_rfl) rfl (fun h42 => ?_) (fun h42 => ?_)
    ·have r43 := ite_f h42 hx34
     refine w_reg (by kernel_rfl) ?_
     refine s_qk (.pointer (some ⟨b_s, 0, none⟩)) (by kernel_rfl) ?_
     refine s_qk (.pointer (some ⟨b_s, 0, none⟩)) (by kernel_rfl) ?_
     refine s_qk (.pointer (some ⟨b_s, 2, none⟩)) (by kernel_rfl) ?_
     refine s_ql (.int .i64 s_3) (x := aLoad Try.prog 3 (.pointer (some ⟨b_s, 2, none⟩)) H) (by kernel_rfl) (h_s.ld (by kernel_rfl)) ?_
     obtain ⟨g44, r45⟩ := G_some r43
     refine s_w ((s_3 + 1)) (k := .i64) (x := (s_3 + 1)) (by kernel_rfl) (wrap64 g44) ?_
     refine s_qk (.pointer (some ⟨b_s, 0, none⟩)) (by kernel_rfl) ?_
     refine s_qk (.pointer (some ⟨b_s, 2, none⟩)) (by kernel_rfl) ?_
     obtain ⟨H46, q47, e48, r49⟩ := Row.store (P := Try.prog) (t := 3) (p := 2) wf h_s (.int .i64 (s_3 + 1)) [.int .i64 (s_3 + 1)] (by kernel_rfl) (by kernel_rfl) (one_cons (rfl) (one_nil)) (Nat.le_of_ble_eq_true (by kernel_rfl)) [hd_s_, .int .u32 s_2, .int .i64 (s_3 + 1)] (by kernel_rfl)
     refine s_ek (undef) (by kernel_rfl) (map_ok q47) ?_
     refine s_nil ?_
     obtain rfl := Option.some.inj r45
     exact k40 _ _ ⟨⟨by kernel_rfl, by kernel_rfl, by kernel_rfl, trivial⟩, (FrS.step wf (FrS.refl (W := [b_s]) wf) e48 Inn.refl'), r49⟩
    ·have r50 := ite_t h42 hx34
     refine w_skip ?_
     obtain rfl := Option.some.inj r50
     exact k40 _ _ ⟨⟨by kernel_rfl, by kernel_rfl, by kernel_rfl, trivial⟩, (FrS.refl (W := [b_s]) wf), h_s⟩
   ·obtain ⟨hh41, e37, m39⟩ := hM
    obtain ⟨β, rfl⟩ := has_ex hh41
    clear hh41
    refine k29 _ _ ?_
    refine w_seqk fun K51 k51 => ?_
    refine w_draw [0, 1, 2, 3, 4, 5, 6, 7, 8, 9, 10, 11, 12] (by kernel_rfl) ?_
    refine d_qk (.pointer (some ⟨b_s, 0, none⟩)) (by kernel_rfl) ?_
    refine d_qk (.pointer (some ⟨b_s, 0, none⟩)) (by kernel_rfl) ?_
    refine d_qk (.pointer (some ⟨b_s, 0, none⟩)) (by kernel_rfl) ?_
    refine d_ql (hd_s_) (x := aLoad Try.prog 139 (.pointer (some ⟨b_s, 0, none⟩)) H36) (by kernel_rfl) (m39.ld (by kernel_rfl)) ?_
    refine d_qk (.int .i64 i) (by kernel_rfl) ?_
    refine d_qk (.int .u64 v_) (by kernel_rfl) ?_
    refine d_qk (.pointer (some ⟨b_s, 0, none⟩)) (by kernel_rfl) ?_
    refine d_qk (.pointer (some ⟨b_s, 0, none⟩)) (by kernel_rfl) ?_
    refine d_qk (.pointer (some ⟨b_s, 1, none⟩)) (by kernel_rfl) ?_
    refine d_ql (.int .u32 s_2) (x := aLoad Try.prog 135 (.pointer (some ⟨b_s, 1, none⟩)) H36) (by kernel_rfl) (m39.ld (by kernel_rfl)) ?_
    refine d_qk (.agg #[.int .u64 v_, .int .u32 s_2]) (by kernel_rfl) ?_
    have u52 := (h_s_.fr e37 dj_b_s_fp_s_)
    refine d_ql (elp hd_s_ 2 i.toNat 0) (x := aIndexAddr Try.prog 139 hd_s_ (.int .i64 i)) (by kernel_rfl) (u52.sq.idxb (by kernel_rfl) g31.1 g31.2) ?_
    obtain ⟨H53, q54, e55, hm56⟩ := Ow.store (P := Try.prog) (t := 143) (off := 0) e37.wf u52 g31.1 g31.2 (.agg #[.int .u64 v_, .int .u32 s_2]) [.int .u64 v_, .int .u32 s_2] (by kernel_rfl) (by kernel_rfl) rfl (v_, s_2) (Nat.le_of_ble_eq_true rfl) (by kernel_rfl)
    refine d_ek (undef) (by kernel_rfl) (map_ok q54) (st_nil) ?_
    refine d_nil ?_
    refine k51 _ _ ?_
    refine w_seqk fun K57 k57 => ?_
    refine w_reg (by kernel_rfl) ?_
    refine s_qk (.nilIface) (by kernel_rfl) ?_
    refine s_nil ?_
    refine k57 _ _ ?_
    refine w_ret ?_
    refine b_ret (fn := Try.f86) (vs := [.nilIface]) (aRes_tmp (by kernel_rfl) (rfl)) ?_
    have u58 := (m39.frS e55 (Dj.symm dj_b_s_fp_s_))
    obtain rfl := Option.some.inj r35
    exact ⟨(.nilIface), [], rfl, (FrS.step wf (FrS.step wf (FrS.refl (W := ([b_s] ++ fp_s_)) wf) e37 Inn.left) e55 (Inn.right Inn.refl')), Ev.nil, hm56, u58, Inn.nil⟩

theorem c_heap_Heap_check {H : AH} {b_h : Nat} {hd_h_ : Value} {fp_h_ : Fp} {hd_h_2 : Value} {fp_h_2 : Fp} {h_ : List (Int × Int)} {h_2 : List (Int)} {id_ : Int} {r : Er}
  (wf : WF H) (h_h_ : Sq enc_u64_u32 2 H hd_h_ h_ fp_h_) (h_h_2 : Sq (encI .i64) 1 H hd_h_2 h_2 fp_h_2) (h_h : Row H b_h [hd_h_, hd_h_2]) (hr : z_heap_Heap_check h_ h_2 id_ = some r) :
  ACalls Try.prog 96 #[.pointer (some ⟨b_h, 0, none⟩), .int .u32 id_] H fun v H' => ∃ (v3 : Value) (f4 : Fp), v = v3 ∧ H = H' ∧ Ev 82 123 H' v3 r f4 ∧ Inn [] H f4 := by
 refine acalls_of_body mixed Try.func96 rfl (Nat.le_of_ble_eq_true rfl) ?_
 unfold z_heap_Heap_check at hr
 refine w_seqk fun K6 k6 => ?_
 refine w_reg (by kernel_rfl) ?_
 refine s_qk (.nilIface) (by kernel_rfl) ?_
 refine s_nil ?_
 refine k6 _ _ ?_
 refine w_seqk fun K7 k7 => ?_
 refine w_seqk fun K8 k8 => ?_
 refine w_reg (by kernel_rfl) ?_
 refine s_qk (.pointer (some ⟨b_h, 0, none⟩)) (by kernel_rfl) ?_
 refine s_qk (.bool false) (by kernel_rfl) ?_
 refine s_nil ?_
 refine k8 _ _ ?_
 refine w_cond false (by kernel_rfl) rfl (fun h => by cases h) (fun _ => ?_)
 refine w_skip ?_
 refine k7 _ _ ?_
 refine w_seqk fun K9 k9 => ?_
 refine w_seqk fun K10 k10 => ?_
 refine w_reg (by kernel_rfl) ?_
 refine s_qk (.int .u32 id_) (by kernel_rfl) ?_
 obtain ⟨g11, r12⟩ := G_some hr
 refine s_w (id_) (k := .i64) (x := id_) (by kernel_rfl) (wrap64 g11) ?_
 refine s_qk (.pointer (some ⟨b_h, 0, none⟩)) (by kernel_rfl) ?_
 refine s_qk (.pointer (some ⟨b_h, 0, none⟩)) (by kernel_rfl) ?_
 refine s_qk (.pointer (some ⟨b_h, 1, none⟩)) (by kernel_rfl) ?_
 refine s_ql (hd_h_2) (x := aLoad Try.prog 22 (.pointer (some ⟨b_h, 1, none⟩)) H) (by kernel_rfl) (h_h.ld (by kernel_rfl)) ?_
 refine s_ql (.int .i64 (h_2.length : Int)) (x := aLen Try.prog 22 hd_h_2 H) (by kernel_rfl) (h_h_2.lenb (by kernel_rfl)) ?_
 refine s_qk (.bool (decide (id_ ≥ (h_2.length : Int)))) (by kernel_rfl) ?_
 refine s_nil ?_
 refine k10 _ _ ?_
 refine w_condp (id_ ≥ (h_2.length : Int)) (by kernel_rfl) rfl (fun h13 => ?_) (fun h13 => ?_)
 ·have r14 := ite_t h13 r12
  refine w_seqk fun K15 k15 => ?_
  refine w_reg (by kernel_rfl) ?_
  refine s_qk (.iface 82 (.int .i64 7)) (by kernel_rfl) ?_
  refine s_qk (.iface 82 (.int .i64 7)) (by kernel_rfl) ?_
  refine s_nil ?_
  refine k15 _ _ ?_
  refine w_ret (th_ret ?_)
  refine b_ret (fn := Try.f96) (vs := [.iface 82 (.int .i64 7)]) (aRes_tmp (by kernel_rfl) (rfl)) ?_
  obtain rfl := Option.some.inj r14
  exact ⟨(.iface 82 (.int .i64 7)), [], rfl, rfl, Ev.no, Inn.nil⟩
 ·have r16 := ite_f h13 r12
  refine w_skip ?_
  refine k9 _ _ ?_
  refine w_seqk fun K17 k17 => ?_
  refine w_reg (by kernel_rfl) ?_
  refine s_qk (.nilIface) (by kernel_rfl) ?_
  refine s_nil ?_
  refine k17 _ _ ?_
  refine w_ret ?_
  refine b_ret (fn := Try.f96) (vs := [.nilIface]) (aRes_tmp (by kernel_rfl) (rfl)) ?_
  obtain rfl := Option.some.inj r16
  exact ⟨(.nilIface), [], rfl, rfl, Ev.nil, Inn.nil⟩

theorem c_heap_Heap_put {H : AH} {b_h : Nat} {hd_h_ : Value} {fp_h_ : Fp} {hd_h_2 : Value} {fp_h_2 : Fp} {h_ : List (Int × Int)} {h_2 : List (Int)} {i : Int} {key : Int} {id_ : Int} {r : List (Int × Int) × List (Int)}
  (wf : WF H) (h_h_ : Ow enc_u64_u32 2 H hd_h_ h_ fp_h_) (h_h_2 : Ow (encI .i64) 1 H hd_h_2 h_2 fp_h_2) (h_h : Row H b_h [hd_h_, hd_h_2]) (dj_fp_h__b_h : Dj fp_h_ [b_h]) (dj_fp_h__fp_h_2 : Dj fp_h_ fp_h_2) (hr : z_heap_Heap_put h_ h_2 i key id_ = some r) :
  ACalls Try.prog 97 #[.pointer (some ⟨b_h, 0, none⟩), .int .i64 i, .agg #[.int .u64 key, .int .u32 id_]] H fun v H' => v = .tuple #[] ∧ FrS (fp_h_ ++ fp_h_2) H H' ∧ Ow enc_u64_u32 2 H' hd_h_ r.1 fp_h_ ∧ Ow (encI .i64) 1 H' hd_h_2 r.2 fp_h_2 := by
 refine acalls_of_body mixed Try.func97 rfl (Nat.le_of_ble_eq_true rfl) ?_
 unfold z_heap_Heap_put at hr
 refine w_seqk fun K5 k5 => ?_
 refine w_reg (by kernel_rfl) ?_
 refine s_rwl wf [.int .u64 key, .int .u32 id_] (one_cons (rfl) (one_cons (rfl) (one_nil))) (by kernel_rfl) fun b6 H7 e8 hb9 r10 => ?_
 refine s_nil ?_
 refine k5 _ _ ?_
 refine w_seqk fun K12 k12 => ?_
 refine w_draw [0, 1, 2, 3, 4, 5, 6, 7] (by kernel_rfl) ?_
 refine d_qk (.pointer (some ⟨b_h, 0, none⟩)) (by kernel_rfl) ?_
 refine d_qk (.pointer (some ⟨b_h, 0, none⟩)) (by kernel_rfl) ?_
 refine d_qk (.pointer (some ⟨b_h, 0, none⟩)) (by kernel_rfl) ?_
 have u13 := (h_h.ext e8)
 refine d_ql (hd_h_) (x := aLoad Try.prog 155 (.pointer (some ⟨b_h, 0, none⟩)) H7) (by kernel_rfl) (u13.ld (by kernel_rfl)) ?_
 refine d_qk (.int .i64 i) (by kernel_rfl) ?_
 refine d_ql (.agg #[.int .u64 key, .int .u32 id_]) (x := aLoad Try.prog 161 (.pointer (some ⟨b6, 0, none⟩)) H7) (by kernel_rfl) (r10.ld (by kernel_rfl)) ?_
 obtain ⟨g14, r15⟩ := G_some hr
 have u16 := (h_h_.ext e8)
 refine d_ql (elp hd_h_ 2 i.toNat 0) (x := aIndexAddr Try.prog 155 hd_h_ (.int .i64 i)) (by kernel_rfl) (u16.sq.idxb (by kernel_rfl) g14.1 g14.2) ?_
 obtain ⟨H17, q18, e19, hm20⟩ := Ow.store (P := Try.prog) (t := 161) (off := 0) e8.wf u16 g14.1 g14.2 (.agg #[.int .u64 key, .int .u32 id_]) [.int .u64 key, .int .u32 id_] (by kernel_rfl) (by kernel_rfl) rfl (key, id_) (Nat.le_of_ble_eq_true rfl) (by kernel_rfl)
 refine d_ek (undef) (by kernel_rfl) (map_ok q18) (st_nil) ?_
 refine d_nil ?_
 refine k12 _ _ ?_
 refine w_draw [0, 1, 2, 3, 4, 5, 6, 7, 8, 9] (by kernel_rfl) ?_
 refine d_qk (.pointer (some ⟨b_h, 0, none⟩)) (by kernel_rfl) ?_
 refine d_qk (.pointer (some ⟨b_h, 0, none⟩)) (by kernel_rfl) ?_
 refine d_qk (.pointer (some ⟨b_h, 1, none⟩)) (by kernel_rfl) ?_
 have u21 := (u13.frS e19 dj_fp_h__b_h)
 refine d_ql (hd_h_2) (x := aLoad Try.prog 22 (.pointer (some ⟨b_h, 1, none⟩)) H17) (by kernel_rfl) (u21.ld (by kernel_rfl)) ?_
 refine d_qk (.pointer (some ⟨b6, 1, none⟩)) (by kernel_rfl) ?_
 have u22 := (r10.frS e19 (Dj.symm (hb9.djn h_h_.lt)))
 refine d_ql (.int .u32 id_) (x := aLoad Try.prog 135 (.pointer (some ⟨b6, 1, none⟩)) H17) (by kernel_rfl) (u22.ld (by kernel_rfl)) ?_
 refine d_qk (.int .i64 i) (by kernel_rfl) ?_
 obtain ⟨g23, r24⟩ := G_some r15
 refine d_w ((i + 1)) (k := .i64) (x := (i + 1)) (by kernel_rfl) (wrap64 (by have := g23; omega)) ?_
 obtain ⟨g25, r26⟩ := G_some r24
 have u27 := ((h_h_2.ext e8).fr e19 dj_fp_h__fp_h_2)
 refine d_ql (elp hd_h_2 1 id_.toNat 0) (x := aIndexAddr Try.prog 22 hd_h_2 (.int .u32 id_)) (by kernel_rfl) (u27.sq.idxb (by kernel_rfl) g25.1 g25.2) ?_
 obtain ⟨H28, q29, e30, hm31⟩ := Ow.store (P := Try.prog) (t := 3) (off := 0) e19.wf u27 g25.1 g25.2 (.int .i64 (i + 1)) [.int .i64 (i + 1)] (by kernel_rfl) (by kernel_rfl) rfl (i + 1) (Nat.le_of_ble_eq_true rfl) (by kernel_rfl)
 refine d_ek (undef) (by kernel_rfl) (map_ok q29) (st_nil) ?_
 refine d_nil ?_
 refine b_nrm (fn := Try.f97) (vs := []) (rfl) ?_
 have u32 := (hm20.fr e30 (Dj.symm dj_fp_h__fp_h_2))
 obtain rfl := Option.some.inj r26
 exact ⟨rfl, (FrS.step wf (FrS.step wf ((FrS.refl (W := (fp_h_ ++ fp_h_2)) wf).extR e8) e19 Inn.left) e30 (Inn.right Inn.refl')), u32, hm31⟩


end Go.Vd

/-! (KWj4) -/

set_option maxRecDepth 100000
set_option maxHeartbeats 4000000
set_option linter.unusedVariables false
namespace Go.Vd
open Go.Proofs
attribute [local irreducible] wpSeq wpOrd aWp
theorem c_heap_item_less {H : AH} {key : Int} {id_ : Int} {key_ : Int} {id_2 : Int} {r : Bool}
  (wf : WF H) (hr : z_heap_item_less key id_ key_ id_2 = some r) :
  ACalls Try.prog 112 #[.agg #[.int .u64 key, .int .u32 id_], .agg #[.int .u64 key_, .int .u32 id_2]] H fun v H' => v = .bool r ∧ FrS [] H H' := by
 refine acalls_of_body mixed Try.func112 rfl (Nat.le_of_ble_eq_true rfl) ?_
 unfold z_heap_item_less at hr
 refine w_seqk fun K1 k1 => ?_
 refine w_reg (by kernel_rfl) ?_
 refine s_rwl wf [.int .u64 key, .int .u32 id_] (one_cons (rfl) (one_cons (rfl) (one_nil))) (by kernel_rfl) fun b2 H3 e4 hb5 r6 => ?_
 refine s_rwl e4.wf [.int .u64 key_, .int .u32 id_2] (one_cons (rfl) (one_cons (rfl) (one_nil))) (by kernel_rfl) fun b8 H9 e10 hb11 r12 => ?_
 refine s_qk (.bool false) (by kernel_rfl) ?_
 refine s_nil ?_
 refine k1 _ _ ?_
 refine w_seqk fun K14 k14 => ?_
 refine w_reg (by kernel_rfl) ?_
 refine s_qk (.pointer (some ⟨b2, 0, none⟩)) (by kernel_rfl) ?_
 have u15 := (r6.ext e10)
 refine s_ql (.int .u64 key) (x := aLoad Try.prog 29 (.pointer (some ⟨b2, 0, none⟩)) H9) (by kernel_rfl) (u15.ld (by kernel_rfl)) ?_
 refine s_qk (.pointer (some ⟨b8, 0, none⟩)) (by kernel_rfl) ?_
 refine s_ql (.int .u64 key_) (x := aLoad Try.prog 29 (.pointer (some ⟨b8, 0, none⟩)) H9) (by kernel_rfl) (r12.ld (by kernel_rfl)) ?_
 refine s_b (key < key_) (by kernel_rfl) (fun h16 => ?_) (fun h16 => ?_)
 ·have r17 := ite_t h16 hr
  refine s_qk (.bool true) (by kernel_rfl) ?_
  refine s_no (by kernel_rfl) ?_
  refine s_no (by kernel_rfl) ?_
  refine s_no (by kernel_rfl) ?_
  refine s_no (by kernel_rfl) ?_
  refine s_no (by kernel_rfl) ?_
  refine s_no (by kernel_rfl) ?_
  refine s_no (by kernel_rfl) ?_
  refine s_no (by kernel_rfl) ?_
  refine s_no (by kernel_rfl) ?_
  refine s_no (by kernel_rfl) ?_
  refine s_no (by kernel_rfl) ?_
  refine s_no (by kernel_rfl) ?_
  refine s_qk (.bool true) (by kernel_rfl) ?_
  refine s_qk (.bool true) (by kernel_rfl) ?_
  refine s_nil ?_
  refine k14 _ _ ?_
  refine w_ret ?_
  refine b_ret (fn := Try.f112) (vs := [.bool true]) (aRes_tmp (by kernel_rfl) (rfl)) ?_
  obtain rfl := Option.some.inj r17
  exact ⟨rfl, (((FrS.refl (W := []) wf).extR e4).extR e10)⟩
 ·have r18 := ite_f h16 hr
  refine s_qk (.bool false) (by kernel_rfl) ?_
  refine s_qk (.pointer (some ⟨b2, 0, none⟩)) (by kernel_rfl) ?_
  refine s_ql (.int .u64 key) (x := aLoad Try.prog 29 (.pointer (some ⟨b2, 0, none⟩)) H9) (by kernel_rfl) (u15.ld (by kernel_rfl)) ?_
  refine s_qk (.pointer (some ⟨b8, 0, none⟩)) (by kernel_rfl) ?_
  refine s_ql (.int .u64 key_) (x := aLoad Try.prog 29 (.pointer (some ⟨b8, 0, none⟩)) H9) (by kernel_rfl) (r12.ld (by kernel_rfl)) ?_
  refine s_b (key = key_) (by kernel_rfl) (fun h19 => ?_) (fun h19 => ?_)
  ·have r20 := ite_t h19 r18
   refine s_qk (.bool true) (by kernel_rfl) ?_
   refine s_qk (.pointer (some ⟨b2, 1, none⟩)) (by kernel_rfl) ?_
   refine s_ql (.int .u32 id_) (x := aLoad Try.prog 135 (.pointer (some ⟨b2, 1, none⟩)) H9) (by kernel_rfl) (u15.ld (by kernel_rfl)) ?_
   refine s_qk (.pointer (some ⟨b8, 1, none⟩)) (by kernel_rfl) ?_
   refine s_ql (.int .u32 id_2) (x := aLoad Try.prog 135 (.pointer (some ⟨b8, 1, none⟩)) H9) (by kernel_rfl) (r12.ld (by kernel_rfl)) ?_
   refine s_qk (.bool (decide (id_ < id_2))) (by kernel_rfl) ?_
   refine s_qk (.bool (decide (id_ < id_2))) (by kernel_rfl) ?_
   refine s_qk (.bool (decide (id_ < id_2))) (by kernel_rfl) ?_
   refine s_qk (.bool (decide (id_ < id_2))) (by kernel_rfl) ?_
   refine s_nil ?_
   refine k14 _ _ ?_
   refine w_ret ?_
   refine b_ret (fn := Try.f112) (vs := [.bool (decide (id_ < id_2))]) (aRes_tmp (by kernel_rfl) (rfl)) ?_
   obtain rfl := Option.some.inj r20
   exact ⟨rfl, (((FrS.refl (W := []) wf).extR e4).extR e10)⟩
  ·have r21 := ite_f h19 r18
   refine s_qk (.bool false) (by kernel_rfl) ?_
   refine s_no (by kernel_rfl) ?_
   refine s_no (by kernel_rfl) ?_
   refine s_no (by kernel_rfl) ?_
   refine s_no (by kernel_rfl) ?_
   refine s_no (by kernel_rfl) ?_
   refine s_qk (.bool false) (by kernel_rfl) ?_
   refine s_qk (.bool false) (by kernel_rfl) ?_
   refine s_qk (.bool false) (by kernel_rfl) ?_
   refine s_nil ?_
   refine k14 _ _ ?_
   refine w_ret ?_
   refine b_ret (fn := Try.f112) (vs := [.bool false]) (aRes_tmp (by kernel_rfl) (rfl)) ?_
   obtain rfl := Option.some.inj r21
   exact ⟨rfl, (((FrS.refl (W := []) wf).extR e4).extR e10)⟩

theorem c_heap_Heap_up {H : AH} {b_h : Nat} {hd_h_ : Value} {fp_h_ : Fp} {hd_h_2 : Value} {fp_h_2 : Fp} {h_ : List (Int × Int)} {h_2 : List (Int)} {i : Int} {r : List (Int × Int) × List (Int)}
  (wf : WF H) (h_h_ : Ow enc_u64_u32 2 H hd_h_ h_ fp_h_) (h_h_2 : Ow (encI .i64) 1 H hd_h_2 h_2 fp_h_2) (h_h : Row H b_h [hd_h_, hd_h_2]) (dj_fp_h__b_h : Dj fp_h_ [b_h]) (dj_fp_h__fp_h_2 : Dj fp_h_ fp_h_2) (dj_fp_h_2_b_h : Dj fp_h_2 [b_h]) (hr : z_heap_Heap_up h_ h_2 i = some r) :
  ACalls Try.prog 98 #[.pointer (some ⟨b_h, 0, none⟩), .int .i64 i] H fun v H' => v = .tuple #[] ∧ FrS (fp_h_ ++ fp_h_2) H H' ∧ Ow enc_u64_u32 2 H' hd_h_ r.1 fp_h_ ∧ Ow (encI .i64) 1 H' hd_h_2 r.2 fp_h_2 := by
 refine acalls_of_body mixed Try.func98 rfl (Nat.le_of_ble_eq_true rfl) ?_
 unfold z_heap_Heap_up at hr
 refine w_seqk fun K5 k5 => ?_
 refine w_reg (by kernel_rfl) ?_
 refine s_qk (.pointer (some ⟨b_h, 0, none⟩)) (by kernel_rfl) ?_
 refine s_qk (.pointer (some ⟨b_h, 0, none⟩)) (by kernel_rfl) ?_
 refine s_qk (.pointer (some ⟨b_h, 0, none⟩)) (by kernel_rfl) ?_
 refine s_ql (hd_h_) (x := aLoad Try.prog 155 (.pointer (some ⟨b_h, 0, none⟩)) H) (by kernel_rfl) (h_h.ld (by kernel_rfl)) ?_
 refine s_qk (.int .i64 i) (by kernel_rfl) ?_
 obtain ⟨g6, r7⟩ := G_some hr
 refine s_ql (elp hd_h_ 2 i.toNat 0) (x := aIndexAddr Try.prog 155 hd_h_ (.int .i64 i)) (by kernel_rfl) (h_h_.sq.idxb (by kernel_rfl) g6.1 g6.2) ?_
 refine s_ql (.agg #[.int .u64 ((gt h_ i).1), .int .u32 ((gt h_ i).2)]) (x := aLoad Try.prog 161 (elp hd_h_ 2 i.toNat 0) H) (by kernel_rfl) (h_h_.sq.ld g6.1 g6.2 (by kernel_rfl)) ?_
 refine s_rwk wf [.int .u64 0, .int .u32 0] (by kernel_rfl) fun b8 H9 e10 hb11 r12 => ?_
 obtain ⟨H14, q15, e16, r17⟩ := Row.store (P := Try.prog) (t := 161) (p := 0) e10.wf r12 (.agg #[.int .u64 ((gt h_ i).1), .int .u32 ((gt h_ i).2)]) [.int .u64 ((gt h_ i).1), .int .u32 ((gt h_ i).2)] (by kernel_rfl) (by kernel_rfl) (one_cons (rfl) (one_cons (rfl) (one_nil))) (Nat.le_of_ble_eq_true (by kernel_rfl)) [.int .u64 ((gt h_ i).1), .int .u32 ((gt h_ i).2)] (by kernel_rfl)
 refine s_ek (undef) (by kernel_rfl) (map_ok q15) ?_
 refine s_nil ?_
 refine k5 _ _ ?_
 refine w_seqk fun K18 k18 => ?_
 obtain ⟨o19, hx20, r21⟩ := bind_some r7
 refine w_mid (fun α H22 => Has α [(0, .pointer (some ⟨b_h, 0, none⟩)), (1, .int .i64 o19.2.2), (4, .pointer (some ⟨b8, 0, none⟩))] ∧ FrS (fp_h_ ++ fp_h_2) H14 H22 ∧ Ow enc_u64_u32 2 H22 hd_h_ o19.1 fp_h_ ∧ Ow (encI .i64) 1 H22 hd_h_2 o19.2.1 fp_h_2) (fun K28 k28 => ?_) (fun α H22 hM => ?_)
 ·refine w_block ?_
  obtain ⟨n30, hn31⟩ := loopO_iff.1 hx20
  have u44 := ((h_h_.ext e10).fr e16 (hb11.djn h_h_.lt))
  have u45 := ((h_h_2.ext e10).fr e16 (hb11.djn h_h_2.lt))
  refine w_loopn (fun n α H32 => ∃ (h0 : List (Int × Int)), ∃ (h1 : List (Int)), ∃ (i2 : Int), iterO (fun zz_ => z_heap_Heap_up_l0 h_ i zz_.1 zz_.2.1 zz_.2.2) n (h0, h1, i2) = some o19 ∧ Has α [(0, .pointer (some ⟨b_h, 0, none⟩)), (1, .int .i64 i2), (4, .pointer (some ⟨b8, 0, none⟩))] ∧ FrS (fp_h_ ++ fp_h_2) H14 H32 ∧ Ow enc_u64_u32 2 H32 hd_h_ h0 fp_h_ ∧ Ow (encI .i64) 1 H32 hd_h_2 h1 fp_h_2) n30 ⟨h_, h_2, i, hn31, ⟨by kernel_rfl, by kernel_rfl, by kernel_rfl, trivial⟩, (FrS.refl (W := (fp_h_ ++ fp_h_2)) e16.wf), u44, u45⟩ ?_
  rintro n30 α H32 ⟨h0, h1, i2, hi39, hh38, e33, m35, m37⟩ K46 k46
  obtain ⟨n40, z41, rfl, hz42, hn43⟩ := iter_succ hi39
  obtain ⟨β, rfl⟩ := has_ex hh38
  clear hh38
  replace hz42 : z_heap_Heap_up_l0 h_ i h0 h1 i2 = some z41 := hz42
  unfold z_heap_Heap_up_l0 at hz42
  refine w_seqk fun K47 k47 => ?_
  refine w_seqk fun K48 k48 => ?_
  refine w_reg (by kernel_rfl) ?_
  refine s_qk (.int .i64 i2) (by kernel_rfl) ?_
  refine s_qk (.bool (decide (i2 > 0))) (by kernel_rfl) ?_
  refine s_nil ?_
  refine k48 _ _ ?_
  refine w_condp (i2 > 0) (by kernel_rfl) rfl (fun h49 => ?_) (fun h49 => ?_)
  ·have r50 := ite_t h49 hz42
   refine w_skip ?_
   refine k47 _ _ ?_
   refine w_block ?_
   refine w_seqk fun K51 k51 => ?_
   refine w_reg (by kernel_rfl) ?_
   refine s_qk (.int .i64 i2) (by kernel_rfl) ?_
   obtain ⟨g52, r53⟩ := G_some r50
   refine s_w ((i2 - 1)) (k := .i64) (x := (i2 - 1)) (by kernel_rfl) (wrap64 g52) ?_
   obtain ⟨g54, r55⟩ := G_some r53
   refine s_w ((Int.tdiv (i2 - 1) 4)) (k := .i64) (x := (Int.tdiv (i2 - 1) 4)) (by kernel_rfl) (wrap64 g54) ?_
   refine s_qk (.int .i64 (Int.tdiv (i2 - 1) 4)) (by kernel_rfl) ?_
   refine s_nil ?_
   refine k51 _ _ ?_
   refine w_seqk fun K56 k56 => ?_
   refine w_seqk fun K57 k57 => ?_
   refine w_draw [0, 1, 2, 3, 4, 5, 6, 7, 8, 9] (by kernel_rfl) ?_
   have u58 := (r17.frS e33 (Dj.app (Dj.symm (hb11.djn h_h_.lt)) (Dj.symm (hb11.djn h_h_2.lt))))
   refine d_ql (.agg #[.int .u64 ((gt h_ i).1), .int .u32 ((gt h_ i).2)]) (x := aLoad Try.prog 161 (.pointer (some ⟨b8, 0, none⟩)) H32) (by kernel_rfl) (u58.ld (by kernel_rfl)) ?_
   refine d_qk (.pointer (some ⟨b_h, 0, none⟩)) (by kernel_rfl) ?_
   refine d_qk (.pointer (some ⟨b_h, 0, none⟩)) (by kernel_rfl) ?_
   refine d_qk (.pointer (some ⟨b_h, 0, none⟩)) (by kernel_rfl) ?_
   have u59 := (((h_h.ext e10).frS e16 (hb11.djn h_h.ltF)).frS e33 (Dj.app dj_fp_h__b_h dj_fp_h_2_b_h))
   refine d_ql (hd_h_) (x := aLoad Try.prog 155 (.pointer (some ⟨b_h, 0, none⟩)) H32) (by kernel_rfl) (u59.ld (by kernel_rfl)) ?_
   refine d_qk (.int .i64 (Int.tdiv (i2 - 1) 4)) (by kernel_rfl) ?_
   obtain ⟨g60, r61⟩ := G_some r55
   refine d_ql (elp hd_h_ 2 (Int.tdiv (i2 - 1) 4).toNat 0) (x := aIndexAddr Try.prog 155 hd_h_ (.int .i64 (Int.tdiv (i2 - 1) 4))) (by kernel_rfl) (m35.sq.idxb (by kernel_rfl) g60.1 g60.2) ?_
   refine d_ql (.agg #[.int .u64 ((gt h0 (Int.tdiv (i2 - 1) 4)).1), .int .u32 ((gt h0 (Int.tdiv (i2 - 1) 4)).2)]) (x := aLoad Try.prog 161 (elp hd_h_ 2 (Int.tdiv (i2 - 1) 4).toNat 0) H32) (by kernel_rfl) (m35.sq.ld g60.1 g60.2 (by kernel_rfl)) ?_
   obtain ⟨y62, hy63, r64⟩ := bind_some r61
   refine d_ck 112 #[.agg #[.int .u64 ((gt h_ i).1), .int .u32 ((gt h_ i).2)], .agg #[.int .u64 ((gt h0 (Int.tdiv (i2 - 1) 4)).1), .int .u32 ((gt h0 (Int.tdiv (i2 - 1) 4)).2)]] (by kernel_rfl) (c_heap_item_less e33.wf hy63) ?_
   rintro _ H65 ⟨rfl, e66⟩
   refine ⟨st_nil, ?_⟩
   refine d_qk (.bool (!y62)) (by kernel_rfl) ?_
   refine d_nil ?_
   refine k57 _ _ ?_
   refine w_cond ((!y62)) (by kernel_rfl) rfl (fun h67 => ?_) (fun h67 => ?_)
   ·have r68 := ite_t h67 r64
    refine w_exit (th_exit (bl_ne (by decide) (th_exit (bl_eq ?_))))
    have u69 := (m35.fr e66 Dj.nil_l)
    have u70 := (m37.fr e66 Dj.nil_l)
    obtain rfl := Option.some.inj r68
    obtain rfl := it_inr hn43
    exact k28 _ _ ⟨⟨by kernel_rfl, by kernel_rfl, by kernel_rfl, trivial⟩, (FrS.step e16.wf (FrS.step e16.wf (FrS.refl (W := (fp_h_ ++ fp_h_2)) e16.wf) e33 (Inn.app Inn.left (Inn.right Inn.refl'))) e66 Inn.nil), u69, u70⟩
   ·have r71 := ite_bf h67 r64
    refine w_skip ?_
    refine k56 _ _ ?_
    refine w_seqk fun K72 k72 => ?_
    refine w_reg (by kernel_rfl) ?_
    refine s_qk (.pointer (some ⟨b_h, 0, none⟩)) (by kernel_rfl) ?_
    refine s_qk (.int .i64 i2) (by kernel_rfl) ?_
    refine s_qk (.pointer (some ⟨b_h, 0, none⟩)) (by kernel_rfl) ?_
    refine s_qk (.pointer (some ⟨b_h, 0, none⟩)) (by kernel_rfl) ?_
    refine s_qk (.pointer (some ⟨b_h, 0, none⟩)) (by kernel_rfl) ?_
    have u73 := (u59.frS e66 Dj.nil_l)
    refine s_ql (hd_h_) (x := aLoad Try.prog 155 (.pointer (some ⟨b_h, 0, none⟩)) H65) (by kernel_rfl) (u73.ld (by kernel_rfl)) ?_
    refine s_qk (.int .i64 (Int.tdiv (i2 - 1) 4)) (by kernel_rfl) ?_
    have u74 := (m35.fr e66 Dj.nil_l)
    refine s_ql (elp hd_h_ 2 (Int.tdiv (i2 - 1) 4).toNat 0) (x := aIndexAddr Try.prog 155 hd_h_ (.int .i64 (Int.tdiv (i2 - 1) 4))) (by kernel_rfl) (u74.sq.idxb (by kernel_rfl) g60.1 g60.2) ?_
    refine s_ql (.agg #[.int .u64 ((gt h0 (Int.tdiv (i2 - 1) 4)).1), .int .u32 ((gt h0 (Int.tdiv (i2 - 1) 4)).2)]) (x := aLoad Try.prog 161 (elp hd_h_ 2 (Int.tdiv (i2 - 1) 4).toNat 0) H65) (by kernel_rfl) (u74.sq.ld g60.1 g60.2 (by kernel_rfl)) ?_
    have u75 := (m37.fr e66 Dj.nil_l)
    obtain ⟨y76, hy77, r78⟩ := bind_some r71
    refine s_ck 97 #[.pointer (some ⟨b_h, 0, none⟩), .int .i64 i2, .agg #[.int .u64 ((gt h0 (Int.tdiv (i2 - 1) 4)).1), .int .u32 ((gt h0 (Int.tdiv (i2 - 1) 4)).2)]] (by kernel_rfl) (c_heap_Heap_put e66.wf u74 u75 u73 dj_fp_h__b_h dj_fp_h__fp_h_2 hy77) ?_
    rintro _ H79 ⟨rfl, e80, m81, m82⟩
    refine s_nil ?_
    refine k72 _ _ ?_
    refine w_reg (by kernel_rfl) ?_
    refine s_qk (.int .i64 (Int.tdiv (i2 - 1) 4)) (by kernel_rfl) ?_
    refine s_qk (.int .i64 (Int.tdiv (i2 - 1) 4)) (by kernel_rfl) ?_
    refine s_nil ?_
    obtain rfl := Option.some.inj r78
    exact k46 n40 _ _ (Nat.lt_succ_self _) ⟨y76.1, y76.2, (Int.tdiv (i2 - 1) 4), hn43, ⟨by kernel_rfl, by kernel_rfl, by kernel_rfl, trivial⟩, (FrS.step e16.wf (FrS.step e16.wf (FrS.step e16.wf (FrS.refl (W := (fp_h_ ++ fp_h_2)) e16.wf) e33 (Inn.app Inn.left (Inn.right Inn.refl'))) e66 Inn.nil) e80 (Inn.app Inn.left (Inn.right Inn.refl'))), m81, m82⟩
  ·have r83 := ite_f h49 hz42
   refine w_exit (th_exit (th_exit (bl_eq ?_)))
   obtain rfl := Option.some.inj r83
   obtain rfl := it_inr hn43
   exact k28 _ _ ⟨⟨by kernel_rfl, by kernel_rfl, by kernel_rfl, trivial⟩, (FrS.step e16.wf (FrS.refl (W := (fp_h_ ++ fp_h_2)) e16.wf) e33 (Inn.app Inn.left (Inn.right Inn.refl'))), m35, m37⟩
 ·obtain ⟨hh29, e23, m25, m27⟩ := hM
  obtain ⟨β, rfl⟩ := has_ex hh29
  clear hh29
  refine k18 _ _ ?_
  refine w_reg (by kernel_rfl) ?_
  refine s_qk (.pointer (some ⟨b_h, 0, none⟩)) (by kernel_rfl) ?_
  refine s_qk (.int .i64 o19.2.2) (by kernel_rfl) ?_
  have u84 := (r17.frS e23 (Dj.app (Dj.symm (hb11.djn h_h_.lt)) (Dj.symm (hb11.djn h_h_2.lt))))
  refine s_ql (.agg #[.int .u64 ((gt h_ i).1), .int .u32 ((gt h_ i).2)]) (x := aLoad Try.prog 161 (.pointer (some ⟨b8, 0, none⟩)) H22) (by kernel_rfl) (u84.ld (by kernel_rfl)) ?_
  have u85 := (((h_h.ext e10).frS e16 (hb11.djn h_h.ltF)).frS e23 (Dj.app dj_fp_h__b_h dj_fp_h_2_b_h))
  obtain ⟨y86, hy87, r88⟩ := bind_some r21
  refine s_ck 97 #[.pointer (some ⟨b_h, 0, none⟩), .int .i64 o19.2.2, .agg #[.int .u64 ((gt h_ i).1), .int .u32 ((gt h_ i).2)]] (by kernel_rfl) (c_heap_Heap_put e23.wf m25 m27 u85 dj_fp_h__b_h dj_fp_h__fp_h_2 hy87) ?_
  rintro _ H89 ⟨rfl, e90, m91, m92⟩
  refine s_nil ?_
  refine b_nrm (fn := Try.f98) (vs := []) (rfl) ?_
  obtain rfl := Option.some.inj r88
  exact ⟨rfl, (FrS.step wf (FrS.step wf (FrS.step wf ((FrS.refl (W := (fp_h_ ++ fp_h_2)) wf).extR e10) e16 (hb11.fresh (Nat.le_refl _))) e23 (Inn.app Inn.left (Inn.right Inn.refl'))) e90 (Inn.app Inn.left (Inn.right Inn.refl'))), m91, m92⟩

theorem c_heap_Heap_down {H : AH} {b_h : Nat} {hd_h_ : Value} {fp_h_ : Fp} {hd_h_2 : Value} {fp_h_2 : Fp} {h_ : List (Int × Int)} {h_2 : List (Int)} {i : Int} {r : List (Int × Int) × List (Int)}
  (wf : WF H) (h_h_ : Ow enc_u64_u32 2 H hd_h_ h_ fp_h_) (h_h_2 : Ow (encI .i64) 1 H hd_h_2 h_2 fp_h_2) (h_h : Row H b_h [hd_h_, hd_h_2]) (dj_fp_h__b_h : Dj fp_h_ [b_h]) (dj_fp_h__fp_h_2 : Dj fp_h_ fp_h_2) (dj_fp_h_2_b_h : Dj fp_h_2 [b_h]) (hr : z_heap_Heap_down h_ h_2 i = some r) :
  ACalls Try.prog 99 #[.pointer (some ⟨b_h, 0, none⟩), .int .i64 i] H fun v H' => v = .tuple #[] ∧ FrS (fp_h_ ++ fp_h_2) H H' ∧ Ow enc_u64_u32 2 H' hd_h_ r.1 fp_h_ ∧ Ow (encI .i64) 1 H' hd_h_2 r.2 fp_h_2 := by
 refine acalls_of_body mixed Try.func99 rfl (Nat.le_of_ble_eq_true rfl) ?_
 unfold z_heap_Heap_down at hr
 refine w_seqk fun K5 k5 => ?_
 refine w_reg (by kernel_rfl) ?_
 refine s_qk (.pointer (some ⟨b_h, 0, none⟩)) (by kernel_rfl) ?_
 refine s_qk (.pointer (some ⟨b_h, 0, none⟩)) (by kernel_rfl) ?_
 refine s_qk (.pointer (some ⟨b_h, 0, none⟩)) (by kernel_rfl) ?_
 refine s_ql (hd_h_) (x := aLoad Try.prog 155 (.pointer (some ⟨b_h, 0, none⟩)) H) (by kernel_rfl) (h_h.ld (by kernel_rfl)) ?_
 refine s_qk (.int .i64 i) (by kernel_rfl) ?_
 obtain ⟨g6, r7⟩ := G_some hr
 refine s_ql (elp hd_h_ 2 i.toNat 0) (x := aIndexAddr Try.prog 155 hd_h_ (.int .i64 i)) (by kernel_rfl) (h_h_.sq.idxb (by kernel_rfl) g6.1 g6.2) ?_
 refine s_ql (.agg #[.int .u64 ((gt h_ i).1), .int .u32 ((gt h_ i).2)]) (x := aLoad Try.prog 161 (elp hd_h_ 2 i.toNat 0) H) (by kernel_rfl) (h_h_.sq.ld g6.1 g6.2 (by kernel_rfl)) ?_
 refine s_rwk wf [.int .u64 0, .int .u32 0] (by kernel_rfl) fun b8 H9 e10 hb11 r12 => ?_
 obtain ⟨H14, q15, e16, r17⟩ := Row.store (P := Try.prog) (t := 161) (p := 0) e10.wf r12 (.agg #[.int .u64 ((gt h_ i).1), .int .u32 ((gt h_ i).2)]) [.int .u64 ((gt h_ i).1), .int .u32 ((gt h_ i).2)] (by kernel_rfl) (by kernel_rfl) (one_cons (rfl) (one_cons (rfl) (one_nil))) (Nat.le_of_ble_eq_true (by kernel_rfl)) [.int .u64 ((gt h_ i).1), .int .u32 ((gt h_ i).2)] (by kernel_rfl)
 refine s_ek (undef) (by kernel_rfl) (map_ok q15) ?_
 refine s_nil ?_
 refine k5 _ _ ?_
 refine w_seqk fun K18 k18 => ?_
 obtain ⟨o19, hx20, r21⟩ := bind_some r7
 refine w_mid (fun α H22 => Has α [(0, .pointer (some ⟨b_h, 0, none⟩)), (1, .int .i64 o19.2.2), (4, .pointer (some ⟨b8, 0, none⟩))] ∧ FrS (fp_h_ ++ fp_h_2) H14 H22 ∧ Ow enc_u64_u32 2 H22 hd_h_ o19.1 fp_h_ ∧ Ow (encI .i64) 1 H22 hd_h_2 o19.2.1 fp_h_2) (fun K28 k28 => ?_) (fun α H22 hM => ?_)
 ·refine w_block ?_
  obtain ⟨n30, hn31⟩ := loopO_iff.1 hx20
  have u44 := ((h_h_.ext e10).fr e16 (hb11.djn h_h_.lt))
  have u45 := ((h_h_2.ext e10).fr e16 (hb11.djn h_h_2.lt))
  refine w_loopn (fun n α H32 => ∃ (h2 : List (Int × Int)), ∃ (h3 : List (Int)), ∃ (i4 : Int), iterO (fun zz_ => z_heap_Heap_down_l1 h_ i zz_.1 zz_.2.1 zz_.2.2) n (h2, h3, i4) = some o19 ∧ Has α [(0, .pointer (some ⟨b_h, 0, none⟩)), (1, .int .i64 i4), (4, .pointer (some ⟨b8, 0, none⟩))] ∧ FrS (fp_h_ ++ fp_h_2) H14 H32 ∧ Ow enc_u64_u32 2 H32 hd_h_ h2 fp_h_ ∧ Ow (encI .i64) 1 H32 hd_h_2 h3 fp_h_2) n30 ⟨h_, h_2, i, hn31, ⟨by kernel_rfl, by kernel_rfl, by kernel_rfl, trivial⟩, (FrS.refl (W := (fp_h_ ++ fp_h_2)) e16.wf), u44, u45⟩ ?_
  rintro n30 α H32 ⟨h2, h3, i4, hi39, hh38, e33, m35, m37⟩ K46 k46
  obtain ⟨n40, z41, rfl, hz42, hn43⟩ := iter_succ hi39
  obtain ⟨β, rfl⟩ := has_ex hh38
  clear hh38
  replace hz42 : z_heap_Heap_down_l1 h_ i h2 h3 i4 = some z41 := hz42
  unfold z_heap_Heap_down_l1 at hz42
  refine w_block ?_
  refine w_seqk fun K47 k47 => ?_
  refine w_reg (by kernel_rfl) ?_
  refine s_qk (.int .i64 (-1)) (by kernel_rfl) ?_
  refine s_nil ?_
  refine k47 _ _ ?_
  refine w_seqk fun K48 k48 => ?_
  refine w_seqk fun K49 k49 => ?_
  refine w_reg (by kernel_rfl) ?_
  refine s_qk (.int .i64 0) (by kernel_rfl) ?_
  refine s_nil ?_
  refine k49 _ _ ?_
  obtain ⟨o50, hx51, r52⟩ := bind_some hz42
  refine w_mid (fun α H53 => Has α [(0, .pointer (some ⟨b_h, 0, none⟩)), (1, .int .i64 i4), (4, .pointer (some ⟨b8, 0, none⟩)), (5, .int .i64 o50)] ∧ FrS [] H32 H53) (fun K55 k55 => ?_) (fun α H53 hM => ?_)
  ·refine w_block ?_
   obtain ⟨n57, hn58⟩ := loopO_iff.1 hx51
   refine w_loopn (fun n α H59 => ∃ (i0 : Int), ∃ (best1 : Int), iterO (fun zz_ => z_heap_Heap_down_l0 h2 i4 zz_.1 zz_.2) n (i0, best1) = some o50 ∧ Has α [(0, .pointer (some ⟨b_h, 0, none⟩)), (1, .int .i64 i4), (4, .pointer (some ⟨b8, 0, none⟩)), (5, .int .i64 best1), (15, .int .i64 i0)] ∧ FrS [] H32 H59) n57 ⟨0, (-1), hn58, ⟨by kernel_rfl, by kernel_rfl, by kernel_rfl, by kernel_rfl, by kernel_rfl, trivial⟩, (FrS.refl (W := []) e33.wf)⟩ ?_
   rintro n57 α H59 ⟨i0, best1, hi62, hh61, e60⟩ K67 k67
   obtain ⟨n63, z64, rfl, hz65, hn66⟩ := iter_succ hi62
   obtain ⟨β, rfl⟩ := has_ex hh61
   clear hh61
   replace hz65 : z_heap_Heap_down_l0 h2 i4 i0 best1 = some z64 := hz65
   unfold z_heap_Heap_down_l0 at hz65
   refine w_seqk fun K68 k68 => ?_
   refine w_reg (by kernel_rfl) ?_
   refine s_qk (.bool (decide (i0 < 4))) (by kernel_rfl) ?_
   refine s_nil ?_
   refine k68 _ _ ?_
   refine w_seqk fun K69 k69 => ?_
   refine w_condp (i0 < 4) (by kernel_rfl) rfl (fun h70 => ?_) (fun h70 => ?_)
   ·have r71 := ite_t h70 hz65
    refine w_skip ?_
    refine k69 _ _ ?_
    refine w_seqk fun K72 k72 => ?_
    refine w_block ?_
    refine w_seqk fun K73 k73 => ?_
    refine w_reg (by kernel_rfl) ?_
    refine s_qk (.int .i64 i0) (by kernel_rfl) ?_
    refine s_qk (.int .i64 i0) (by kernel_rfl) ?_
    refine s_nil ?_
    refine k73 _ _ ?_
    refine w_seqk fun K74 k74 => ?_
    refine w_reg (by kernel_rfl) ?_
    refine s_qk (.int .i64 i4) (by kernel_rfl) ?_
    obtain ⟨g75, r76⟩ := G_some r71
    refine s_w ((i4 * 4)) (k := .i64) (x := (i4 * 4)) (by kernel_rfl) (wrap64 g75) ?_
    obtain ⟨g77, r78⟩ := G_some r76
    refine s_w (((i4 * 4) + 1)) (k := .i64) (x := ((i4 * 4) + 1)) (by kernel_rfl) (wrap64 g77) ?_
    refine s_qk (.int .i64 i0) (by kernel_rfl) ?_
    obtain ⟨g79, r80⟩ := G_some r78
    refine s_w ((((i4 * 4) + 1) + i0)) (k := .i64) (x := (((i4 * 4) + 1) + i0)) (by kernel_rfl) (wrap64 g79) ?_
    refine s_qk (.int .i64 (((i4 * 4) + 1) + i0)) (by kernel_rfl) ?_
    refine s_nil ?_
    refine k74 _ _ ?_
    refine w_seqk fun K81 k81 => ?_
    refine w_draw [0, 1, 2, 3, 4, 5, 6, 7, 8, 9, 10, 11, 12, 13, 14, 15, 16, 17, 18, 19, 20, 21, 22, 23, 24, 25, 26, 27] (by kernel_rfl) ?_
    refine d_qk (.int .i64 (((i4 * 4) + 1) + i0)) (by kernel_rfl) ?_
    refine d_qk (.pointer (some ⟨b_h, 0, none⟩)) (by kernel_rfl) ?_
    refine d_qk (.pointer (some ⟨b_h, 0, none⟩)) (by kernel_rfl) ?_
    refine d_qk (.pointer (some ⟨b_h, 0, none⟩)) (by kernel_rfl) ?_
    have u82 := ((((h_h.ext e10).frS e16 (hb11.djn h_h.ltF)).frS e33 (Dj.app dj_fp_h__b_h dj_fp_h_2_b_h)).frS e60 Dj.nil_l)
    refine d_ql (hd_h_) (x := aLoad Try.prog 155 (.pointer (some ⟨b_h, 0, none⟩)) H59) (by kernel_rfl) (u82.ld (by kernel_rfl)) ?_
    have u83 := (m35.fr e60 Dj.nil_l)
    refine d_ql (.int .i64 (h2.length : Int)) (x := aLen Try.prog 155 hd_h_ H59) (by kernel_rfl) (u83.sq.lenb (by kernel_rfl)) ?_
    refine d_b ((((i4 * 4) + 1) + i0) < (h2.length : Int)) (by kernel_rfl) (fun h84 => ?_) (fun h84 => ?_)
    ·have r85 := ite_t h84 r80
     refine d_qk (.bool true) (by kernel_rfl) ?_
     refine d_qk (.int .i64 best1) (by kernel_rfl) ?_
     refine d_b (best1 < 0) (by kernel_rfl) (fun h86 => ?_) (fun h86 => ?_)
     ·have r87 := ite_t h86 r85
      refine d_qk (.bool true) (by kernel_rfl) ?_
      refine d_idle (by kernel_rfl) ?_
      refine d_idle (by kernel_rfl) ?_
      refine d_idle (by kernel_rfl) ?_
      refine d_idle (by kernel_rfl) ?_
      refine d_idle (by kernel_rfl) ?_
      refine d_idle (by kernel_rfl) ?_
      refine d_idle (by kernel_rfl) ?_
      refine d_idle (by kernel_rfl) ?_
      refine d_idle (by kernel_rfl) ?_
      refine d_idle (by kernel_rfl) ?_
      refine d_idle (by kernel_rfl) ?_
      refine d_idle (by kernel_rfl) ?_
      refine d_idle (by kernel_rfl) ?_
      refine d_idle (by kernel_rfl) ?_
      refine d_idle (by kernel_rfl) ?_
      refine d_qk (.bool true) (by kernel_rfl) ?_
      refine d_qk (.bool true) (by kernel_rfl) ?_
      refine d_nil ?_
      refine k81 _ _ ?_
      refine w_cond true (by kernel_rfl) rfl (fun _ => ?_) (fun h => by cases h)
      refine w_reg (by kernel_rfl) ?_
      refine s_qk (.int .i64 (((i4 * 4) + 1) + i0)) (by kernel_rfl) ?_
      refine s_qk (.int .i64 (((i4 * 4) + 1) + i0)) (by kernel_rfl) ?_
      refine s_nil ?_
      refine k72 _ _ ?_
      refine w_reg (by kernel_rfl) ?_
      obtain ⟨g88, r89⟩ := G_some r87
      refine s_w ((i0 + 1)) (k := .i64) (x := (i0 + 1)) (by kernel_rfl) (wrap64 g88) ?_
      refine s_qk (.int .i64 (i0 + 1)) (by kernel_rfl) ?_
      refine s_nil ?_
      obtain rfl := Option.some.inj r89
      exact k67 n63 _ _ (Nat.lt_succ_self _) ⟨(i0 + 1), (((i4 * 4) + 1) + i0), hn66, ⟨by kernel_rfl, by kernel_rfl, by kernel_rfl, by kernel_rfl, by kernel_rfl, trivial⟩, (FrS.step e33.wf (FrS.refl (W := []) e33.wf) e60 Inn.nil)⟩
     ·have r90 := ite_f h86 r85
      refine d_qk (.bool false) (by kernel_rfl) ?_
      refine d_qk (.pointer (some ⟨b_h, 0, none⟩)) (by kernel_rfl) ?_
      refine d_qk (.pointer (some ⟨b_h, 0, none⟩)) (by kernel_rfl) ?_
      refine d_qk (.pointer (some ⟨b_h, 0, none⟩)) (by kernel_rfl) ?_
      refine d_ql (hd_h_) (x := aLoad Try.prog 155 (.pointer (some ⟨b_h, 0, none⟩)) H59) (by kernel_rfl) (u82.ld (by kernel_rfl)) ?_
      refine d_qk (.int .i64 (((i4 * 4) + 1) + i0)) (by kernel_rfl) ?_
      obtain ⟨g91, r92⟩ := G_some r90
      refine d_ql (elp hd_h_ 2 (((i4 * 4) + 1) + i0).toNat 0) (x := aIndexAddr Try.prog 155 hd_h_ (.int .i64 (((i4 * 4) + 1) + i0))) (by kernel_rfl) (u83.sq.idxb (by kernel_rfl) g91 h84) ?_
      refine d_ql (.agg #[.int .u64 ((gt h2 (((i4 * 4) + 1) + i0)).1), .int .u32 ((gt h2 (((i4 * 4) + 1) + i0)).2)]) (x := aLoad Try.prog 161 (elp hd_h_ 2 (((i4 * 4) + 1) + i0).toNat 0) H59) (by kernel_rfl) (u83.sq.ld g91 h84 (by kernel_rfl)) ?_
      refine d_qk (.pointer (some ⟨b_h, 0, none⟩)) (by kernel_rfl) ?_
      refine d_qk (.pointer (some ⟨b_h, 0, none⟩)) (by kernel_rfl) ?_
      refine d_qk (.pointer (some ⟨b_h, 0, none⟩)) (by kernel_rfl) ?_
      refine d_ql (hd_h_) (x := aLoad Try.prog 155 (.pointer (some ⟨b_h, 0, none⟩)) H59) (by kernel_rfl) (u82.ld (by kernel_rfl)) ?_
      refine d_qk (.int .i64 best1) (by kernel_rfl) ?_
      obtain ⟨g93, r94⟩ := G_some r92
      refine d_ql (elp hd_h_ 2 best1.toNat 0) (x := aIndexAddr Try.prog 155 hd_h_ (.int .i64 best1)) (by kernel_rfl) (u83.sq.idxb (by kernel_rfl) g93.1 g93.2) ?_
      refine d_ql (.agg #[.int .u64 ((gt h2 best1).1), .int .u32 ((gt h2 best1).2)]) (x := aLoad Try.prog 161 (elp hd_h_ 2 best1.toNat 0) H59) (by kernel_rfl) (u83.sq.ld g93.1 g93.2 (by kernel_rfl)) ?_
      obtain ⟨y95, hy96, r97⟩ := bind_some r94
      refine d_ck 112 #[.agg #[.int .u64 ((gt h2 (((i4 * 4) + 1) + i0)).1), .int .u32 ((gt h2 (((i4 * 4) + 1) + i0)).2)], .agg #[.int .u64 ((gt h2 best1).1), .int .u32 ((gt h2 best1).2)]] (by kernel_rfl) (c_heap_item_less e60.wf hy96) ?_
      rintro _ H98 ⟨rfl, e99⟩
      refine ⟨st_nil, ?_⟩
      refine d_qk (.bool y95) (by kernel_rfl) ?_
      refine d_qk (.bool y95) (by kernel_rfl) ?_
      refine d_nil ?_
      refine k81 _ _ ?_
      refine w_cond (y95) (by kernel_rfl) rfl (fun h100 => ?_) (fun h100 => ?_)
      ·have r101 := ite_t h100 r97
       refine w_reg (by kernel_rfl) ?_
       refine s_qk (.int .i64 (((i4 * 4) + 1) + i0)) (by kernel_rfl) ?_
       refine s_qk (.int .i64 (((i4 * 4) + 1) + i0)) (by kernel_rfl) ?_
       refine s_nil ?_
       refine k72 _ _ ?_
       refine w_reg (by kernel_rfl) ?_
       obtain ⟨g102, r103⟩ := G_some r101
       refine s_w ((i0 + 1)) (k := .i64) (x := (i0 + 1)) (by kernel_rfl) (wrap64 g102) ?_
       refine s_qk (.int .i64 (i0 + 1)) (by kernel_rfl) ?_
       refine s_nil ?_
       obtain rfl := Option.some.inj r103
       exact k67 n63 _ _ (Nat.lt_succ_self _) ⟨(i0 + 1), (((i4 * 4) + 1) + i0), hn66, ⟨by kernel_rfl, by kernel_rfl, by kernel_rfl, by kernel_rfl, by kernel_rfl, trivial⟩, (FrS.step e33.wf (FrS.step e33.wf (FrS.refl (W := []) e33.wf) e60 Inn.nil) e99 Inn.nil)⟩
      ·have r104 := ite_bf h100 r97
       refine w_skip ?_
       refine k72 _ _ ?_
       refine w_reg (by kernel_rfl) ?_
       obtain ⟨g105, r106⟩ := G_some r104
       refine s_w ((i0 + 1)) (k := .i64) (x := (i0 + 1)) (by kernel_rfl) (wrap64 g105) ?_
       refine s_qk (.int .i64 (i0 + 1)) (by kernel_rfl) ?_
       refine s_nil ?_
       obtain rfl := Option.some.inj r106
       exact k67 n63 _ _ (Nat.lt_succ_self _) ⟨(i0 + 1), best1, hn66, ⟨by kernel_rfl, by kernel_rfl, by kernel_rfl, by kernel_rfl, by kernel_rfl, trivial⟩, (FrS.step e33.wf (FrS.step e33.wf (FrS.refl (W := []) e33.wf) e60 Inn.nil) e99 Inn.nil)⟩
    ·have r107 := ite_f h84 r80
     refine d_qk (.bool false) (by kernel_rfl) ?_
     refine d_idle (by kernel_rfl) ?_
     refine d_idle (by kernel_rfl) ?_
     refine d_idle (by kernel_rfl) ?_
     refine d_idle (by kernel_rfl) ?_
     refine d_idle (by kernel_rfl) ?_
     refine d_idle (by kernel_rfl) ?_
     refine d_idle (by kernel_rfl) ?_
     refine d_idle (by kernel_rfl) ?_
     refine d_idle (by kernel_rfl) ?_
     refine d_idle (by kernel_rfl) ?_
     refine d_idle (by kernel_rfl) ?_
     refine d_idle (by kernel_rfl) ?_
     refine d_idle (by kernel_rfl) ?_
     refine d_idle (by kernel_rfl) ?_
     refine d_idle (by kernel_rfl) ?_
     refine d_idle (by kernel_rfl) ?_
     refine d_idle (by kernel_rfl) ?_
     refine d_idle (by kernel_rfl) ?_
     refine d_idle (by kernel_rfl) ?_
     refine d_qk (.bool false) (by kernel_rfl) ?_
     refine d_nil ?_
     refine k81 _ _ ?_
     refine w_cond false (by kernel_rfl) rfl (fun h => by cases h) (fun _ => ?_)
     refine w_skip ?_
     refine k72 _ _ ?_
     refine w_reg (by kernel_rfl) ?_
     obtain ⟨g108, r109⟩ := G_some r107
     refine s_w ((i0 + 1)) (k := .i64) (x := (i0 + 1)) (by kernel_rfl) (wrap64 g108) ?_
     refine s_qk (.int .i64 (i0 + 1)) (by kernel_rfl) ?_
     refine s_nil ?_
     obtain rfl := Option.some.inj r109
     exact k67 n63 _ _ (Nat.lt_succ_self _) ⟨(i0 + 1), best1, hn66, ⟨by kernel_rfl, by kernel_rfl, by kernel_rfl, by kernel_rfl, by kernel_rfl, trivial⟩, (FrS.step e33.wf (FrS.refl (W := []) e33.wf) e60 Inn.nil)⟩
   ·have r110 := ite_f h70 hz65
    refine w_exit (th_exit (th_exit (bl_eq ?_)))
    obtain rfl := Option.some.inj r110
    obtain rfl := it_inr hn66
    exact k55 _ _ ⟨⟨by kernel_rfl, by kernel_rfl, by kernel_rfl, by kernel_rfl, trivial⟩, (FrS.step e33.wf (FrS.refl (W := []) e33.wf) e60 Inn.nil)⟩
  ·obtain ⟨hh56, e54⟩ := hM
   obtain ⟨β, rfl⟩ := has_ex hh56
   clear hh56
   refine k48 _ _ ?_
   refine w_seqk fun K111 k111 => ?_
   refine w_seqk fun K112 k112 => ?_
   obtain ⟨o113, hx114, r115⟩ := bind_some r52
   refine w_mid (fun α H116 => Has α [(0, .pointer (some ⟨b_h, 0, none⟩)), (1, .int .i64 i4), (4, .pointer (some ⟨b8, 0, none⟩)), (5, .int .i64 o50), (66, .bool o113)] ∧ FrS [] H53 H116) (fun K118 k118 => ?_) (fun α H116 hM => ?_)
   ·refine w_draw [0, 1, 2, 3, 4, 5, 6, 7, 8, 9, 10, 11, 12, 13] (by kernel_rfl) ?_
    refine d_qk (.int .i64 o50) (by kernel_rfl) ?_
    refine d_b (o50 < 0) (by kernel_rfl) (fun h120 => ?_) (fun h120 => ?_)
    ·have r121 := ite_t h120 hx114
     refine d_qk (.bool true) (by kernel_rfl) ?_
     refine d_idle (by kernel_rfl) ?_
     refine d_idle (by kernel_rfl) ?_
     refine d_idle (by kernel_rfl) ?_
     refine d_idle (by kernel_rfl) ?_
     refine d_idle (by kernel_rfl) ?_
     refine d_idle (by kernel_rfl) ?_
     refine d_idle (by kernel_rfl) ?_
     refine d_idle (by kernel_rfl) ?_
     refine d_idle (by kernel_rfl) ?_
     refine d_idle (by kernel_rfl) ?_
     refine d_qk (.bool true) (by kernel_rfl) ?_
     refine d_nil ?_
     obtain rfl := Option.some.inj r121
     exact k118 _ _ ⟨⟨by kernel_rfl, by kernel_rfl, by kernel_rfl, by kernel_rfl, by kernel_rfl, trivial⟩, (FrS.refl (W := []) e54.wf)⟩
    ·have r122 := ite_f h120 hx114
     refine d_qk (.bool false) (by kernel_rfl) ?_
     refine d_qk (.pointer (some ⟨b_h, 0, none⟩)) (by kernel_rfl) ?_
     refine d_qk (.pointer (some ⟨b_h, 0, none⟩)) (by kernel_rfl) ?_
     refine d_qk (.pointer (some ⟨b_h, 0, none⟩)) (by kernel_rfl) ?_
     have u123 := ((((h_h.ext e10).frS e16 (hb11.djn h_h.ltF)).frS e33 (Dj.app dj_fp_h__b_h dj_fp_h_2_b_h)).frS e54 Dj.nil_l)
     refine d_ql (hd_h_) (x := aLoad Try.prog 155 (.pointer (some ⟨b_h, 0, none⟩)) H53) (by kernel_rfl) (u123.ld (by kernel_rfl)) ?_
     refine d_qk (.int .i64 o50) (by kernel_rfl) ?_
     obtain ⟨g124, r125⟩ := G_some r122
     have u126 := (m35.fr e54 Dj.nil_l)
     refine d_ql (elp hd_h_ 2 o50.toNat 0) (x := aIndexAddr Try.prog 155 hd_h_ (.int .i64 o50)) (by kernel_rfl) (u126.sq.idxb (by kernel_rfl) g124.1 g124.2) ?_
     refine d_ql (.agg #[.int .u64 ((gt h2 o50).1), .int .u32 ((gt h2 o50).2)]) (x := aLoad Try.prog 161 (elp hd_h_ 2 o50.toNat 0) H53) (by kernel_rfl) (u126.sq.ld g124.1 g124.2 (by kernel_rfl)) ?_
     have u127 := ((r17.frS e33 (Dj.app (Dj.symm (hb11.djn h_h_.lt)) (Dj.symm (hb11.djn h_h_2.lt)))).frS e54 Dj.nil_l)
     refine d_ql (.agg #[.int .u64 ((gt h_ i).1), .int .u32 ((gt h_ i).2)]) (x := aLoad Try.prog 161 (.pointer (some ⟨b8, 0, none⟩)) H53) (by kernel_rfl) (u127.ld (by kernel_rfl)) ?_
     obtain ⟨y128, hy129, r130⟩ := bind_some r125
     refine d_ck 112 #[.agg #[.int .u64 ((gt h2 o50).1), .int .u32 ((gt h2 o50).2)], .agg #[.int .u64 ((gt h_ i).1), .int .u32 ((gt h_ i).2)]] (by kernel_rfl) (c_heap_item_less e54.wf hy129) ?_
     rintro _ H131 ⟨rfl, e132⟩
     refine ⟨st_nil, ?_⟩
     refine d_qk (.bool (!y128)) (by kernel_rfl) ?_
     refine d_qk (.bool (!y128)) (by kernel_rfl) ?_
     refine d_nil ?_
     obtain rfl := Option.some.inj r130
     exact k118 _ _ ⟨⟨by kernel_rfl, by kernel_rfl, by kernel_rfl, by kernel_rfl, by kernel_rfl, trivial⟩, (FrS.step e54.wf (FrS.refl (W := []) e54.wf) e132 Inn.nil)⟩
   ·obtain ⟨hh119, e117⟩ := hM
    obtain ⟨β, rfl⟩ := has_ex hh119
    clear hh119
    refine k112 _ _ ?_
    refine w_cond (o113) (by kernel_rfl) rfl (fun h133 => ?_) (fun h133 => ?_)
    ·have r134 := ite_t h133 r115
     refine w_exit (th_exit (bl_ne (by decide) (th_exit (bl_eq ?_))))
     have u135 := ((m35.fr e54 Dj.nil_l).fr e117 Dj.nil_l)
     have u136 := ((m37.fr e54 Dj.nil_l).fr e117 Dj.nil_l)
     obtain rfl := Option.some.inj r134
     obtain rfl := it_inr hn43
     exact k28 _ _ ⟨⟨by kernel_rfl, by kernel_rfl, by kernel_rfl, trivial⟩, (FrS.step e16.wf (FrS.step e16.wf (FrS.step e16.wf (FrS.refl (W := (fp_h_ ++ fp_h_2)) e16.wf) e33 (Inn.app Inn.left (Inn.right Inn.refl'))) e54 Inn.nil) e117 Inn.nil), u135, u136⟩
    ·have r137 := ite_bf h133 r115
     refine w_skip ?_
     refine k111 _ _ ?_
     refine w_seqk fun K138 k138 => ?_
     refine w_reg (by kernel_rfl) ?_
     refine s_qk (.pointer (some ⟨b_h, 0, none⟩)) (by kernel_rfl) ?_
     refine s_qk (.int .i64 i4) (by kernel_rfl) ?_
     refine s_qk (.pointer (some ⟨b_h, 0, none⟩)) (by kernel_rfl) ?_
     refine s_qk (.pointer (some ⟨b_h, 0, none⟩)) (by kernel_rfl) ?_
     refine s_qk (.pointer (some ⟨b_h, 0, none⟩)) (by kernel_rfl) ?_
     have u139 := (((((h_h.ext e10).frS e16 (hb11.djn h_h.ltF)).frS e33 (Dj.app dj_fp_h__b_h dj_fp_h_2_b_h)).frS e54 Dj.nil_l).frS e117 Dj.nil_l)
     refine s_ql (hd_h_) (x := aLoad Try.prog 155 (.pointer (some ⟨b_h, 0, none⟩)) H116) (by kernel_rfl) (u139.ld (by kernel_rfl)) ?_
     refine s_qk (.int .i64 o50) (by kernel_rfl) ?_
     obtain ⟨g140, r141⟩ := G_some r137
     have u142 := ((m35.fr e54 Dj.nil_l).fr e117 Dj.nil_l)
     refine s_ql (elp hd_h_ 2 o50.toNat 0) (x := aIndexAddr Try.prog 155 hd_h_ (.int .i64 o50)) (by kernel_rfl) (u142.sq.idxb (by kernel_rfl) g140.1 g140.2) ?_
     refine s_ql (.agg #[.int .u64 ((gt h2 o50).1), .int .u32 ((gt h2 o50).2)]) (x := aLoad Try.prog 161 (elp hd_h_ 2 o50.toNat 0) H116) (by kernel_rfl) (u142.sq.ld g140.1 g140.2 (by kernel_rfl)) ?_
     have u143 := ((m37.fr e54 Dj.nil_l).fr e117 Dj.nil_l)
     obtain ⟨y144, hy145, r146⟩ := bind_some r141
     refine s_ck 97 #[.pointer (some ⟨b_h, 0, none⟩), .int .i64 i4, .agg #[.int .u64 ((gt h2 o50).1), .int .u32 ((gt h2 o50).2)]] (by kernel_rfl) (c_heap_Heap_put e117.wf u142 u143 u139 dj_fp_h__b_h dj_fp_h__fp_h_2 hy145) ?_
     rintro _ H147 ⟨rfl, e148, m149, m150⟩
     refine s_nil ?_
     refine k138 _ _ ?_
     refine w_reg (by kernel_rfl) ?_
     refine s_qk (.int .i64 o50) (by kernel_rfl) ?_
     refine s_qk (.int .i64 o50) (by kernel_rfl) ?_
     refine s_nil ?_
     obtain rfl := Option.some.inj r146
     exact k46 n40 _ _ (Nat.lt_succ_self _) ⟨y144.1, y144.2, o50, hn43, ⟨by kernel_rfl, by kernel_rfl, by kernel_rfl, trivial⟩, (FrS.step e16.wf (FrS.step e16.wf (FrS.step e16.wf (FrS.step e16.wf (FrS.refl (W := (fp_h_ ++ fp_h_2)) e16.wf) e33 (Inn.app Inn.left (Inn.right Inn.refl'))) e54 Inn.nil) e117 Inn.nil) e148 (Inn.app Inn.left (Inn.right Inn.refl'))), m149, m150⟩
 ·obtain ⟨hh29, e23, m25, m27⟩ := hM
  obtain ⟨β, rfl⟩ := has_ex hh29
  clear hh29
  refine k18 _ _ ?_
  refine w_reg (by kernel_rfl) ?_
  refine s_qk (.pointer (some ⟨b_h, 0, none⟩)) (by kernel_rfl) ?_
  refine s_qk (.int .i64 o19.2.2) (by kernel_rfl) ?_
  have u151 := (r17.frS e23 (Dj.app (Dj.symm (hb11.djn h_h_.lt)) (Dj.symm (hb11.djn h_h_2.lt))))
  refine s_ql (.agg #[.int .u64 ((gt h_ i).1), .int .u32 ((gt h_ i).2)]) (x := aLoad Try.prog 161 (.pointer (some ⟨b8, 0, none⟩)) H22) (by kernel_rfl) (u151.ld (by kernel_rfl)) ?_
  have u152 := (((h_h.ext e10).frS e16 (hb11.djn h_h.ltF)).frS e23 (Dj.app dj_fp_h__b_h dj_fp_h_2_b_h))
  obtain ⟨y153, hy154, r155⟩ := bind_some r21
  refine s_ck 97 #[.pointer (some ⟨b_h, 0, none⟩), .int .i64 o19.2.2, .agg #[.int .u64 ((gt h_ i).1), .int .u32 ((gt h_ i).2)]] (by kernel_rfl) (c_heap_Heap_put e23.wf m25 m27 u152 dj_fp_h__b_h dj_fp_h__fp_h_2 hy154) ?_
  rintro _ H156 ⟨rfl, e157, m158, m159⟩
  refine s_nil ?_
  refine b_nrm (fn := Try.f99) (vs := []) (rfl) ?_
  obtain rfl := Option.some.inj r155
  exact ⟨rfl, (FrS.step wf (FrS.step wf (FrS.step wf ((FrS.refl (W := (fp_h_ ++ fp_h_2)) wf).extR e10) e16 (hb11.fresh (Nat.le_refl _))) e23 (Inn.app Inn.left (Inn.right Inn.refl'))) e157 (Inn.app Inn.left (Inn.right Inn.refl'))), m158, m159⟩

theorem c_heap_Heap_Set {H : AH} {b_h : Nat} {hd_h_ : Value} {fp_h_ : Fp} {hd_h_2 : Value} {fp_h_2 : Fp} {h_ : List (Int × Int)} {h_2 : List (Int)} {id_ : Int} {key : Int} {r : Er × List (Int) × List (Int × Int)}
  (wf : WF H) (h_h_ : Ow enc_u64_u32 2 H hd_h_ h_ fp_h_) (h_h_2 : Ow (encI .i64) 1 H hd_h_2 h_2 fp_h_2) (h_h : Row H b_h [hd_h_, hd_h_2]) (dj_fp_h__b_h : Dj fp_h_ [b_h]) (dj_fp_h__fp_h_2 : Dj fp_h_ fp_h_2) (dj_b_h_fp_h_2 : Dj [b_h] fp_h_2) (hr : z_heap_Heap_Set h_ h_2 id_ key = some r) :
  ACalls Try.prog 87 #[.pointer (some ⟨b_h, 0, none⟩), .int .u32 id_, .int .u64 key] H fun v H' => ∃ (v3 : Value) (f4 : Fp) (s9 : Value) (f10 : Fp), v = v3 ∧ FrS ([b_h] ++ (fp_h_ ++ fp_h_2)) H H' ∧ Ev 82 123 H' v3 r.1 f4 ∧ Ow (encI .i64) 1 H' hd_h_2 r.2.1 fp_h_2 ∧ Ow enc_u64_u32 2 H' s9 r.2.2 f10 ∧ Row H' b_h [s9, hd_h_2] ∧ Inn [] H f4 ∧ Inn fp_h_ H f10 ∧ Dj f4 f10 := by
 refine acalls_of_body mixed Try.func87 rfl (Nat.le_of_ble_eq_true rfl) ?_
 unfold z_heap_Heap_Set at hr
 refine w_seqk fun K16 k16 => ?_
 refine w_reg (by kernel_rfl) ?_
 refine s_qk (.nilIface) (by kernel_rfl) ?_
 refine s_nil ?_
 refine k16 _ _ ?_
 refine w_seqk fun K17 k17 => ?_
 refine w_seqk fun K18 k18 => ?_
 refine w_reg (by kernel_rfl) ?_
 refine s_qk (.pointer (some ⟨b_h, 0, none⟩)) (by kernel_rfl) ?_
 refine s_qk (.int .u32 id_) (by kernel_rfl) ?_
 obtain ⟨y19, hy20, r21⟩ := bind_some hr
 refine s_ck 96 #[.pointer (some ⟨b_h, 0, none⟩), .int .u32 id_] (by kernel_rfl) (c_heap_Heap_check wf h_h_.sq h_h_2.sq h_h hy20) ?_
 rintro v22 _ ⟨_, f23, rfl, rfl, m26, i27⟩
 refine s_qk (v22) (by kernel_rfl) ?_
 refine s_nil ?_
 refine k18 _ _ ?_
 refine w_seqk fun K29 k29 => ?_
 refine w_reg (by kernel_rfl) ?_
 refine s_qk (v22) (by kernel_rfl) ?_
 rcases (m26).cases with ⟨h30, rfl⟩ | ⟨h30, t31, x32, rfl⟩
 ·have r33 := ite_t h30 r21
  refine s_qk (.bool false) (by kernel_rfl) ?_
  refine s_nil ?_
  refine k29 _ _ ?_
  refine w_cond false (by kernel_rfl) rfl (fun h => by cases h) (fun _ => ?_)
  refine w_skip ?_
  refine k17 _ _ ?_
  refine w_seqk fun K34 k34 => ?_
  refine w_reg (by kernel_rfl) ?_
  refine s_qk (.pointer (some ⟨b_h, 0, none⟩)) (by kernel_rfl) ?_
  refine s_qk (.pointer (some ⟨b_h, 0, none⟩)) (by kernel_rfl) ?_
  refine s_qk (.pointer (some ⟨b_h, 1, none⟩)) (by kernel_rfl) ?_
  refine s_ql (hd_h_2) (x := aLoad Try.prog 22 (.pointer (some ⟨b_h, 1, none⟩)) H) (by kernel_rfl) (h_h.ld (by kernel_rfl)) ?_
  refine s_qk (.int .u32 id_) (by kernel_rfl) ?_
  obtain ⟨g35, r36⟩ := G_some r33
  refine s_ql (elp hd_h_2 1 id_.toNat 0) (x := aIndexAddr Try.prog 22 hd_h_2 (.int .u32 id_)) (by kernel_rfl) (h_h_2.sq.idxb (by kernel_rfl) g35.1 g35.2) ?_
  refine s_ql (.int .i64 (gt h_2 id_)) (x := aLoad Try.prog 3 (elp hd_h_2 1 id_.toNat 0) H) (by kernel_rfl) (h_h_2.sq.ld g35.1 g35.2 (by kernel_rfl)) ?_
  obtain ⟨g37, r38⟩ := G_some r36
  refine s_w (((gt h_2 id_) - 1)) (k := .i64) (x := ((gt h_2 id_) - 1)) (by kernel_rfl) (wrap64 g37) ?_
  refine s_qk (.int .i64 ((gt h_2 id_) - 1)) (by kernel_rfl) ?_
  refine s_nil ?_
  refine k34 _ _ ?_
  refine w_seqk fun K39 k39 => ?_
  refine w_seqk fun K40 k40 => ?_
  refine w_reg (by kernel_rfl) ?_
  refine s_qk (.int .i64 ((gt h_2 id_) - 1)) (by kernel_rfl) ?_
  refine s_qk (.bool (decide (((gt h_2 id_) - 1) < 0))) (by kernel_rfl) ?_
  refine s_nil ?_
  refine k40 _ _ ?_
  obtain ⟨o41, hx42, r43⟩ := bind_some r38
  refine w_mid (fun α H44 => ∃ (s48 : Value) (f49 : Fp), Has α [(0, .pointer (some ⟨b_h, 0, none⟩)), (1, .int .u32 id_), (2, .int .u64 key), (8, .int .i64 o41.2)] ∧ FrS ([b_h] ++ fp_h_) H H44 ∧ Ow enc_u64_u32 2 H44 s48 o41.1 f49 ∧ Row H44 b_h [s48, hd_h_2] ∧ Inn fp_h_ H f49) (fun K53 k53 => ?_) (fun α H44 hM => ?_)
  ·refine w_condp (((gt h_2 id_) - 1) < 0) (by kernel_rfl) rfl (fun h55 => ?_) (fun h55 => ?_)
   ·have r56 := ite_t h55 hx42
    refine w_seqk fun K57 k57 => ?_
    refine w_reg (by kernel_rfl) ?_
    refine s_qk (.pointer (some ⟨b_h, 0, none⟩)) (by kernel_rfl) ?_
    refine s_qk (.pointer (some ⟨b_h, 0, none⟩)) (by kernel_rfl) ?_
    refine s_qk (.pointer (some ⟨b_h, 0, none⟩)) (by kernel_rfl) ?_
    refine s_ql (hd_h_) (x := aLoad Try.prog 155 (.pointer (some ⟨b_h, 0, none⟩)) H) (by kernel_rfl) (h_h.ld (by kernel_rfl)) ?_
    refine s_ql (.int .i64 (h_.length : Int)) (x := aLen Try.prog 155 hd_h_ H) (by kernel_rfl) (h_h_.sq.lenb (by kernel_rfl)) ?_
    refine s_qk (.int .i64 (h_.length : Int)) (by kernel_rfl) ?_
    refine s_nil ?_
    refine k57 _ _ ?_
    refine w_reg (by kernel_rfl) ?_
    refine s_qk (.pointer (some ⟨b_h, 0, none⟩)) (by kernel_rfl) ?_
    refine s_qk (.pointer (some ⟨b_h, 0, none⟩)) (by kernel_rfl) ?_
    refine s_qk (.pointer (some ⟨b_h, 0, none⟩)) (by kernel_rfl) ?_
    refine s_qk (.pointer (some ⟨b_h, 0, none⟩)) (by kernel_rfl) ?_
    refine s_ql (hd_h_) (x := aLoad Try.prog 155 (.pointer (some ⟨b_h, 0, none⟩)) H) (by kernel_rfl) (h_h.ld (by kernel_rfl)) ?_
    refine s_qk (.agg #[.int .u64 0, .int .u32 0]) (by kernel_rfl) ?_
    refine s_owk (enc := enc_u64_u32) (sz := 2) wf [(0, 0)] 1 (by decide) (fun _ _ => rfl) (fun _ _ => rfl) rfl (by kernel_rfl) fun s58 f59 H60 e61 hf62 hm63 => ?_
    obtain ⟨a64, n65, c66, rfl⟩ := hm63.form
    have u68 := (h_h_.ext e61)
    obtain ⟨g69, r70⟩ := G_some r56
    obtain ⟨s71, H72, f73, q77, e74, hm75, hf76⟩ := Ow.append (P := Try.prog) 16 e61.wf u68 hm63.sq (fun _ _ => rfl) (at_ := #[155, 155]) rfl rfl (by kernel_rfl) (by kernel_rfl) (by decide) (by have := g69; first | omega | (simp only [List.length_cons, List.length_nil] at this ⊢; omega) | (simp at this ⊢; omega))
    obtain ⟨a78, n79, c80, rfl⟩ := hm75.form
    refine s_ek (.slice a78 n79 c80) (by kernel_rfl) (q77) ?_
    refine s_qk (.pointer (some ⟨b_h, 0, none⟩)) (by kernel_rfl) ?_
    refine s_qk (.pointer (some ⟨b_h, 0, none⟩)) (by kernel_rfl) ?_
    have u86 := ((h_h.ext e61).frS e74 dj_fp_h__b_h)
    obtain ⟨H82, q83, e84, r85⟩ := Row.store (P := Try.prog) (t := 155) (p := 0) e74.wf u86 (.slice a78 n79 c80) [.slice a78 n79 c80] (by kernel_rfl) (by kernel_rfl) (one_cons (hm75.one1) (one_nil)) (Nat.le_of_ble_eq_true (by kernel_rfl)) [.slice a78 n79 c80, hd_h_2] (by kernel_rfl)
    refine s_ek (undef) (by kernel_rfl) (map_ok q83) ?_
    refine s_nil ?_
    have u87 := (hm75.fr e84 (Dj.symm (hf76.dj dj_fp_h__b_h (h_h.ltF.le e61.next))))
    obtain rfl := Option.some.inj r70
    exact k53 _ _ ⟨(.slice a78 n79 c80), f73, ⟨by kernel_rfl, by kernel_rfl, by kernel_rfl, by kernel_rfl, trivial⟩, (FrS.step wf (FrS.step wf ((FrS.refl (W := ([b_h] ++ fp_h_)) wf).extR e61) e74 (Inn.right Inn.refl')) e84 Inn.left), u87, r85, (Inn.trans Inn.refl' e61.next hf76)⟩
   ·have r88 := ite_f h55 hx42
    refine w_skip ?_
    obtain rfl := Option.some.inj r88
    exact k53 _ _ ⟨(hd_h_), fp_h_, ⟨by kernel_rfl, by kernel_rfl, by kernel_rfl, by kernel_rfl, trivial⟩, (FrS.refl (W := ([b_h] ++ fp_h_)) wf), h_h_, h_h, Inn.refl'⟩
  ·obtain ⟨s48, f49, hh54, e45, m47, m51, i52⟩ := hM
   obtain ⟨β, rfl⟩ := has_ex hh54
   clear hh54
   obtain ⟨a89, n90, c91, rfl⟩ := m47.form
   refine k39 _ _ ?_
   refine w_seqk fun K92 k92 => ?_
   refine w_reg (by kernel_rfl) ?_
   refine s_qk (.pointer (some ⟨b_h, 0, none⟩)) (by kernel_rfl) ?_
   refine s_qk (.int .i64 o41.2) (by kernel_rfl) ?_
   refine s_qk (.int .u64 key) (by kernel_rfl) ?_
   refine s_qk (.int .u32 id_) (by kernel_rfl) ?_
   refine s_qk (.agg #[.int .u64 key, .int .u32 id_]) (by kernel_rfl) ?_
   have u93 := (h_h_2.fr e45 (Dj.app dj_b_h_fp_h_2 dj_fp_h__fp_h_2))
   obtain ⟨y94, hy95, r96⟩ := bind_some r43
   refine s_ck 97 #[.pointer (some ⟨b_h, 0, none⟩), .int .i64 o41.2, .agg #[.int .u64 key, .int .u32 id_]] (by kernel_rfl) (c_heap_Heap_put e45.wf m47 u93 m51 (i52.dj dj_fp_h__b_h h_h.ltF) (i52.dj dj_fp_h__fp_h_2 h_h_2.lt) hy95) ?_
   rintro _ H97 ⟨rfl, e98, m99, m100⟩
   refine s_nil ?_
   refine k92 _ _ ?_
   refine w_seqk fun K101 k101 => ?_
   refine w_reg (by kernel_rfl) ?_
   refine s_qk (.pointer (some ⟨b_h, 0, none⟩)) (by kernel_rfl) ?_
   refine s_qk (.int .i64 o41.2) (by kernel_rfl) ?_
   have u102 := (m51.frS e98 (Dj.app (i52.dj dj_fp_h__b_h h_h.ltF) (Dj.symm dj_b_h_fp_h_2)))
   obtain ⟨y103, hy104, r105⟩ := bind_some r96
   refine s_ck 98 #[.pointer (some ⟨b_h, 0, none⟩), .int .i64 o41.2] (by kernel_rfl) (c_heap_Heap_up e98.wf m99 m100 u102 (i52.dj dj_fp_h__b_h h_h.ltF) (i52.dj dj_fp_h__fp_h_2 h_h_2.lt) (Dj.symm dj_b_h_fp_h_2) hy104) ?_
   rintro _ H106 ⟨rfl, e107, m108, m109⟩
   refine s_nil ?_
   refine k101 _ _ ?_
   refine w_seqk fun K110 k110 => ?_
   refine w_reg (by kernel_rfl) ?_
   refine s_qk (.pointer (some ⟨b_h, 0, none⟩)) (by kernel_rfl) ?_
   refine s_qk (.pointer (some ⟨b_h, 0, none⟩)) (by kernel_rfl) ?_
   refine s_qk (.pointer (some ⟨b_h, 0, none⟩)) (by kernel_rfl) ?_
   refine s_qk (.pointer (some ⟨b_h, 1, none⟩)) (by kernel_rfl) ?_
   have u111 := (u102.frS e107 (Dj.app (i52.dj dj_fp_h__b_h h_h.ltF) (Dj.symm dj_b_h_fp_h_2)))
   refine s_ql (hd_h_2) (x := aLoad Try.prog 22 (.pointer (some ⟨b_h, 1, none⟩)) H106) (by kernel_rfl) (u111.ld (by kernel_rfl)) ?_
   refine s_qk (.int .u32 id_) (by kernel_rfl) ?_
   obtain ⟨g112, r113⟩ := G_some r105
   refine s_ql (elp hd_h_2 1 id_.toNat 0) (x := aIndexAddr Try.prog 22 hd_h_2 (.int .u32 id_)) (by kernel_rfl) (m109.sq.idxb (by kernel_rfl) g35.1 g112) ?_
   refine s_ql (.int .i64 (gt y103.2 id_)) (x := aLoad Try.prog 3 (elp hd_h_2 1 id_.toNat 0) H106) (by kernel_rfl) (m109.sq.ld g35.1 g112 (by kernel_rfl)) ?_
   obtain ⟨g114, r115⟩ := G_some r113
   refine s_w (((gt y103.2 id_) - 1)) (k := .i64) (x := ((gt y103.2 id_) - 1)) (by kernel_rfl) (wrap64 g114) ?_
   obtain ⟨y116, hy117, r118⟩ := bind_some r115
   refine s_ck 99 #[.pointer (some ⟨b_h, 0, none⟩), .int .i64 ((gt y103.2 id_) - 1)] (by kernel_rfl) (c_heap_Heap_down e107.wf m108 m109 u111 (i52.dj dj_fp_h__b_h h_h.ltF) (i52.dj dj_fp_h__fp_h_2 h_h_2.lt) (Dj.symm dj_b_h_fp_h_2) hy117) ?_
   rintro _ H119 ⟨rfl, e120, m121, m122⟩
   refine s_nil ?_
   refine k110 _ _ ?_
   refine w_seqk fun K123 k123 => ?_
   refine w_reg (by kernel_rfl) ?_
   refine s_qk (.nilIface) (by kernel_rfl) ?_
   refine s_nil ?_
   refine k123 _ _ ?_
   refine w_ret ?_
   refine b_ret (fn := Try.f87) (vs := [.nilIface]) (aRes_tmp (by kernel_rfl) (rfl)) ?_
   have u124 := (u111.frS e120 (Dj.app (i52.dj dj_fp_h__b_h h_h.ltF) (Dj.symm dj_b_h_fp_h_2)))
   obtain rfl := Option.some.inj r118
   exact ⟨(.nilIface), [], (.slice a89 n90 c91), f49, rfl, (FrS.step wf (FrS.step wf (FrS.step wf (FrS.step wf (FrS.refl (W := ([b_h] ++ (fp_h_ ++ fp_h_2))) wf) e45 (Inn.app Inn.left (Inn.right Inn.left))) e98 (Inn.app (Inn.trans (Inn.right Inn.left) (Nat.le_refl _) i52) (Inn.right (Inn.right Inn.refl')))) e107 (Inn.app (Inn.trans (Inn.right Inn.left) (Nat.le_refl _) i52) (Inn.right (Inn.right Inn.refl')))) e120 (Inn.app (Inn.trans (Inn.right Inn.left) (Nat.le_refl _) i52) (Inn.right (Inn.right Inn.refl')))), Ev.nil, m122, m121, u124, Inn.nil, (Inn.trans Inn.refl' (Nat.le_refl _) i52), Dj.nil_l⟩
 ·have r125 := ite_f h30 r21
  refine s_ql (.bool true) (x := aBin Try.prog .neq 31 (.tmp 12) (.const .nilIface) (.iface t31 x32) .nilIface) (by kernel_rfl) (aBin_nnil (by kernel_rfl)) ?_
  refine s_nil ?_
  refine k29 _ _ ?_
  refine w_cond true (by kernel_rfl) rfl (fun _ => ?_) (fun h => by cases h)
  refine w_seqk fun K126 k126 => ?_
  refine w_reg (by kernel_rfl) ?_
  refine s_qk (.iface t31 x32) (by kernel_rfl) ?_
  refine s_qk (.iface t31 x32) (by kernel_rfl) ?_
  refine s_nil ?_
  refine k126 _ _ ?_
  refine w_ret (th_ret ?_)
  refine b_ret (fn := Try.f87) (vs := [.iface t31 x32]) (aRes_tmp (by kernel_rfl) (rfl)) ?_
  obtain rfl := Option.some.inj r125
  exact ⟨(.iface t31 x32), f23, (hd_h_), fp_h_, rfl, (FrS.refl (W := ([b_h] ++ (fp_h_ ++ fp_h_2))) wf), m26, h_h_2, h_h_, h_h, (i27.fresh (Nat.le_refl _)), Inn.refl', (i27.djn h_h_.lt)⟩

theorem c_search_state_label {H : AH} {b_st : Nat} {hd_st_ : Value} {fp_st_ : Fp} {hd_st_2 : Value} {fp_st_2 : Fp} {hd_st_3 : Value} {fp_st_3 : Fp} {b_st_4 : Nat} {hd_st_5 : Value} {fp_st_5 : Fp} {hd_st_6 : Value} {fp_st_6 : Fp} {b_st_7 : Nat} {hd_st_8 : Value} {fp_st_8 : Fp} {hd_st_11 : Value} {fp_st_11 : Fp} {hd_st_12 : Value} {fp_st_12 : Fp} {st_ : List (Int)} {st_2 : List (Int)} {st_3 : List (Int)} {st_5 : List (Int × Int)} {st_6 : List (Int)} {st_8 : List (Int × Int)} {st_9 : Int} {st_10 : Int} {st_11 : List (Int)} {st_12 : List (Bool)} {v_ : Int} {d : Int} {hops : Int} {r : List (Int) × List (Int × Int) × List (Int × Int) × Int × List (Int)}
  (wf : WF H) (h_st_ : Sq (encI .i64) 1 H hd_st_ st_ fp_st_) (h_st_2 : Sq (encI .i64) 1 H hd_st_2 st_2 fp_st_2) (h_st_3 : Sq (encI .i64) 1 H hd_st_3 st_3 fp_st_3) (h_st_5 : Ow enc_u64_u32 2 H hd_st_5 st_5 fp_st_5) (h_st_6 : Ow (encI .i64) 1 H hd_st_6 st_6 fp_st_6) (h_st_4 : Row H b_st_4 [hd_st_5, hd_st_6]) (h_st_8 : Ow enc_u64_u32 2 H hd_st_8 st_8 fp_st_8) (h_st_7 : Row H b_st_7 [hd_st_8, .int .u32 st_9, .int .i64 st_10]) (h_st_11 : Ow (encI .i64) 1 H hd_st_11 st_11 fp_st_11) (h_st_12 : Sq encB 1 H hd_st_12 st_12 fp_st_12) (h_st : Row H b_st [hd_st_, hd_st_2, hd_st_3, .pointer (some ⟨b_st_4, 0, none⟩), .pointer (some ⟨b_st_7, 0, none⟩), hd_st_11, hd_st_12]) (dj_b_st_7_fp_st_8 : Dj [b_st_7] fp_st_8) (dj_fp_st_8_b_st : Dj fp_st_8 [b_st]) (dj_b_st_7_b_st : Dj [b_st_7] [b_st]) (dj_fp_st_8_fp_st_11 : Dj fp_st_8 fp_st_11) (dj_b_st_7_fp_st_11 : Dj [b_st_7] fp_st_11) (dj_fp_st_11_b_st : Dj fp_st_11 [b_st]) (dj_fp_st_8_fp_st_5 : Dj fp_st_8 fp_st_5) (dj_b_st_7_fp_st_5 : Dj [b_st_7] fp_st_5) (dj_fp_st_11_fp_st_5 : Dj fp_st_11 fp_st_5) (dj_fp_st_8_fp_st_6 : Dj fp_st_8 fp_st_6) (dj_b_st_7_fp_st_6 : Dj [b_st_7] fp_st_6) (dj_fp_st_11_fp_st_6 : Dj fp_st_11 fp_st_6) (dj_fp_st_8_b_st_4 : Dj fp_st_8 [b_st_4]) (dj_b_st_7_b_st_4 : Dj [b_st_7] [b_st_4]) (dj_fp_st_11_b_st_4 : Dj fp_st_11 [b_st_4]) (dj_fp_st_5_b_st_4 : Dj fp_st_5 [b_st_4]) (dj_fp_st_5_fp_st_6 : Dj fp_st_5 fp_st_6) (dj_b_st_4_fp_st_6 : Dj [b_st_4] fp_st_6) (hr : z_search_state_label st_ st_2 st_3 st_5 st_6 st_8 st_9 st_10 st_11 st_12 v_ d hops = some r) :
  ACalls Try.prog 73 #[.pointer (some ⟨b_st, 0, none⟩), .int .i64 v_, .int .u64 d, .int .i64 hops] H fun v H' => ∃ (s5 : Value) (f6 : Fp), v = .tuple #[] ∧ FrS ([b_st_4] ++ ([b_st_7] ++ (fp_st_11 ++ (fp_st_5 ++ (fp_st_6 ++ fp_st_8))))) H H' ∧ Ow (encI .i64) 1 H' hd_st_6 r.1 fp_st_6 ∧ Ow enc_u64_u32 2 H' s5 r.2.1 f6 ∧ Row H' b_st_4 [s5, hd_st_6] ∧ Ow enc_u64_u32 2 H' hd_st_8 r.2.2.1 fp_st_8 ∧ Row H' b_st_7 [hd_st_8, .int .u32 st_9, .int .i64 r.2.2.2.1] ∧ Ow (encI .i64) 1 H' hd_st_11 r.2.2.2.2 fp_st_11 ∧ Inn fp_st_5 H f6 := by
 refine acalls_of_body mixed Try.func73 rfl (Nat.le_of_ble_eq_true rfl) ?_
 unfold z_search_state_label at hr
 refine w_seqk fun K16 k16 => ?_
 refine w_reg (by kernel_rfl) ?_
 refine s_qk (.pointer (some ⟨b_st, 0, none⟩)) (by kernel_rfl) ?_
 refine s_qk (.pointer (some ⟨b_st, 0, none⟩)) (by kernel_rfl) ?_
 refine s_qk (.pointer (some ⟨b_st, 4, none⟩)) (by kernel_rfl) ?_
 refine s_ql (.pointer (some ⟨b_st_7, 0, none⟩)) (x := aLoad Try.prog 100 (.pointer (some ⟨b_st, 4, none⟩)) H) (by kernel_rfl) (h_st.ld (by kernel_rfl)) ?_
 refine s_qk (.int .i64 v_) (by kernel_rfl) ?_
 refine s_qk (.int .u64 d) (by kernel_rfl) ?_
 obtain ⟨y17, hy18, r19⟩ := bind_some hr
 refine s_ck 86 #[.pointer (some ⟨b_st_7, 0, none⟩), .int .i64 v_, .int .u64 d] (by kernel_rfl) (c_stamp_Stamp_Set wf h_st_8 h_st_7 dj_b_st_7_fp_st_8 hy18) ?_
 rintro v20 H22 ⟨_, f21, rfl, e23, m24, m25, m26, i27⟩
 refine s_nil ?_
 refine k16 _ _ ?_
 refine w_seqk fun K29 k29 => ?_
 refine w_reg (by kernel_rfl) ?_
 refine s_qk (.pointer (some ⟨b_st, 0, none⟩)) (by kernel_rfl) ?_
 refine s_qk (.pointer (some ⟨b_st, 0, none⟩)) (by kernel_rfl) ?_
 refine s_qk (.pointer (some ⟨b_st, 5, none⟩)) (by kernel_rfl) ?_
 have u30 := (h_st.frS e23 (Dj.app dj_b_st_7_b_st dj_fp_st_8_b_st))
 refine s_ql (hd_st_11) (x := aLoad Try.prog 22 (.pointer (some ⟨b_st, 5, none⟩)) H22) (by kernel_rfl) (u30.ld (by kernel_rfl)) ?_
 refine s_qk (.int .i64 v_) (by kernel_rfl) ?_
 refine s_qk (.int .i64 hops) (by kernel_rfl) ?_
 obtain ⟨g31, r32⟩ := G_some r19
 have u33 := (h_st_11.fr e23 (Dj.app dj_b_st_7_fp_st_11 dj_fp_st_8_fp_st_11))
 refine s_ql (elp hd_st_11 1 v_.toNat 0) (x := aIndexAddr Try.prog 22 hd_st_11 (.int .i64 v_)) (by kernel_rfl) (u33.sq.idxb (by kernel_rfl) g31.1 g31.2) ?_
 obtain ⟨H34, q35, e36, hm37⟩ := Ow.store (P := Try.prog) (t := 3) (off := 0) e23.wf u33 g31.1 g31.2 (.int .i64 hops) [.int .i64 hops] (by kernel_rfl) (by kernel_rfl) rfl hops (Nat.le_of_ble_eq_true rfl) (by kernel_rfl)
 refine s_ek (undef) (by kernel_rfl) (map_ok q35) ?_
 refine s_nil ?_
 refine k29 _ _ ?_
 refine w_reg (by kernel_rfl) ?_
 refine s_qk (.pointer (some ⟨b_st, 0, none⟩)) (by kernel_rfl) ?_
 refine s_qk (.pointer (some ⟨b_st, 0, none⟩)) (by kernel_rfl) ?_
 refine s_qk (.pointer (some ⟨b_st, 3, none⟩)) (by kernel_rfl) ?_
 have u38 := (u30.frS e36 dj_fp_st_11_b_st)
 refine s_ql (.pointer (some ⟨b_st_4, 0, none⟩)) (x := aLoad Try.prog 99 (.pointer (some ⟨b_st, 3, none⟩)) H34) (by kernel_rfl) (u38.ld (by kernel_rfl)) ?_
 refine s_qk (.int .i64 v_) (by kernel_rfl) ?_
 obtain ⟨g39, r40⟩ := G_some r32
 refine s_w (v_) (k := .u32) (x := v_) (by kernel_rfl) (wrapu32 (by have := g39; omega)) ?_
 refine s_qk (.int .u64 d) (by kernel_rfl) ?_
 have u41 := ((h_st_5.fr e23 (Dj.app dj_b_st_7_fp_st_5 dj_fp_st_8_fp_st_5)).fr e36 dj_fp_st_11_fp_st_5)
 have u42 := ((h_st_6.fr e23 (Dj.app dj_b_st_7_fp_st_6 dj_fp_st_8_fp_st_6)).fr e36 dj_fp_st_11_fp_st_6)
 have u43 := ((h_st_4.frS e23 (Dj.app dj_b_st_7_b_st_4 dj_fp_st_8_b_st_4)).frS e36 dj_fp_st_11_b_st_4)
 obtain ⟨y44, hy45, r46⟩ := bind_some r40
 refine s_ck 87 #[.pointer (some ⟨b_st_4, 0, none⟩), .int .u32 v_, .int .u64 d] (by kernel_rfl) (c_heap_Heap_Set e36.wf u41 u42 u43 dj_fp_st_5_b_st_4 dj_fp_st_5_fp_st_6 dj_b_st_4_fp_st_6 hy45) ?_
 rintro v47 H51 ⟨_, f48, s49, f50, rfl, e52, m53, m54, m55, m56, i57, i58, d59⟩
 obtain ⟨a62, n63, c64, rfl⟩ := m55.form
 refine s_nil ?_
 refine b_nrm (fn := Try.f73) (vs := []) (rfl) ?_
 have u65 := ((m25.fr e36 (Dj.symm dj_fp_st_8_fp_st_11)).fr e52 (Dj.app (Dj.symm dj_fp_st_8_b_st_4) (Dj.app (Dj.symm dj_fp_st_8_fp_st_5) (Dj.symm dj_fp_st_8_fp_st_6))))
 have u66 := ((m26.frS e36 (Dj.symm dj_b_st_7_fp_st_11)).frS e52 (Dj.app (Dj.symm dj_b_st_7_b_st_4) (Dj.app (Dj.symm dj_b_st_7_fp_st_5) (Dj.symm dj_b_st_7_fp_st_6))))
 have u67 := (hm37.fr e52 (Dj.app (Dj.symm dj_fp_st_11_b_st_4) (Dj.app (Dj.symm dj_fp_st_11_fp_st_5) (Dj.symm dj_fp_st_11_fp_st_6))))
 obtain rfl := Option.some.inj r46
 exact ⟨(.slice a62 n63 c64), f50, rfl, (FrS.step wf (FrS.step wf (FrS.step wf (FrS.refl (W := ([b_st_4] ++ ([b_st_7] ++ (fp_st_11 ++ (fp_st_5 ++ (fp_st_6 ++ fp_st_8)))))) wf) e23 (Inn.app (Inn.right Inn.left) (Inn.right (Inn.right (Inn.right (Inn.right (Inn.right Inn.refl'))))))) e36 (Inn.right (Inn.right Inn.left))) e52 (Inn.app Inn.left (Inn.app (Inn.right (Inn.right (Inn.right Inn.left))) (Inn.right (Inn.right (Inn.right (Inn.right Inn.left))))))), m54, m55, m56, u65, u66, u67, (Inn.trans Inn.refl' (ntr e23.next e36.next) i58)⟩

theorem c_heap_Heap_Top {H : AH} {b_h : Nat} {hd_h_ : Value} {fp_h_ : Fp} {hd_h_2 : Value} {fp_h_2 : Fp} {h_ : List (Int × Int)} {h_2 : List (Int)} {r : Int × Int × Bool}
  (wf : WF H) (h_h_ : Sq enc_u64_u32 2 H hd_h_ h_ fp_h_) (h_h_2 : Sq (encI .i64) 1 H hd_h_2 h_2 fp_h_2) (h_h : Row H b_h [hd_h_, hd_h_2]) (hr : z_heap_Heap_Top h_ h_2 = some r) :
  ACalls Try.prog 74 #[.pointer (some ⟨b_h, 0, none⟩)] H fun v H' => v = .tuple #[.int .u32 r.1, .int .u64 r.2.1, .bool r.2.2] ∧ H = H' := by
 refine acalls_of_body mixed Try.func74 rfl (Nat.le_of_ble_eq_true rfl) ?_
 unfold z_heap_Heap_Top at hr
 refine w_seqk fun K1 k1 => ?_
 refine w_reg (by kernel_rfl) ?_
 refine s_qk (.int .u32 0) (by kernel_rfl) ?_
 refine s_qk (.int .u64 0) (by kernel_rfl) ?_
 refine s_qk (.bool false) (by kernel_rfl) ?_
 refine s_nil ?_
 refine k1 _ _ ?_
 refine w_seqk fun K2 k2 => ?_
 refine w_seqk fun K3 k3 => ?_
 refine w_reg (by kernel_rfl) ?_
 refine s_qk (.pointer (some ⟨b_h, 0, none⟩)) (by kernel_rfl) ?_
 refine s_qk (.bool false) (by kernel_rfl) ?_
 refine s_qk (.bool false) (by kernel_rfl) ?_
 refine s_qk (.pointer (some ⟨b_h, 0, none⟩)) (by kernel_rfl) ?_
 refine s_qk (.pointer (some ⟨b_h, 0, none⟩)) (by kernel_rfl) ?_
 refine s_qk (.pointer (some ⟨b_h, 0, none⟩)) (by kernel_rfl) ?_
 refine s_ql (hd_h_) (x := aLoad Try.prog 155 (.pointer (some ⟨b_h, 0, none⟩)) H) (by kernel_rfl) (h_h.ld (by kernel_rfl)) ?_
 refine s_ql (.int .i64 (h_.length : Int)) (x := aLen Try.prog 155 hd_h_ H) (by kernel_rfl) (h_h_.lenb (by kernel_rfl)) ?_
 refine s_qk (.bool (decide ((h_.length : Int) = 0))) (by kernel_rfl) ?_
 refine s_qk (.bool (decide ((h_.length : Int) = 0))) (by kernel_rfl) ?_
 refine s_nil ?_
 refine k3 _ _ ?_
 refine w_condp ((h_.length : Int) = 0) (by kernel_rfl) rfl (fun h4 => ?_) (fun h4 => ?_)
 ·have r5 := ite_t h4 hr
  refine w_seqk fun K6 k6 => ?_
  refine w_reg (by kernel_rfl) ?_
  refine s_qk (.int .u32 0) (by kernel_rfl) ?_
  refine s_qk (.int .u64 0) (by kernel_rfl) ?_
  refine s_qk (.bool false) (by kernel_rfl) ?_
  refine s_nil ?_
  refine k6 _ _ ?_
  refine w_ret (th_ret ?_)
  refine b_ret (fn := Try.f74) (vs := [.int .u32 0, .int .u64 0, .bool false]) (aRes_tmp (by kernel_rfl) (aRes_tmp (by kernel_rfl) (aRes_tmp (by kernel_rfl) (rfl)))) ?_
  obtain rfl := Option.some.inj r5
  exact ⟨rfl, rfl⟩
 ·have r7 := ite_f h4 hr
  refine w_skip ?_
  refine k2 _ _ ?_
  refine w_seqk fun K8 k8 => ?_
  refine w_draw [0, 1, 2, 3, 4, 5, 6, 7, 8, 9, 10, 11, 12, 13, 14, 15, 16] (by kernel_rfl) ?_
  refine d_qk (.pointer (some ⟨b_h, 0, none⟩)) (by kernel_rfl) ?_
  refine d_qk (.pointer (some ⟨b_h, 0, none⟩)) (by kernel_rfl) ?_
  refine d_qk (.pointer (some ⟨b_h, 0, none⟩)) (by kernel_rfl) ?_
  refine d_ql (hd_h_) (x := aLoad Try.prog 155 (.pointer (some ⟨b_h, 0, none⟩)) H) (by kernel_rfl) (h_h.ld (by kernel_rfl)) ?_
  obtain ⟨g9, r10⟩ := G_some r7
  refine d_ql (elp hd_h_ 2 (0 : Int).toNat 0) (x := aIndexAddr Try.prog 155 hd_h_ (.int .i64 0)) (by kernel_rfl) (h_h_.idxb (by kernel_rfl) (by decide) g9) ?_
  refine d_ql (elp hd_h_ 2 (0 : Int).toNat 1) (x := aFieldAddr Try.prog 161 (elp hd_h_ 2 (0 : Int).toNat 0) 1) (by kernel_rfl) (Sq.fldq (d := 1) h_h_ (by decide) g9 (by kernel_rfl)) ?_
  refine d_ql (.int .u32 ((gt h_ 0).2)) (x := aLoad Try.prog 135 (elp hd_h_ 2 (0 : Int).toNat 1) H) (by kernel_rfl) (h_h_.ld (by decide) g9 (by kernel_rfl)) ?_
  refine d_qk (.pointer (some ⟨b_h, 0, none⟩)) (by kernel_rfl) ?_
  refine d_qk (.pointer (some ⟨b_h, 0, none⟩)) (by kernel_rfl) ?_
  refine d_qk (.pointer (some ⟨b_h, 0, none⟩)) (by kernel_rfl) ?_
  refine d_ql (hd_h_) (x := aLoad Try.prog 155 (.pointer (some ⟨b_h, 0, none⟩)) H) (by kernel_rfl) (h_h.ld (by kernel_rfl)) ?_
  refine d_ql (elp hd_h_ 2 (0 : Int).toNat 0) (x := aIndexAddr Try.prog 155 hd_h_ (.int .i64 0)) (by kernel_rfl) (h_h_.idxb (by kernel_rfl) (by decide) g9) ?_
  refine d_ql (elp hd_h_ 2 (0 : Int).toNat 0) (x := aFieldAddr Try.prog 161 (elp hd_h_ 2 (0 : Int).toNat 0) 0) (by kernel_rfl) (Sq.fldq (d := 0) h_h_ (by decide) g9 (by kernel_rfl)) ?_
  refine d_ql (.int .u64 ((gt h_ 0).1)) (x := aLoad Try.prog 29 (elp hd_h_ 2 (0 : Int).toNat 0) H) (by kernel_rfl) (h_h_.ld (by decide) g9 (by kernel_rfl)) ?_
  refine d_qk (.int .u32 ((gt h_ 0).2)) (by kernel_rfl) ?_
  refine d_qk (.int .u64 ((gt h_ 0).1)) (by kernel_rfl) ?_
  refine d_qk (.bool true) (by kernel_rfl) ?_
  refine d_nil ?_
  refine k8 _ _ ?_
  refine w_ret ?_
  refine b_ret (fn := Try.f74) (vs := [.int .u32 ((gt h_ 0).2), .int .u64 ((gt h_ 0).1), .bool true]) (aRes_tmp (by kernel_rfl) (aRes_tmp (by kernel_rfl) (aRes_tmp (by kernel_rfl) (rfl)))) ?_
  obtain rfl := Option.some.inj r10
  exact ⟨rfl, rfl⟩

theorem c_heap_Heap_Key {H : AH} {b_h : Nat} {hd_h_ : Value} {fp_h_ : Fp} {hd_h_2 : Value} {fp_h_2 : Fp} {h_ : List (Int × Int)} {h_2 : List (Int)} {id_ : Int} {r : Int × Bool}
  (wf : WF H) (h_h_ : Sq enc_u64_u32 2 H hd_h_ h_ fp_h_) (h_h_2 : Sq (encI .i64) 1 H hd_h_2 h_2 fp_h_2) (h_h : Row H b_h [hd_h_, hd_h_2]) (hr : z_heap_Heap_Key h_ h_2 id_ = some r) :
  ACalls Try.prog 100 #[.pointer (some ⟨b_h, 0, none⟩), .int .u32 id_] H fun v H' => v = .tuple #[.int .u64 r.1, .bool r.2] ∧ H = H' := by
 refine acalls_of_body mixed Try.func100 rfl (Nat.le_of_ble_eq_true rfl) ?_
 unfold z_heap_Heap_Key at hr
 refine w_seqk fun K1 k1 => ?_
 refine w_reg (by kernel_rfl) ?_
 refine s_qk (.int .u64 0) (by kernel_rfl) ?_
 refine s_qk (.bool false) (by kernel_rfl) ?_
 refine s_nil ?_
 refine k1 _ _ ?_
 refine w_seqk fun K2 k2 => ?_
 refine w_seqk fun K3 k3 => ?_
 obtain ⟨o4, hx5, r6⟩ := bind_some hr
 refine w_mid (fun α H7 => Has α [(0, .pointer (some ⟨b_h, 0, none⟩)), (1, .int .u32 id_), (19, .bool o4)] ∧ H = H7) (fun K9 k9 => ?_) (fun α H7 hM => ?_)
 ·refine w_reg (by kernel_rfl) ?_
  refine s_qk (.pointer (some ⟨b_h, 0, none⟩)) (by kernel_rfl) ?_
  refine s_qk (.int .u32 id_) (by kernel_rfl) ?_
  obtain ⟨y11, hy12, r13⟩ := bind_some hx5
  refine s_ck 96 #[.pointer (some ⟨b_h, 0, none⟩), .int .u32 id_] (by kernel_rfl) (c_heap_Heap_check wf h_h_ h_h_2 h_h hy12) ?_
  rintro v14 _ ⟨_, f15, rfl, rfl, m18, i19⟩
  rcases (m18).cases with ⟨h21, rfl⟩ | ⟨h21, t22, x23, rfl⟩
  ·have r24 := ite_t h21 r13
   refine s_qk (.bool false) (by kernel_rfl) ?_
   refine s_qk (.bool false) (by kernel_rfl) ?_
   refine s_qk (.pointer (some ⟨b_h, 0, none⟩)) (by kernel_rfl) ?_
   refine s_qk (.pointer (some ⟨b_h, 0, none⟩)) (by kernel_rfl) ?_
   refine s_qk (.pointer (some ⟨b_h, 1, none⟩)) (by kernel_rfl) ?_
   refine s_ql (hd_h_2) (x := aLoad Try.prog 22 (.pointer (some ⟨b_h, 1, none⟩)) H) (by kernel_rfl) (h_h.ld (by kernel_rfl)) ?_
   refine s_qk (.int .u32 id_) (by kernel_rfl) ?_
   obtain ⟨g25, r26⟩ := G_some r24
   refine s_ql (elp hd_h_2 1 id_.toNat 0) (x := aIndexAddr Try.prog 22 hd_h_2 (.int .u32 id_)) (by kernel_rfl) (h_h_2.idxb (by kernel_rfl) g25.1 g25.2) ?_
   refine s_ql (.int .i64 (gt h_2 id_)) (x := aLoad Try.prog 3 (elp hd_h_2 1 id_.toNat 0) H) (by kernel_rfl) (h_h_2.ld g25.1 g25.2 (by kernel_rfl)) ?_
   refine s_qk (.bool (decide ((gt h_2 id_) = 0))) (by kernel_rfl) ?_
   refine s_qk (.bool (decide ((gt h_2 id_) = 0))) (by kernel_rfl) ?_
   refine s_nil ?_
   obtain rfl := Option.some.inj r26
   exact k9 _ _ ⟨⟨by kernel_rfl, by kernel_rfl, by kernel_rfl, trivial⟩, rfl⟩
  ·have r27 := ite_f h21 r13
   refine s_ql (.bool true) (x := aBin Try.prog .neq 31 (.tmp 8) (.const .nilIface) (.iface t22 x23) .nilIface) (by kernel_rfl) (aBin_nnil (by kernel_rfl)) ?_
   refine s_qk (.bool true) (by kernel_rfl) ?_
   refine s_no (by kernel_rfl) ?_
   refine s_no (by kernel_rfl) ?_
   refine s_no (by kernel_rfl) ?_
   refine s_no (by kernel_rfl) ?_
   refine s_no (by kernel_rfl) ?_
   refine s_no (by kernel_rfl) ?_
   refine s_no (by kernel_rfl) ?_
   refine s_no (by kernel_rfl) ?_
   refine s_qk (.bool true) (by kernel_rfl) ?_
   refine s_nil ?_
   obtain rfl := Option.some.inj r27
   exact k9 _ _ ⟨⟨by kernel_rfl, by kernel_rfl, by kernel_rfl, trivial⟩, rfl⟩
 ·obtain ⟨hh10, rfl⟩ := hM
  obtain ⟨β, rfl⟩ := has_ex hh10
  clear hh10
  refine k3 _ _ ?_
  refine w_cond (o4) (by kernel_rfl) rfl (fun h28 => ?_) (fun h28 => ?_)
  ·have r29 := ite_t h28 r6
   refine w_seqk fun K30 k30 => ?_
   refine w_reg (by kernel_rfl) ?_
   refine s_qk (.int .u64 0) (by kernel_rfl) ?_
   refine s_qk (.bool false) (by kernel_rfl) ?_
   refine s_nil ?_
   refine k30 _ _ ?_
   refine w_ret (th_ret ?_)
   refine b_ret (fn := Try.f100) (vs := [.int .u64 0, .bool false]) (aRes_tmp (by kernel_rfl) (aRes_tmp (by kernel_rfl) (rfl))) ?_
   obtain rfl := Option.some.inj r29
   exact ⟨rfl, rfl⟩
  ·have r31 := ite_bf h28 r6
   refine w_skip ?_
   refine k2 _ _ ?_
   refine w_seqk fun K32 k32 => ?_
   refine w_draw [0, 1, 2, 3, 4, 5, 6, 7, 8, 9, 10, 11, 12, 13, 14, 15, 16] (by kernel_rfl) ?_
   refine d_qk (.pointer (some ⟨b_h, 0, none⟩)) (by kernel_rfl) ?_
   refine d_qk (.pointer (some ⟨b_h, 0, none⟩)) (by kernel_rfl) ?_
   refine d_qk (.pointer (some ⟨b_h, 0, none⟩)) (by kernel_rfl) ?_
   refine d_ql (hd_h_) (x := aLoad Try.prog 155 (.pointer (some ⟨b_h, 0, none⟩)) H) (by kernel_rfl) (h_h.ld (by kernel_rfl)) ?_
   refine d_qk (.pointer (some ⟨b_h, 0, none⟩)) (by kernel_rfl) ?_
   refine d_qk (.pointer (some ⟨b_h, 0, none⟩)) (by kernel_rfl) ?_
   refine d_qk (.pointer (some ⟨b_h, 1, none⟩)) (by kernel_rfl) ?_
   refine d_ql (hd_h_2) (x := aLoad Try.prog 22 (.pointer (some ⟨b_h, 1, none⟩)) H) (by kernel_rfl) (h_h.ld (by kernel_rfl)) ?_
   refine d_qk (.int .u32 id_) (by kernel_rfl) ?_
   obtain ⟨g33, r34⟩ := G_some r31
   refine d_ql (elp hd_h_2 1 id_.toNat 0) (x := aIndexAddr Try.prog 22 hd_h_2 (.int .u32 id_)) (by kernel_rfl) (h_h_2.idxb (by kernel_rfl) g33.1 g33.2) ?_
   refine d_ql (.int .i64 (gt h_2 id_)) (x := aLoad Try.prog 3 (elp hd_h_2 1 id_.toNat 0) H) (by kernel_rfl) (h_h_2.ld g33.1 g33.2 (by kernel_rfl)) ?_
   obtain ⟨g35, r36⟩ := G_some r34
   refine d_w (((gt h_2 id_) - 1)) (k := .i64) (x := ((gt h_2 id_) - 1)) (by kernel_rfl) (wrap64 g35) ?_
   obtain ⟨g37, r38⟩ := G_some r36
   refine d_ql (elp hd_h_ 2 ((gt h_2 id_) - 1).toNat 0) (x := aIndexAddr Try.prog 155 hd_h_ (.int .i64 ((gt h_2 id_) - 1))) (by kernel_rfl) (h_h_.idxb (by kernel_rfl) g37.1 g37.2) ?_
   refine d_ql (elp hd_h_ 2 ((gt h_2 id_) - 1).toNat 0) (x := aFieldAddr Try.prog 161 (elp hd_h_ 2 ((gt h_2 id_) - 1).toNat 0) 0) (by kernel_rfl) (Sq.fldq (d := 0) h_h_ g37.1 g37.2 (by kernel_rfl)) ?_
   refine d_ql (.int .u64 ((gt h_ ((gt h_2 id_) - 1)).1)) (x := aLoad Try.prog 29 (elp hd_h_ 2 ((gt h_2 id_) - 1).toNat 0) H) (by kernel_rfl) (h_h_.ld g37.1 g37.2 (by kernel_rfl)) ?_
   refine d_qk (.int .u64 ((gt h_ ((gt h_2 id_) - 1)).1)) (by kernel_rfl) ?_
   refine d_qk (.bool true) (by kernel_rfl) ?_
   refine d_nil ?_
   refine k32 _ _ ?_
   refine w_ret ?_
   refine b_ret (fn := Try.f100) (vs := [.int .u64 ((gt h_ ((gt h_2 id_) - 1)).1), .bool true]) (aRes_tmp (by kernel_rfl) (aRes_tmp (by kernel_rfl) (rfl))) ?_
   obtain rfl := Option.some.inj r38
   exact ⟨rfl, rfl⟩

theorem c_heap_Heap_Remove {H : AH} {b_h : Nat} {hd_h_ : Value} {fp_h_ : Fp} {hd_h_2 : Value} {fp_h_2 : Fp} {h_ : List (Int × Int)} {h_2 : List (Int)} {id_ : Int} {r : Bool × List (Int) × List (Int × Int)}
  (wf : WF H) (h_h_ : Ow enc_u64_u32 2 H hd_h_ h_ fp_h_) (h_h_2 : Ow (encI .i64) 1 H hd_h_2 h_2 fp_h_2) (h_h : Row H b_h [hd_h_, hd_h_2]) (dj_b_h_fp_h_2 : Dj [b_h] fp_h_2) (dj_b_h_fp_h_ : Dj [b_h] fp_h_) (dj_fp_h_2_fp_h_ : Dj fp_h_2 fp_h_) (hr : z_heap_Heap_Remove h_ h_2 id_ = some r) :
  ACalls Try.prog 88 #[.pointer (some ⟨b_h, 0, none⟩), .int .u32 id_] H fun v H' => ∃ (s5 : Value), v = .bool r.1 ∧ FrS ([b_h] ++ (fp_h_ ++ fp_h_2)) H H' ∧ Ow (encI .i64) 1 H' hd_h_2 r.2.1 fp_h_2 ∧ Ow enc_u64_u32 2 H' s5 r.2.2 fp_h_ ∧ Row H' b_h [s5, hd_h_2] := by
 refine acalls_of_body mixed Try.func88 rfl (Nat.le_of_ble_eq_true rfl) ?_
 unfold z_heap_Heap_Remove at hr
 refine w_seqk fun K8 k8 => ?_
 refine w_reg (by kernel_rfl) ?_
 refine s_qk (.bool false) (by kernel_rfl) ?_
 refine s_nil ?_
 refine k8 _ _ ?_
 refine w_seqk fun K9 k9 => ?_
 refine w_seqk fun K10 k10 => ?_
 refine w_reg (by kernel_rfl) ?_
 refine s_qk (.pointer (some ⟨b_h, 0, none⟩)) (by kernel_rfl) ?_
 refine s_qk (.int .u32 id_) (by kernel_rfl) ?_
 obtain ⟨y11, hy12, r13⟩ := bind_some hr
 refine s_ck 100 #[.pointer (some ⟨b_h, 0, none⟩), .int .u32 id_] (by kernel_rfl) (c_heap_Heap_Key wf h_h_.sq h_h_2.sq h_h hy12) ?_
 rintro _ _ ⟨rfl, rfl⟩
 refine s_qk (.tuple #[.int .u64 y11.1, .bool y11.2]) (by kernel_rfl) ?_
 refine s_qk (.int .u64 y11.1) (by kernel_rfl) ?_
 refine s_qk (.bool y11.2) (by kernel_rfl) ?_
 refine s_qk (.int .u64 y11.1) (by kernel_rfl) ?_
 refine s_qk (.bool y11.2) (by kernel_rfl) ?_
 refine s_nil ?_
 refine k10 _ _ ?_
 refine w_seqk fun K16 k16 => ?_
 refine w_reg (by kernel_rfl) ?_
 refine s_qk (.bool y11.2) (by kernel_rfl) ?_
 refine s_qk (.bool (!y11.2)) (by kernel_rfl) ?_
 refine s_nil ?_
 refine k16 _ _ ?_
 refine w_cond ((!y11.2)) (by kernel_rfl) rfl (fun h17 => ?_) (fun h17 => ?_)
 ·have r18 := ite_t h17 r13
  refine w_seqk fun K19 k19 => ?_
  refine w_reg (by kernel_rfl) ?_
  refine s_qk (.bool false) (by kernel_rfl) ?_
  refine s_nil ?_
  refine k19 _ _ ?_
  refine w_ret (th_ret ?_)
  refine b_ret (fn := Try.f88) (vs := [.bool false]) (aRes_tmp (by kernel_rfl) (rfl)) ?_
  obtain rfl := Option.some.inj r18
  exact ⟨(hd_h_), rfl, (FrS.refl (W := ([b_h] ++ (fp_h_ ++ fp_h_2))) wf), h_h_2, h_h_, h_h⟩
 ·have r20 := ite_bf h17 r13
  refine w_skip ?_
  refine k9 _ _ ?_
  refine w_seqk fun K21 k21 => ?_
  refine w_draw [0, 1, 2, 3, 4, 5, 6, 7, 8, 9, 10, 11, 12, 13, 14, 15] (by kernel_rfl) ?_
  refine d_qk (.pointer (some ⟨b_h, 0, none⟩)) (by kernel_rfl) ?_
  refine d_qk (.pointer (some ⟨b_h, 0, none⟩)) (by kernel_rfl) ?_
  refine d_qk (.pointer (some ⟨b_h, 1, none⟩)) (by kernel_rfl) ?_
  refine d_ql (hd_h_2) (x := aLoad Try.prog 22 (.pointer (some ⟨b_h, 1, none⟩)) H) (by kernel_rfl) (h_h.ld (by kernel_rfl)) ?_
  refine d_qk (.int .u32 id_) (by kernel_rfl) ?_
  obtain ⟨g22, r23⟩ := G_some r20
  refine d_ql (elp hd_h_2 1 id_.toNat 0) (x := aIndexAddr Try.prog 22 hd_h_2 (.int .u32 id_)) (by kernel_rfl) (h_h_2.sq.idxb (by kernel_rfl) g22.1 g22.2) ?_
  refine d_ql (.int .i64 (gt h_2 id_)) (x := aLoad Try.prog 3 (elp hd_h_2 1 id_.toNat 0) H) (by kernel_rfl) (h_h_2.sq.ld g22.1 g22.2 (by kernel_rfl)) ?_
  obtain ⟨g24, r25⟩ := G_some r23
  refine d_w (((gt h_2 id_) - 1)) (k := .i64) (x := ((gt h_2 id_) - 1)) (by kernel_rfl) (wrap64 g24) ?_
  refine d_qk (.pointer (some ⟨b_h, 0, none⟩)) (by kernel_rfl) ?_
  refine d_qk (.pointer (some ⟨b_h, 0, none⟩)) (by kernel_rfl) ?_
  refine d_qk (.pointer (some ⟨b_h, 0, none⟩)) (by kernel_rfl) ?_
  refine d_ql (hd_h_) (x := aLoad Try.prog 155 (.pointer (some ⟨b_h, 0, none⟩)) H) (by kernel_rfl) (h_h.ld (by kernel_rfl)) ?_
  refine d_ql (.int .i64 (h_.length : Int)) (x := aLen Try.prog 155 hd_h_ H) (by kernel_rfl) (h_h_.sq.lenb (by kernel_rfl)) ?_
  obtain ⟨g26, r27⟩ := G_some r25
  refine d_w (((h_.length : Int) - 1)) (k := .i64) (x := ((h_.length : Int) - 1)) (by kernel_rfl) (wrap64 g26) ?_
  refine d_qk (.int .i64 ((gt h_2 id_) - 1)) (by kernel_rfl) ?_
  refine d_qk (.int .i64 ((h_.length : Int) - 1)) (by kernel_rfl) ?_
  refine d_nil ?_
  refine k21 _ _ ?_
  refine w_seqk fun K28 k28 => ?_
  refine w_reg (by kernel_rfl) ?_
  refine s_qk (.pointer (some ⟨b_h, 0, none⟩)) (by kernel_rfl) ?_
  refine s_qk (.pointer (some ⟨b_h, 0, none⟩)) (by kernel_rfl) ?_
  refine s_qk (.pointer (some ⟨b_h, 0, none⟩)) (by kernel_rfl) ?_
  refine s_ql (hd_h_) (x := aLoad Try.prog 155 (.pointer (some ⟨b_h, 0, none⟩)) H) (by kernel_rfl) (h_h.ld (by kernel_rfl)) ?_
  refine s_qk (.int .i64 ((h_.length : Int) - 1)) (by kernel_rfl) ?_
  obtain ⟨g29, r30⟩ := G_some r27
  refine s_ql (elp hd_h_ 2 ((h_.length : Int) - 1).toNat 0) (x := aIndexAddr Try.prog 155 hd_h_ (.int .i64 ((h_.length : Int) - 1))) (by kernel_rfl) (h_h_.sq.idxb (by kernel_rfl) g29.1 g29.2) ?_
  refine s_ql (.agg #[.int .u64 ((gt h_ ((h_.length : Int) - 1)).1), .int .u32 ((gt h_ ((h_.length : Int) - 1)).2)]) (x := aLoad Try.prog 161 (elp hd_h_ 2 ((h_.length : Int) - 1).toNat 0) H) (by kernel_rfl) (h_h_.sq.ld g29.1 g29.2 (by kernel_rfl)) ?_
  refine s_rwk wf [.int .u64 0, .int .u32 0] (by kernel_rfl) fun b31 H32 e33 hb34 r35 => ?_
  obtain ⟨H37, q38, e39, r40⟩ := Row.store (P := Try.prog) (t := 161) (p := 0) e33.wf r35 (.agg #[.int .u64 ((gt h_ ((h_.length : Int) - 1)).1), .int .u32 ((gt h_ ((h_.length : Int) - 1)).2)]) [.int .u64 ((gt h_ ((h_.length : Int) - 1)).1), .int .u32 ((gt h_ ((h_.length : Int) - 1)).2)] (by kernel_rfl) (by kernel_rfl) (one_cons (rfl) (one_cons (rfl) (one_nil))) (Nat.le_of_ble_eq_true (by kernel_rfl)) [.int .u64 ((gt h_ ((h_.length : Int) - 1)).1), .int .u32 ((gt h_ ((h_.length : Int) - 1)).2)] (by kernel_rfl)
  refine s_ek (undef) (by kernel_rfl) (map_ok q38) ?_
  refine s_nil ?_
  refine k28 _ _ ?_
  refine w_seqk fun K41 k41 => ?_
  refine w_reg (by kernel_rfl) ?_
  refine s_qk (.pointer (some ⟨b_h, 0, none⟩)) (by kernel_rfl) ?_
  refine s_qk (.pointer (some ⟨b_h, 0, none⟩)) (by kernel_rfl) ?_
  refine s_qk (.pointer (some ⟨b_h, 0, none⟩)) (by kernel_rfl) ?_
  refine s_qk (.pointer (some ⟨b_h, 0, none⟩)) (by kernel_rfl) ?_
  have u42 := ((h_h.ext e33).frS e39 (hb34.djn h_h.ltF))
  refine s_ql (hd_h_) (x := aLoad Try.prog 155 (.pointer (some ⟨b_h, 0, none⟩)) H37) (by kernel_rfl) (u42.ld (by kernel_rfl)) ?_
  refine s_qk (.int .i64 ((h_.length : Int) - 1)) (by kernel_rfl) ?_
  obtain ⟨g43, r44⟩ := G_some r30
  have u48 := ((h_h_.ext e33).fr e39 (hb34.djn h_h_.lt))
  obtain ⟨s45, q46, hs47⟩ := Ow.head (P := Try.prog) u48 (t := 155) (by kernel_rfl) (hi := (some (.int .i64 ((h_.length : Int) - 1)))) (r := ((h_.length : Int) - 1).toNat) (aBound_int _ (by have := g43; omega)) (by have := g43; omega)
  obtain ⟨a49, n50, c51, rfl⟩ := hs47.form
  refine s_ql (.slice a49 n50 c51) (by kernel_rfl) q46 ?_
  refine s_qk (.pointer (some ⟨b_h, 0, none⟩)) (by kernel_rfl) ?_
  refine s_qk (.pointer (some ⟨b_h, 0, none⟩)) (by kernel_rfl) ?_
  obtain ⟨H53, q54, e55, r56⟩ := Row.store (P := Try.prog) (t := 155) (p := 0) e39.wf u42 (.slice a49 n50 c51) [.slice a49 n50 c51] (by kernel_rfl) (by kernel_rfl) (one_cons (hs47.one1) (one_nil)) (Nat.le_of_ble_eq_true (by kernel_rfl)) [.slice a49 n50 c51, hd_h_2] (by kernel_rfl)
  refine s_ek (undef) (by kernel_rfl) (map_ok q54) ?_
  refine s_nil ?_
  refine k41 _ _ ?_
  refine w_seqk fun K57 k57 => ?_
  refine w_reg (by kernel_rfl) ?_
  refine s_qk (.pointer (some ⟨b_h, 0, none⟩)) (by kernel_rfl) ?_
  refine s_qk (.pointer (some ⟨b_h, 0, none⟩)) (by kernel_rfl) ?_
  refine s_qk (.pointer (some ⟨b_h, 1, none⟩)) (by kernel_rfl) ?_
  refine s_ql (hd_h_2) (x := aLoad Try.prog 22 (.pointer (some ⟨b_h, 1, none⟩)) H53) (by kernel_rfl) (r56.ld (by kernel_rfl)) ?_
  refine s_qk (.int .u32 id_) (by kernel_rfl) ?_
  have u58 := (((h_h_2.ext e33).fr e39 (hb34.djn h_h_2.lt)).fr e55 dj_b_h_fp_h_2)
  refine s_ql (elp hd_h_2 1 id_.toNat 0) (x := aIndexAddr Try.prog 22 hd_h_2 (.int .u32 id_)) (by kernel_rfl) (u58.sq.idxb (by kernel_rfl) g22.1 g22.2) ?_
  obtain ⟨H59, q60, e61, hm62⟩ := Ow.store (P := Try.prog) (t := 3) (off := 0) e55.wf u58 g22.1 g22.2 (.int .i64 0) [.int .i64 0] (by kernel_rfl) (by kernel_rfl) rfl 0 (Nat.le_of_ble_eq_true rfl) (by kernel_rfl)
  refine s_ek (undef) (by kernel_rfl) (map_ok q60) ?_
  refine s_nil ?_
  refine k57 _ _ ?_
  refine w_seqk fun K63 k63 => ?_
  refine w_seqk fun K64 k64 => ?_
  refine w_reg (by kernel_rfl) ?_
  refine s_qk (.int .i64 ((gt h_2 id_) - 1)) (by kernel_rfl) ?_
  refine s_qk (.int .i64 ((h_.length : Int) - 1)) (by kernel_rfl) ?_
  refine s_qk (.bool (decide (((gt h_2 id_) - 1) < ((h_.length : Int) - 1)))) (by kernel_rfl) ?_
  refine s_nil ?_
  refine k64 _ _ ?_
  refine w_condp (((gt h_2 id_) - 1) < ((h_.length : Int) - 1)) (by kernel_rfl) rfl (fun h65 => ?_) (fun h65 => ?_)
  ·have r66 := ite_t h65 r44
   refine w_seqk fun K67 k67 => ?_
   refine w_reg (by kernel_rfl) ?_
   refine s_qk (.pointer (some ⟨b_h, 0, none⟩)) (by kernel_rfl) ?_
   refine s_qk (.int .i64 ((gt h_2 id_) - 1)) (by kernel_rfl) ?_
   have u68 := ((r40.frS e55 (Dj.symm (hb34.djn h_h.ltF))).frS e61 (Dj.symm (hb34.djn h_h_2.lt)))
   refine s_ql (.agg #[.int .u64 ((gt h_ ((h_.length : Int) - 1)).1), .int .u32 ((gt h_ ((h_.length : Int) - 1)).2)]) (x := aLoad Try.prog 161 (.pointer (some ⟨b31, 0, none⟩)) H59) (by kernel_rfl) (u68.ld (by kernel_rfl)) ?_
   have u69 := ((hs47.fr e55 dj_b_h_fp_h_).fr e61 dj_fp_h_2_fp_h_)
   have u70 := (r56.frS e61 (Dj.symm dj_b_h_fp_h_2))
   obtain ⟨y71, hy72, r73⟩ := bind_some r66
   refine s_ck 97 #[.pointer (some ⟨b_h, 0, none⟩), .int .i64 ((gt h_2 id_) - 1), .agg #[.int .u64 ((gt h_ ((h_.length : Int) - 1)).1), .int .u32 ((gt h_ ((h_.length : Int) - 1)).2)]] (by kernel_rfl) (c_heap_Heap_put e61.wf u69 hm62 u70 (Dj.symm dj_b_h_fp_h_) (Dj.symm dj_fp_h_2_fp_h_) hy72) ?_
   rintro _ H74 ⟨rfl, e75, m76, m77⟩
   refine s_nil ?_
   refine k67 _ _ ?_
   refine w_seqk fun K78 k78 => ?_
   refine w_reg (by kernel_rfl) ?_
   refine s_qk (.pointer (some ⟨b_h, 0, none⟩)) (by kernel_rfl) ?_
   refine s_qk (.int .i64 ((gt h_2 id_) - 1)) (by kernel_rfl) ?_
   have u79 := (u70.frS e75 (Dj.app (Dj.symm dj_b_h_fp_h_) (Dj.symm dj_b_h_fp_h_2)))
   obtain ⟨y80, hy81, r82⟩ := bind_some r73
   refine s_ck 98 #[.pointer (some ⟨b_h, 0, none⟩), .int .i64 ((gt h_2 id_) - 1)] (by kernel_rfl) (c_heap_Heap_up e75.wf m76 m77 u79 (Dj.symm dj_b_h_fp_h_) (Dj.symm dj_fp_h_2_fp_h_) (Dj.symm dj_b_h_fp_h_2) hy81) ?_
   rintro _ H83 ⟨rfl, e84, m85, m86⟩
   refine s_nil ?_
   refine k78 _ _ ?_
   refine w_draw [0, 1, 2, 3, 4, 5, 6, 7, 8, 9, 10] (by kernel_rfl) ?_
   refine d_qk (.pointer (some ⟨b_h, 0, none⟩)) (by kernel_rfl) ?_
   refine d_qk (.pointer (some ⟨b_h, 0, none⟩)) (by kernel_rfl) ?_
   refine d_qk (.pointer (some ⟨b_h, 0, none⟩)) (by kernel_rfl) ?_
   refine d_qk (.pointer (some ⟨b_h, 1, none⟩)) (by kernel_rfl) ?_
   have u87 := (u79.frS e84 (Dj.app (Dj.symm dj_b_h_fp_h_) (Dj.symm dj_b_h_fp_h_2)))
   refine d_ql (hd_h_2) (x := aLoad Try.prog 22 (.pointer (some ⟨b_h, 1, none⟩)) H83) (by kernel_rfl) (u87.ld (by kernel_rfl)) ?_
   refine d_qk (.pointer (some ⟨b31, 1, none⟩)) (by kernel_rfl) ?_
   have u88 := ((u68.frS e75 (Dj.app (Dj.symm (hb34.djn h_h_.lt)) (Dj.symm (hb34.djn h_h_2.lt)))).frS e84 (Dj.app (Dj.symm (hb34.djn h_h_.lt)) (Dj.symm (hb34.djn h_h_2.lt))))
   refine d_ql (.int .u32 ((gt h_ ((h_.length : Int) - 1)).2)) (x := aLoad Try.prog 135 (.pointer (some ⟨b31, 1, none⟩)) H83) (by kernel_rfl) (u88.ld (by kernel_rfl)) ?_
   obtain ⟨g89, r90⟩ := G_some r82
   refine d_ql (elp hd_h_2 1 ((gt h_ ((h_.length : Int) - 1)).2).toNat 0) (x := aIndexAddr Try.prog 22 hd_h_2 (.int .u32 ((gt h_ ((h_.length : Int) - 1)).2))) (by kernel_rfl) (m86.sq.idxb (by kernel_rfl) g89.1 g89.2) ?_
   refine d_ql (.int .i64 (gt y80.2 ((gt h_ ((h_.length : Int) - 1)).2))) (x := aLoad Try.prog 3 (elp hd_h_2 1 ((gt h_ ((h_.length : Int) - 1)).2).toNat 0) H83) (by kernel_rfl) (m86.sq.ld g89.1 g89.2 (by kernel_rfl)) ?_
   obtain ⟨g91, r92⟩ := G_some r90
   refine d_w (((gt y80.2 ((gt h_ ((h_.length : Int) - 1)).2)) - 1)) (k := .i64) (x := ((gt y80.2 ((gt h_ ((h_.length : Int) - 1)).2)) - 1)) (by kernel_rfl) (wrap64 g91) ?_
   obtain ⟨y93, hy94, r95⟩ := bind_some r92
   refine d_ck 99 #[.pointer (some ⟨b_h, 0, none⟩), .int .i64 ((gt y80.2 ((gt h_ ((h_.length : Int) - 1)).2)) - 1)] (by kernel_rfl) (c_heap_Heap_down e84.wf m85 m86 u87 (Dj.symm dj_b_h_fp_h_) (Dj.symm dj_fp_h_2_fp_h_) (Dj.symm dj_b_h_fp_h_2) hy94) ?_
   rintro _ H96 ⟨rfl, e97, m98, m99⟩
   refine ⟨st_nil, ?_⟩
   refine d_nil ?_
   refine k63 _ _ ?_
   refine w_seqk fun K100 k100 => ?_
   refine w_reg (by kernel_rfl) ?_
   refine s_qk (.bool true) (by kernel_rfl) ?_
   refine s_nil ?_
   refine k100 _ _ ?_
   refine w_ret ?_
   refine b_ret (fn := Try.f88) (vs := [.bool true]) (aRes_tmp (by kernel_rfl) (rfl)) ?_
   have u101 := (u87.frS e97 (Dj.app (Dj.symm dj_b_h_fp_h_) (Dj.symm dj_b_h_fp_h_2)))
   obtain rfl := Option.some.inj r95
   exact ⟨(.slice a49 n50 c51), rfl, (FrS.step wf (FrS.step wf (FrS.step wf (FrS.step wf (FrS.step wf (FrS.step wf ((FrS.refl (W := ([b_h] ++ (fp_h_ ++ fp_h_2))) wf).extR e33) e39 (hb34.fresh (Nat.le_refl _))) e55 Inn.left) e61 (Inn.right (Inn.right Inn.refl'))) e75 (Inn.app (Inn.right Inn.left) (Inn.right (Inn.right Inn.refl')))) e84 (Inn.app (Inn.right Inn.left) (Inn.right (Inn.right Inn.refl')))) e97 (Inn.app (Inn.right Inn.left) (Inn.right (Inn.right Inn.refl')))), m99, m98, u101⟩
  ·have r102 := ite_f h65 r44
   refine w_skip ?_
   refine k63 _ _ ?_
   refine w_seqk fun K103 k103 => ?_
   refine w_reg (by kernel_rfl) ?_
   refine s_qk (.bool true) (by kernel_rfl) ?_
   refine s_nil ?_
   refine k103 _ _ ?_
   refine w_ret ?_
   refine b_ret (fn := Try.f88) (vs := [.bool true]) (aRes_tmp (by kernel_rfl) (rfl)) ?_
   have u104 := ((hs47.fr e55 dj_b_h_fp_h_).fr e61 dj_fp_h_2_fp_h_)
   have u105 := (r56.frS e61 (Dj.symm dj_b_h_fp_h_2))
   obtain rfl := Option.some.inj r102
   exact ⟨(.slice a49 n50 c51), rfl, (FrS.step wf (FrS.step wf (FrS.step wf ((FrS.refl (W := ([b_h] ++ (fp_h_ ++ fp_h_2))) wf).extR e33) e39 (hb34.fresh (Nat.le_refl _))) e55 Inn.left) e61 (Inn.right (Inn.right Inn.refl'))), hm62, u104, u105⟩

theorem c_heap_Heap_Pop {H : AH} {b_h : Nat} {hd_h_ : Value} {fp_h_ : Fp} {hd_h_2 : Value} {fp_h_2 : Fp} {h_ : List (Int × Int)} {h_2 : List (Int)} {r : Int × Int × Bool × List (Int) × List (Int × Int)}
  (wf : WF H) (h_h_ : Ow enc_u64_u32 2 H hd_h_ h_ fp_h_) (h_h_2 : Ow (encI .i64) 1 H hd_h_2 h_2 fp_h_2) (h_h : Row H b_h [hd_h_, hd_h_2]) (dj_b_h_fp_h_2 : Dj [b_h] fp_h_2) (dj_b_h_fp_h_ : Dj [b_h] fp_h_) (dj_fp_h_2_fp_h_ : Dj fp_h_2 fp_h_) (hr : z_heap_Heap_Pop h_ h_2 = some r) :
  ACalls Try.prog 75 #[.pointer (some ⟨b_h, 0, none⟩)] H fun v H' => ∃ (s5 : Value), v = .tuple #[.int .u32 r.1, .int .u64 r.2.1, .bool r.2.2.1] ∧ FrS ([b_h] ++ (fp_h_ ++ fp_h_2)) H H' ∧ Ow (encI .i64) 1 H' hd_h_2 r.2.2.2.1 fp_h_2 ∧ Ow enc_u64_u32 2 H' s5 r.2.2.2.2 fp_h_ ∧ Row H' b_h [s5, hd_h_2] := by
 refine acalls_of_body mixed Try.func75 rfl (Nat.le_of_ble_eq_true rfl) ?_
 unfold z_heap_Heap_Pop at hr
 refine w_seqk fun K8 k8 => ?_
 refine w_reg (by kernel_rfl) ?_
 refine s_qk (.int .u32 0) (by kernel_rfl) ?_
 refine s_qk (.int .u64 0) (by kernel_rfl) ?_
 refine s_qk (.bool false) (by kernel_rfl) ?_
 refine s_nil ?_
 refine k8 _ _ ?_
 refine w_seqk fun K9 k9 => ?_
 refine w_reg (by kernel_rfl) ?_
 refine s_qk (.pointer (some ⟨b_h, 0, none⟩)) (by kernel_rfl) ?_
 obtain ⟨y10, hy11, r12⟩ := bind_some hr
 refine s_ck 74 #[.pointer (some ⟨b_h, 0, none⟩)] (by kernel_rfl) (c_heap_Heap_Top wf h_h_.sq h_h_2.sq h_h hy11) ?_
 rintro _ _ ⟨rfl, rfl⟩
 refine s_qk (.tuple #[.int .u32 y10.1, .int .u64 y10.2.1, .bool y10.2.2]) (by kernel_rfl) ?_
 refine s_qk (.int .u32 y10.1) (by kernel_rfl) ?_
 refine s_qk (.int .u64 y10.2.1) (by kernel_rfl) ?_
 refine s_qk (.bool y10.2.2) (by kernel_rfl) ?_
 refine s_qk (.int .u32 y10.1) (by kernel_rfl) ?_
 refine s_qk (.int .u64 y10.2.1) (by kernel_rfl) ?_
 refine s_qk (.bool y10.2.2) (by kernel_rfl) ?_
 refine s_nil ?_
 refine k9 _ _ ?_
 refine w_seqk fun K15 k15 => ?_
 refine w_seqk fun K16 k16 => ?_
 refine w_reg (by kernel_rfl) ?_
 refine s_qk (.bool y10.2.2) (by kernel_rfl) ?_
 refine s_nil ?_
 refine k16 _ _ ?_
 refine w_cond (y10.2.2) (by kernel_rfl) rfl (fun h17 => ?_) (fun h17 => ?_)
 ·have r18 := ite_t h17 r12
  refine w_reg (by kernel_rfl) ?_
  refine s_qk (.pointer (some ⟨b_h, 0, none⟩)) (by kernel_rfl) ?_
  refine s_qk (.int .u32 y10.1) (by kernel_rfl) ?_
  obtain ⟨y19, hy20, r21⟩ := bind_some r18
  refine s_ck 88 #[.pointer (some ⟨b_h, 0, none⟩), .int .u32 y10.1] (by kernel_rfl) (c_heap_Heap_Remove wf h_h_ h_h_2 h_h dj_b_h_fp_h_2 dj_b_h_fp_h_ dj_fp_h_2_fp_h_ hy20) ?_
  rintro _ H23 ⟨s22, rfl, e24, m25, m26, m27⟩
  obtain ⟨a29, n30, c31, rfl⟩ := m26.form
  refine s_nil ?_
  refine k15 _ _ ?_
  refine w_seqk fun K32 k32 => ?_
  refine w_reg (by kernel_rfl) ?_
  refine s_qk (.int .u32 y10.1) (by kernel_rfl) ?_
  refine s_qk (.int .u64 y10.2.1) (by kernel_rfl) ?_
  refine s_qk (.bool y10.2.2) (by kernel_rfl) ?_
  refine s_qk (.int .u32 y10.1) (by kernel_rfl) ?_
  refine s_qk (.int .u64 y10.2.1) (by kernel_rfl) ?_
  refine s_qk (.bool y10.2.2) (by kernel_rfl) ?_
  refine s_nil ?_
  refine k32 _ _ ?_
  refine w_ret ?_
  refine b_ret (fn := Try.f75) (vs := [.int .u32 y10.1, .int .u64 y10.2.1, .bool y10.2.2]) (aRes_tmp (by kernel_rfl) (aRes_tmp (by kernel_rfl) (aRes_tmp (by kernel_rfl) (rfl)))) ?_
  obtain rfl := Option.some.inj r21
  exact ⟨(.slice a29 n30 c31), rfl, (FrS.step wf (FrS.refl (W := ([b_h] ++ (fp_h_ ++ fp_h_2))) wf) e24 (Inn.app Inn.left (Inn.app (Inn.right Inn.left) (Inn.right (Inn.right Inn.refl'))))), m25, m26, m27⟩
 ·have r33 := ite_bf h17 r12
  refine w_skip ?_
  refine k15 _ _ ?_
  refine w_seqk fun K34 k34 => ?_
  refine w_reg (by kernel_rfl) ?_
  refine s_qk (.int .u32 y10.1) (by kernel_rfl) ?_
  refine s_qk (.int .u64 y10.2.1) (by kernel_rfl) ?_
  refine s_qk (.bool y10.2.2) (by kernel_rfl) ?_
  refine s_qk (.int .u32 y10.1) (by kernel_rfl) ?_
  refine s_qk (.int .u64 y10.2.1) (by kernel_rfl) ?_
  refine s_qk (.bool y10.2.2) (by kernel_rfl) ?_
  refine s_nil ?_
  refine k34 _ _ ?_
  refine w_ret ?_
  refine b_ret (fn := Try.f75) (vs := [.int .u32 y10.1, .int .u64 y10.2.1, .bool y10.2.2]) (aRes_tmp (by kernel_rfl) (aRes_tmp (by kernel_rfl) (aRes_tmp (by kernel_rfl) (rfl)))) ?_
  obtain rfl := Option.some.inj r33
  exact ⟨(hd_h_), rfl, (FrS.refl (W := ([b_h] ++ (fp_h_ ++ fp_h_2))) wf), h_h_2, h_h_, h_h⟩

theorem c_stamp_Stamp_Get {H : AH} {b_s : Nat} {hd_s_ : Value} {fp_s_ : Fp} {s_ : List (Int × Int)} {s_2 : Int} {s_3 : Int} {i : Int} {r : Int × Bool}
  (wf : WF H) (h_s_ : Sq enc_u64_u32 2 H hd_s_ s_ fp_s_) (h_s : Row H b_s [hd_s_, .int .u32 s_2, .int .i64 s_3]) (hr : z_stamp_Stamp_Get s_ s_2 s_3 i = some r) :
  ACalls Try.prog 56 #[.pointer (some ⟨b_s, 0, none⟩), .int .i64 i] H fun v H' => v = .tuple #[.int .u64 r.1, .bool r.2] ∧ H = H' := by
 refine acalls_of_body mixed Try.func56 rfl (Nat.le_of_ble_eq_true rfl) ?_
 unfold z_stamp_Stamp_Get at hr
 refine w_seqk fun K1 k1 => ?_
 refine w_reg (by kernel_rfl) ?_
 refine s_qk (.int .u64 0) (by kernel_rfl) ?_
 refine s_qk (.bool false) (by kernel_rfl) ?_
 refine s_nil ?_
 refine k1 _ _ ?_
 refine w_seqk fun K2 k2 => ?_
 refine w_seqk fun K3 k3 => ?_
 obtain ⟨o4, hx5, r6⟩ := bind_some hr
 refine w_mid (fun α H7 => Has α [(0, .pointer (some ⟨b_s, 0, none⟩)), (1, .int .i64 i), (35, .bool o4)] ∧ H = H7) (fun K9 k9 => ?_) (fun α H7 hM => ?_)
 ·refine w_draw [0, 1, 2, 3, 4, 5, 6, 7, 8, 9, 10, 11, 12, 13, 14, 15, 16, 17, 18, 19, 20, 21, 22, 23, 24, 25, 26, 27, 28, 29] (by kernel_rfl) ?_
  refine d_qk (.pointer (some ⟨b_s, 0, none⟩)) (by kernel_rfl) ?_
  refine d_qk (.bool false) (by kernel_rfl) ?_
  refine d_qk (.bool false) (by kernel_rfl) ?_
  refine d_qk (.int .i64 i) (by kernel_rfl) ?_
  refine d_b (i < 0) (by kernel_rfl) (fun h11 => ?_) (fun h11 => ?_)
  ·have r12 := ite_t h11 hx5
   refine d_qk (.bool true) (by kernel_rfl) ?_
   refine d_qk (.bool true) (by kernel_rfl) ?_
   refine d_idle (by kernel_rfl) ?_
   refine d_idle (by kernel_rfl) ?_
   refine d_idle (by kernel_rfl) ?_
   refine d_idle (by kernel_rfl) ?_
   refine d_idle (by kernel_rfl) ?_
   refine d_idle (by kernel_rfl) ?_
   refine d_idle (by kernel_rfl) ?_
   refine d_qk (.bool true) (by kernel_rfl) ?_
   refine d_qk (.bool true) (by kernel_rfl) ?_
   refine d_idle (by kernel_rfl) ?_
   refine d_idle (by kernel_rfl) ?_
   refine d_idle (by kernel_rfl) ?_
   refine d_idle (by kernel_rfl) ?_
   refine d_idle (by kernel_rfl) ?_
   refine d_idle (by kernel_rfl) ?_
   refine d_idle (by kernel_rfl) ?_
   refine d_idle (by kernel_rfl) ?_
   refine d_idle (by kernel_rfl) ?_
   refine d_idle (by kernel_rfl) ?_
   refine d_idle (by kernel_rfl) ?_
   refine d_idle (by kernel_rfl) ?_
   refine d_idle (by kernel_rfl) ?_
   refine d_qk (.bool true) (by kernel_rfl) ?_
   refine d_nil ?_
   obtain rfl := Option.some.inj r12
   exact k9 _ _ ⟨⟨by kernel_rfl, by kernel_rfl, by kernel_rfl, trivial⟩, rfl⟩
  ·have r13 := ite_f h11 hx5
   refine d_qk (.bool false) (by kernel_rfl) ?_
   refine d_qk (.bool false) (by kernel_rfl) ?_
   refine d_qk (.int .i64 i) (by kernel_rfl) ?_
   refine d_qk (.pointer (some ⟨b_s, 0, none⟩)) (by kernel_rfl) ?_
   refine d_qk (.pointer (some ⟨b_s, 0, none⟩)) (by kernel_rfl) ?_
   refine d_qk (.pointer (some ⟨b_s, 0, none⟩)) (by kernel_rfl) ?_
   refine d_ql (hd_s_) (x := aLoad Try.prog 139 (.pointer (some ⟨b_s, 0, none⟩)) H) (by kernel_rfl) (h_s.ld (by kernel_rfl)) ?_
   refine d_ql (.int .i64 (s_.length : Int)) (x := aLen Try.prog 139 hd_s_ H) (by kernel_rfl) (h_s_.lenb (by kernel_rfl)) ?_
   refine d_b (i ≥ (s_.length : Int)) (by kernel_rfl) (fun h14 => ?_) (fun h14 => ?_)
   ·have r15 := ite_t h14 r13
    refine d_qk (.bool true) (by kernel_rfl) ?_
    refine d_qk (.bool true) (by kernel_rfl) ?_
    refine d_idle (by kernel_rfl) ?_
    refine d_idle (by kernel_rfl) ?_
    refine d_idle (by kernel_rfl) ?_
    refine d_idle (by kernel_rfl) ?_
    refine d_idle (by kernel_rfl) ?_
    refine d_idle (by kernel_rfl) ?_
    refine d_idle (by kernel_rfl) ?_
    refine d_idle (by kernel_rfl) ?_
    refine d_idle (by kernel_rfl) ?_
    refine d_idle (by kernel_rfl) ?_
    refine d_idle (by kernel_rfl) ?_
    refine d_idle (by kernel_rfl) ?_
    refine d_idle (by kernel_rfl) ?_
    refine d_qk (.bool true) (by kernel_rfl) ?_
    refine d_nil ?_
    obtain rfl := Option.some.inj r15
    exact k9 _ _ ⟨⟨by kernel_rfl, by kernel_rfl, by kernel_rfl, trivial⟩, rfl⟩
   ·have r16 := ite_f h14 r13
    refine d_qk (.bool false) (by kernel_rfl) ?_
    refine d_qk (.bool false) (by kernel_rfl) ?_
    refine d_qk (.pointer (some ⟨b_s, 0, none⟩)) (by kernel_rfl) ?_
    refine d_qk (.pointer (some ⟨b_s, 0, none⟩)) (by kernel_rfl) ?_
    refine d_qk (.pointer (some ⟨b_s, 0, none⟩)) (by kernel_rfl) ?_
    refine d_ql (hd_s_) (x := aLoad Try.prog 139 (.pointer (some ⟨b_s, 0, none⟩)) H) (by kernel_rfl) (h_s.ld (by kernel_rfl)) ?_
    refine d_qk (.int .i64 i) (by kernel_rfl) ?_
    obtain ⟨g17, r18⟩ := G_some r16
    refine d_ql (elp hd_s_ 2 i.toNat 0) (x := aIndexAddr Try.prog 139 hd_s_ (.int .i64 i)) (by kernel_rfl) (h_s_.idxb (by kernel_rfl) g17.1 g17.2) ?_
    refine d_ql (elp hd_s_ 2 i.toNat 1) (x := aFieldAddr Try.prog 143 (elp hd_s_ 2 i.toNat 0) 1) (by kernel_rfl) (Sq.fldq (d := 1) h_s_ g17.1 g17.2 (by kernel_rfl)) ?_
    refine d_ql (.int .u32 ((gt s_ i).2)) (x := aLoad Try.prog 135 (elp hd_s_ 2 i.toNat 1) H) (by kernel_rfl) (h_s_.ld g17.1 g17.2 (by kernel_rfl)) ?_
    refine d_qk (.pointer (some ⟨b_s, 0, none⟩)) (by kernel_rfl) ?_
    refine d_qk (.pointer (some ⟨b_s, 0, none⟩)) (by kernel_rfl) ?_
    refine d_qk (.pointer (some ⟨b_s, 1, none⟩)) (by kernel_rfl) ?_
    refine d_ql (.int .u32 s_2) (x := aLoad Try.prog 135 (.pointer (some ⟨b_s, 1, none⟩)) H) (by kernel_rfl) (h_s.ld (by kernel_rfl)) ?_
    refine d_qk (.bool (!decide (((gt s_ i).2) = s_2))) (by kernel_rfl) ?_
    refine d_qk (.bool (!decide (((gt s_ i).2) = s_2))) (by kernel_rfl) ?_
    refine d_nil ?_
    obtain rfl := Option.some.inj r18
    exact k9 _ _ ⟨⟨by kernel_rfl, by kernel_rfl, by kernel_rfl, trivial⟩, rfl⟩
 ·obtain ⟨hh10, rfl⟩ := hM
  obtain ⟨β, rfl⟩ := has_ex hh10
  clear hh10
  refine k3 _ _ ?_
  refine w_cond (o4) (by kernel_rfl) rfl (fun h19 => ?_) (fun h19 => ?_)
  ·have r20 := ite_t h19 r6
   refine w_seqk fun K21 k21 => ?_
   refine w_reg (by kernel_rfl) ?_
   refine s_qk (.int .u64 0) (by kernel_rfl) ?_
   refine s_qk (.bool false) (by kernel_rfl) ?_
   refine s_nil ?_
   refine k21 _ _ ?_
   refine w_ret (th_ret ?_)
   refine b_ret (fn := Try.f56) (vs := [.int .u64 0, .bool false]) (aRes_tmp (by kernel_rfl) (aRes_tmp (by kernel_rfl) (rfl))) ?_
   obtain rfl := Option.some.inj r20
   exact ⟨rfl, rfl⟩
  ·have r22 := ite_bf h19 r6
   refine w_skip ?_
   refine k2 _ _ ?_
   refine w_seqk fun K23 k23 => ?_
   refine w_reg (by kernel_rfl) ?_
   refine s_qk (.pointer (some ⟨b_s, 0, none⟩)) (by kernel_rfl) ?_
   refine s_qk (.pointer (some ⟨b_s, 0, none⟩)) (by kernel_rfl) ?_
   refine s_qk (.pointer (some ⟨b_s, 0, none⟩)) (by kernel_rfl) ?_
   refine s_ql (hd_s_) (x := aLoad Try.prog 139 (.pointer (some ⟨b_s, 0, none⟩)) H) (by kernel_rfl) (h_s.ld (by kernel_rfl)) ?_
   refine s_qk (.int .i64 i) (by kernel_rfl) ?_
   obtain ⟨g24, r25⟩ := G_some r22
   refine s_ql (elp hd_s_ 2 i.toNat 0) (x := aIndexAddr Try.prog 139 hd_s_ (.int .i64 i)) (by kernel_rfl) (h_s_.idxb (by kernel_rfl) g24.1 g24.2) ?_
   refine s_ql (elp hd_s_ 2 i.toNat 0) (x := aFieldAddr Try.prog 143 (elp hd_s_ 2 i.toNat 0) 0) (by kernel_rfl) (Sq.fldq (d := 0) h_s_ g24.1 g24.2 (by kernel_rfl)) ?_
   refine s_ql (.int .u64 ((gt s_ i).1)) (x := aLoad Try.prog 29 (elp hd_s_ 2 i.toNat 0) H) (by kernel_rfl) (h_s_.ld g24.1 g24.2 (by kernel_rfl)) ?_
   refine s_qk (.int .u64 ((gt s_ i).1)) (by kernel_rfl) ?_
   refine s_qk (.bool true) (by kernel_rfl) ?_
   refine s_nil ?_
   refine k23 _ _ ?_
   refine w_ret ?_
   refine b_ret (fn := Try.f56) (vs := [.int .u64 ((gt s_ i).1), .bool true]) (aRes_tmp (by kernel_rfl) (aRes_tmp (by kernel_rfl) (rfl))) ?_
   obtain rfl := Option.some.inj r25
   exact ⟨rfl, rfl⟩


end Go.Vd

/-! (KWj5) -/

set_option maxRecDepth 100000
set_option maxHeartbeats 4000000
set_option linter.unusedVariables false
namespace Go.Vd
open Go.Proofs
attribute [local irreducible] wpSeq wpOrd aWp
theorem c_search_state_settle {H : AH} {b_st : Nat} {hd_st_ : Value} {fp_st_ : Fp} {hd_st_2 : Value} {fp_st_2 : Fp} {hd_st_3 : Value} {fp_st_3 : Fp} {b_st_4 : Nat} {hd_st_5 : Value} {fp_st_5 : Fp} {hd_st_6 : Value} {fp_st_6 : Fp} {b_st_7 : Nat} {hd_st_8 : Value} {fp_st_8 : Fp} {hd_st_11 : Value} {fp_st_11 : Fp} {hd_st_12 : Value} {fp_st_12 : Fp} {st_ : List (Int)} {st_2 : List (Int)} {st_3 : List (Int)} {st_5 : List (Int × Int)} {st_6 : List (Int)} {st_8 : List (Int × Int)} {st_9 : Int} {st_10 : Int} {st_11 : List (Int)} {st_12 : List (Bool)} {v_ : Int} {d : Int} {hops : Int} {r : List (Int) × List (Int × Int) × List (Int × Int) × Int × List (Int) × List (Bool)}
  (wf : WF H) (h_st_ : Sq (encI .i64) 1 H hd_st_ st_ fp_st_) (h_st_2 : Sq (encI .i64) 1 H hd_st_2 st_2 fp_st_2) (h_st_3 : Sq (encI .i64) 1 H hd_st_3 st_3 fp_st_3) (h_st_5 : Ow enc_u64_u32 2 H hd_st_5 st_5 fp_st_5) (h_st_6 : Ow (encI .i64) 1 H hd_st_6 st_6 fp_st_6) (h_st_4 : Row H b_st_4 [hd_st_5, hd_st_6]) (h_st_8 : Ow enc_u64_u32 2 H hd_st_8 st_8 fp_st_8) (h_st_7 : Row H b_st_7 [hd_st_8, .int .u32 st_9, .int .i64 st_10]) (h_st_11 : Ow (encI .i64) 1 H hd_st_11 st_11 fp_st_11) (h_st_12 : Ow encB 1 H hd_st_12 st_12 fp_st_12) (h_st : Row H b_st [hd_st_, hd_st_2, hd_st_3, .pointer (some ⟨b_st_4, 0, none⟩), .pointer (some ⟨b_st_7, 0, none⟩), hd_st_11, hd_st_12]) (dj_fp_st_12_b_st : Dj fp_st_12 [b_st]) (dj_fp_st_12_fp_st_11 : Dj fp_st_12 fp_st_11) (dj_fp_st_12_fp_st_6 : Dj fp_st_12 fp_st_6) (dj_fp_st_12_fp_st_5 : Dj fp_st_12 fp_st_5) (dj_fp_st_12_b_st_4 : Dj fp_st_12 [b_st_4]) (dj_fp_st_12_fp_st_8 : Dj fp_st_12 fp_st_8) (dj_fp_st_12_b_st_7 : Dj fp_st_12 [b_st_7]) (dj_fp_st_12_fp_st_ : Dj fp_st_12 fp_st_) (dj_fp_st_12_fp_st_2 : Dj fp_st_12 fp_st_2) (dj_fp_st_12_fp_st_3 : Dj fp_st_12 fp_st_3) (dj_b_st_7_fp_st_8 : Dj [b_st_7] fp_st_8) (dj_fp_st_8_b_st : Dj fp_st_8 [b_st]) (dj_b_st_7_b_st : Dj [b_st_7] [b_st]) (dj_fp_st_8_fp_st_11 : Dj fp_st_8 fp_st_11) (dj_b_st_7_fp_st_11 : Dj [b_st_7] fp_st_11) (dj_fp_st_11_b_st : Dj fp_st_11 [b_st]) (dj_fp_st_8_fp_st_5 : Dj fp_st_8 fp_st_5) (dj_b_st_7_fp_st_5 : Dj [b_st_7] fp_st_5) (dj_fp_st_11_fp_st_5 : Dj fp_st_11 fp_st_5) (dj_fp_st_8_fp_st_6 : Dj fp_st_8 fp_st_6) (dj_b_st_7_fp_st_6 : Dj [b_st_7] fp_st_6) (dj_fp_st_11_fp_st_6 : Dj fp_st_11 fp_st_6) (dj_fp_st_8_b_st_4 : Dj fp_st_8 [b_st_4]) (dj_b_st_7_b_st_4 : Dj [b_st_7] [b_st_4]) (dj_fp_st_11_b_st_4 : Dj fp_st_11 [b_st_4]) (dj_fp_st_5_b_st_4 : Dj fp_st_5 [b_st_4]) (dj_fp_st_5_fp_st_6 : Dj fp_st_5 fp_st_6) (dj_b_st_4_fp_st_6 : Dj [b_st_4] fp_st_6) (dj_fp_st_6_b_st : Dj fp_st_6 [b_st]) (dj_fp_st_5_b_st : Dj fp_st_5 [b_st]) (dj_b_st_4_b_st : Dj [b_st_4] [b_st]) (dj_fp_st_8_fp_st_ : Dj fp_st_8 fp_st_) (dj_fp_st_6_fp_st_ : Dj fp_st_6 fp_st_) (dj_fp_st_5_fp_st_ : Dj fp_st_5 fp_st_) (dj_fp_st_11_fp_st_ : Dj fp_st_11 fp_st_) (dj_b_st_7_fp_st_ : Dj [b_st_7] fp_st_) (dj_b_st_4_fp_st_ : Dj [b_st_4] fp_st_) (dj_fp_st_8_fp_st_2 : Dj fp_st_8 fp_st_2) (dj_fp_st_6_fp_st_2 : Dj fp_st_6 fp_st_2) (dj_fp_st_5_fp_st_2 : Dj fp_st_5 fp_st_2) (dj_fp_st_11_fp_st_2 : Dj fp_st_11 fp_st_2) (dj_b_st_7_fp_st_2 : Dj [b_st_7] fp_st_2) (dj_b_st_4_fp_st_2 : Dj [b_st_4] fp_st_2) (dj_fp_st_8_fp_st_3 : Dj fp_st_8 fp_st_3) (dj_fp_st_6_fp_st_3 : Dj fp_st_6 fp_st_3) (dj_fp_st_5_fp_st_3 : Dj fp_st_5 fp_st_3) (dj_fp_st_11_fp_st_3 : Dj fp_st_11 fp_st_3) (dj_b_st_7_fp_st_3 : Dj [b_st_7] fp_st_3) (dj_b_st_4_fp_st_3 : Dj [b_st_4] fp_st_3) (dj_fp_st_8_fp_st_12 : Dj fp_st_8 fp_st_12) (dj_fp_st_6_fp_st_12 : Dj fp_st_6 fp_st_12) (dj_fp_st_5_fp_st_12 : Dj fp_st_5 fp_st_12) (dj_b_st_7_fp_st_12 : Dj [b_st_7] fp_st_12) (dj_b_st_4_fp_st_12 : Dj [b_st_4] fp_st_12) (dj_fp_st_5_fp_st_8 : Dj fp_st_5 fp_st_8) (dj_fp_st_5_b_st_7 : Dj fp_st_5 [b_st_7]) (dj_fp_st_5_fp_st_11 : Dj fp_st_5 fp_st_11) (hr : z_search_state_settle st_ st_2 st_3 st_5 st_6 st_8 st_9 st_10 st_11 st_12 v_ d hops = some r) :
  ACalls Try.prog 76 #[.pointer (some ⟨b_st, 0, none⟩), .int .i64 v_, .int .u64 d, .int .i64 hops] H fun v H' => ∃ (s5 : Value) (f6 : Fp), v = .tuple #[] ∧ FrS ([b_st_4] ++ ([b_st_7] ++ (fp_st_11 ++ (fp_st_12 ++ (fp_st_5 ++ (fp_st_6 ++ fp_st_8)))))) H H' ∧ Ow (encI .i64) 1 H' hd_st_6 r.1 fp_st_6 ∧ Ow enc_u64_u32 2 H' s5 r.2.1 f6 ∧ Row H' b_st_4 [s5, hd_st_6] ∧ Ow enc_u64_u32 2 H' hd_st_8 r.2.2.1 fp_st_8 ∧ Row H' b_st_7 [hd_st_8, .int .u32 st_9, .int .i64 r.2.2.2.1] ∧ Ow (encI .i64) 1 H' hd_st_11 r.2.2.2.2.1 fp_st_11 ∧ Ow encB 1 H' hd_st_12 r.2.2.2.2.2 fp_st_12 ∧ Inn fp_st_5 H f6 := by
 refine acalls_of_body mixed Try.func76 rfl (Nat.le_of_ble_eq_true rfl) ?_
 unfold z_search_state_settle at hr
 refine w_seqk fun K18 k18 => ?_
 refine w_reg (by kernel_rfl) ?_
 refine s_qk (.pointer (some ⟨b_st, 0, none⟩)) (by kernel_rfl) ?_
 refine s_qk (.pointer (some ⟨b_st, 0, none⟩)) (by kernel_rfl) ?_
 refine s_qk (.pointer (some ⟨b_st, 6, none⟩)) (by kernel_rfl) ?_
 refine s_ql (hd_st_12) (x := aLoad Try.prog 101 (.pointer (some ⟨b_st, 6, none⟩)) H) (by kernel_rfl) (h_st.ld (by kernel_rfl)) ?_
 refine s_qk (.int .i64 v_) (by kernel_rfl) ?_
 obtain ⟨g19, r20⟩ := G_some hr
 refine s_ql (elp hd_st_12 1 v_.toNat 0) (x := aIndexAddr Try.prog 101 hd_st_12 (.int .i64 v_)) (by kernel_rfl) (h_st_12.sq.idxb (by kernel_rfl) g19.1 g19.2) ?_
 obtain ⟨H21, q22, e23, hm24⟩ := Ow.store (P := Try.prog) (t := 4) (off := 0) wf h_st_12 g19.1 g19.2 (.bool true) [.bool true] (by kernel_rfl) (by kernel_rfl) rfl true (Nat.le_of_ble_eq_true rfl) (by kernel_rfl)
 refine s_ek (undef) (by kernel_rfl) (map_ok q22) ?_
 refine s_nil ?_
 refine k18 _ _ ?_
 refine w_seqk fun K25 k25 => ?_
 refine w_seqk fun K26 k26 => ?_
 refine w_reg (by kernel_rfl) ?_
 refine s_qk (.pointer (some ⟨b_st, 0, none⟩)) (by kernel_rfl) ?_
 refine s_qk (.pointer (some ⟨b_st, 0, none⟩)) (by kernel_rfl) ?_
 refine s_qk (.pointer (some ⟨b_st, 5, none⟩)) (by kernel_rfl) ?_
 have u27 := (h_st.frS e23 dj_fp_st_12_b_st)
 refine s_ql (hd_st_11) (x := aLoad Try.prog 22 (.pointer (some ⟨b_st, 5, none⟩)) H21) (by kernel_rfl) (u27.ld (by kernel_rfl)) ?_
 refine s_qk (.int .i64 v_) (by kernel_rfl) ?_
 obtain ⟨g28, r29⟩ := G_some r20
 have u30 := (h_st_11.fr e23 dj_fp_st_12_fp_st_11)
 refine s_ql (elp hd_st_11 1 v_.toNat 0) (x := aIndexAddr Try.prog 22 hd_st_11 (.int .i64 v_)) (by kernel_rfl) (u30.sq.idxb (by kernel_rfl) g19.1 g28) ?_
 refine s_ql (.int .i64 (gt st_11 v_)) (x := aLoad Try.prog 3 (elp hd_st_11 1 v_.toNat 0) H21) (by kernel_rfl) (u30.sq.ld g19.1 g28 (by kernel_rfl)) ?_
 refine s_qk (.int .i64 hops) (by kernel_rfl) ?_
 refine s_qk (.bool (decide ((gt st_11 v_) ≥ hops))) (by kernel_rfl) ?_
 refine s_nil ?_
 refine k26 _ _ ?_
 refine w_condp ((gt st_11 v_) ≥ hops) (by kernel_rfl) rfl (fun h31 => ?_) (fun h31 => ?_)
 ·have r32 := ite_t h31 r29
  refine w_ret (th_ret ?_)
  refine b_ret (fn := Try.f76) (vs := []) (rfl) ?_
  have u33 := (h_st_6.fr e23 dj_fp_st_12_fp_st_6)
  have u34 := (h_st_5.fr e23 dj_fp_st_12_fp_st_5)
  have u35 := (h_st_4.frS e23 dj_fp_st_12_b_st_4)
  have u36 := (h_st_8.fr e23 dj_fp_st_12_fp_st_8)
  have u37 := (h_st_7.frS e23 dj_fp_st_12_b_st_7)
  obtain rfl := Option.some.inj r32
  exact ⟨(hd_st_5), fp_st_5, rfl, (FrS.step wf (FrS.refl (W := ([b_st_4] ++ ([b_st_7] ++ (fp_st_11 ++ (fp_st_12 ++ (fp_st_5 ++ (fp_st_6 ++ fp_st_8))))))) wf) e23 (Inn.right (Inn.right (Inn.right Inn.left)))), u33, u34, u35, u36, u37, u30, hm24, Inn.refl'⟩
 ·have r38 := ite_f h31 r29
  refine w_skip ?_
  refine k25 _ _ ?_
  refine w_seqk fun K39 k39 => ?_
  refine w_reg (by kernel_rfl) ?_
  refine s_qk (.pointer (some ⟨b_st, 0, none⟩)) (by kernel_rfl) ?_
  refine s_qk (.pointer (some ⟨b_st, 0, none⟩)) (by kernel_rfl) ?_
  refine s_qk (.pointer (some ⟨b_st, 0, none⟩)) (by kernel_rfl) ?_
  refine s_qk (.pointer (some ⟨b_st, 0, none⟩)) (by kernel_rfl) ?_
  refine s_ql (hd_st_) (x := aLoad Try.prog 22 (.pointer (some ⟨b_st, 0, none⟩)) H21) (by kernel_rfl) (u27.ld (by kernel_rfl)) ?_
  refine s_qk (.int .i64 v_) (by kernel_rfl) ?_
  obtain ⟨g40, r41⟩ := G_some r38
  have u42 := (h_st_.fr e23 dj_fp_st_12_fp_st_)
  refine s_ql (elp hd_st_ 1 v_.toNat 0) (x := aIndexAddr Try.prog 22 hd_st_ (.int .i64 v_)) (by kernel_rfl) (u42.idxb (by kernel_rfl) g19.1 g40) ?_
  refine s_ql (.int .i64 (gt st_ v_)) (x := aLoad Try.prog 3 (elp hd_st_ 1 v_.toNat 0) H21) (by kernel_rfl) (u42.ld g19.1 g40 (by kernel_rfl)) ?_
  refine s_qk (.int .i64 (gt st_ v_)) (by kernel_rfl) ?_
  refine s_nil ?_
  refine k39 _ _ ?_
  obtain ⟨o43, hx44, r45⟩ := bind_some r41
  refine w_mid (fun α H46 => ∃ (s52 : Value) (f53 : Fp), Has α [] ∧ FrS ([b_st_4] ++ ([b_st_7] ++ (fp_st_11 ++ (fp_st_5 ++ (fp_st_6 ++ fp_st_8))))) H21 H46 ∧ Ow (encI .i64) 1 H46 hd_st_6 o43.1 fp_st_6 ∧ Ow enc_u64_u32 2 H46 s52 o43.2.1 f53 ∧ Row H46 b_st_4 [s52, hd_st_6] ∧ Ow enc_u64_u32 2 H46 hd_st_8 o43.2.2.1 fp_st_8 ∧ Row H46 b_st_7 [hd_st_8, .int .u32 st_9, .int .i64 o43.2.2.2.1] ∧ Ow (encI .i64) 1 H46 hd_st_11 o43.2.2.2.2 fp_st_11 ∧ Inn fp_st_5 H21 f53) (fun K63 k63 => ?_) (fun α H46 hM => ?_)
  ·refine w_block ?_
   obtain ⟨n65, hn66⟩ := loopO_iff.1 hx44
   have u90 := (h_st_5.fr e23 dj_fp_st_12_fp_st_5)
   have u91 := (h_st_6.fr e23 dj_fp_st_12_fp_st_6)
   have u92 := (h_st_4.frS e23 dj_fp_st_12_b_st_4)
   have u93 := (h_st_8.fr e23 dj_fp_st_12_fp_st_8)
   have u94 := (h_st_7.frS e23 dj_fp_st_12_b_st_7)
   refine w_loopn (fun n α H67 => ∃ (st0 : List (Int × Int)), ∃ (st1 : List (Int)), ∃ (st2 : List (Int × Int)), ∃ (st3 : Int), ∃ (st4 : List (Int)), ∃ (i5 : Int), ∃ (s71 : Value), ∃ (f72 : Fp), iterO (fun zz_ => z_search_state_settle_l0 st_ st_2 st_3 st_9 st_12 v_ d zz_.1 zz_.2.1 zz_.2.2.1 zz_.2.2.2.1 zz_.2.2.2.2.1 zz_.2.2.2.2.2) n (st0, st1, st2, st3, st4, i5) = some o43 ∧ Has α [(0, .pointer (some ⟨b_st, 0, none⟩)), (1, .int .i64 v_), (2, .int .u64 d), (8, .int .i64 i5)] ∧ FrS ([b_st_4] ++ ([b_st_7] ++ (fp_st_11 ++ (fp_st_5 ++ (fp_st_6 ++ fp_st_8))))) H21 H67 ∧ Ow enc_u64_u32 2 H67 s71 st0 f72 ∧ Ow (encI .i64) 1 H67 hd_st_6 st1 fp_st_6 ∧ Row H67 b_st_4 [s71, hd_st_6] ∧ Ow enc_u64_u32 2 H67 hd_st_8 st2 fp_st_8 ∧ Row H67 b_st_7 [hd_st_8, .int .u32 st_9, .int .i64 st3] ∧ Ow (encI .i64) 1 H67 hd_st_11 st4 fp_st_11 ∧ Inn fp_st_5 H21 f72) n65 ⟨st_5, st_6, st_8, st_10, st_11, (gt st_ v_), (hd_st_5), fp_st_5, hn66, ⟨by kernel_rfl, by kernel_rfl, by kernel_rfl, by kernel_rfl, trivial⟩, (FrS.refl (W := ([b_st_4] ++ ([b_st_7] ++ (fp_st_11 ++ (fp_st_5 ++ (fp_st_6 ++ fp_st_8)))))) e23.wf), u90, u91, u92, u93, u94, u30, Inn.refl'⟩ ?_
   rintro n65 α H67 ⟨st0, st1, st2, st3, st4, i5, s71, f72, hi85, hh84, e68, m70, m74, m76, m78, m80, m82, i83⟩ K95 k95
   obtain ⟨n86, z87, rfl, hz88, hn89⟩ := iter_succ hi85
   obtain ⟨β, rfl⟩ := has_ex hh84
   clear hh84
   replace hz88 : z_search_state_settle_l0 st_ st_2 st_3 st_9 st_12 v_ d st0 st1 st2 st3 st4 i5 = some z87 := hz88
   unfold z_search_state_settle_l0 at hz88
   obtain ⟨a96, n97, c98, rfl⟩ := m70.form
   refine w_seqk fun K99 k99 => ?_
   refine w_seqk fun K100 k100 => ?_
   refine w_reg (by kernel_rfl) ?_
   refine s_qk (.int .i64 i5) (by kernel_rfl) ?_
   refine s_qk (.pointer (some ⟨b_st, 0, none⟩)) (by kernel_rfl) ?_
   refine s_qk (.pointer (some ⟨b_st, 0, none⟩)) (by kernel_rfl) ?_
   refine s_qk (.pointer (some ⟨b_st, 0, none⟩)) (by kernel_rfl) ?_
   refine s_qk (.pointer (some ⟨b_st, 0, none⟩)) (by kernel_rfl) ?_
   have u101 := (u27.frS e68 (Dj.app dj_b_st_4_b_st (Dj.app dj_b_st_7_b_st (Dj.app dj_fp_st_11_b_st (Dj.app dj_fp_st_5_b_st (Dj.app dj_fp_st_6_b_st dj_fp_st_8_b_st))))))
   refine s_ql (hd_st_) (x := aLoad Try.prog 22 (.pointer (some ⟨b_st, 0, none⟩)) H67) (by kernel_rfl) (u101.ld (by kernel_rfl)) ?_
   refine s_qk (.int .i64 v_) (by kernel_rfl) ?_
   obtain ⟨g102, r103⟩ := G_some hz88
   refine s_w ((v_ + 1)) (k := .i64) (x := (v_ + 1)) (by kernel_rfl) (wrap64 (by have := g102; omega)) ?_
   obtain ⟨g104, r105⟩ := G_some r103
   have u106 := (u42.fr e68 (Dj.app dj_b_st_4_fp_st_ (Dj.app dj_b_st_7_fp_st_ (Dj.app dj_fp_st_11_fp_st_ (Dj.app dj_fp_st_5_fp_st_ (Dj.app dj_fp_st_6_fp_st_ dj_fp_st_8_fp_st_))))))
   refine s_ql (elp hd_st_ 1 (v_ + 1).toNat 0) (x := aIndexAddr Try.prog 22 hd_st_ (.int .i64 (v_ + 1))) (by kernel_rfl) (u106.idxb (by kernel_rfl) g104.1 g104.2) ?_
   refine s_ql (.int .i64 (gt st_ (v_ + 1))) (x := aLoad Try.prog 3 (elp hd_st_ 1 (v_ + 1).toNat 0) H67) (by kernel_rfl) (u106.ld g104.1 g104.2 (by kernel_rfl)) ?_
   refine s_qk (.bool (decide (i5 < (gt st_ (v_ + 1))))) (by kernel_rfl) ?_
   refine s_nil ?_
   refine k100 _ _ ?_
   refine w_condp (i5 < (gt st_ (v_ + 1))) (by kernel_rfl) rfl (fun h107 => ?_) (fun h107 => ?_)
   ·have r108 := ite_t h107 r105
    refine w_skip ?_
    refine k99 _ _ ?_
    refine w_seqk fun K109 k109 => ?_
    refine w_block ?_
    refine w_seqk fun K110 k110 => ?_
    refine w_draw [0, 1, 2, 3, 4, 5, 6, 7, 8, 9, 10, 11, 12, 13, 14, 15, 16, 17, 18, 19, 20] (by kernel_rfl) ?_
    refine d_qk (.pointer (some ⟨b_st, 0, none⟩)) (by kernel_rfl) ?_
    refine d_qk (.pointer (some ⟨b_st, 0, none⟩)) (by kernel_rfl) ?_
    refine d_qk (.pointer (some ⟨b_st, 0, none⟩)) (by kernel_rfl) ?_
    refine d_qk (.pointer (some ⟨b_st, 1, none⟩)) (by kernel_rfl) ?_
    refine d_ql (hd_st_2) (x := aLoad Try.prog 22 (.pointer (some ⟨b_st, 1, none⟩)) H67) (by kernel_rfl) (u101.ld (by kernel_rfl)) ?_
    refine d_qk (.int .i64 i5) (by kernel_rfl) ?_
    obtain ⟨g111, r112⟩ := G_some r108
    have u113 := ((h_st_2.fr e23 dj_fp_st_12_fp_st_2).fr e68 (Dj.app dj_b_st_4_fp_st_2 (Dj.app dj_b_st_7_fp_st_2 (Dj.app dj_fp_st_11_fp_st_2 (Dj.app dj_fp_st_5_fp_st_2 (Dj.app dj_fp_st_6_fp_st_2 dj_fp_st_8_fp_st_2))))))
    refine d_ql (elp hd_st_2 1 i5.toNat 0) (x := aIndexAddr Try.prog 22 hd_st_2 (.int .i64 i5)) (by kernel_rfl) (u113.idxb (by kernel_rfl) g111.1 g111.2) ?_
    refine d_ql (.int .i64 (gt st_2 i5)) (x := aLoad Try.prog 3 (elp hd_st_2 1 i5.toNat 0) H67) (by kernel_rfl) (u113.ld g111.1 g111.2 (by kernel_rfl)) ?_
    refine d_qk (.int .u64 d) (by kernel_rfl) ?_
    refine d_qk (.pointer (some ⟨b_st, 0, none⟩)) (by kernel_rfl) ?_
    refine d_qk (.pointer (some ⟨b_st, 0, none⟩)) (by kernel_rfl) ?_
    refine d_qk (.pointer (some ⟨b_st, 0, none⟩)) (by kernel_rfl) ?_
    refine d_qk (.pointer (some ⟨b_st, 2, none⟩)) (by kernel_rfl) ?_
    refine d_ql (hd_st_3) (x := aLoad Try.prog 22 (.pointer (some ⟨b_st, 2, none⟩)) H67) (by kernel_rfl) (u101.ld (by kernel_rfl)) ?_
    refine d_qk (.int .i64 i5) (by kernel_rfl) ?_
    obtain ⟨g114, r115⟩ := G_some r112
    have u116 := ((h_st_3.fr e23 dj_fp_st_12_fp_st_3).fr e68 (Dj.app dj_b_st_4_fp_st_3 (Dj.app dj_b_st_7_fp_st_3 (Dj.app dj_fp_st_11_fp_st_3 (Dj.app dj_fp_st_5_fp_st_3 (Dj.app dj_fp_st_6_fp_st_3 dj_fp_st_8_fp_st_3))))))
    refine d_ql (elp hd_st_3 1 i5.toNat 0) (x := aIndexAddr Try.prog 22 hd_st_3 (.int .i64 i5)) (by kernel_rfl) (u116.idxb (by kernel_rfl) g111.1 g114) ?_
    refine d_ql (.int .i64 (gt st_3 i5)) (x := aLoad Try.prog 3 (elp hd_st_3 1 i5.toNat 0) H67) (by kernel_rfl) (u116.ld g111.1 g114 (by kernel_rfl)) ?_
    obtain ⟨g117, r118⟩ := G_some r115
    refine d_w ((gt st_3 i5)) (k := .u64) (x := (gt st_3 i5)) (by kernel_rfl) (wrapu64 g117) ?_
    obtain ⟨g119, r120⟩ := G_some r118
    refine d_w ((d + (gt st_3 i5))) (k := .u64) (x := (d + (gt st_3 i5))) (by kernel_rfl) (wrapu64 g119) ?_
    refine d_qk (.int .i64 (gt st_2 i5)) (by kernel_rfl) ?_
    refine d_qk (.int .u64 (d + (gt st_3 i5))) (by kernel_rfl) ?_
    refine d_nil ?_
    refine k110 _ _ ?_
    refine w_seqk fun K121 k121 => ?_
    refine w_reg (by kernel_rfl) ?_
    refine s_qk (.pointer (some ⟨b_st, 0, none⟩)) (by kernel_rfl) ?_
    refine s_qk (.pointer (some ⟨b_st, 0, none⟩)) (by kernel_rfl) ?_
    refine s_qk (.pointer (some ⟨b_st, 4, none⟩)) (by kernel_rfl) ?_
    refine s_ql (.pointer (some ⟨b_st_7, 0, none⟩)) (x := aLoad Try.prog 100 (.pointer (some ⟨b_st, 4, none⟩)) H67) (by kernel_rfl) (u101.ld (by kernel_rfl)) ?_
    refine s_qk (.int .i64 (gt st_2 i5)) (by kernel_rfl) ?_
    obtain ⟨y122, hy123, r124⟩ := bind_some r120
    refine s_ck 56 #[.pointer (some ⟨b_st_7, 0, none⟩), .int .i64 (gt st_2 i5)] (by kernel_rfl) (c_stamp_Stamp_Get e68.wf m78.sq m80 hy123) ?_
    rintro _ _ ⟨rfl, rfl⟩
    refine s_qk (.tuple #[.int .u64 y122.1, .bool y122.2]) (by kernel_rfl) ?_
    refine s_qk (.int .u64 y122.1) (by kernel_rfl) ?_
    refine s_qk (.bool y122.2) (by kernel_rfl) ?_
    refine s_qk (.int .u64 y122.1) (by kernel_rfl) ?_
    refine s_qk (.bool y122.2) (by kernel_rfl) ?_
    refine s_nil ?_
    refine k121 _ _ ?_
    refine w_seqk fun K127 k127 => ?_
    obtain ⟨o128, hx129, r130⟩ := bind_some r124
    refine w_mid (fun α H131 => Has α [(0, .pointer (some ⟨b_st, 0, none⟩)), (1, .int .i64 v_), (2, .int .u64 d), (8, .int .i64 i5), (9, .int .i64 (gt st_2 i5)), (10, .int .u64 (d + (gt st_3 i5))), (93, .bool o128)] ∧ H67 = H131) (fun K133 k133 => ?_) (fun α H131 hM => ?_)
    ·refine w_reg (by kernel_rfl) ?_
     refine s_qk (.pointer (some ⟨b_st, 0, none⟩)) (by kernel_rfl) ?_
     refine s_qk (.pointer (some ⟨b_st, 0, none⟩)) (by kernel_rfl) ?_
     refine s_qk (.pointer (some ⟨b_st, 6, none⟩)) (by kernel_rfl) ?_
     refine s_ql (hd_st_12) (x := aLoad Try.prog 101 (.pointer (some ⟨b_st, 6, none⟩)) H67) (by kernel_rfl) (u101.ld (by kernel_rfl)) ?_
     refine s_qk (.int .i64 (gt st_2 i5)) (by kernel_rfl) ?_
     obtain ⟨g135, r136⟩ := G_some hx129
     have u137 := (hm24.fr e68 (Dj.app dj_b_st_4_fp_st_12 (Dj.app dj_b_st_7_fp_st_12 (Dj.app (Dj.symm dj_fp_st_12_fp_st_11) (Dj.app dj_fp_st_5_fp_st_12 (Dj.app dj_fp_st_6_fp_st_12 dj_fp_st_8_fp_st_12))))))
     refine s_ql (elp hd_st_12 1 (gt st_2 i5).toNat 0) (x := aIndexAddr Try.prog 101 hd_st_12 (.int .i64 (gt st_2 i5))) (by kernel_rfl) (u137.sq.idxb (by kernel_rfl) g135.1 g135.2) ?_
     refine s_ql (.bool (gt (st_12.set v_.toNat true) (gt st_2 i5))) (x := aLoad Try.prog 4 (elp hd_st_12 1 (gt st_2 i5).toNat 0) H67) (by kernel_rfl) (u137.sq.ld g135.1 g135.2 (by kernel_rfl)) ?_
     refine s_qk (.bool (!(gt (st_12.set v_.toNat true) (gt st_2 i5)))) (by kernel_rfl) ?_
     refine s_qk (.bool (!(gt (st_12.set v_.toNat true) (gt st_2 i5)))) (by kernel_rfl) ?_
     by_cases h138 : (!(gt (st_12.set v_.toNat true) (gt st_2 i5))) = true
     ·have r139 := ite_t h138 r136
      rw [h138]
      refine s_qk (.bool y122.2) (by kernel_rfl) ?_
      refine s_qk (.bool (!y122.2)) (by kernel_rfl) ?_
      refine s_qk (.bool (!y122.2)) (by kernel_rfl) ?_
      by_cases h140 : (!y122.2) = true
      ·have r141 := ite_t h140 r139
       rw [h140]
       refine s_no (by kernel_rfl) ?_
       refine s_no (by kernel_rfl) ?_
       refine s_no (by kernel_rfl) ?_
       refine s_qk (.bool true) (by kernel_rfl) ?_
       refine s_qk (.bool true) (by kernel_rfl) ?_
       refine s_nil ?_
       obtain rfl := Option.some.inj r141
       exact k133 _ _ ⟨⟨by kernel_rfl, by kernel_rfl, by kernel_rfl, by kernel_rfl, by kernel_rfl, by kernel_rfl, by kernel_rfl, trivial⟩, rfl⟩
      ·have r142 := ite_f h140 r139
       rw [nb h140]
       refine s_qk (.int .u64 (d + (gt st_3 i5))) (by kernel_rfl) ?_
       refine s_qk (.int .u64 y122.1) (by kernel_rfl) ?_
       refine s_qk (.bool (decide ((d + (gt st_3 i5)) < y122.1))) (by kernel_rfl) ?_
       refine s_qk (.bool (decide ((d + (gt st_3 i5)) < y122.1))) (by kernel_rfl) ?_
       refine s_qk (.bool (decide ((d + (gt st_3 i5)) < y122.1))) (by kernel_rfl) ?_
       refine s_nil ?_
       obtain rfl := Option.some.inj r142
       exact k133 _ _ ⟨⟨by kernel_rfl, by kernel_rfl, by kernel_rfl, by kernel_rfl, by kernel_rfl, by kernel_rfl, by kernel_rfl, trivial⟩, rfl⟩
     ·have r143 := ite_f h138 r136
      rw [nb h138]
      refine s_no (by kernel_rfl) ?_
      refine s_no (by kernel_rfl) ?_
      refine s_no (by kernel_rfl) ?_
      refine s_no (by kernel_rfl) ?_
      refine s_no (by kernel_rfl) ?_
      refine s_no (by kernel_rfl) ?_
      refine s_no (by kernel_rfl) ?_
      refine s_qk (.bool false) (by kernel_rfl) ?_
      refine s_nil ?_
      obtain rfl := Option.some.inj r143
      exact k133 _ _ ⟨⟨by kernel_rfl, by kernel_rfl, by kernel_rfl, by kernel_rfl, by kernel_rfl, by kernel_rfl, by kernel_rfl, trivial⟩, rfl⟩
    ·obtain ⟨hh134, rfl⟩ := hM
     obtain ⟨β, rfl⟩ := has_ex hh134
     clear hh134
     refine k127 _ _ ?_
     refine w_cond (o128) (by kernel_rfl) rfl (fun h144 => ?_) (fun h144 => ?_)
     ·have r145 := ite_t h144 r130
      refine w_reg (by kernel_rfl) ?_
      refine s_qk (.pointer (some ⟨b_st, 0, none⟩)) (by kernel_rfl) ?_
      refine s_qk (.int .i64 (gt st_2 i5)) (by kernel_rfl) ?_
      refine s_qk (.int .u64 (d + (gt st_3 i5))) (by kernel_rfl) ?_
      refine s_qk (.pointer (some ⟨b_st, 0, none⟩)) (by kernel_rfl) ?_
      refine s_qk (.pointer (some ⟨b_st, 0, none⟩)) (by kernel_rfl) ?_
      refine s_qk (.pointer (some ⟨b_st, 5, none⟩)) (by kernel_rfl) ?_
      refine s_ql (hd_st_11) (x := aLoad Try.prog 22 (.pointer (some ⟨b_st, 5, none⟩)) H67) (by kernel_rfl) (u101.ld (by kernel_rfl)) ?_
      refine s_qk (.int .i64 v_) (by kernel_rfl) ?_
      obtain ⟨g146, r147⟩ := G_some r145
      refine s_ql (elp hd_st_11 1 v_.toNat 0) (x := aIndexAddr Try.prog 22 hd_st_11 (.int .i64 v_)) (by kernel_rfl) (m82.sq.idxb (by kernel_rfl) g19.1 g146) ?_
      refine s_ql (.int .i64 (gt st4 v_)) (x := aLoad Try.prog 3 (elp hd_st_11 1 v_.toNat 0) H67) (by kernel_rfl) (m82.sq.ld g19.1 g146 (by kernel_rfl)) ?_
      obtain ⟨g148, r149⟩ := G_some r147
      refine s_w (((gt st4 v_) + 1)) (k := .i64) (x := ((gt st4 v_) + 1)) (by kernel_rfl) (wrap64 g148) ?_
      have u150 := (hm24.fr e68 (Dj.app dj_b_st_4_fp_st_12 (Dj.app dj_b_st_7_fp_st_12 (Dj.app (Dj.symm dj_fp_st_12_fp_st_11) (Dj.app dj_fp_st_5_fp_st_12 (Dj.app dj_fp_st_6_fp_st_12 dj_fp_st_8_fp_st_12))))))
      obtain ⟨y151, hy152, r153⟩ := bind_some r149
      refine s_ck 73 #[.pointer (some ⟨b_st, 0, none⟩), .int .i64 (gt st_2 i5), .int .u64 (d + (gt st_3 i5)), .int .i64 ((gt st4 v_) + 1)] (by kernel_rfl) (c_search_state_label e68.wf u106 u113 u116 m70 m74 m76 m78 m80 m82 u150.sq u101 dj_b_st_7_fp_st_8 dj_fp_st_8_b_st dj_b_st_7_b_st dj_fp_st_8_fp_st_11 dj_b_st_7_fp_st_11 dj_fp_st_11_b_st (Dj.symm (i83.dj dj_fp_st_5_fp_st_8 (h_st_8.lt.le e23.next))) (Dj.symm (i83.dj dj_fp_st_5_b_st_7 (h_st_7.ltF.le e23.next))) (Dj.symm (i83.dj dj_fp_st_5_fp_st_11 (h_st_11.lt.le e23.next))) dj_fp_st_8_fp_st_6 dj_b_st_7_fp_st_6 dj_fp_st_11_fp_st_6 dj_fp_st_8_b_st_4 dj_b_st_7_b_st_4 dj_fp_st_11_b_st_4 (i83.dj dj_fp_st_5_b_st_4 (h_st_4.ltF.le e23.next)) (i83.dj dj_fp_st_5_fp_st_6 (h_st_6.lt.le e23.next)) dj_b_st_4_fp_st_6 hy152) ?_
      rintro _ H156 ⟨s154, f155, rfl, e157, m158, m159, m160, m161, m162, m163, i164⟩
      obtain ⟨a166, n167, c168, rfl⟩ := m159.form
      refine s_nil ?_
      refine k109 _ _ ?_
      refine w_reg (by kernel_rfl) ?_
      refine s_qk (.int .i64 i5) (by kernel_rfl) ?_
      obtain ⟨g169, r170⟩ := G_some r153
      refine s_w ((i5 + 1)) (k := .i64) (x := (i5 + 1)) (by kernel_rfl) (wrap64 (by have := g169; omega)) ?_
      refine s_qk (.int .i64 (i5 + 1)) (by kernel_rfl) ?_
      refine s_nil ?_
      obtain rfl := Option.some.inj r170
      exact k95 n86 _ _ (Nat.lt_succ_self _) ⟨y151.2.1, y151.1, y151.2.2.1, y151.2.2.2.1, y151.2.2.2.2, (i5 + 1), (.slice a166 n167 c168), f155, hn89, ⟨by kernel_rfl, by kernel_rfl, by kernel_rfl, by kernel_rfl, trivial⟩, (FrS.step e23.wf (FrS.step e23.wf (FrS.refl (W := ([b_st_4] ++ ([b_st_7] ++ (fp_st_11 ++ (fp_st_5 ++ (fp_st_6 ++ fp_st_8)))))) e23.wf) e68 (Inn.app Inn.left (Inn.app (Inn.right Inn.left) (Inn.app (Inn.right (Inn.right Inn.left)) (Inn.app (Inn.right (Inn.right (Inn.right Inn.left))) (Inn.app (Inn.right (Inn.right (Inn.right (Inn.right Inn.left)))) (Inn.right (Inn.right (Inn.right (Inn.right (Inn.right Inn.refl'))))))))))) e157 (Inn.app Inn.left (Inn.app (Inn.right Inn.left) (Inn.app (Inn.right (Inn.right Inn.left)) (Inn.app (Inn.trans (Inn.right (Inn.right (Inn.right Inn.left))) (Nat.le_refl _) i83) (Inn.app (Inn.right (Inn.right (Inn.right (Inn.right Inn.left)))) (Inn.right (Inn.right (Inn.right (Inn.right (Inn.right Inn.refl'))))))))))), m159, m158, m160, m161, m162, m163, (Inn.trans (Inn.trans Inn.refl' (Nat.le_refl _) i83) e68.next i164)⟩
     ·have r171 := ite_bf h144 r130
      refine w_skip ?_
      refine k109 _ _ ?_
      refine w_reg (by kernel_rfl) ?_
      refine s_qk (.int .i64 i5) (by kernel_rfl) ?_
      obtain ⟨g172, r173⟩ := G_some r171
      refine s_w ((i5 + 1)) (k := .i64) (x := (i5 + 1)) (by kernel_rfl) (wrap64 (by have := g172; omega)) ?_
      refine s_qk (.int .i64 (i5 + 1)) (by kernel_rfl) ?_
      refine s_nil ?_
      obtain rfl := Option.some.inj r173
      exact k95 n86 _ _ (Nat.lt_succ_self _) ⟨st0, st1, st2, st3, st4, (i5 + 1), (.slice a96 n97 c98), f72, hn89, ⟨by kernel_rfl, by kernel_rfl, by kernel_rfl, by kernel_rfl, trivial⟩, (FrS.step e23.wf (FrS.refl (W := ([b_st_4] ++ ([b_st_7] ++ (fp_st_11 ++ (fp_st_5 ++ (fp_st_6 ++ fp_st_8)))))) e23.wf) e68 (Inn.app Inn.left (Inn.app (Inn.right Inn.left) (Inn.app (Inn.right (Inn.right Inn.left)) (Inn.app (Inn.right (Inn.right (Inn.right Inn.left))) (Inn.app (Inn.right (Inn.right (Inn.right (Inn.right Inn.left)))) (Inn.right (Inn.right (Inn.right (Inn.right (Inn.right Inn.refl'))))))))))), m70, m74, m76, m78, m80, m82, (Inn.trans Inn.refl' (Nat.le_refl _) i83)⟩
   ·have r174 := ite_f h107 r105
    refine w_exit (th_exit (th_exit (bl_eq ?_)))
    obtain rfl := Option.some.inj r174
    obtain rfl := it_inr hn89
    exact k63 _ _ ⟨(.slice a96 n97 c98), f72, trivial, (FrS.step e23.wf (FrS.refl (W := ([b_st_4] ++ ([b_st_7] ++ (fp_st_11 ++ (fp_st_5 ++ (fp_st_6 ++ fp_st_8)))))) e23.wf) e68 (Inn.app Inn.left (Inn.app (Inn.right Inn.left) (Inn.app (Inn.right (Inn.right Inn.left)) (Inn.app (Inn.right (Inn.right (Inn.right Inn.left))) (Inn.app (Inn.right (Inn.right (Inn.right (Inn.right Inn.left)))) (Inn.right (Inn.right (Inn.right (Inn.right (Inn.right Inn.refl'))))))))))), m74, m70, m76, m78, m80, m82, (Inn.trans Inn.refl' (Nat.le_refl _) i83)⟩
  ·obtain ⟨s52, f53, hh64, e47, m49, m51, m55, m57, m59, m61, i62⟩ := hM
   obtain ⟨β, rfl⟩ := has_ex hh64
   clear hh64
   obtain ⟨a175, n176, c177, rfl⟩ := m51.form
   refine b_nrm (fn := Try.f76) (vs := []) (rfl) ?_
   have u178 := (hm24.fr e47 (Dj.app dj_b_st_4_fp_st_12 (Dj.app dj_b_st_7_fp_st_12 (Dj.app (Dj.symm dj_fp_st_12_fp_st_11) (Dj.app dj_fp_st_5_fp_st_12 (Dj.app dj_fp_st_6_fp_st_12 dj_fp_st_8_fp_st_12))))))
   obtain rfl := Option.some.inj r45
   exact ⟨(.slice a175 n176 c177), f53, rfl, (FrS.step wf (FrS.step wf (FrS.refl (W := ([b_st_4] ++ ([b_st_7] ++ (fp_st_11 ++ (fp_st_12 ++ (fp_st_5 ++ (fp_st_6 ++ fp_st_8))))))) wf) e23 (Inn.right (Inn.right (Inn.right Inn.left)))) e47 (Inn.app Inn.left (Inn.app (Inn.right Inn.left) (Inn.app (Inn.right (Inn.right Inn.left)) (Inn.app (Inn.right (Inn.right (Inn.right (Inn.right Inn.left)))) (Inn.app (Inn.right (Inn.right (Inn.right (Inn.right (Inn.right Inn.left))))) (Inn.right (Inn.right (Inn.right (Inn.right (Inn.right (Inn.right Inn.refl')))))))))))), m49, m51, m55, m57, m59, m61, u178, (Inn.trans Inn.refl' e23.next i62)⟩

theorem c_search_run {H : AH} {hd_First : Value} {fp_First : Fp} {hd_To : Value} {fp_To : Fp} {hd_Weight : Value} {fp_Weight : Fp} {First : List (Int)} {To : List (Int)} {Weight : List (Int)} {s : Int} {hops : Int} {settles : Int} {most : Int} {r : List (Int × Int) × List (Int) × List (Int × Int) × Int × Int × List (Int) × List (Bool)}
  (wf : WF H) (h_First : Sq (encI .i64) 1 H hd_First First fp_First) (h_To : Sq (encI .i64) 1 H hd_To To fp_To) (h_Weight : Sq (encI .i64) 1 H hd_Weight Weight fp_Weight) (hr : z_search_run First To Weight s hops settles most = some r) :
  ACalls Try.prog 50 #[.agg #[hd_First, hd_To, hd_Weight], .int .i64 s, .agg #[.int .i64 hops, .int .i64 settles, .int .u64 most]] H fun v H' => ∃ (s3 : Value) (f4 : Fp) (s7 : Value) (f8 : Fp) (b11 : Nat) (s14 : Value) (f15 : Fp) (b18 : Nat) (s21 : Value) (f22 : Fp) (s25 : Value) (f26 : Fp) (b29 : Nat), v = .pointer (some ⟨b29, 0, none⟩) ∧ FrS [] H H' ∧ Ow enc_u64_u32 2 H' s3 r.1 f4 ∧ Ow (encI .i64) 1 H' s7 r.2.1 f8 ∧ Row H' b11 [s3, s7] ∧ Ow enc_u64_u32 2 H' s14 r.2.2.1 f15 ∧ Row H' b18 [s14, .int .u32 r.2.2.2.1, .int .i64 r.2.2.2.2.1] ∧ Ow (encI .i64) 1 H' s21 r.2.2.2.2.2.1 f22 ∧ Ow encB 1 H' s25 r.2.2.2.2.2.2 f26 ∧ Row H' b29 [hd_First, hd_To, hd_Weight, .pointer (some ⟨b11, 0, none⟩), .pointer (some ⟨b18, 0, none⟩), s21, s25] ∧ Inn [] H f4 ∧ Inn [] H f8 ∧ Inn [] H [b11] ∧ Inn [] H f15 ∧ Inn [] H [b18] ∧ Inn [] H f22 ∧ Inn [] H f26 ∧ Inn [] H [b29] ∧ Dj f4 f8 ∧ Dj f4 [b11] ∧ Dj f8 [b11] ∧ Dj f4 f15 ∧ Dj f8 f15 ∧ Dj [b11] f15 ∧ Dj f4 [b18] ∧ Dj f8 [b18] ∧ Dj [b11] [b18] ∧ Dj f15 [b18] ∧ Dj f4 f22 ∧ Dj f8 f22 ∧ Dj [b11] f22 ∧ Dj f15 f22 ∧ Dj [b18] f22 ∧ Dj f4 f26 ∧ Dj f8 f26 ∧ Dj [b11] f26 ∧ Dj f15 f26 ∧ Dj [b18] f26 ∧ Dj f22 f26 ∧ Dj f4 [b29] ∧ Dj f8 [b29] ∧ Dj [b11] [b29] ∧ Dj f15 [b29] ∧ Dj [b18] [b29] ∧ Dj f22 [b29] ∧ Dj f26 [b29] := by
 refine acalls_of_body mixed Try.func50 rfl (Nat.le_of_ble_eq_true rfl) ?_
 unfold z_search_run at hr
 refine w_seqk fun K66 k66 => ?_
 refine w_reg (by kernel_rfl) ?_
 refine s_rwl wf [hd_First, hd_To, hd_Weight] (one_cons (h_First.one1) (one_cons (h_To.one1) (one_cons (h_Weight.one1) (one_nil)))) (by kernel_rfl) fun b67 H68 e69 hb70 r71 => ?_
 refine s_rwl e69.wf [.int .i64 hops, .int .i64 settles, .int .u64 most] (one_cons (rfl) (one_cons (rfl) (one_cons (rfl) (one_nil)))) (by kernel_rfl) fun b73 H74 e75 hb76 r77 => ?_
 refine s_qk (.pointer none) (by kernel_rfl) ?_
 refine s_nil ?_
 refine k66 _ _ ?_
 refine w_seqk fun K79 k79 => ?_
 refine w_reg (by kernel_rfl) ?_
 have u80 := (r71.ext e75)
 refine s_ql (.agg #[hd_First, hd_To, hd_Weight]) (x := aLoad Try.prog 34 (.pointer (some ⟨b67, 0, none⟩)) H74) (by kernel_rfl) (u80.ld (by kernel_rfl)) ?_
 have u81 := ((h_First.ext e69).ext e75)
 have u82 := ((h_To.ext e69).ext e75)
 have u83 := ((h_Weight.ext e69).ext e75)
 obtain ⟨y84, hy85, r86⟩ := bind_some hr
 refine s_ck 53 #[.agg #[hd_First, hd_To, hd_Weight]] (by kernel_rfl) (c_search_nodes e75.wf u81 u82 u83 hy85) ?_
 rintro _ H87 ⟨rfl, e88⟩
 refine s_qk (.int .i64 y84) (by kernel_rfl) ?_
 refine s_nil ?_
 refine k79 _ _ ?_
 refine w_seqk fun K89 k89 => ?_
 refine w_draw [0, 1, 2, 3, 4, 5, 6, 7] (by kernel_rfl) ?_
 have u90 := (u80.frS e88 Dj.nil_l)
 refine d_ql (.agg #[hd_First, hd_To, hd_Weight]) (x := aLoad Try.prog 34 (.pointer (some ⟨b67, 0, none⟩)) H87) (by kernel_rfl) (u90.ld (by kernel_rfl)) ?_
 refine d_qk (.int .i64 y84) (by kernel_rfl) ?_
 obtain ⟨g91, r92⟩ := G_some r86
 refine d_mks (t := 22) (m := 8) (l := y84) (c := y84) (enc := (encI .i64)) (sz := 1) e88.wf (0 : Int) (by kernel_rfl) (by decide) g91.1 (Int.le_refl _) (by omega) (by have := g91; omega) (by kernel_rfl) fun s93 f94 H95 e96 hf97 hm98 => ?_
 obtain ⟨a99, n100, c101, rfl⟩ := hm98.form
 have hm98 : Ow (encI .i64) 1 H95 (.slice a99 n100 c101) (List.replicate y84.toNat (0 : Int)) f94 := hm98
 refine d_qk (.int .i64 y84) (by kernel_rfl) ?_
 obtain ⟨g103, r104⟩ := G_some r92
 refine d_mks (t := 101) (m := 1) (l := y84) (c := y84) (enc := encB) (sz := 1) e96.wf (false : Bool) (by kernel_rfl) (by decide) g103.1 (Int.le_refl _) (by omega) (by have := g103; omega) (by kernel_rfl) fun s105 f106 H107 e108 hf109 hm110 => ?_
 obtain ⟨a111, n112, c113, rfl⟩ := hm110.form
 have hm110 : Ow encB 1 H107 (.slice a111 n112 c113) (List.replicate y84.toNat (false : Bool)) f106 := hm110
 refine d_qk (.agg #[hd_First, hd_To, hd_Weight, .pointer none, .pointer none, .slice a99 n100 c101, .slice a111 n112 c113]) (by kernel_rfl) ?_
 have u120 := (hm98.ext e108)
 have u121 := (((u83.fr e88 Dj.nil_l).ext e96).ext e108)
 have u122 := (((u82.fr e88 Dj.nil_l).ext e96).ext e108)
 have u123 := (((u81.fr e88 Dj.nil_l).ext e96).ext e108)
 refine d_rwl e108.wf [hd_First, hd_To, hd_Weight, .pointer none, .pointer none, .slice a99 n100 c101, .slice a111 n112 c113] (one_cons (u123.one1) (one_cons (u122.one1) (one_cons (u121.one1) (one_cons (rfl) (one_cons (rfl) (one_cons (u120.one1) (one_cons (hm110.one1) (one_nil)))))))) (by kernel_rfl) fun b115 H116 e117 hb118 r119 => ?_
 refine d_qk (.pointer (some ⟨b115, 0, none⟩)) (by kernel_rfl) ?_
 refine d_nil ?_
 refine k89 _ _ ?_
 refine w_seqk fun K125 k125 => ?_
 refine w_reg (by kernel_rfl) ?_
 refine s_qk (.pointer (some ⟨b115, 0, none⟩)) (by kernel_rfl) ?_
 refine s_qk (.int .i64 y84) (by kernel_rfl) ?_
 obtain ⟨y126, hy127, r128⟩ := bind_some r104
 rcases y126 with y129 | y130
 ·exact (no_none (elim_l r128)).elim
 ·have r131 := elim_r r128
  refine s_ck 71 #[.int .i64 y84] (by kernel_rfl) (c_heap_New e117.wf hy127) ?_
  rintro _ H135 ⟨s132, f133, b134, rfl, e136, m137, m138, i139, i140, d141⟩
  obtain ⟨a144, n145, c146, rfl⟩ := m137.form
  refine s_qk (.tuple #[.pointer (some ⟨b134, 0, none⟩), .nilIface]) (by kernel_rfl) ?_
  refine s_qk (.pointer (some ⟨b134, 0, none⟩)) (by kernel_rfl) ?_
  refine s_qk (.nilIface) (by kernel_rfl) ?_
  refine s_qk (.pointer (some ⟨b115, 0, none⟩)) (by kernel_rfl) ?_
  refine s_qk (.pointer (some ⟨b115, 3, none⟩)) (by kernel_rfl) ?_
  have u151 := (r119.frS e136 Dj.nil_l)
  obtain ⟨H147, q148, e149, r150⟩ := Row.store (P := Try.prog) (t := 99) (p := 3) e136.wf u151 (.pointer (some ⟨b134, 0, none⟩)) [.pointer (some ⟨b134, 0, none⟩)] (by kernel_rfl) (by kernel_rfl) (one_cons (rfl) (one_nil)) (Nat.le_of_ble_eq_true (by kernel_rfl)) [hd_First, hd_To, hd_Weight, .pointer (some ⟨b134, 0, none⟩), .pointer none, .slice a99 n100 c101, .slice a111 n112 c113] (by kernel_rfl)
  refine s_ek (undef) (by kernel_rfl) (map_ok q148) ?_
  refine s_nil ?_
  refine k125 _ _ ?_
  refine w_seqk fun K152 k152 => ?_
  refine w_reg (by kernel_rfl) ?_
  refine s_qk (.pointer (some ⟨b115, 0, none⟩)) (by kernel_rfl) ?_
  refine s_qk (.int .i64 y84) (by kernel_rfl) ?_
  obtain ⟨y153, hy154, r155⟩ := bind_some r131
  rcases y153 with y156 | y157
  ·exact (no_none (elim_l r155)).elim
  ·have r158 := elim_r r155
   refine s_ck 72 #[.int .i64 y84, .int .u32 1] (by kernel_rfl) (c_stamp_New e149.wf hy154) ?_
   rintro _ H162 ⟨s159, f160, b161, rfl, e163, m164, m165, i166, i167, d168⟩
   obtain ⟨a171, n172, c173, rfl⟩ := m164.form
   refine s_qk (.tuple #[.pointer (some ⟨b161, 0, none⟩), .nilIface]) (by kernel_rfl) ?_
   refine s_qk (.pointer (some ⟨b161, 0, none⟩)) (by kernel_rfl) ?_
   refine s_qk (.nilIface) (by kernel_rfl) ?_
   refine s_qk (.pointer (some ⟨b115, 0, none⟩)) (by kernel_rfl) ?_
   refine s_qk (.pointer (some ⟨b115, 4, none⟩)) (by kernel_rfl) ?_
   have u178 := (r150.frS e163 Dj.nil_l)
   obtain ⟨H174, q175, e176, r177⟩ := Row.store (P := Try.prog) (t := 100) (p := 4) e163.wf u178 (.pointer (some ⟨b161, 0, none⟩)) [.pointer (some ⟨b161, 0, none⟩)] (by kernel_rfl) (by kernel_rfl) (one_cons (rfl) (one_nil)) (Nat.le_of_ble_eq_true (by kernel_rfl)) [hd_First, hd_To, hd_Weight, .pointer (some ⟨b134, 0, none⟩), .pointer (some ⟨b161, 0, none⟩), .slice a99 n100 c101, .slice a111 n112 c113] (by kernel_rfl)
   refine s_ek (undef) (by kernel_rfl) (map_ok q175) ?_
   refine s_nil ?_
   refine k152 _ _ ?_
   refine w_seqk fun K179 k179 => ?_
   refine w_reg (by kernel_rfl) ?_
   refine s_qk (.pointer (some ⟨b115, 0, none⟩)) (by kernel_rfl) ?_
   refine s_qk (.int .i64 s) (by kernel_rfl) ?_
   have u180 := (((((u123.ext e117).fr e136 Dj.nil_l).fr e149 (hb118.djn (h_First.lt.le (ntr (ntr (ntr (ntr e69.next e75.next) e88.next) e96.next) e108.next)))).fr e163 Dj.nil_l).fr e176 (hb118.djn (h_First.lt.le (ntr (ntr (ntr (ntr e69.next e75.next) e88.next) e96.next) e108.next))))
   have u181 := (((((u122.ext e117).fr e136 Dj.nil_l).fr e149 (hb118.djn (h_To.lt.le (ntr (ntr (ntr (ntr e69.next e75.next) e88.next) e96.next) e108.next)))).fr e163 Dj.nil_l).fr e176 (hb118.djn (h_To.lt.le (ntr (ntr (ntr (ntr e69.next e75.next) e88.next) e96.next) e108.next))))
   have u182 := (((((u121.ext e117).fr e136 Dj.nil_l).fr e149 (hb118.djn (h_Weight.lt.le (ntr (ntr (ntr (ntr e69.next e75.next) e88.next) e96.next) e108.next)))).fr e163 Dj.nil_l).fr e176 (hb118.djn (h_Weight.lt.le (ntr (ntr (ntr (ntr e69.next e75.next) e88.next) e96.next) e108.next))))
   have u183 := (((m137.fr e149 (Dj.symm (i139.djn r119.ltF))).fr e163 Dj.nil_l).fr e176 (Dj.symm (i139.djn r119.ltF)))
   have u184 := (((m138.frS e149 (Dj.symm (i140.djn r119.ltF))).frS e163 Dj.nil_l).frS e176 (Dj.symm (i140.djn r119.ltF)))
   have u185 := (m164.fr e176 (Dj.symm (i166.djn (r119.ltF.le (ntr e136.next e149.next)))))
   have u186 := (m165.frS e176 (Dj.symm (i167.djn (r119.ltF.le (ntr e136.next e149.next)))))
   have u187 := (((((u120.ext e117).fr e136 Dj.nil_l).fr e149 (hb118.djn (hm98.lt.le e108.next))).fr e163 Dj.nil_l).fr e176 (hb118.djn (hm98.lt.le e108.next)))
   have u188 := (((((hm110.ext e117).fr e136 Dj.nil_l).fr e149 (hb118.djn hm110.lt)).fr e163 Dj.nil_l).fr e176 (hb118.djn hm110.lt))
   obtain ⟨y189, hy190, r191⟩ := bind_some r158
   refine s_ck 73 #[.pointer (some ⟨b115, 0, none⟩), .int .i64 s, .int .u64 0, .int .i64 0] (by kernel_rfl) (c_search_state_label e176.wf u180 u181 u182 (Ow.nil (enc := enc_u64_u32) (sz := 2) (by decide)) u183 u184 u185 u186 u187 u188.sq r177 (Dj.symm d168) (i166.djn (r119.ltF.le (ntr e136.next e149.next))) (i167.djn (r119.ltF.le (ntr e136.next e149.next))) (i166.djn (hm98.lt.le (ntr (ntr (ntr e108.next e117.next) e136.next) e149.next))) (i167.djn (hm98.lt.le (ntr (ntr (ntr e108.next e117.next) e136.next) e149.next))) (Dj.symm (hb118.djn (hm98.lt.le e108.next))) Dj.nil_r Dj.nil_r Dj.nil_r (i166.djn (m137.lt.le e149.next)) (i167.djn (m137.lt.le e149.next)) (Dj.symm (i139.djn (hm98.lt.le (ntr e108.next e117.next)))) (i166.djn (m138.ltF.le e149.next)) (i167.djn (m138.ltF.le e149.next)) (Dj.symm (i140.djn (hm98.lt.le (ntr e108.next e117.next)))) Dj.nil_l Dj.nil_l (Dj.symm d141) hy190) ?_
   rintro _ H194 ⟨s192, f193, rfl, e195, m196, m197, m198, m199, m200, m201, i202⟩
   obtain ⟨a204, n205, c206, rfl⟩ := m197.form
   refine s_nil ?_
   refine k179 _ _ ?_
   refine w_seqk fun K207 k207 => ?_
   refine w_seqk fun K208 k208 => ?_
   refine w_reg (by kernel_rfl) ?_
   refine s_qk (.int .i64 0) (by kernel_rfl) ?_
   refine s_nil ?_
   refine k208 _ _ ?_
   obtain ⟨o209, hx210, r211⟩ := bind_some r191
   refine w_mid (fun α H212 => ∃ (s216 : Value) (f217 : Fp), Has α [(8, .pointer (some ⟨b115, 0, none⟩))] ∧ FrS ([b134] ++ ([b161] ++ (f106 ++ (f133 ++ (f160 ++ (f193 ++ f94)))))) H194 H212 ∧ Ow enc_u64_u32 2 H212 s216 o209.1 f217 ∧ Ow (encI .i64) 1 H212 (.slice a144 n145 c146) o209.2.1 f133 ∧ Row H212 b134 [s216, .slice a144 n145 c146] ∧ Ow enc_u64_u32 2 H212 (.slice a171 n172 c173) o209.2.2.1 f160 ∧ Row H212 b161 [.slice a171 n172 c173, .int .u32 y157.2, .int .i64 o209.2.2.2.1] ∧ Ow (encI .i64) 1 H212 (.slice a99 n100 c101) o209.2.2.2.2.1 f94 ∧ Ow encB 1 H212 (.slice a111 n112 c113) o209.2.2.2.2.2 f106 ∧ Inn f193 H194 f217) (fun K231 k231 => ?_) (fun α H212 hM => ?_)
   ·refine w_block ?_
    obtain ⟨n233, hn234⟩ := loopO_iff.1 hx210
    have u260 := (u188.fr e195 (Dj.app (i140.djn (hm110.lt.le e117.next)) (Dj.app (i167.djn (hm110.lt.le (ntr (ntr e117.next e136.next) e149.next))) (Dj.app (Dj.symm (hf109.djn hm98.lt)) (Dj.app Dj.nil_l (Dj.app (i139.djn (hm110.lt.le e117.next)) (i166.djn (hm110.lt.le (ntr (ntr e117.next e136.next) e149.next)))))))))
    refine w_loopn (fun n α H235 => ∃ (st0 : List (Int × Int)), ∃ (st1 : List (Int)), ∃ (st2 : List (Int × Int)), ∃ (st3 : Int), ∃ (st4 : List (Int)), ∃ (st5 : List (Bool)), ∃ (count6 : Int), ∃ (s239 : Value), ∃ (f240 : Fp), iterO (fun zz_ => z_search_run_l0 First To Weight hops settles most y157 zz_.1 zz_.2.1 zz_.2.2.1 zz_.2.2.2.1 zz_.2.2.2.2.1 zz_.2.2.2.2.2.1 zz_.2.2.2.2.2.2) n (st0, st1, st2, st3, st4, st5, count6) = some o209 ∧ Has α [(5, .pointer (some ⟨b73, 0, none⟩)), (8, .pointer (some ⟨b115, 0, none⟩)), (9, .int .i64 count6)] ∧ FrS ([b134] ++ ([b161] ++ (f106 ++ (f133 ++ (f160 ++ (f193 ++ f94)))))) H194 H235 ∧ Ow enc_u64_u32 2 H235 s239 st0 f240 ∧ Ow (encI .i64) 1 H235 (.slice a144 n145 c146) st1 f133 ∧ Row H235 b134 [s239, .slice a144 n145 c146] ∧ Ow enc_u64_u32 2 H235 (.slice a171 n172 c173) st2 f160 ∧ Row H235 b161 [.slice a171 n172 c173, .int .u32 y157.2, .int .i64 st3] ∧ Ow (encI .i64) 1 H235 (.slice a99 n100 c101) st4 f94 ∧ Ow encB 1 H235 (.slice a111 n112 c113) st5 f106 ∧ Inn f193 H194 f240) n233 ⟨y189.2.1, y189.1, y189.2.2.1, y189.2.2.2.1, y189.2.2.2.2, (List.replicate y84.toNat (false : Bool)), 0, (.slice a204 n205 c206), f193, hn234, ⟨by kernel_rfl, by kernel_rfl, by kernel_rfl, trivial⟩, (FrS.refl (W := ([b134] ++ ([b161] ++ (f106 ++ (f133 ++ (f160 ++ (f193 ++ f94))))))) e195.wf), m197, m196, m198, m199, m200, m201, u260, Inn.refl'⟩ ?_
    rintro n233 α H235 ⟨st0, st1, st2, st3, st4, st5, count6, s239, f240, hi255, hh254, e236, m238, m242, m244, m246, m248, m250, m252, i253⟩ K261 k261
    obtain ⟨n256, z257, rfl, hz258, hn259⟩ := iter_succ hi255
    obtain ⟨β, rfl⟩ := has_ex hh254
    clear hh254
    replace hz258 : z_search_run_l0 First To Weight hops settles most y157 st0 st1 st2 st3 st4 st5 count6 = some z257 := hz258
    unfold z_search_run_l0 at hz258
    obtain ⟨a262, n263, c264, rfl⟩ := m238.form
    refine w_seqk fun K265 k265 => ?_
    refine w_seqk fun K266 k266 => ?_
    refine w_reg (by kernel_rfl) ?_
    refine s_qk (.int .i64 count6) (by kernel_rfl) ?_
    refine s_qk (.pointer (some ⟨b73, 1, none⟩)) (by kernel_rfl) ?_
    have u267 := ((((((((((r77.frS e88 Dj.nil_l).ext e96).ext e108).ext e117).frS e136 Dj.nil_l).frS e149 (hb118.djn (r77.ltF.le (ntr (ntr e88.next e96.next) e108.next)))).frS e163 Dj.nil_l).frS e176 (hb118.djn (r77.ltF.le (ntr (ntr e88.next e96.next) e108.next)))).frS e195 (Dj.app (i140.djn (r77.ltF.le (ntr (ntr (ntr e88.next e96.next) e108.next) e117.next))) (Dj.app (i167.djn (r77.ltF.le (ntr (ntr (ntr (ntr (ntr e88.next e96.next) e108.next) e117.next) e136.next) e149.next))) (Dj.app (hf97.djn (r77.ltF.le e88.next)) (Dj.app Dj.nil_l (Dj.app (i139.djn (r77.ltF.le (ntr (ntr (ntr e88.next e96.next) e108.next) e117.next))) (i166.djn (r77.ltF.le (ntr (ntr (ntr (ntr (ntr e88.next e96.next) e108.next) e117.next) e136.next) e149.next))))))))).frS e236 (Dj.app (i140.djn (r77.ltF.le (ntr (ntr (ntr e88.next e96.next) e108.next) e117.next))) (Dj.app (i167.djn (r77.ltF.le (ntr (ntr (ntr (ntr (ntr e88.next e96.next) e108.next) e117.next) e136.next) e149.next))) (Dj.app (hf109.djn (r77.ltF.le (ntr e88.next e96.next))) (Dj.app (i139.djn (r77.ltF.le (ntr (ntr (ntr e88.next e96.next) e108.next) e117.next))) (Dj.app (i166.djn (r77.ltF.le (ntr (ntr (ntr (ntr (ntr e88.next e96.next) e108.next) e117.next) e136.next) e149.next))) (Dj.app (i202.djn (r77.ltF.le (ntr (ntr (ntr (ntr (ntr (ntr (ntr e88.next e96.next) e108.next) e117.next) e136.next) e149.next) e163.next) e176.next))) (hf97.djn (r77.ltF.le e88.next)))))))))
    refine s_ql (.int .i64 settles) (x := aLoad Try.prog 3 (.pointer (some ⟨b73, 1, none⟩)) H235) (by kernel_rfl) (u267.ld (by kernel_rfl)) ?_
    refine s_qk (.bool (decide (count6 < settles))) (by kernel_rfl) ?_
    refine s_nil ?_
    refine k266 _ _ ?_
    refine w_condp (count6 < settles) (by kernel_rfl) rfl (fun h268 => ?_) (fun h268 => ?_)
    ·have r269 := ite_t h268 hz258
     refine w_skip ?_
     refine k265 _ _ ?_
     refine w_seqk fun K270 k270 => ?_
     refine w_block ?_
     refine w_seqk fun K271 k271 => ?_
     refine w_reg (by kernel_rfl) ?_
     refine s_qk (.pointer (some ⟨b115, 0, none⟩)) (by kernel_rfl) ?_
     refine s_qk (.pointer (some ⟨b115, 0, none⟩)) (by kernel_rfl) ?_
     refine s_qk (.pointer (some ⟨b115, 3, none⟩)) (by kernel_rfl) ?_
     have u272 := ((r177.frS e195 (Dj.app (i140.djn r119.ltF) (Dj.app (i167.djn (r119.ltF.le (ntr e136.next e149.next))) (Dj.app (Dj.symm (hb118.djn (hm98.lt.le e108.next))) (Dj.app Dj.nil_l (Dj.app (i139.djn r119.ltF) (i166.djn (r119.ltF.le (ntr e136.next e149.next))))))))).frS e236 (Dj.app (i140.djn r119.ltF) (Dj.app (i167.djn (r119.ltF.le (ntr e136.next e149.next))) (Dj.app (Dj.symm (hb118.djn hm110.lt)) (Dj.app (i139.djn r119.ltF) (Dj.app (i166.djn (r119.ltF.le (ntr e136.next e149.next))) (Dj.app (i202.djn (r119.ltF.le (ntr (ntr (ntr e136.next e149.next) e163.next) e176.next))) (Dj.symm (hb118.djn (hm98.lt.le e108.next))))))))))
     refine s_ql (.pointer (some ⟨b134, 0, none⟩)) (x := aLoad Try.prog 99 (.pointer (some ⟨b115, 3, none⟩)) H235) (by kernel_rfl) (u272.ld (by kernel_rfl)) ?_
     obtain ⟨y273, hy274, r275⟩ := bind_some r269
     refine s_ck 74 #[.pointer (some ⟨b134, 0, none⟩)] (by kernel_rfl) (c_heap_Heap_Top e236.wf m238.sq m242.sq m244 hy274) ?_
     rintro _ _ ⟨rfl, rfl⟩
     refine s_qk (.tuple #[.int .u32 y273.1, .int .u64 y273.2.1, .bool y273.2.2]) (by kernel_rfl) ?_
     refine s_qk (.int .u32 y273.1) (by kernel_rfl) ?_
     refine s_qk (.int .u64 y273.2.1) (by kernel_rfl) ?_
     refine s_qk (.bool y273.2.2) (by kernel_rfl) ?_
     refine s_qk (.int .u32 y273.1) (by kernel_rfl) ?_
     refine s_qk (.int .u64 y273.2.1) (by kernel_rfl) ?_
     refine s_qk (.bool y273.2.2) (by kernel_rfl) ?_
     refine s_nil ?_
     refine k271 _ _ ?_
     refine w_seqk fun K278 k278 => ?_
     refine w_seqk fun K279 k279 => ?_
     obtain ⟨o280, hx281, r282⟩ := bind_some r275
     refine w_mid (fun α H283 => Has α [(5, .pointer (some ⟨b73, 0, none⟩)), (8, .pointer (some ⟨b115, 0, none⟩)), (9, .int .i64 count6), (10, .int .u32 y273.1), (11, .int .u64 y273.2.1), (63, .bool o280)] ∧ H235 = H283) (fun K285 k285 => ?_) (fun α H283 hM => ?_)
     ·refine w_reg (by kernel_rfl) ?_
      refine s_qk (.bool y273.2.2) (by kernel_rfl) ?_
      refine s_qk (.bool (!y273.2.2)) (by kernel_rfl) ?_
      refine s_qk (.bool (!y273.2.2)) (by kernel_rfl) ?_
      by_cases h287 : (!y273.2.2) = true
      ·have r288 := ite_t h287 hx281
       rw [h287]
       refine s_no (by kernel_rfl) ?_
       refine s_no (by kernel_rfl) ?_
       refine s_no (by kernel_rfl) ?_
       refine s_no (by kernel_rfl) ?_
       refine s_qk (.bool true) (by kernel_rfl) ?_
       refine s_nil ?_
       obtain rfl := Option.some.inj r288
       exact k285 _ _ ⟨⟨by kernel_rfl, by kernel_rfl, by kernel_rfl, by kernel_rfl, by kernel_rfl, by kernel_rfl, trivial⟩, rfl⟩
      ·have r289 := ite_f h287 hx281
       rw [nb h287]
       refine s_qk (.int .u64 y273.2.1) (by kernel_rfl) ?_
       refine s_qk (.pointer (some ⟨b73, 2, none⟩)) (by kernel_rfl) ?_
       refine s_ql (.int .u64 most) (x := aLoad Try.prog 29 (.pointer (some ⟨b73, 2, none⟩)) H235) (by kernel_rfl) (u267.ld (by kernel_rfl)) ?_
       refine s_qk (.bool (decide (y273.2.1 > most))) (by kernel_rfl) ?_
       refine s_qk (.bool (decide (y273.2.1 > most))) (by kernel_rfl) ?_
       refine s_nil ?_
       obtain rfl := Option.some.inj r289
       exact k285 _ _ ⟨⟨by kernel_rfl, by kernel_rfl, by kernel_rfl, by kernel_rfl, by kernel_rfl, by kernel_rfl, trivial⟩, rfl⟩
     ·obtain ⟨hh286, rfl⟩ := hM
      obtain ⟨β, rfl⟩ := has_ex hh286
      clear hh286
      refine k279 _ _ ?_
      refine w_cond (o280) (by kernel_rfl) rfl (fun h290 => ?_) (fun h290 => ?_)
      ·have r291 := ite_t h290 r282
       refine w_exit (th_exit (bl_ne (by decide) (th_exit (th_exit (bl_eq ?_)))))
       obtain rfl := Option.some.inj r291
       obtain rfl := it_inr hn259
       exact k231 _ _ ⟨(.slice a262 n263 c264), f240, ⟨by kernel_rfl, trivial⟩, (FrS.step e195.wf (FrS.refl (W := ([b134] ++ ([b161] ++ (f106 ++ (f133 ++ (f160 ++ (f193 ++ f94))))))) e195.wf) e236 (Inn.app Inn.left (Inn.app (Inn.right Inn.left) (Inn.app (Inn.right (Inn.right Inn.left)) (Inn.app (Inn.right (Inn.right (Inn.right Inn.left))) (Inn.app (Inn.right (Inn.right (Inn.right (Inn.right Inn.left)))) (Inn.app (Inn.right (Inn.right (Inn.right (Inn.right (Inn.right Inn.left))))) (Inn.right (Inn.right (Inn.right (Inn.right (Inn.right (Inn.right Inn.refl'))))))))))))), m238, m242, m244, m246, m248, m250, m252, (Inn.trans Inn.refl' (Nat.le_refl _) i253)⟩
      ·have r292 := ite_bf h290 r282
       refine w_skip ?_
       refine k278 _ _ ?_
       refine w_seqk fun K293 k293 => ?_
       refine w_reg (by kernel_rfl) ?_
       refine s_qk (.pointer (some ⟨b115, 0, none⟩)) (by kernel_rfl) ?_
       refine s_qk (.pointer (some ⟨b115, 0, none⟩)) (by kernel_rfl) ?_
       refine s_qk (.pointer (some ⟨b115, 3, none⟩)) (by kernel_rfl) ?_
       refine s_ql (.pointer (some ⟨b134, 0, none⟩)) (x := aLoad Try.prog 99 (.pointer (some ⟨b115, 3, none⟩)) H235) (by kernel_rfl) (u272.ld (by kernel_rfl)) ?_
       obtain ⟨y294, hy295, r296⟩ := bind_some r292
       refine s_ck 75 #[.pointer (some ⟨b134, 0, none⟩)] (by kernel_rfl) (c_heap_Heap_Pop e236.wf m238 m242 m244 (Dj.symm d141) (Dj.symm (i253.dj (i202.djn (m138.ltF.le (ntr (ntr e149.next e163.next) e176.next))) (m138.ltF.le (ntr (ntr (ntr e149.next e163.next) e176.next) e195.next)))) (Dj.symm (i253.dj (i202.djn (m137.lt.le (ntr (ntr e149.next e163.next) e176.next))) (m137.lt.le (ntr (ntr (ntr e149.next e163.next) e176.next) e195.next)))) hy295) ?_
       rintro _ H298 ⟨s297, rfl, e299, m300, m301, m302⟩
       obtain ⟨a304, n305, c306, rfl⟩ := m301.form
       refine s_nil ?_
       refine k293 _ _ ?_
       refine w_reg (by kernel_rfl) ?_
       refine s_qk (.pointer (some ⟨b115, 0, none⟩)) (by kernel_rfl) ?_
       refine s_qk (.int .u32 y273.1) (by kernel_rfl) ?_
       obtain ⟨g307, r308⟩ := G_some r296
       refine s_w (y273.1) (k := .i64) (x := y273.1) (by kernel_rfl) (wrap64 g307) ?_
       refine s_qk (.int .u64 y273.2.1) (by kernel_rfl) ?_
       refine s_qk (.pointer (some ⟨b73, 0, none⟩)) (by kernel_rfl) ?_
       have u309 := (u267.frS e299 (Dj.app (i140.djn (r77.ltF.le (ntr (ntr (ntr e88.next e96.next) e108.next) e117.next))) (Dj.app (i253.dj (i202.djn (r77.ltF.le (ntr (ntr (ntr (ntr (ntr (ntr (ntr e88.next e96.next) e108.next) e117.next) e136.next) e149.next) e163.next) e176.next))) (r77.ltF.le (ntr (ntr (ntr (ntr (ntr (ntr (ntr (ntr e88.next e96.next) e108.next) e117.next) e136.next) e149.next) e163.next) e176.next) e195.next))) (i139.djn (r77.ltF.le (ntr (ntr (ntr e88.next e96.next) e108.next) e117.next))))))
       refine s_ql (.int .i64 hops) (x := aLoad Try.prog 3 (.pointer (some ⟨b73, 0, none⟩)) H298) (by kernel_rfl) (u309.ld (by kernel_rfl)) ?_
       have u310 := (((u180.fr e195 (Dj.app (i140.djn (h_First.lt.le (ntr (ntr (ntr (ntr (ntr e69.next e75.next) e88.next) e96.next) e108.next) e117.next))) (Dj.app (i167.djn (h_First.lt.le (ntr (ntr (ntr (ntr (ntr (ntr (ntr e69.next e75.next) e88.next) e96.next) e108.next) e117.next) e136.next) e149.next))) (Dj.app (hf97.djn (h_First.lt.le (ntr (ntr e69.next e75.next) e88.next))) (Dj.app Dj.nil_l (Dj.app (i139.djn (h_First.lt.le (ntr (ntr (ntr (ntr (ntr e69.next e75.next) e88.next) e96.next) e108.next) e117.next))) (i166.djn (h_First.lt.le (ntr (ntr (ntr (ntr (ntr (ntr (ntr e69.next e75.next) e88.next) e96.next) e108.next) e117.next) e136.next) e149.next))))))))).fr e236 (Dj.app (i140.djn (h_First.lt.le (ntr (ntr (ntr (ntr (ntr e69.next e75.next) e88.next) e96.next) e108.next) e117.next))) (Dj.app (i167.djn (h_First.lt.le (ntr (ntr (ntr (ntr (ntr (ntr (ntr e69.next e75.next) e88.next) e96.next) e108.next) e117.next) e136.next) e149.next))) (Dj.app (hf109.djn (h_First.lt.le (ntr (ntr (ntr e69.next e75.next) e88.next) e96.next))) (Dj.app (i139.djn (h_First.lt.le (ntr (ntr (ntr (ntr (ntr e69.next e75.next) e88.next) e96.next) e108.next) e117.next))) (Dj.app (i166.djn (h_First.lt.le (ntr (ntr (ntr (ntr (ntr (ntr (ntr e69.next e75.next) e88.next) e96.next) e108.next) e117.next) e136.next) e149.next))) (Dj.app (i202.djn (h_First.lt.le (ntr (ntr (ntr (ntr (ntr (ntr (ntr (ntr (ntr e69.next e75.next) e88.next) e96.next) e108.next) e117.next) e136.next) e149.next) e163.next) e176.next))) (hf97.djn (h_First.lt.le (ntr (ntr e69.next e75.next) e88.next)))))))))).fr e299 (Dj.app (i140.djn (h_First.lt.le (ntr (ntr (ntr (ntr (ntr e69.next e75.next) e88.next) e96.next) e108.next) e117.next))) (Dj.app (i253.dj (i202.djn (h_First.lt.le (ntr (ntr (ntr (ntr (ntr (ntr (ntr (ntr (ntr e69.next e75.next) e88.next) e96.next) e108.next) e117.next) e136.next) e149.next) e163.next) e176.next))) (h_First.lt.le (ntr (ntr (ntr (ntr (ntr (ntr (ntr (ntr (ntr (ntr e69.next e75.next) e88.next) e96.next) e108.next) e117.next) e136.next) e149.next) e163.next) e176.next) e195.next))) (i139.djn (h_First.lt.le (ntr (ntr (ntr (ntr (ntr e69.next e75.next) e88.next) e96.next) e108.next) e117.next))))))
       have u311 := (((u181.fr e195 (Dj.app (i140.djn (h_To.lt.le (ntr (ntr (ntr (ntr (ntr e69.next e75.next) e88.next) e96.next) e108.next) e117.next))) (Dj.app (i167.djn (h_To.lt.le (ntr (ntr (ntr (ntr (ntr (ntr (ntr e69.next e75.next) e88.next) e96.next) e108.next) e117.next) e136.next) e149.next))) (Dj.app (hf97.djn (h_To.lt.le (ntr (ntr e69.next e75.next) e88.next))) (Dj.app Dj.nil_l (Dj.app (i139.djn (h_To.lt.le (ntr (ntr (ntr (ntr (ntr e69.next e75.next) e88.next) e96.next) e108.next) e117.next))) (i166.djn (h_To.lt.le (ntr (ntr (ntr (ntr (ntr (ntr (ntr e69.next e75.next) e88.next) e96.next) e108.next) e117.next) e136.next) e149.next))))))))).fr e236 (Dj.app (i140.djn (h_To.lt.le (ntr (ntr (ntr (ntr (ntr e69.next e75.next) e88.next) e96.next) e108.next) e117.next))) (Dj.app (i167.djn (h_To.lt.le (ntr (ntr (ntr (ntr (ntr (ntr (ntr e69.next e75.next) e88.next) e96.next) e108.next) e117.next) e136.next) e149.next))) (Dj.app (hf109.djn (h_To.lt.le (ntr (ntr (ntr e69.next e75.next) e88.next) e96.next))) (Dj.app (i139.djn (h_To.lt.le (ntr (ntr (ntr (ntr (ntr e69.next e75.next) e88.next) e96.next) e108.next) e117.next))) (Dj.app (i166.djn (h_To.lt.le (ntr (ntr (ntr (ntr (ntr (ntr (ntr e69.next e75.next) e88.next) e96.next) e108.next) e117.next) e136.next) e149.next))) (Dj.app (i202.djn (h_To.lt.le (ntr (ntr (ntr (ntr (ntr (ntr (ntr (ntr (ntr e69.next e75.next) e88.next) e96.next) e108.next) e117.next) e136.next) e149.next) e163.next) e176.next))) (hf97.djn (h_To.lt.le (ntr (ntr e69.next e75.next) e88.next)))))))))).fr e299 (Dj.app (i140.djn (h_To.lt.le (ntr (ntr (ntr (ntr (ntr e69.next e75.next) e88.next) e96.next) e108.next) e117.next))) (Dj.app (i253.dj (i202.djn (h_To.lt.le (ntr (ntr (ntr (ntr (ntr (ntr (ntr (ntr (ntr e69.next e75.next) e88.next) e96.next) e108.next) e117.next) e136.next) e149.next) e163.next) e176.next))) (h_To.lt.le (ntr (ntr (ntr (ntr (ntr (ntr (ntr (ntr (ntr (ntr e69.next e75.next) e88.next) e96.next) e108.next) e117.next) e136.next) e149.next) e163.next) e176.next) e195.next))) (i139.djn (h_To.lt.le (ntr (ntr (ntr (ntr (ntr e69.next e75.next) e88.next) e96.next) e108.next) e117.next))))))
       have u312 := (((u182.fr e195 (Dj.app (i140.djn (h_Weight.lt.le (ntr (ntr (ntr (ntr (ntr e69.next e75.next) e88.next) e96.next) e108.next) e117.next))) (Dj.app (i167.djn (h_Weight.lt.le (ntr (ntr (ntr (ntr (ntr (ntr (ntr e69.next e75.next) e88.next) e96.next) e108.next) e117.next) e136.next) e149.next))) (Dj.app (hf97.djn (h_Weight.lt.le (ntr (ntr e69.next e75.next) e88.next))) (Dj.app Dj.nil_l (Dj.app (i139.djn (h_Weight.lt.le (ntr (ntr (ntr (ntr (ntr e69.next e75.next) e88.next) e96.next) e108.next) e117.next))) (i166.djn (h_Weight.lt.le (ntr (ntr (ntr (ntr (ntr (ntr (ntr e69.next e75.next) e88.next) e96.next) e108.next) e117.next) e136.next) e149.next))))))))).fr e236 (Dj.app (i140.djn (h_Weight.lt.le (ntr (ntr (ntr (ntr (ntr e69.next e75.next) e88.next) e96.next) e108.next) e117.next))) (Dj.app (i167.djn (h_Weight.lt.le (ntr (ntr (ntr (ntr (ntr (ntr (ntr e69.next e75.next) e88.next) e96.next) e108.next) e117.next) e136.next) e149.next))) (Dj.app (hf109.djn (h_Weight.lt.le (ntr (ntr (ntr e69.next e75.next) e88.next) e96.next))) (Dj.app (i139.djn (h_Weight.lt.le (ntr (ntr (ntr (ntr (ntr e69.next e75.next) e88.next) e96.next) e108.next) e117.next))) (Dj.app (i166.djn (h_Weight.lt.le (ntr (ntr (ntr (ntr (ntr (ntr (ntr e69.next e75.next) e88.next) e96.next) e108.next) e117.next) e136.next) e149.next))) (Dj.app (i202.djn (h_Weight.lt.le (ntr (ntr (ntr (ntr (ntr (ntr (ntr (ntr (ntr e69.next e75.next) e88.next) e96.next) e108.next) e117.next) e136.next) e149.next) e163.next) e176.next))) (hf97.djn (h_Weight.lt.le (ntr (ntr e69.next e75.next) e88.next)))))))))).fr e299 (Dj.app (i140.djn (h_Weight.lt.le (ntr (ntr (ntr (ntr (ntr e69.next e75.next) e88.next) e96.next) e108.next) e117.next))) (Dj.app (i253.dj (i202.djn (h_Weight.lt.le (ntr (ntr (ntr (ntr (ntr (ntr (ntr (ntr (ntr e69.next e75.next) e88.next) e96.next) e108.next) e117.next) e136.next) e149.next) e163.next) e176.next))) (h_Weight.lt.le (ntr (ntr (ntr (ntr (ntr (ntr (ntr (ntr (ntr (ntr e69.next e75.next) e88.next) e96.next) e108.next) e117.next) e136.next) e149.next) e163.next) e176.next) e195.next))) (i139.djn (h_Weight.lt.le (ntr (ntr (ntr (ntr (ntr e69.next e75.next) e88.next) e96.next) e108.next) e117.next))))))
       have u313 := (m246.fr e299 (Dj.app (Dj.symm (i166.djn (m138.ltF.le e149.next))) (Dj.app (i253.dj (i202.djn (m164.lt.le e176.next)) (m164.lt.le (ntr e176.next e195.next))) (Dj.symm (i166.djn (m137.lt.le e149.next))))))
       have u314 := (m248.frS e299 (Dj.app (Dj.symm (i167.djn (m138.ltF.le e149.next))) (Dj.app (i253.dj (i202.djn (m165.ltF.le e176.next)) (m165.ltF.le (ntr e176.next e195.next))) (Dj.symm (i167.djn (m137.lt.le e149.next))))))
       have u315 := (m250.fr e299 (Dj.app (i140.djn (hm98.lt.le (ntr e108.next e117.next))) (Dj.app (i253.dj (i202.djn (hm98.lt.le (ntr (ntr (ntr (ntr (ntr e108.next e117.next) e136.next) e149.next) e163.next) e176.next))) (hm98.lt.le (ntr (ntr (ntr (ntr (ntr (ntr e108.next e117.next) e136.next) e149.next) e163.next) e176.next) e195.next))) (i139.djn (hm98.lt.le (ntr e108.next e117.next))))))
       have u316 := (m252.fr e299 (Dj.app (i140.djn (hm110.lt.le e117.next)) (Dj.app (i253.dj (i202.djn (hm110.lt.le (ntr (ntr (ntr (ntr e117.next e136.next) e149.next) e163.next) e176.next))) (hm110.lt.le (ntr (ntr (ntr (ntr (ntr e117.next e136.next) e149.next) e163.next) e176.next) e195.next))) (i139.djn (hm110.lt.le e117.next)))))
       have u317 := (u272.frS e299 (Dj.app (i140.djn r119.ltF) (Dj.app (i253.dj (i202.djn (r119.ltF.le (ntr (ntr (ntr e136.next e149.next) e163.next) e176.next))) (r119.ltF.le (ntr (ntr (ntr (ntr e136.next e149.next) e163.next) e176.next) e195.next))) (i139.djn r119.ltF))))
       obtain ⟨y318, hy319, r320⟩ := bind_some r308
       refine s_ck 76 #[.pointer (some ⟨b115, 0, none⟩), .int .i64 y273.1, .int .u64 y273.2.1, .int .i64 hops] (by kernel_rfl) (c_search_state_settle e299.wf u310 u311 u312 m301 m300 m302 u313 u314 u315 u316 u317 (Dj.symm (hb118.djn hm110.lt)) (hf109.djn hm98.lt) (Dj.symm (i139.djn (hm110.lt.le e117.next))) (Dj.symm (i253.dj (i202.djn (hm110.lt.le (ntr (ntr (ntr (ntr e117.next e136.next) e149.next) e163.next) e176.next))) (hm110.lt.le (ntr (ntr (ntr (ntr (ntr e117.next e136.next) e149.next) e163.next) e176.next) e195.next)))) (Dj.symm (i140.djn (hm110.lt.le e117.next))) (Dj.symm (i166.djn (hm110.lt.le (ntr (ntr e117.next e136.next) e149.next)))) (Dj.symm (i167.djn (hm110.lt.le (ntr (ntr e117.next e136.next) e149.next)))) (hf109.djn (h_First.lt.le (ntr (ntr (ntr e69.next e75.next) e88.next) e96.next))) (hf109.djn (h_To.lt.le (ntr (ntr (ntr e69.next e75.next) e88.next) e96.next))) (hf109.djn (h_Weight.lt.le (ntr (ntr (ntr e69.next e75.next) e88.next) e96.next))) (Dj.symm d168) (i166.djn (r119.ltF.le (ntr e136.next e149.next))) (i167.djn (r119.ltF.le (ntr e136.next e149.next))) (i166.djn (hm98.lt.le (ntr (ntr (ntr e108.next e117.next) e136.next) e149.next))) (i167.djn (hm98.lt.le (ntr (ntr (ntr e108.next e117.next) e136.next) e149.next))) (Dj.symm (hb118.djn (hm98.lt.le e108.next))) (Dj.symm (i253.dj (i202.djn (m164.lt.le e176.next)) (m164.lt.le (ntr e176.next e195.next)))) (Dj.symm (i253.dj (i202.djn (m165.ltF.le e176.next)) (m165.ltF.le (ntr e176.next e195.next)))) (Dj.symm (i253.dj (i202.djn (hm98.lt.le (ntr (ntr (ntr (ntr (ntr e108.next e117.next) e136.next) e149.next) e163.next) e176.next))) (hm98.lt.le (ntr (ntr (ntr (ntr (ntr (ntr e108.next e117.next) e136.next) e149.next) e163.next) e176.next) e195.next)))) (i166.djn (m137.lt.le e149.next)) (i167.djn (m137.lt.le e149.next)) (Dj.symm (i139.djn (hm98.lt.le (ntr e108.next e117.next)))) (i166.djn (m138.ltF.le e149.next)) (i167.djn (m138.ltF.le e149.next)) (Dj.symm (i140.djn (hm98.lt.le (ntr e108.next e117.next)))) (i253.dj (i202.djn (m138.ltF.le (ntr (ntr e149.next e163.next) e176.next))) (m138.ltF.le (ntr (ntr (ntr e149.next e163.next) e176.next) e195.next))) (i253.dj (i202.djn (m137.lt.le (ntr (ntr e149.next e163.next) e176.next))) (m137.lt.le (ntr (ntr (ntr e149.next e163.next) e176.next) e195.next))) (Dj.symm d141) (i139.djn r119.ltF) (i253.dj (i202.djn (r119.ltF.le (ntr (ntr (ntr e136.next e149.next) e163.next) e176.next))) (r119.ltF.le (ntr (ntr (ntr (ntr e136.next e149.next) e163.next) e176.next) e195.next))) (i140.djn r119.ltF) (i166.djn (h_First.lt.le (ntr (ntr (ntr (ntr (ntr (ntr (ntr e69.next e75.next) e88.next) e96.next) e108.next) e117.next) e136.next) e149.next))) (i139.djn (h_First.lt.le (ntr (ntr (ntr (ntr (ntr e69.next e75.next) e88.next) e96.next) e108.next) e117.next))) (i253.dj (i202.djn (h_First.lt.le (ntr (ntr (ntr (ntr (ntr (ntr (ntr (ntr (ntr e69.next e75.next) e88.next) e96.next) e108.next) e117.next) e136.next) e149.next) e163.next) e176.next))) (h_First.lt.le (ntr (ntr (ntr (ntr (ntr (ntr (ntr (ntr (ntr (ntr e69.next e75.next) e88.next) e96.next) e108.next) e117.next) e136.next) e149.next) e163.next) e176.next) e195.next))) (hf97.djn (h_First.lt.le (ntr (ntr e69.next e75.next) e88.next))) (i167.djn (h_First.lt.le (ntr (ntr (ntr (ntr (ntr (ntr (ntr e69.next e75.next) e88.next) e96.next) e108.next) e117.next) e136.next) e149.next))) (i140.djn (h_First.lt.le (ntr (ntr (ntr (ntr (ntr e69.next e75.next) e88.next) e96.next) e108.next) e117.next))) (i166.djn (h_To.lt.le (ntr (ntr (ntr (ntr (ntr (ntr (ntr e69.next e75.next) e88.next) e96.next) e108.next) e117.next) e136.next) e149.next))) (i139.djn (h_To.lt.le (ntr (ntr (ntr (ntr (ntr e69.next e75.next) e88.next) e96.next) e108.next) e117.next))) (i253.dj (i202.djn (h_To.lt.le (ntr (ntr (ntr (ntr (ntr (ntr (ntr (ntr (ntr e69.next e75.next) e88.next) e96.next) e108.next) e117.next) e136.next) e149.next) e163.next) e176.next))) (h_To.lt.le (ntr (ntr (ntr (ntr (ntr (ntr (ntr (ntr (ntr (ntr e69.next e75.next) e88.next) e96.next) e108.next) e117.next) e136.next) e149.next) e163.next) e176.next) e195.next))) (hf97.djn (h_To.lt.le (ntr (ntr e69.next e75.next) e88.next))) (i167.djn (h_To.lt.le (ntr (ntr (ntr (ntr (ntr (ntr (ntr e69.next e75.next) e88.next) e96.next) e108.next) e117.next) e136.next) e149.next))) (i140.djn (h_To.lt.le (ntr (ntr (ntr (ntr (ntr e69.next e75.next) e88.next) e96.next) e108.next) e117.next))) (i166.djn (h_Weight.lt.le (ntr (ntr (ntr (ntr (ntr (ntr (ntr e69.next e75.next) e88.next) e96.next) e108.next) e117.next) e136.next) e149.next))) (i139.djn (h_Weight.lt.le (ntr (ntr (ntr (ntr (ntr e69.next e75.next) e88.next) e96.next) e108.next) e117.next))) (i253.dj (i202.djn (h_Weight.lt.le (ntr (ntr (ntr (ntr (ntr (ntr (ntr (ntr (ntr e69.next e75.next) e88.next) e96.next) e108.next) e117.next) e136.next) e149.next) e163.next) e176.next))) (h_Weight.lt.le (ntr (ntr (ntr (ntr (ntr (ntr (ntr (ntr (ntr (ntr e69.next e75.next) e88.next) e96.next) e108.next) e117.next) e136.next) e149.next) e163.next) e176.next) e195.next))) (hf97.djn (h_Weight.lt.le (ntr (ntr e69.next e75.next) e88.next))) (i167.djn (h_Weight.lt.le (ntr (ntr (ntr (ntr (ntr (ntr (ntr e69.next e75.next) e88.next) e96.next) e108.next) e117.next) e136.next) e149.next))) (i140.djn (h_Weight.lt.le (ntr (ntr (ntr (ntr (ntr e69.next e75.next) e88.next) e96.next) e108.next) e117.next))) (i166.djn (hm110.lt.le (ntr (ntr e117.next e136.next) e149.next))) (i139.djn (hm110.lt.le e117.next)) (i253.dj (i202.djn (hm110.lt.le (ntr (ntr (ntr (ntr e117.next e136.next) e149.next) e163.next) e176.next))) (hm110.lt.le (ntr (ntr (ntr (ntr (ntr e117.next e136.next) e149.next) e163.next) e176.next) e195.next))) (i167.djn (hm110.lt.le (ntr (ntr e117.next e136.next) e149.next))) (i140.djn (hm110.lt.le e117.next)) (i253.dj (i202.djn (m164.lt.le e176.next)) (m164.lt.le (ntr e176.next e195.next))) (i253.dj (i202.djn (m165.ltF.le e176.next)) (m165.ltF.le (ntr e176.next e195.next))) (i253.dj (i202.djn (hm98.lt.le (ntr (ntr (ntr (ntr (ntr e108.next e117.next) e136.next) e149.next) e163.next) e176.next))) (hm98.lt.le (ntr (ntr (ntr (ntr (ntr (ntr e108.next e117.next) e136.next) e149.next) e163.next) e176.next) e195.next))) hy319) ?_
       rintro _ H323 ⟨s321, f322, rfl, e324, m325, m326, m327, m328, m329, m330, m331, i332⟩
       obtain ⟨a334, n335, c336, rfl⟩ := m326.form
       refine s_nil ?_
       refine k270 _ _ ?_
       refine w_reg (by kernel_rfl) ?_
       refine s_qk (.int .i64 count6) (by kernel_rfl) ?_
       obtain ⟨g337, r338⟩ := G_some r320
       refine s_w ((count6 + 1)) (k := .i64) (x := (count6 + 1)) (by kernel_rfl) (wrap64 g337) ?_
       refine s_qk (.int .i64 (count6 + 1)) (by kernel_rfl) ?_
       refine s_nil ?_
       obtain rfl := Option.some.inj r338
       exact k261 n256 _ _ (Nat.lt_succ_self _) ⟨y318.2.1, y318.1, y318.2.2.1, y318.2.2.2.1, y318.2.2.2.2.1, y318.2.2.2.2.2, (count6 + 1), (.slice a334 n335 c336), f322, hn259, ⟨by kernel_rfl, by kernel_rfl, by kernel_rfl, trivial⟩, (FrS.step e195.wf (FrS.step e195.wf (FrS.step e195.wf (FrS.refl (W := ([b134] ++ ([b161] ++ (f106 ++ (f133 ++ (f160 ++ (f193 ++ f94))))))) e195.wf) e236 (Inn.app Inn.left (Inn.app (Inn.right Inn.left) (Inn.app (Inn.right (Inn.right Inn.left)) (Inn.app (Inn.right (Inn.right (Inn.right Inn.left))) (Inn.app (Inn.right (Inn.right (Inn.right (Inn.right Inn.left)))) (Inn.app (Inn.right (Inn.right (Inn.right (Inn.right (Inn.right Inn.left))))) (Inn.right (Inn.right (Inn.right (Inn.right (Inn.right (Inn.right Inn.refl'))))))))))))) e299 (Inn.app Inn.left (Inn.app (Inn.trans (Inn.right (Inn.right (Inn.right (Inn.right (Inn.right Inn.left))))) (Nat.le_refl _) i253) (Inn.right (Inn.right (Inn.right Inn.left)))))) e324 (Inn.app Inn.left (Inn.app (Inn.right Inn.left) (Inn.app (Inn.right (Inn.right (Inn.right (Inn.right (Inn.right (Inn.right Inn.refl')))))) (Inn.app (Inn.right (Inn.right Inn.left)) (Inn.app (Inn.trans (Inn.right (Inn.right (Inn.right (Inn.right (Inn.right Inn.left))))) (Nat.le_refl _) i253) (Inn.app (Inn.right (Inn.right (Inn.right Inn.left))) (Inn.right (Inn.right (Inn.right (Inn.right Inn.left))))))))))), m326, m325, m327, m328, m329, m330, m331, (Inn.trans (Inn.trans Inn.refl' (Nat.le_refl _) i253) (ntr e236.next e299.next) i332)⟩
    ·have r339 := ite_f h268 hz258
     refine w_exit (th_exit (th_exit (bl_eq ?_)))
     obtain rfl := Option.some.inj r339
     obtain rfl := it_inr hn259
     exact k231 _ _ ⟨(.slice a262 n263 c264), f240, ⟨by kernel_rfl, trivial⟩, (FrS.step e195.wf (FrS.refl (W := ([b134] ++ ([b161] ++ (f106 ++ (f133 ++ (f160 ++ (f193 ++ f94))))))) e195.wf) e236 (Inn.app Inn.left (Inn.app (Inn.right Inn.left) (Inn.app (Inn.right (Inn.right Inn.left)) (Inn.app (Inn.right (Inn.right (Inn.right Inn.left))) (Inn.app (Inn.right (Inn.right (Inn.right (Inn.right Inn.left)))) (Inn.app (Inn.right (Inn.right (Inn.right (Inn.right (Inn.right Inn.left))))) (Inn.right (Inn.right (Inn.right (Inn.right (Inn.right (Inn.right Inn.refl'))))))))))))), m238, m242, m244, m246, m248, m250, m252, (Inn.trans Inn.refl' (Nat.le_refl _) i253)⟩
   ·obtain ⟨s216, f217, hh232, e213, m215, m219, m221, m223, m225, m227, m229, i230⟩ := hM
    obtain ⟨β, rfl⟩ := has_ex hh232
    clear hh232
    obtain ⟨a340, n341, c342, rfl⟩ := m215.form
    refine k207 _ _ ?_
    refine w_seqk fun K343 k343 => ?_
    refine w_reg (by kernel_rfl) ?_
    refine s_qk (.pointer (some ⟨b115, 0, none⟩)) (by kernel_rfl) ?_
    refine s_qk (.pointer (some ⟨b115, 0, none⟩)) (by kernel_rfl) ?_
    refine s_nil ?_
    refine k343 _ _ ?_
    refine w_ret ?_
    refine b_ret (fn := Try.f50) (vs := [.pointer (some ⟨b115, 0, none⟩)]) (aRes_tmp (by kernel_rfl) (rfl)) ?_
    have u344 := ((r177.frS e195 (Dj.app (i140.djn r119.ltF) (Dj.app (i167.djn (r119.ltF.le (ntr e136.next e149.next))) (Dj.app (Dj.symm (hb118.djn (hm98.lt.le e108.next))) (Dj.app Dj.nil_l (Dj.app (i139.djn r119.ltF) (i166.djn (r119.ltF.le (ntr e136.next e149.next))))))))).frS e213 (Dj.app (i140.djn r119.ltF) (Dj.app (i167.djn (r119.ltF.le (ntr e136.next e149.next))) (Dj.app (Dj.symm (hb118.djn hm110.lt)) (Dj.app (i139.djn r119.ltF) (Dj.app (i166.djn (r119.ltF.le (ntr e136.next e149.next))) (Dj.app (i202.djn (r119.ltF.le (ntr (ntr (ntr e136.next e149.next) e163.next) e176.next))) (Dj.symm (hb118.djn (hm98.lt.le e108.next))))))))))
    obtain rfl := Option.some.inj r211
    exact ⟨(.slice a340 n341 c342), f217, (.slice a144 n145 c146), f133, b134, (.slice a171 n172 c173), f160, b161, (.slice a99 n100 c101), f94, (.slice a111 n112 c113), f106, b115, rfl, (FrS.step wf (FrS.step wf (FrS.step wf (FrS.step wf (FrS.step wf (FrS.step wf ((((FrS.step wf (((FrS.refl (W := []) wf).extR e69).extR e75) e88 Inn.nil).extR e96).extR e108).extR e117) e136 Inn.nil) e149 (hb118.fresh (ntr (ntr (ntr (ntr e69.next e75.next) e88.next) e96.next) e108.next))) e163 Inn.nil) e176 (hb118.fresh (ntr (ntr (ntr (ntr e69.next e75.next) e88.next) e96.next) e108.next))) e195 (Inn.app (i140.fresh (ntr (ntr (ntr (ntr (ntr e69.next e75.next) e88.next) e96.next) e108.next) e117.next)) (Inn.app (i167.fresh (ntr (ntr (ntr (ntr (ntr (ntr (ntr e69.next e75.next) e88.next) e96.next) e108.next) e117.next) e136.next) e149.next)) (Inn.app (hf97.fresh (ntr (ntr e69.next e75.next) e88.next)) (Inn.app Inn.nil (Inn.app (i139.fresh (ntr (ntr (ntr (ntr (ntr e69.next e75.next) e88.next) e96.next) e108.next) e117.next)) (i166.fresh (ntr (ntr (ntr (ntr (ntr (ntr (ntr e69.next e75.next) e88.next) e96.next) e108.next) e117.next) e136.next) e149.next)))))))) e213 (Inn.app (i140.fresh (ntr (ntr (ntr (ntr (ntr e69.next e75.next) e88.next) e96.next) e108.next) e117.next)) (Inn.app (i167.fresh (ntr (ntr (ntr (ntr (ntr (ntr (ntr e69.next e75.next) e88.next) e96.next) e108.next) e117.next) e136.next) e149.next)) (Inn.app (hf109.fresh (ntr (ntr (ntr e69.next e75.next) e88.next) e96.next)) (Inn.app (i139.fresh (ntr (ntr (ntr (ntr (ntr e69.next e75.next) e88.next) e96.next) e108.next) e117.next)) (Inn.app (i166.fresh (ntr (ntr (ntr (ntr (ntr (ntr (ntr e69.next e75.next) e88.next) e96.next) e108.next) e117.next) e136.next) e149.next)) (Inn.app (i202.fresh (ntr (ntr (ntr (ntr (ntr (ntr (ntr (ntr (ntr e69.next e75.next) e88.next) e96.next) e108.next) e117.next) e136.next) e149.next) e163.next) e176.next)) (hf97.fresh (ntr (ntr e69.next e75.next) e88.next))))))))), m215, m219, m221, m223, m225, m227, m229, u344, (Inn.trans (i202.fresh (ntr (ntr (ntr (ntr (ntr (ntr (ntr (ntr (ntr e69.next e75.next) e88.next) e96.next) e108.next) e117.next) e136.next) e149.next) e163.next) e176.next)) (ntr (ntr (ntr (ntr (ntr (ntr (ntr (ntr (ntr (ntr e69.next e75.next) e88.next) e96.next) e108.next) e117.next) e136.next) e149.next) e163.next) e176.next) e195.next) i230), (i139.fresh (ntr (ntr (ntr (ntr (ntr e69.next e75.next) e88.next) e96.next) e108.next) e117.next)), (i140.fresh (ntr (ntr (ntr (ntr (ntr e69.next e75.next) e88.next) e96.next) e108.next) e117.next)), (i166.fresh (ntr (ntr (ntr (ntr (ntr (ntr (ntr e69.next e75.next) e88.next) e96.next) e108.next) e117.next) e136.next) e149.next)), (i167.fresh (ntr (ntr (ntr (ntr (ntr (ntr (ntr e69.next e75.next) e88.next) e96.next) e108.next) e117.next) e136.next) e149.next)), (hf97.fresh (ntr (ntr e69.next e75.next) e88.next)), (hf109.fresh (ntr (ntr (ntr e69.next e75.next) e88.next) e96.next)), (hb118.fresh (ntr (ntr (ntr (ntr e69.next e75.next) e88.next) e96.next) e108.next)), (i230.dj (i202.djn (m137.lt.le (ntr (ntr e149.next e163.next) e176.next))) (m137.lt.le (ntr (ntr (ntr e149.next e163.next) e176.next) e195.next))), (i230.dj (i202.djn (m138.ltF.le (ntr (ntr e149.next e163.next) e176.next))) (m138.ltF.le (ntr (ntr (ntr e149.next e163.next) e176.next) e195.next))), d141, (i230.dj (i202.djn (m164.lt.le e176.next)) (m164.lt.le (ntr e176.next e195.next))), (Dj.symm (i166.djn (m137.lt.le e149.next))), (Dj.symm (i166.djn (m138.ltF.le e149.next))), (i230.dj (i202.djn (m165.ltF.le e176.next)) (m165.ltF.le (ntr e176.next e195.next))), (Dj.symm (i167.djn (m137.lt.le e149.next))), (Dj.symm (i167.djn (m138.ltF.le e149.next))), d168, (i230.dj (i202.djn (hm98.lt.le (ntr (ntr (ntr (ntr (ntr e108.next e117.next) e136.next) e149.next) e163.next) e176.next))) (hm98.lt.le (ntr (ntr (ntr (ntr (ntr (ntr e108.next e117.next) e136.next) e149.next) e163.next) e176.next) e195.next))), (i139.djn (hm98.lt.le (ntr e108.next e117.next))), (i140.djn (hm98.lt.le (ntr e108.next e117.next))), (i166.djn (hm98.lt.le (ntr (ntr (ntr e108.next e117.next) e136.next) e149.next))), (i167.djn (hm98.lt.le (ntr (ntr (ntr e108.next e117.next) e136.next) e149.next))), (i230.dj (i202.djn (hm110.lt.le (ntr (ntr (ntr (ntr e117.next e136.next) e149.next) e163.next) e176.next))) (hm110.lt.le (ntr (ntr (ntr (ntr (ntr e117.next e136.next) e149.next) e163.next) e176.next) e195.next))), (i139.djn (hm110.lt.le e117.next)), (i140.djn (hm110.lt.le e117.next)), (i166.djn (hm110.lt.le (ntr (ntr e117.next e136.next) e149.next))), (i167.djn (hm110.lt.le (ntr (ntr e117.next e136.next) e149.next))), (Dj.symm (hf109.djn hm98.lt)), (i230.dj (i202.djn (r119.ltF.le (ntr (ntr (ntr e136.next e149.next) e163.next) e176.next))) (r119.ltF.le (ntr (ntr (ntr (ntr e136.next e149.next) e163.next) e176.next) e195.next))), (i139.djn r119.ltF), (i140.djn r119.ltF), (i166.djn (r119.ltF.le (ntr e136.next e149.next))), (i167.djn (r119.ltF.le (ntr e136.next e149.next))), (Dj.symm (hb118.djn (hm98.lt.le e108.next))), (Dj.symm (hb118.djn hm110.lt))⟩

theorem c_search_state_all {H : AH} {b_st : Nat} {hd_st_ : Value} {fp_st_ : Fp} {hd_st_2 : Value} {fp_st_2 : Fp} {hd_st_3 : Value} {fp_st_3 : Fp} {b_st_4 : Nat} {hd_st_5 : Value} {fp_st_5 : Fp} {hd_st_6 : Value} {fp_st_6 : Fp} {b_st_7 : Nat} {hd_st_8 : Value} {fp_st_8 : Fp} {hd_st_11 : Value} {fp_st_11 : Fp} {hd_st_12 : Value} {fp_st_12 : Fp} {st_ : List (Int)} {st_2 : List (Int)} {st_3 : List (Int)} {st_5 : List (Int × Int)} {st_6 : List (Int)} {st_8 : List (Int × Int)} {st_9 : Int} {st_10 : Int} {st_11 : List (Int)} {st_12 : List (Bool)} {r : List (Int)}
  (wf : WF H) (h_st_ : Sq (encI .i64) 1 H hd_st_ st_ fp_st_) (h_st_2 : Sq (encI .i64) 1 H hd_st_2 st_2 fp_st_2) (h_st_3 : Sq (encI .i64) 1 H hd_st_3 st_3 fp_st_3) (h_st_5 : Sq enc_u64_u32 2 H hd_st_5 st_5 fp_st_5) (h_st_6 : Sq (encI .i64) 1 H hd_st_6 st_6 fp_st_6) (h_st_4 : Row H b_st_4 [hd_st_5, hd_st_6]) (h_st_8 : Sq enc_u64_u32 2 H hd_st_8 st_8 fp_st_8) (h_st_7 : Row H b_st_7 [hd_st_8, .int .u32 st_9, .int .i64 st_10]) (h_st_11 : Sq (encI .i64) 1 H hd_st_11 st_11 fp_st_11) (h_st_12 : Sq encB 1 H hd_st_12 st_12 fp_st_12) (h_st : Row H b_st [hd_st_, hd_st_2, hd_st_3, .pointer (some ⟨b_st_4, 0, none⟩), .pointer (some ⟨b_st_7, 0, none⟩), hd_st_11, hd_st_12]) (hr : z_search_state_all st_ st_2 st_3 st_5 st_6 st_8 st_9 st_10 st_11 st_12 = some r) :
  ACalls Try.prog 52 #[.pointer (some ⟨b_st, 0, none⟩)] H fun v H' => ∃ (s3 : Value) (f4 : Fp), v = s3 ∧ FrS [] H H' ∧ Ow (encI .u64) 1 H' s3 r f4 ∧ Inn [] H f4 := by
 refine acalls_of_body mixed Try.func52 rfl (Nat.le_of_ble_eq_true rfl) ?_
 unfold z_search_state_all at hr
 refine w_seqk fun K6 k6 => ?_
 refine w_reg (by kernel_rfl) ?_
 refine s_qk (.slice none 0 0) (by kernel_rfl) ?_
 refine s_nil ?_
 refine k6 _ _ ?_
 refine w_seqk fun K7 k7 => ?_
 refine w_reg (by kernel_rfl) ?_
 refine s_qk (.pointer (some ⟨b_st, 0, none⟩)) (by kernel_rfl) ?_
 refine s_qk (.pointer (some ⟨b_st, 0, none⟩)) (by kernel_rfl) ?_
 refine s_qk (.pointer (some ⟨b_st, 0, none⟩)) (by kernel_rfl) ?_
 refine s_ql (.agg #[hd_st_, hd_st_2, hd_st_3]) (x := aLoad Try.prog 34 (.pointer (some ⟨b_st, 0, none⟩)) H) (by kernel_rfl) (h_st.ld (by kernel_rfl)) ?_
 obtain ⟨y8, hy9, r10⟩ := bind_some hr
 refine s_ck 53 #[.agg #[hd_st_, hd_st_2, hd_st_3]] (by kernel_rfl) (c_search_nodes wf h_st_ h_st_2 h_st_3 hy9) ?_
 rintro _ H11 ⟨rfl, e12⟩
 obtain ⟨g13, r14⟩ := G_some r10
 refine s_mks (t := 45) (m := 8) (l := y8) (c := y8) (enc := (encI .u64)) (sz := 1) e12.wf (0 : Int) (by kernel_rfl) (by decide) g13.1 (Int.le_refl _) (by omega) (by have := g13; omega) (by kernel_rfl) fun s15 f16 H17 e18 hf19 hm20 => ?_
 obtain ⟨a21, n22, c23, rfl⟩ := hm20.form
 have hm20 : Ow (encI .u64) 1 H17 (.slice a21 n22 c23) (List.replicate y8.toNat (0 : Int)) f16 := hm20
 refine s_qk (.slice a21 n22 c23) (by kernel_rfl) ?_
 refine s_nil ?_
 refine k7 _ _ ?_
 refine w_seqk fun K25 k25 => ?_
 refine w_seqk fun K26 k26 => ?_
 refine w_reg (by kernel_rfl) ?_
 refine s_qk (.slice a21 n22 c23) (by kernel_rfl) ?_
 refine s_ql (.int .i64 ((List.replicate y8.toNat (0 : Int)).length : Int)) (x := aLen Try.prog 45 (.slice a21 n22 c23) H17) (by kernel_rfl) (hm20.sq.lenb (by kernel_rfl)) ?_
 refine s_qk (.int .i64 0) (by kernel_rfl) ?_
 refine s_nil ?_
 refine k26 _ _ ?_
 obtain ⟨o27, hx28, r29⟩ := bind_some r14
 refine w_mid (fun α H30 => Has α [(3, .slice a21 n22 c23)] ∧ FrS f16 H17 H30 ∧ Ow (encI .u64) 1 H30 (.slice a21 n22 c23) o27 f16) (fun K34 k34 => ?_) (fun α H30 hM => ?_)
 ·refine w_block ?_
  obtain ⟨n36, hn37⟩ := loopO_iff.1 hx28
  refine w_loopn (fun n α H38 => ∃ (i0 : Int), ∃ (l1 : List (Int)), iterO (fun zz_ => z_search_state_all_l0 st_8 st_9 st_10 y8 zz_.1 zz_.2) n (i0, l1) = some o27 ∧ Has α [(0, .pointer (some ⟨b_st, 0, none⟩)), (3, .slice a21 n22 c23), (14, .int .i64 ((List.replicate y8.toNat (0 : Int)).length : Int)), (15, .int .i64 i0)] ∧ FrS f16 H17 H38 ∧ Ow (encI .u64) 1 H38 (.slice a21 n22 c23) l1 f16) n36 ⟨0, (List.replicate y8.toNat (0 : Int)), hn37, ⟨by kernel_rfl, by kernel_rfl, by kernel_rfl, by kernel_rfl, trivial⟩, (FrS.refl (W := f16) e18.wf), hm20⟩ ?_
  rintro n36 α H38 ⟨i0, l1, hi43, hh42, e39, m41⟩ K48 k48
  obtain ⟨n44, z45, rfl, hz46, hn47⟩ := iter_succ hi43
  obtain ⟨β, rfl⟩ := has_ex hh42
  clear hh42
  replace hz46 : z_search_state_all_l0 st_8 st_9 st_10 y8 i0 l1 = some z45 := hz46
  unfold z_search_state_all_l0 at hz46
  refine w_seqk fun K49 k49 => ?_
  refine w_reg (by kernel_rfl) ?_
  refine s_qk (.bool (decide (i0 < ((List.replicate y8.toNat (0 : Int)).length : Int)))) (by kernel_rfl) ?_
  refine s_nil ?_
  refine k49 _ _ ?_
  refine w_seqk fun K50 k50 => ?_
  refine w_condp (i0 < ((List.replicate y8.toNat (0 : Int)).length : Int)) (by kernel_rfl) rfl (fun h51 => ?_) (fun h51 => ?_)
  ·have r52 := ite_t h51 hz46
   refine w_skip ?_
   refine k50 _ _ ?_
   refine w_seqk fun K53 k53 => ?_
   refine w_block ?_
   refine w_seqk fun K54 k54 => ?_
   refine w_reg (by kernel_rfl) ?_
   refine s_qk (.int .i64 i0) (by kernel_rfl) ?_
   refine s_qk (.int .i64 i0) (by kernel_rfl) ?_
   refine s_nil ?_
   refine k54 _ _ ?_
   refine w_seqk fun K55 k55 => ?_
   refine w_reg (by kernel_rfl) ?_
   refine s_qk (.pointer (some ⟨b_st, 0, none⟩)) (by kernel_rfl) ?_
   refine s_qk (.pointer (some ⟨b_st, 0, none⟩)) (by kernel_rfl) ?_
   refine s_qk (.pointer (some ⟨b_st, 4, none⟩)) (by kernel_rfl) ?_
   have u56 := (((h_st.frS e12 Dj.nil_l).ext e18).frS e39 (hf19.djn (h_st.ltF.le e12.next)))
   refine s_ql (.pointer (some ⟨b_st_7, 0, none⟩)) (x := aLoad Try.prog 100 (.pointer (some ⟨b_st, 4, none⟩)) H38) (by kernel_rfl) (u56.ld (by kernel_rfl)) ?_
   refine s_qk (.int .i64 i0) (by kernel_rfl) ?_
   have u57 := (((h_st_8.fr e12 Dj.nil_l).ext e18).fr e39 (hf19.djn (h_st_8.lt.le e12.next)))
   have u58 := (((h_st_7.frS e12 Dj.nil_l).ext e18).frS e39 (hf19.djn (h_st_7.ltF.le e12.next)))
   obtain ⟨y59, hy60, r61⟩ := bind_some r52
   refine s_ck 56 #[.pointer (some ⟨b_st_7, 0, none⟩), .int .i64 i0] (by kernel_rfl) (c_stamp_Stamp_Get e39.wf u57 u58 hy60) ?_
   rintro _ _ ⟨rfl, rfl⟩
   refine s_qk (.tuple #[.int .u64 y59.1, .bool y59.2]) (by kernel_rfl) ?_
   refine s_qk (.int .u64 y59.1) (by kernel_rfl) ?_
   refine s_qk (.bool y59.2) (by kernel_rfl) ?_
   refine s_qk (.int .u64 y59.1) (by kernel_rfl) ?_
   refine s_qk (.bool y59.2) (by kernel_rfl) ?_
   refine s_nil ?_
   refine k55 _ _ ?_
   refine w_seqk fun K64 k64 => ?_
   refine w_seqk fun K65 k65 => ?_
   refine w_reg (by kernel_rfl) ?_
   refine s_qk (.bool y59.2) (by kernel_rfl) ?_
   refine s_qk (.bool (!y59.2)) (by kernel_rfl) ?_
   refine s_nil ?_
   refine k65 _ _ ?_
   refine w_cond ((!y59.2)) (by kernel_rfl) rfl (fun h66 => ?_) (fun h66 => ?_)
   ·have r67 := ite_t h66 r61
    refine w_reg (by kernel_rfl) ?_
    refine s_qk (.int .u64 18446744073709551615) (by kernel_rfl) ?_
    refine s_nil ?_
    refine k64 _ _ ?_
    refine w_reg (by kernel_rfl) ?_
    refine s_qk (.slice a21 n22 c23) (by kernel_rfl) ?_
    refine s_qk (.int .i64 i0) (by kernel_rfl) ?_
    refine s_qk (.int .u64 18446744073709551615) (by kernel_rfl) ?_
    obtain ⟨g68, r69⟩ := G_some r67
    refine s_ql (elp (.slice a21 n22 c23) 1 i0.toNat 0) (x := aIndexAddr Try.prog 45 (.slice a21 n22 c23) (.int .i64 i0)) (by kernel_rfl) (m41.sq.idxb (by kernel_rfl) g68.1 g68.2) ?_
    obtain ⟨H70, q71, e72, hm73⟩ := Ow.store (P := Try.prog) (t := 29) (off := 0) e39.wf m41 g68.1 g68.2 (.int .u64 18446744073709551615) [.int .u64 18446744073709551615] (by kernel_rfl) (by kernel_rfl) rfl 18446744073709551615 (Nat.le_of_ble_eq_true rfl) (by kernel_rfl)
    refine s_ek (undef) (by kernel_rfl) (map_ok q71) ?_
    refine s_nil ?_
    refine k53 _ _ ?_
    refine w_reg (by kernel_rfl) ?_
    obtain ⟨g74, r75⟩ := G_some r69
    refine s_w ((i0 + 1)) (k := .i64) (x := (i0 + 1)) (by kernel_rfl) (wrap64 (by have := g74; omega)) ?_
    refine s_qk (.int .i64 (i0 + 1)) (by kernel_rfl) ?_
    refine s_nil ?_
    obtain rfl := Option.some.inj r75
    exact k48 n44 _ _ (Nat.lt_succ_self _) ⟨(i0 + 1), (l1.set i0.toNat 18446744073709551615), hn47, ⟨by kernel_rfl, by kernel_rfl, by kernel_rfl, by kernel_rfl, trivial⟩, (FrS.step e18.wf (FrS.step e18.wf (FrS.refl (W := f16) e18.wf) e39 Inn.refl') e72 Inn.refl'), hm73⟩
   ·have r76 := ite_bf h66 r61
    refine w_skip ?_
    refine k64 _ _ ?_
    refine w_reg (by kernel_rfl) ?_
    refine s_qk (.slice a21 n22 c23) (by kernel_rfl) ?_
    refine s_qk (.int .i64 i0) (by kernel_rfl) ?_
    refine s_qk (.int .u64 y59.1) (by kernel_rfl) ?_
    obtain ⟨g77, r78⟩ := G_some r76
    refine s_ql (elp (.slice a21 n22 c23) 1 i0.toNat 0) (x := aIndexAddr Try.prog 45 (.slice a21 n22 c23) (.int .i64 i0)) (by kernel_rfl) (m41.sq.idxb (by kernel_rfl) g77.1 g77.2) ?_
    obtain ⟨H79, q80, e81, hm82⟩ := Ow.store (P := Try.prog) (t := 29) (off := 0) e39.wf m41 g77.1 g77.2 (.int .u64 y59.1) [.int .u64 y59.1] (by kernel_rfl) (by kernel_rfl) rfl y59.1 (Nat.le_of_ble_eq_true rfl) (by kernel_rfl)
    refine s_ek (undef) (by kernel_rfl) (map_ok q80) ?_
    refine s_nil ?_
    refine k53 _ _ ?_
    refine w_reg (by kernel_rfl) ?_
    obtain ⟨g83, r84⟩ := G_some r78
    refine s_w ((i0 + 1)) (k := .i64) (x := (i0 + 1)) (by kernel_rfl) (wrap64 (by have := g83; omega)) ?_
    refine s_qk (.int .i64 (i0 + 1)) (by kernel_rfl) ?_
    refine s_nil ?_
    obtain rfl := Option.some.inj r84
    exact k48 n44 _ _ (Nat.lt_succ_self _) ⟨(i0 + 1), (l1.set i0.toNat y59.1), hn47, ⟨by kernel_rfl, by kernel_rfl, by kernel_rfl, by kernel_rfl, trivial⟩, (FrS.step e18.wf (FrS.step e18.wf (FrS.refl (W := f16) e18.wf) e39 Inn.refl') e81 Inn.refl'), hm82⟩
  ·have r85 := ite_f h51 hz46
   refine w_exit (th_exit (th_exit (bl_eq ?_)))
   obtain rfl := Option.some.inj r85
   obtain rfl := it_inr hn47
   exact k34 _ _ ⟨⟨by kernel_rfl, trivial⟩, (FrS.step e18.wf (FrS.refl (W := f16) e18.wf) e39 Inn.refl'), m41⟩
 ·obtain ⟨hh35, e31, m33⟩ := hM
  obtain ⟨β, rfl⟩ := has_ex hh35
  clear hh35
  refine k25 _ _ ?_
  refine w_seqk fun K86 k86 => ?_
  refine w_reg (by kernel_rfl) ?_
  refine s_qk (.slice a21 n22 c23) (by kernel_rfl) ?_
  refine s_qk (.slice a21 n22 c23) (by kernel_rfl) ?_
  refine s_nil ?_
  refine k86 _ _ ?_
  refine w_ret ?_
  refine b_ret (fn := Try.f52) (vs := [.slice a21 n22 c23]) (aRes_tmp (by kernel_rfl) (rfl)) ?_
  obtain rfl := Option.some.inj r29
  exact ⟨(.slice a21 n22 c23), f16, rfl, (FrS.step wf ((FrS.step wf (FrS.refl (W := []) wf) e12 Inn.nil).extR e18) e31 (hf19.fresh e12.next)), m33, (hf19.fresh e12.next)⟩


end Go.Vd
