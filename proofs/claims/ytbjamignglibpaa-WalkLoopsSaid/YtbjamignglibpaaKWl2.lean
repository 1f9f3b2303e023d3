/- The walks of the functions (printed by a program of ours). -/
import Derived.Test.YtbjamignglibpaaVeC
import Derived.Test.YtbjamignglibpaaIWl
import Derived.Test.YtbjamignglibpaaKWl1
set_option maxRecDepth 100000
set_option maxHeartbeats 4000000
set_option linter.unusedVariables false
namespace Go.Vd
attribute [local irreducible] wpSeq wpOrd aWp
theorem c_walk_Length {H : AH} {hd_First : Value} {fp_First : Fp} {hd_To : Value} {fp_To : Fp} {hd_Weight : Value} {fp_Weight : Fp} {hd_list : Value} {fp_list : Fp} {First : List (Int)} {To : List (Int)} {Weight : List (Int)} {list : List (Int)} {r : Int × Er}
    (wf : WF H) (h_First : Sq (encI .i64) 1 H hd_First First fp_First) (h_To : Sq (encI .i64) 1 H hd_To To fp_To) (h_Weight : Sq (encI .i64) 1 H hd_Weight Weight fp_Weight) (h_list : Sq (encI .i64) 1 H hd_list list fp_list) (hr : z_walk_Length First To Weight list = some r) :
    ACalls Go.Proofs.Try.prog 13 #[.agg #[hd_First, hd_To, hd_Weight], hd_list] H fun v H' => ∃ (v3 : Value) (f4 : Fp), v = .tuple #[.int .u64 r.1, v3] ∧ FrS [] H H' ∧ Ev 82 123 H' v3 r.2 f4 ∧ Inn [] H f4 := by
  refine acalls_of_body mixed Go.Proofs.Try.func13 rfl (Nat.le_of_ble_eq_true rfl) ?_
  unfold z_walk_Length at hr
  refine w_seqk fun K6 k6 => ?_
  refine w_reg (by kernel_rfl) ?_
  refine s_rwl wf [hd_First, hd_To, hd_Weight] (one_cons (h_First.one1) (one_cons (h_To.one1) (one_cons (h_Weight.one1) (one_nil)))) (by kernel_rfl) fun b7 H8 e9 hb10 r11 => ?_
  refine s_qk (.int .u64 0) (by kernel_rfl) ?_
  refine s_qk (.nilIface) (by kernel_rfl) ?_
  refine s_nil ?_
  refine k6 _ _ ?_
  refine w_seqk fun K13 k13 => ?_
  refine w_seqk fun K14 k14 => ?_
  refine w_reg (by kernel_rfl) ?_
  refine s_ql (.agg #[hd_First, hd_To, hd_Weight]) (x := aLoad Go.Proofs.Try.prog 34 (.pointer (some ⟨b7, 0, none⟩)) H8) (by kernel_rfl) (r11.ld (by kernel_rfl)) ?_
  have u15 := (h_First.ext e9)
  have u16 := (h_To.ext e9)
  have u17 := (h_Weight.ext e9)
  obtain ⟨y18, hy19, r20⟩ := bind_some hr
  refine s_ck 41 #[.agg #[hd_First, hd_To, hd_Weight]] (by kernel_rfl) (c_csr_Check e9.wf u15 u16 u17 hy19) ?_
  rintro v21 H23 ⟨_, f22, rfl, e24, m25, i26⟩
  refine s_qk (v21) (by kernel_rfl) ?_
  refine s_nil ?_
  refine k14 _ _ ?_
  refine w_seqk fun K28 k28 => ?_
  refine w_reg (by kernel_rfl) ?_
  refine s_qk (v21) (by kernel_rfl) ?_
  rcases (m25).cases with ⟨h29, rfl⟩ | ⟨h29, t30, x31, rfl⟩
  · have r32 := ite_t h29 r20
    refine s_qk (.bool false) (by kernel_rfl) ?_
    refine s_nil ?_
    refine k28 _ _ ?_
    refine w_cond false (by kernel_rfl) rfl (fun h => by cases h) (fun _ => ?_)
    refine w_skip ?_
    refine k13 _ _ ?_
    refine w_seqk fun K33 k33 => ?_
    refine w_seqk fun K34 k34 => ?_
    refine w_reg (by kernel_rfl) ?_
    refine s_qk (hd_list) (by kernel_rfl) ?_
    have u35 := ((h_list.ext e9).fr e24 Dj.nil_l)
    refine s_ql (.int .i64 (list.length : Int)) (x := aLen Go.Proofs.Try.prog 22 hd_list H23) (by kernel_rfl) (u35.lenb (by kernel_rfl)) ?_
    refine s_qk (.bool (decide ((list.length : Int) = 0))) (by kernel_rfl) ?_
    refine s_nil ?_
    refine k34 _ _ ?_
    refine w_condp ((list.length : Int) = 0) (by kernel_rfl) rfl (fun h36 => ?_) (fun h36 => ?_)
    · have r37 := ite_t h36 r32
      refine w_seqk fun K38 k38 => ?_
      refine w_reg (by kernel_rfl) ?_
      refine s_qk (.iface 82 (.int .i64 5)) (by kernel_rfl) ?_
      refine s_qk (.int .u64 0) (by kernel_rfl) ?_
      refine s_qk (.iface 82 (.int .i64 5)) (by kernel_rfl) ?_
      refine s_nil ?_
      refine k38 _ _ ?_
      refine w_ret (th_ret ?_)
      refine b_ret (fn := Go.Proofs.Try.f13) (vs := [.int .u64 0, .iface 82 (.int .i64 5)]) (aRes_tmp (by kernel_rfl) (aRes_tmp (by kernel_rfl) (rfl))) ?_
      obtain rfl := Option.some.inj r37
      exact ⟨(.iface 82 (.int .i64 5)), [], rfl, (FrS.step wf ((FrS.refl (W := []) wf).extR e9) e24 Inn.nil), Ev.no, Inn.nil⟩
    · have r39 := ite_f h36 r32
      refine w_skip ?_
      refine k33 _ _ ?_
      refine w_seqk fun K40 k40 => ?_
      refine w_seqk fun K41 k41 => ?_
      refine w_reg (by kernel_rfl) ?_
      refine s_qk (hd_list) (by kernel_rfl) ?_
      refine s_ql (.int .i64 (list.length : Int)) (x := aLen Go.Proofs.Try.prog 22 hd_list H23) (by kernel_rfl) (u35.lenb (by kernel_rfl)) ?_
      refine s_qk (.int .i64 0) (by kernel_rfl) ?_
      refine s_nil ?_
      refine k41 _ _ ?_
      obtain ⟨z45, hx43, r44⟩ := bind_some r39
      refine w_mid (fun α H46 => ∃ o42, z45 = Sum.inr o42 ∧ Has α [(1, hd_list), (2, .pointer (some ⟨b7, 0, none⟩))] ∧ H23 = H46) (fun K48 k48 => ?_) (fun α H46 hM => ?_)
      · refine w_block ?_
        obtain ⟨n50, hn51⟩ := loopO_iff.1 hx43
        refine w_loopn (fun n α H52 => ∃ (i0 : Int), iterO (fun s => z_walk_Length_l0 First list s) n i0 = some z45 ∧ Has α [(1, hd_list), (2, .pointer (some ⟨b7, 0, none⟩)), (22, hd_list), (23, .int .i64 (list.length : Int)), (24, .int .i64 i0)] ∧ H23 = H52) n50 ⟨0, hn51, ⟨by kernel_rfl, by kernel_rfl, by kernel_rfl, by kernel_rfl, by kernel_rfl, trivial⟩, rfl⟩ ?_
        rintro n50 α H52 ⟨i0, hi55, hh54, rfl⟩ K60 k60
        obtain ⟨n56, z57, rfl, hz58, hn59⟩ := iter_succ hi55
        obtain ⟨β, rfl⟩ := has_ex hh54
        clear hh54
        replace hz58 : z_walk_Length_l0 First list i0 = some z57 := hz58
        unfold z_walk_Length_l0 at hz58
        refine w_seqk fun K61 k61 => ?_
        refine w_reg (by kernel_rfl) ?_
        refine s_qk (.bool (decide (i0 < (list.length : Int)))) (by kernel_rfl) ?_
        refine s_nil ?_
        refine k61 _ _ ?_
        refine w_seqk fun K62 k62 => ?_
        refine w_condp (i0 < (list.length : Int)) (by kernel_rfl) rfl (fun h63 => ?_) (fun h63 => ?_)
        · have r64 := ite_t h63 hz58
          refine w_skip ?_
          refine k62 _ _ ?_
          refine w_seqk fun K65 k65 => ?_
          refine w_block ?_
          refine w_seqk fun K66 k66 => ?_
          refine w_reg (by kernel_rfl) ?_
          refine s_qk (.int .i64 i0) (by kernel_rfl) ?_
          obtain ⟨g67, r68⟩ := G_some r64
          refine s_ql (elp hd_list 1 i0.toNat 0) (x := aIndexAddr Go.Proofs.Try.prog 22 hd_list (.int .i64 i0)) (by kernel_rfl) (u35.idxb (by kernel_rfl) g67 h63) ?_
          refine s_ql (.int .i64 (gt list i0)) (x := aLoad Go.Proofs.Try.prog 3 (elp hd_list 1 i0.toNat 0) H23) (by kernel_rfl) (u35.ld g67 h63 (by kernel_rfl)) ?_
          refine s_qk (.int .i64 i0) (by kernel_rfl) ?_
          refine s_qk (.int .i64 (gt list i0)) (by kernel_rfl) ?_
          refine s_nil ?_
          refine k66 _ _ ?_
          refine w_seqk fun K69 k69 => ?_
          obtain ⟨o70, hx71, r72⟩ := bind_some r68
          refine w_mid (fun α H73 => Has α [(1, hd_list), (2, .pointer (some ⟨b7, 0, none⟩)), (7, .int .i64 i0), (22, hd_list), (23, .int .i64 (list.length : Int)), (24, .int .i64 i0), (38, .bool o70)] ∧ H23 = H73) (fun K75 k75 => ?_) (fun α H73 hM => ?_)
          · refine w_reg (by kernel_rfl) ?_
            refine s_qk (.int .i64 (gt list i0)) (by kernel_rfl) ?_
            refine s_b ((gt list i0) < 0) (by kernel_rfl) (fun h77 => ?_) (fun h77 => ?_)
            · have r78 := ite_t h77 hx71
              refine s_qk (.bool true) (by kernel_rfl) ?_
              refine s_no (by kernel_rfl) ?_
              refine s_no (by kernel_rfl) ?_
              refine s_no (by kernel_rfl) ?_
              refine s_no (by kernel_rfl) ?_
              refine s_no (by kernel_rfl) ?_
              refine s_no (by kernel_rfl) ?_
              refine s_qk (.bool true) (by kernel_rfl) ?_
              refine s_nil ?_
              obtain rfl := Option.some.inj r78
              exact k75 _ _ ⟨⟨by kernel_rfl, by kernel_rfl, by kernel_rfl, by kernel_rfl, by kernel_rfl, by kernel_rfl, by kernel_rfl, trivial⟩, rfl⟩
            · have r79 := ite_f h77 hx71
              refine s_qk (.bool false) (by kernel_rfl) ?_
              refine s_qk (.int .i64 (gt list i0)) (by kernel_rfl) ?_
              refine s_qk (.pointer (some ⟨b7, 0, none⟩)) (by kernel_rfl) ?_
              have u80 := (r11.frS e24 Dj.nil_l)
              refine s_ql (hd_First) (x := aLoad Go.Proofs.Try.prog 22 (.pointer (some ⟨b7, 0, none⟩)) H23) (by kernel_rfl) (u80.ld (by kernel_rfl)) ?_
              have u81 := (u15.fr e24 Dj.nil_l)
              refine s_ql (.int .i64 (First.length : Int)) (x := aLen Go.Proofs.Try.prog 22 hd_First H23) (by kernel_rfl) (u81.lenb (by kernel_rfl)) ?_
              obtain ⟨g82, r83⟩ := G_some r79
              refine s_w (((First.length : Int) - 1)) (k := .i64) (x := ((First.length : Int) - 1)) (by kernel_rfl) (wrap64 g82) ?_
              refine s_qk (.bool (decide ((gt list i0) ≥ ((First.length : Int) - 1)))) (by kernel_rfl) ?_
              refine s_qk (.bool (decide ((gt list i0) ≥ ((First.length : Int) - 1)))) (by kernel_rfl) ?_
              refine s_nil ?_
              obtain rfl := Option.some.inj r83
              exact k75 _ _ ⟨⟨by kernel_rfl, by kernel_rfl, by kernel_rfl, by kernel_rfl, by kernel_rfl, by kernel_rfl, by kernel_rfl, trivial⟩, rfl⟩
          · obtain ⟨hh76, rfl⟩ := hM
            obtain ⟨β, rfl⟩ := has_ex hh76
            clear hh76
            refine k69 _ _ ?_
            refine w_cond (o70) (by kernel_rfl) rfl (fun h84 => ?_) (fun h84 => ?_)
            · have r85 := ite_t h84 r72
              refine w_seqk fun K86 k86 => ?_
              refine w_reg (by kernel_rfl) ?_
              refine s_qk (.int .i64 i0) (by kernel_rfl) ?_
              refine s_qk (.iface 82 (.int .i64 7)) (by kernel_rfl) ?_
              obtain ⟨y87, hy88, r89⟩ := bind_some r85
              refine s_ck 42 #[.int .i64 3, .int .i64 i0, .iface 82 (.int .i64 7)] (by kernel_rfl) (c_fault_At e24.wf (Ev.no (tf := 123)) hy88) ?_
              rintro v90 H92 ⟨_, f91, rfl, e93, m94, i95⟩
              refine s_qk (.int .u64 0) (by kernel_rfl) ?_
              refine s_qk (v90) (by kernel_rfl) ?_
              refine s_nil ?_
              refine k86 _ _ ?_
              refine w_ret (bl_ret (th_ret (th_ret (bl_ret (th_ret (th_ret ?_))))))
              obtain ⟨v97, hv98, hz99⟩ := map_some r89
              subst hz99
              obtain rfl := it_inr hn59
              have hq100 := elim_inl r44
              rw [hq100] at hv98
              refine b_ret (fn := Go.Proofs.Try.f13) (vs := [.int .u64 0, v90]) (aRes_tmp (by kernel_rfl) (aRes_tmp (by kernel_rfl) (rfl))) ?_
              obtain rfl := Option.some.inj hv98
              exact ⟨(v90), f91, rfl, (FrS.step wf (FrS.step wf ((FrS.refl (W := []) wf).extR e9) e24 Inn.nil) e93 Inn.nil), m94, (i95.fresh (Nat.le_trans e9.next e24.next))⟩
            · have r101 := ite_bf h84 r72
              refine w_skip ?_
              refine k65 _ _ ?_
              refine w_reg (by kernel_rfl) ?_
              obtain ⟨g102, r103⟩ := G_some r101
              refine s_w ((i0 + 1)) (k := .i64) (x := (i0 + 1)) (by kernel_rfl) (wrap64 (by have := g102; omega)) ?_
              refine s_qk (.int .i64 (i0 + 1)) (by kernel_rfl) ?_
              refine s_nil ?_
              obtain rfl := Option.some.inj r103
              exact k60 n56 _ _ (Nat.lt_succ_self _) ⟨(i0 + 1), hn59, ⟨by kernel_rfl, by kernel_rfl, by kernel_rfl, by kernel_rfl, by kernel_rfl, trivial⟩, rfl⟩
        · have r104 := ite_f h63 hz58
          refine w_exit (th_exit (th_exit (bl_eq ?_)))
          obtain rfl := Option.some.inj r104
          obtain rfl := it_inr hn59
          exact k48 _ _ ⟨_, rfl, ⟨by kernel_rfl, by kernel_rfl, trivial⟩, rfl⟩
      · obtain ⟨o42, rfl, hh49, rfl⟩ := hM
        have r105 := elim_inr r44
        obtain ⟨β, rfl⟩ := has_ex hh49
        clear hh49
        refine k40 _ _ ?_
        refine w_seqk fun K106 k106 => ?_
        refine w_reg (by kernel_rfl) ?_
        refine s_qk (.int .u64 0) (by kernel_rfl) ?_
        refine s_nil ?_
        refine k106 _ _ ?_
        refine w_seqk fun K107 k107 => ?_
        refine w_seqk fun K108 k108 => ?_
        refine w_reg (by kernel_rfl) ?_
        refine s_qk (hd_list) (by kernel_rfl) ?_
        refine s_ql (.int .i64 (list.length : Int)) (x := aLen Go.Proofs.Try.prog 22 hd_list H23) (by kernel_rfl) (u35.lenb (by kernel_rfl)) ?_
        obtain ⟨g109, r110⟩ := G_some r105
        refine s_w (((list.length : Int) - 1)) (k := .i64) (x := ((list.length : Int) - 1)) (by kernel_rfl) (wrap64 g109) ?_
        refine s_qk (.int .i64 0) (by kernel_rfl) ?_
        refine s_nil ?_
        refine k108 _ _ ?_
        obtain ⟨z114, hx112, r113⟩ := bind_some r110
        refine w_mid (fun α H115 => ∃ o111, z114 = Sum.inr o111 ∧ Has α [(9, .int .u64 o111)] ∧ FrS [] H23 H115) (fun K117 k117 => ?_) (fun α H115 hM => ?_)
        · refine w_block ?_
          obtain ⟨n119, hn120⟩ := loopO_iff.1 hx112
          refine w_loopn (fun n α H121 => ∃ (i1 : Int), ∃ (sum2 : Int), iterO (fun s => z_walk_Length_l1 First To Weight list s.1 s.2) n (i1, sum2) = some z114 ∧ Has α [(1, hd_list), (2, .pointer (some ⟨b7, 0, none⟩)), (9, .int .u64 sum2), (45, .int .i64 ((list.length : Int) - 1)), (46, .int .i64 i1)] ∧ FrS [] H23 H121) n119 ⟨0, 0, hn120, ⟨by kernel_rfl, by kernel_rfl, by kernel_rfl, by kernel_rfl, by kernel_rfl, trivial⟩, (FrS.refl (W := []) e24.wf)⟩ ?_
          rintro n119 α H121 ⟨i1, sum2, hi124, hh123, e122⟩ K129 k129
          obtain ⟨n125, z126, rfl, hz127, hn128⟩ := iter_succ hi124
          obtain ⟨β, rfl⟩ := has_ex hh123
          clear hh123
          replace hz127 : z_walk_Length_l1 First To Weight list i1 sum2 = some z126 := hz127
          unfold z_walk_Length_l1 at hz127
          refine w_seqk fun K130 k130 => ?_
          refine w_reg (by kernel_rfl) ?_
          refine s_qk (.bool (decide (i1 < ((list.length : Int) - 1)))) (by kernel_rfl) ?_
          refine s_nil ?_
          refine k130 _ _ ?_
          refine w_seqk fun K131 k131 => ?_
          refine w_condp (i1 < ((list.length : Int) - 1)) (by kernel_rfl) rfl (fun h132 => ?_) (fun h132 => ?_)
          · have r133 := ite_t h132 hz127
            refine w_skip ?_
            refine k131 _ _ ?_
            refine w_seqk fun K134 k134 => ?_
            refine w_block ?_
            refine w_seqk fun K135 k135 => ?_
            refine w_reg (by kernel_rfl) ?_
            refine s_qk (.int .i64 i1) (by kernel_rfl) ?_
            refine s_qk (.int .i64 i1) (by kernel_rfl) ?_
            refine s_nil ?_
            refine k135 _ _ ?_
            refine w_seqk fun K136 k136 => ?_
            refine w_draw [0, 1, 2, 3, 4, 5, 6, 7, 8, 9, 10, 11, 12, 13, 14, 15] (by kernel_rfl) ?_
            have u137 := ((r11.frS e24 Dj.nil_l).frS e122 Dj.nil_l)
            refine d_ql (.agg #[hd_First, hd_To, hd_Weight]) (x := aLoad Go.Proofs.Try.prog 34 (.pointer (some ⟨b7, 0, none⟩)) H121) (by kernel_rfl) (u137.ld (by kernel_rfl)) ?_
            refine d_qk (hd_list) (by kernel_rfl) ?_
            refine d_qk (.int .i64 i1) (by kernel_rfl) ?_
            obtain ⟨g138, r139⟩ := G_some r133
            have u140 := (u35.fr e122 Dj.nil_l)
            refine d_ql (elp hd_list 1 i1.toNat 0) (x := aIndexAddr Go.Proofs.Try.prog 22 hd_list (.int .i64 i1)) (by kernel_rfl) (u140.idxb (by kernel_rfl) g138.1 g138.2) ?_
            refine d_ql (.int .i64 (gt list i1)) (x := aLoad Go.Proofs.Try.prog 3 (elp hd_list 1 i1.toNat 0) H121) (by kernel_rfl) (u140.ld g138.1 g138.2 (by kernel_rfl)) ?_
            refine d_qk (hd_list) (by kernel_rfl) ?_
            refine d_qk (.int .i64 i1) (by kernel_rfl) ?_
            obtain ⟨g141, r142⟩ := G_some r139
            refine d_w ((i1 + 1)) (k := .i64) (x := (i1 + 1)) (by kernel_rfl) (wrap64 (by have := g141; omega)) ?_
            obtain ⟨g143, r144⟩ := G_some r142
            refine d_ql (elp hd_list 1 (i1 + 1).toNat 0) (x := aIndexAddr Go.Proofs.Try.prog 22 hd_list (.int .i64 (i1 + 1))) (by kernel_rfl) (u140.idxb (by kernel_rfl) g143.1 g143.2) ?_
            refine d_ql (.int .i64 (gt list (i1 + 1))) (x := aLoad Go.Proofs.Try.prog 3 (elp hd_list 1 (i1 + 1).toNat 0) H121) (by kernel_rfl) (u140.ld g143.1 g143.2 (by kernel_rfl)) ?_
            have u145 := ((u15.fr e24 Dj.nil_l).fr e122 Dj.nil_l)
            have u146 := ((u16.fr e24 Dj.nil_l).fr e122 Dj.nil_l)
            have u147 := ((u17.fr e24 Dj.nil_l).fr e122 Dj.nil_l)
            obtain ⟨y148, hy149, r150⟩ := bind_some r144
            refine d_ck 43 #[.agg #[hd_First, hd_To, hd_Weight], .int .i64 (gt list i1), .int .i64 (gt list (i1 + 1))] (by kernel_rfl) (c_walk_arc e122.wf u145 u146 u147 hy149) ?_
            rintro _ H153 ⟨v151, f152, rfl, e154, m155, i156⟩
            refine ⟨st_nil, ?_⟩
            refine d_qk (.tuple #[.int .i64 y148.1, v151]) (by kernel_rfl) ?_
            refine d_qk (.int .i64 y148.1) (by kernel_rfl) ?_
            refine d_qk (v151) (by kernel_rfl) ?_
            refine d_qk (.int .i64 y148.1) (by kernel_rfl) ?_
            refine d_qk (v151) (by kernel_rfl) ?_
            refine d_nil ?_
            refine k136 _ _ ?_
            refine w_seqk fun K158 k158 => ?_
            refine w_seqk fun K159 k159 => ?_
            refine w_reg (by kernel_rfl) ?_
            refine s_qk (v151) (by kernel_rfl) ?_
            rcases (m155).cases with ⟨h160, rfl⟩ | ⟨h160, t161, x162, rfl⟩
            · have r163 := ite_t h160 r150
              refine s_qk (.bool false) (by kernel_rfl) ?_
              refine s_nil ?_
              refine k159 _ _ ?_
              refine w_cond false (by kernel_rfl) rfl (fun h => by cases h) (fun _ => ?_)
              refine w_skip ?_
              refine k158 _ _ ?_
              refine w_reg (by kernel_rfl) ?_
              refine s_qk (.int .u64 sum2) (by kernel_rfl) ?_
              refine s_qk (.int .i64 y148.1) (by kernel_rfl) ?_
              obtain ⟨g164, r165⟩ := G_some r163
              refine s_w (y148.1) (k := .u64) (x := y148.1) (by kernel_rfl) (wrapu64 g164) ?_
              obtain ⟨g166, r167⟩ := G_some r165
              refine s_w ((sum2 + y148.1)) (k := .u64) (x := (sum2 + y148.1)) (by kernel_rfl) (wrapu64 g166) ?_
              refine s_qk (.int .u64 (sum2 + y148.1)) (by kernel_rfl) ?_
              refine s_nil ?_
              refine k134 _ _ ?_
              refine w_reg (by kernel_rfl) ?_
              refine s_w ((i1 + 1)) (k := .i64) (x := (i1 + 1)) (by kernel_rfl) (wrap64 (by have := g141; omega)) ?_
              refine s_qk (.int .i64 (i1 + 1)) (by kernel_rfl) ?_
              refine s_nil ?_
              obtain rfl := Option.some.inj r167
              exact k129 n125 _ _ (Nat.lt_succ_self _) ⟨(i1 + 1), (sum2 + y148.1), hn128, ⟨by kernel_rfl, by kernel_rfl, by kernel_rfl, by kernel_rfl, by kernel_rfl, trivial⟩, (FrS.step e24.wf (FrS.step e24.wf (FrS.refl (W := []) e24.wf) e122 Inn.nil) e154 Inn.nil)⟩
            · have r168 := ite_f h160 r150
              refine s_ql (.bool true) (x := aBin Go.Proofs.Try.prog .neq 31 (.tmp 63) (.const .nilIface) (.iface t161 x162) .nilIface) (by kernel_rfl) (aBin_nnil (by kernel_rfl)) ?_
              refine s_nil ?_
              refine k159 _ _ ?_
              refine w_cond true (by kernel_rfl) rfl (fun _ => ?_) (fun h => by cases h)
              refine w_seqk fun K169 k169 => ?_
              refine w_reg (by kernel_rfl) ?_
              refine s_qk (.int .i64 i1) (by kernel_rfl) ?_
              refine s_qk (.iface t161 x162) (by kernel_rfl) ?_
              obtain ⟨y170, hy171, r172⟩ := bind_some r168
              refine s_ck 42 #[.int .i64 4, .int .i64 i1, .iface t161 x162] (by kernel_rfl) (c_fault_At e154.wf m155 hy171) ?_
              rintro v173 H175 ⟨_, f174, rfl, e176, m177, i178⟩
              refine s_qk (.int .u64 0) (by kernel_rfl) ?_
              refine s_qk (v173) (by kernel_rfl) ?_
              refine s_nil ?_
              refine k169 _ _ ?_
              refine w_ret (th_ret (bl_ret (th_ret (th_ret (bl_ret (th_ret (th_ret ?_)))))))
              obtain ⟨v180, hv181, hz182⟩ := map_some r172
              subst hz182
              obtain rfl := it_inr hn128
              have hq183 := elim_inl r113
              rw [hq183] at hv181
              refine b_ret (fn := Go.Proofs.Try.f13) (vs := [.int .u64 0, v173]) (aRes_tmp (by kernel_rfl) (aRes_tmp (by kernel_rfl) (rfl))) ?_
              obtain rfl := Option.some.inj hv181
              exact ⟨(v173), f174, rfl, (FrS.step wf (FrS.step wf (FrS.step wf (FrS.step wf ((FrS.refl (W := []) wf).extR e9) e24 Inn.nil) e122 Inn.nil) e154 Inn.nil) e176 Inn.nil), m177, (Inn.trans (i156.fresh (Nat.le_trans (Nat.le_trans e9.next e24.next) e122.next)) (Nat.le_trans (Nat.le_trans (Nat.le_trans e9.next e24.next) e122.next) e154.next) i178)⟩
          · have r184 := ite_f h132 hz127
            refine w_exit (th_exit (th_exit (bl_eq ?_)))
            obtain rfl := Option.some.inj r184
            obtain rfl := it_inr hn128
            exact k117 _ _ ⟨_, rfl, ⟨by kernel_rfl, trivial⟩, (FrS.step e24.wf (FrS.refl (W := []) e24.wf) e122 Inn.nil)⟩
        · obtain ⟨o111, rfl, hh118, e116⟩ := hM
          have r185 := elim_inr r113
          obtain ⟨β, rfl⟩ := has_ex hh118
          clear hh118
          refine k107 _ _ ?_
          refine w_seqk fun K186 k186 => ?_
          refine w_reg (by kernel_rfl) ?_
          refine s_qk (.int .u64 o111) (by kernel_rfl) ?_
          refine s_qk (.int .u64 o111) (by kernel_rfl) ?_
          refine s_qk (.nilIface) (by kernel_rfl) ?_
          refine s_nil ?_
          refine k186 _ _ ?_
          refine w_ret ?_
          refine b_ret (fn := Go.Proofs.Try.f13) (vs := [.int .u64 o111, .nilIface]) (aRes_tmp (by kernel_rfl) (aRes_tmp (by kernel_rfl) (rfl))) ?_
          obtain rfl := Option.some.inj r185
          exact ⟨(.nilIface), [], rfl, (FrS.step wf (FrS.step wf ((FrS.refl (W := []) wf).extR e9) e24 Inn.nil) e116 Inn.nil), Ev.nil, Inn.nil⟩
  · have r187 := ite_f h29 r20
    refine s_ql (.bool true) (x := aBin Go.Proofs.Try.prog .neq 31 (.tmp 15) (.const .nilIface) (.iface t30 x31) .nilIface) (by kernel_rfl) (aBin_nnil (by kernel_rfl)) ?_
    refine s_nil ?_
    refine k28 _ _ ?_
    refine w_cond true (by kernel_rfl) rfl (fun _ => ?_) (fun h => by cases h)
    refine w_seqk fun K188 k188 => ?_
    refine w_reg (by kernel_rfl) ?_
    refine s_qk (.iface t30 x31) (by kernel_rfl) ?_
    refine s_qk (.int .u64 0) (by kernel_rfl) ?_
    refine s_qk (.iface t30 x31) (by kernel_rfl) ?_
    refine s_nil ?_
    refine k188 _ _ ?_
    refine w_ret (th_ret ?_)
    refine b_ret (fn := Go.Proofs.Try.f13) (vs := [.int .u64 0, .iface t30 x31]) (aRes_tmp (by kernel_rfl) (aRes_tmp (by kernel_rfl) (rfl))) ?_
    obtain rfl := Option.some.inj r187
    exact ⟨(.iface t30 x31), f22, rfl, (FrS.step wf ((FrS.refl (W := []) wf).extR e9) e24 Inn.nil), m25, (i26.fresh e9.next)⟩

theorem c_viaductlaw09_WalkLoops {H : AH} {hd_First : Value} {fp_First : Fp} {hd_To : Value} {fp_To : Fp} {hd_Weight : Value} {fp_Weight : Fp} {hd_l : Value} {fp_l : Fp} {First : List (Int)} {To : List (Int)} {Weight : List (Int)} {l : List (Int)} {r : Bool}
    (wf : WF H) (h_First : Sq (encI .i64) 1 H hd_First First fp_First) (h_To : Sq (encI .i64) 1 H hd_To To fp_To) (h_Weight : Sq (encI .i64) 1 H hd_Weight Weight fp_Weight) (h_l : Sq (encI .i64) 1 H hd_l l fp_l) (hr : z_viaductlaw09_WalkLoops First To Weight l = some r) :
    ACalls Go.Proofs.Try.prog 3 #[.agg #[hd_First, hd_To, hd_Weight], hd_l] H fun v H' => v = .bool r ∧ FrS [] H H' := by
  refine acalls_of_body mixed Go.Proofs.Try.func3 rfl (Nat.le_of_ble_eq_true rfl) ?_
  unfold z_viaductlaw09_WalkLoops at hr
  refine w_seqk fun K1 k1 => ?_
  refine w_reg (by kernel_rfl) ?_
  refine s_rwl wf [hd_First, hd_To, hd_Weight] (one_cons (h_First.one1) (one_cons (h_To.one1) (one_cons (h_Weight.one1) (one_nil)))) (by kernel_rfl) fun b2 H3 e4 hb5 r6 => ?_
  refine s_qk (.bool false) (by kernel_rfl) ?_
  refine s_nil ?_
  refine k1 _ _ ?_
  refine w_seqk fun K8 k8 => ?_
  refine w_seqk fun K9 k9 => ?_
  refine w_reg (by kernel_rfl) ?_
  refine s_ck 8 #[] (by kernel_rfl) c_viaductlaw09_awake ?_
  rintro _ _ ⟨rfl, rfl⟩
  refine s_qk (.bool false) (by kernel_rfl) ?_
  refine s_nil ?_
  refine k9 _ _ ?_
  refine w_cond false (by kernel_rfl) rfl (fun h => by cases h) (fun _ => ?_)
  refine w_skip ?_
  refine k8 _ _ ?_
  refine w_seqk fun K10 k10 => ?_
  refine w_seqk fun K11 k11 => ?_
  obtain ⟨o12, hx13, r14⟩ := bind_some hr
  refine w_mid (fun α H15 => Has α [(1, hd_l), (2, .pointer (some ⟨b2, 0, none⟩)), (25, .bool o12)] ∧ FrS [] H3 H15) (fun K17 k17 => ?_) (fun α H15 hM => ?_)
  · refine w_reg (by kernel_rfl) ?_
    refine s_ql (.agg #[hd_First, hd_To, hd_Weight]) (x := aLoad Go.Proofs.Try.prog 24 (.pointer (some ⟨b2, 0, none⟩)) H3) (by kernel_rfl) (r6.ld (by kernel_rfl)) ?_
    refine s_qk (hd_l) (by kernel_rfl) ?_
    have u19 := (h_First.ext e4)
    have u20 := (h_To.ext e4)
    have u21 := (h_Weight.ext e4)
    have u22 := (h_l.ext e4)
    obtain ⟨y23, hy24, r25⟩ := bind_some hx13
    refine s_ck 9 #[.agg #[hd_First, hd_To, hd_Weight], hd_l] (by kernel_rfl) (c_viaductlaw09_few e4.wf u19 u20 u21 u22 hy24) ?_
    rintro _ H26 ⟨rfl, e27⟩
    by_cases h28 : y23 = true
    · have r29 := ite_t h28 r25
      rw [h28]
      refine s_qk (.bool false) (by kernel_rfl) ?_
      refine s_qk (.bool false) (by kernel_rfl) ?_
      refine s_qk (hd_l) (by kernel_rfl) ?_
      have u31 := (u22.fr e27 Dj.nil_l)
      refine s_ql (.int .i64 (l.length : Int)) (x := aLen Go.Proofs.Try.prog 22 hd_l H26) (by kernel_rfl) (u31.lenb (by kernel_rfl)) ?_
      refine s_qk (.bool (decide ((l.length : Int) > 200))) (by kernel_rfl) ?_
      refine s_qk (.bool (decide ((l.length : Int) > 200))) (by kernel_rfl) ?_
      refine s_nil ?_
      obtain rfl := Option.some.inj r29
      exact k17 _ _ ⟨⟨by kernel_rfl, by kernel_rfl, by kernel_rfl, trivial⟩, (FrS.step e4.wf (FrS.refl (W := []) e4.wf) e27 Inn.nil)⟩
    · have r32 := ite_f h28 r25
      rw [nb h28]
      refine s_qk (.bool true) (by kernel_rfl) ?_
      refine s_qk (.bool true) (by kernel_rfl) ?_
      refine s_no (by kernel_rfl) ?_
      refine s_no (by kernel_rfl) ?_
      refine s_no (by kernel_rfl) ?_
      refine s_qk (.bool true) (by kernel_rfl) ?_
      refine s_nil ?_
      obtain rfl := Option.some.inj r32
      exact k17 _ _ ⟨⟨by kernel_rfl, by kernel_rfl, by kernel_rfl, trivial⟩, (FrS.step e4.wf (FrS.refl (W := []) e4.wf) e27 Inn.nil)⟩
  · obtain ⟨hh18, e16⟩ := hM
    obtain ⟨β, rfl⟩ := has_ex hh18
    clear hh18
    refine k11 _ _ ?_
    refine w_cond (o12) (by kernel_rfl) rfl (fun h34 => ?_) (fun h34 => ?_)
    · have r35 := ite_t h34 r14
      refine w_seqk fun K36 k36 => ?_
      refine w_reg (by kernel_rfl) ?_
      refine s_qk (.bool true) (by kernel_rfl) ?_
      refine s_nil ?_
      refine k36 _ _ ?_
      refine w_ret (th_ret ?_)
      refine b_ret (fn := Go.Proofs.Try.f3) (vs := [.bool true]) (aRes_tmp (by kernel_rfl) (rfl)) ?_
      obtain rfl := Option.some.inj r35
      exact ⟨rfl, (FrS.step wf ((FrS.refl (W := []) wf).extR e4) e16 Inn.nil)⟩
    · have r37 := ite_bf h34 r14
      refine w_skip ?_
      refine k10 _ _ ?_
      refine w_seqk fun K38 k38 => ?_
      refine w_reg (by kernel_rfl) ?_
      refine s_qk (hd_l) (by kernel_rfl) ?_
      have u39 := ((h_l.ext e4).fr e16 Dj.nil_l)
      obtain ⟨y40, hy41, r42⟩ := bind_some r37
      refine s_ck 11 #[hd_l] (by kernel_rfl) (c_viaductref02_TwinInts e16.wf u39 hy41) ?_
      rintro s43 H45 ⟨_, f44, rfl, e46, m47, i48⟩
      obtain ⟨a50, n51, c52, rfl⟩ := m47.form
      obtain ⟨y53, hy54, r55⟩ := bind_some r42
      refine s_ck 10 #[.slice a50 n51 c52] (by kernel_rfl) (c_walk_Simple e46.wf m47.sq hy54) ?_
      rintro s56 H58 ⟨_, f57, rfl, e59, m60, i61⟩
      obtain ⟨a63, n64, c65, rfl⟩ := m60.form
      refine s_qk (.slice a63 n64 c65) (by kernel_rfl) ?_
      refine s_nil ?_
      refine k38 _ _ ?_
      refine w_seqk fun K66 k66 => ?_
      refine w_seqk fun K67 k67 => ?_
      refine w_reg (by kernel_rfl) ?_
      refine s_qk (hd_l) (by kernel_rfl) ?_
      have u68 := ((u39.fr e46 Dj.nil_l).fr e59 Dj.nil_l)
      refine s_ql (.int .i64 (l.length : Int)) (x := aLen Go.Proofs.Try.prog 22 hd_l H58) (by kernel_rfl) (u68.lenb (by kernel_rfl)) ?_
      refine s_qk (.bool (decide ((l.length : Int) = 0))) (by kernel_rfl) ?_
      refine s_nil ?_
      refine k67 _ _ ?_
      refine w_condp ((l.length : Int) = 0) (by kernel_rfl) rfl (fun h69 => ?_) (fun h69 => ?_)
      · have r70 := ite_t h69 r55
        refine w_seqk fun K71 k71 => ?_
        refine w_reg (by kernel_rfl) ?_
        refine s_qk (.slice a63 n64 c65) (by kernel_rfl) ?_
        refine s_ql (.int .i64 (y53.length : Int)) (x := aLen Go.Proofs.Try.prog 22 (.slice a63 n64 c65) H58) (by kernel_rfl) (m60.sq.lenb (by kernel_rfl)) ?_
        refine s_qk (.bool (decide ((y53.length : Int) = 0))) (by kernel_rfl) ?_
        refine s_qk (.bool (decide ((y53.length : Int) = 0))) (by kernel_rfl) ?_
        refine s_nil ?_
        refine k71 _ _ ?_
        refine w_ret (th_ret ?_)
        refine b_ret (fn := Go.Proofs.Try.f3) (vs := [.bool (decide ((y53.length : Int) = 0))]) (aRes_tmp (by kernel_rfl) (rfl)) ?_
        obtain rfl := Option.some.inj r70
        exact ⟨rfl, (FrS.step wf (FrS.step wf (FrS.step wf ((FrS.refl (W := []) wf).extR e4) e16 Inn.nil) e46 Inn.nil) e59 Inn.nil)⟩
      · have r72 := ite_f h69 r55
        refine w_skip ?_
        refine k66 _ _ ?_
        refine w_seqk fun K73 k73 => ?_
        refine w_seqk fun K74 k74 => ?_
        obtain ⟨o75, hx76, r77⟩ := bind_some r72
        refine w_mid (fun α H78 => Has α [(1, hd_l), (2, .pointer (some ⟨b2, 0, none⟩)), (5, .slice a63 n64 c65), (76, .bool o75)] ∧ FrS [] H58 H78) (fun K80 k80 => ?_) (fun α H78 hM => ?_)
        · refine w_draw [0, 1, 2, 3, 4, 5, 6, 7, 8, 9, 10, 11, 12, 13, 14, 15, 16, 17, 18, 19, 20, 21, 22, 23, 24, 25, 26, 27, 28, 29, 30, 31, 32, 33, 34, 35, 38, 36, 37, 39, 40, 41] (by kernel_rfl) ?_
          refine d_qk (.slice a63 n64 c65) (by kernel_rfl) ?_
          refine d_ql (.int .i64 (y53.length : Int)) (x := aLen Go.Proofs.Try.prog 22 (.slice a63 n64 c65) H58) (by kernel_rfl) (m60.sq.lenb (by kernel_rfl)) ?_
          refine d_b ((y53.length : Int) = 0) (by kernel_rfl) (fun h82 => ?_) (fun h82 => ?_)
          · have r83 := ite_t h82 hx76
            refine d_qk (.bool true) (by kernel_rfl) ?_
            refine d_idle (by kernel_rfl) ?_
            refine d_idle (by kernel_rfl) ?_
            refine d_idle (by kernel_rfl) ?_
            refine d_idle (by kernel_rfl) ?_
            refine d_idle (by kernel_rfl) ?_
            refine d_qk (.bool true) (by kernel_rfl) ?_
            refine d_qk (.bool true) (by kernel_rfl) ?_
            refine d_idle (by kernel_rfl) ?_
            refine d_idle (by kernel_rfl) ?_
            refine d_idle (by kernel_rfl) ?_
            refine d_idle (by kernel_rfl) ?_
            refine d_idle (by kernel_rfl) ?_
            refine d_idle (by kernel_rfl) ?_
            refine d_idle (by kernel_rfl) ?_
            refine d_qk (.bool true) (by kernel_rfl) ?_
            refine d_qk (.bool true) (by kernel_rfl) ?_
            refine d_idle (by kernel_rfl) ?_
            refine d_idle (by kernel_rfl) ?_
            refine d_idle (by kernel_rfl) ?_
            refine d_idle (by kernel_rfl) ?_
            refine d_idle (by kernel_rfl) ?_
            refine d_idle (by kernel_rfl) ?_
            refine d_idle (by kernel_rfl) ?_
            refine d_idle (by kernel_rfl) ?_
            refine d_idle (by kernel_rfl) ?_
            refine d_idle (by kernel_rfl) ?_
            refine d_idle (by kernel_rfl) ?_
            refine d_idle (by kernel_rfl) ?_
            refine d_idle (by kernel_rfl) ?_
            refine d_qk (.bool true) (by kernel_rfl) ?_
            refine d_qk (.bool true) (by kernel_rfl) ?_
            refine d_idle (by kernel_rfl) ?_
            refine d_idle (by kernel_rfl) ?_
            refine d_idle (by kernel_rfl) ?_
            refine d_idle (by kernel_rfl) ?_
            refine d_idle (by kernel_rfl) ?_
            refine d_idle (by kernel_rfl) ?_
            refine d_qk (.bool true) (by kernel_rfl) ?_
            refine d_nil ?_
            obtain rfl := Option.some.inj r83
            exact k80 _ _ ⟨⟨by kernel_rfl, by kernel_rfl, by kernel_rfl, by kernel_rfl, trivial⟩, (FrS.refl (W := []) e59.wf)⟩
          · have r84 := ite_f h82 hx76
            refine d_qk (.bool false) (by kernel_rfl) ?_
            refine d_qk (.slice a63 n64 c65) (by kernel_rfl) ?_
            refine d_ql (.int .i64 (y53.length : Int)) (x := aLen Go.Proofs.Try.prog 22 (.slice a63 n64 c65) H58) (by kernel_rfl) (m60.sq.lenb (by kernel_rfl)) ?_
            refine d_qk (hd_l) (by kernel_rfl) ?_
            refine d_ql (.int .i64 (l.length : Int)) (x := aLen Go.Proofs.Try.prog 22 hd_l H58) (by kernel_rfl) (u68.lenb (by kernel_rfl)) ?_
            refine d_b ((y53.length : Int) > (l.length : Int)) (by kernel_rfl) (fun h85 => ?_) (fun h85 => ?_)
            · have r86 := ite_t h85 r84
              refine d_qk (.bool true) (by kernel_rfl) ?_
              refine d_qk (.bool true) (by kernel_rfl) ?_
              refine d_idle (by kernel_rfl) ?_
              refine d_idle (by kernel_rfl) ?_
              refine d_idle (by kernel_rfl) ?_
              refine d_idle (by kernel_rfl) ?_
              refine d_idle (by kernel_rfl) ?_
              refine d_idle (by kernel_rfl) ?_
              refine d_idle (by kernel_rfl) ?_
              refine d_qk (.bool true) (by kernel_rfl) ?_
              refine d_qk (.bool true) (by kernel_rfl) ?_
              refine d_idle (by kernel_rfl) ?_
              refine d_idle (by kernel_rfl) ?_
              refine d_idle (by kernel_rfl) ?_
              refine d_idle (by kernel_rfl) ?_
              refine d_idle (by kernel_rfl) ?_
              refine d_idle (by kernel_rfl) ?_
              refine d_idle (by kernel_rfl) ?_
              refine d_idle (by kernel_rfl) ?_
              refine d_idle (by kernel_rfl) ?_
              refine d_idle (by kernel_rfl) ?_
              refine d_idle (by kernel_rfl) ?_
              refine d_idle (by kernel_rfl) ?_
              refine d_idle (by kernel_rfl) ?_
              refine d_qk (.bool true) (by kernel_rfl) ?_
              refine d_qk (.bool true) (by kernel_rfl) ?_
              refine d_idle (by kernel_rfl) ?_
              refine d_idle (by kernel_rfl) ?_
              refine d_idle (by kernel_rfl) ?_
              refine d_idle (by kernel_rfl) ?_
              refine d_idle (by kernel_rfl) ?_
              refine d_idle (by kernel_rfl) ?_
              refine d_qk (.bool true) (by kernel_rfl) ?_
              refine d_nil ?_
              obtain rfl := Option.some.inj r86
              exact k80 _ _ ⟨⟨by kernel_rfl, by kernel_rfl, by kernel_rfl, by kernel_rfl, trivial⟩, (FrS.refl (W := []) e59.wf)⟩
            · have r87 := ite_f h85 r84
              refine d_qk (.bool false) (by kernel_rfl) ?_
              refine d_qk (.bool false) (by kernel_rfl) ?_
              refine d_qk (.slice a63 n64 c65) (by kernel_rfl) ?_
              obtain ⟨g88, r89⟩ := G_some r87
              refine d_ql (elp (.slice a63 n64 c65) 1 (0 : Int).toNat 0) (x := aIndexAddr Go.Proofs.Try.prog 22 (.slice a63 n64 c65) (.int .i64 0)) (by kernel_rfl) (m60.sq.idxb (by kernel_rfl) (by decide) g88) ?_
              refine d_ql (.int .i64 (gt y53 0)) (x := aLoad Go.Proofs.Try.prog 3 (elp (.slice a63 n64 c65) 1 (0 : Int).toNat 0) H58) (by kernel_rfl) (m60.sq.ld (by decide) g88 (by kernel_rfl)) ?_
              refine d_qk (hd_l) (by kernel_rfl) ?_
              obtain ⟨g90, r91⟩ := G_some r89
              refine d_ql (elp hd_l 1 (0 : Int).toNat 0) (x := aIndexAddr Go.Proofs.Try.prog 22 hd_l (.int .i64 0)) (by kernel_rfl) (u68.idxb (by kernel_rfl) (by decide) g90) ?_
              refine d_ql (.int .i64 (gt l 0)) (x := aLoad Go.Proofs.Try.prog 3 (elp hd_l 1 (0 : Int).toNat 0) H58) (by kernel_rfl) (u68.ld (by decide) g90 (by kernel_rfl)) ?_
              refine d_bn ((gt y53 0) = (gt l 0)) (by kernel_rfl) (fun h92 => ?_) (fun h92 => ?_)
              · have r93 := ite_t h92 r91
                refine d_qk (.bool false) (by kernel_rfl) ?_
                refine d_qk (.bool false) (by kernel_rfl) ?_
                refine d_qk (.slice a63 n64 c65) (by kernel_rfl) ?_
                refine d_qk (.slice a63 n64 c65) (by kernel_rfl) ?_
                refine d_ql (.int .i64 (y53.length : Int)) (x := aLen Go.Proofs.Try.prog 22 (.slice a63 n64 c65) H58) (by kernel_rfl) (m60.sq.lenb (by kernel_rfl)) ?_
                obtain ⟨g94, r95⟩ := G_some r93
                refine d_w (((y53.length : Int) - 1)) (k := .i64) (x := ((y53.length : Int) - 1)) (by kernel_rfl) (wrap64 g94) ?_
                obtain ⟨g96, r97⟩ := G_some r95
                refine d_ql (elp (.slice a63 n64 c65) 1 ((y53.length : Int) - 1).toNat 0) (x := aIndexAddr Go.Proofs.Try.prog 22 (.slice a63 n64 c65) (.int .i64 ((y53.length : Int) - 1))) (by kernel_rfl) (m60.sq.idxb (by kernel_rfl) g96.1 g96.2) ?_
                refine d_ql (.int .i64 (gt y53 ((y53.length : Int) - 1))) (x := aLoad Go.Proofs.Try.prog 3 (elp (.slice a63 n64 c65) 1 ((y53.length : Int) - 1).toNat 0) H58) (by kernel_rfl) (m60.sq.ld g96.1 g96.2 (by kernel_rfl)) ?_
                refine d_qk (hd_l) (by kernel_rfl) ?_
                refine d_qk (hd_l) (by kernel_rfl) ?_
                refine d_ql (.int .i64 (l.length : Int)) (x := aLen Go.Proofs.Try.prog 22 hd_l H58) (by kernel_rfl) (u68.lenb (by kernel_rfl)) ?_
                obtain ⟨g98, r99⟩ := G_some r97
                refine d_w (((l.length : Int) - 1)) (k := .i64) (x := ((l.length : Int) - 1)) (by kernel_rfl) (wrap64 g98) ?_
                obtain ⟨g100, r101⟩ := G_some r99
                refine d_ql (elp hd_l 1 ((l.length : Int) - 1).toNat 0) (x := aIndexAddr Go.Proofs.Try.prog 22 hd_l (.int .i64 ((l.length : Int) - 1))) (by kernel_rfl) (u68.idxb (by kernel_rfl) g100.1 g100.2) ?_
                refine d_ql (.int .i64 (gt l ((l.length : Int) - 1))) (x := aLoad Go.Proofs.Try.prog 3 (elp hd_l 1 ((l.length : Int) - 1).toNat 0) H58) (by kernel_rfl) (u68.ld g100.1 g100.2 (by kernel_rfl)) ?_
                refine d_bn ((gt y53 ((y53.length : Int) - 1)) = (gt l ((l.length : Int) - 1))) (by kernel_rfl) (fun h102 => ?_) (fun h102 => ?_)
                · have r103 := ite_t h102 r101
                  refine d_qk (.bool false) (by kernel_rfl) ?_
                  refine d_qk (.bool false) (by kernel_rfl) ?_
                  refine d_qk (.slice a63 n64 c65) (by kernel_rfl) ?_
                  refine d_qk (.slice a63 n64 c65) (by kernel_rfl) ?_
                  obtain ⟨y104, hy105, r106⟩ := bind_some r103
                  refine d_ck 11 #[.slice a63 n64 c65] (by kernel_rfl) (c_viaductref02_TwinInts e59.wf m60.sq hy105) ?_
                  rintro s107 H109 ⟨_, f108, rfl, e110, m111, i112⟩
                  obtain ⟨a114, n115, c116, rfl⟩ := m111.form
                  refine ⟨st_nil, ?_⟩
                  obtain ⟨y117, hy118, r119⟩ := bind_some r106
                  refine d_ck 10 #[.slice a114 n115 c116] (by kernel_rfl) (c_walk_Simple e110.wf m111.sq hy118) ?_
                  rintro s120 H122 ⟨_, f121, rfl, e123, m124, i125⟩
                  obtain ⟨a127, n128, c129, rfl⟩ := m124.form
                  refine ⟨st_nil, ?_⟩
                  have u130 := ((m60.fr e110 Dj.nil_l).fr e123 Dj.nil_l)
                  obtain ⟨y131, hy132, r133⟩ := bind_some r119
                  refine d_ck 12 #[.slice a127 n128 c129, .slice a63 n64 c65] (by kernel_rfl) (c_viaductref02_SameInts e123.wf m124.sq u130.sq hy132) ?_
                  rintro _ _ ⟨rfl, rfl⟩
                  refine ⟨st_nil, ?_⟩
                  refine d_qk (.bool (!y131)) (by kernel_rfl) ?_
                  refine d_qk (.bool (!y131)) (by kernel_rfl) ?_
                  refine d_nil ?_
                  obtain rfl := Option.some.inj r133
                  exact k80 _ _ ⟨⟨by kernel_rfl, by kernel_rfl, by kernel_rfl, by kernel_rfl, trivial⟩, (FrS.step e59.wf (FrS.step e59.wf (FrS.refl (W := []) e59.wf) e110 Inn.nil) e123 Inn.nil)⟩
                · have r136 := ite_f h102 r101
                  refine d_qk (.bool true) (by kernel_rfl) ?_
                  refine d_qk (.bool true) (by kernel_rfl) ?_
                  refine d_idle (by kernel_rfl) ?_
                  refine d_idle (by kernel_rfl) ?_
                  refine d_idle (by kernel_rfl) ?_
                  refine d_idle (by kernel_rfl) ?_
                  refine d_idle (by kernel_rfl) ?_
                  refine d_idle (by kernel_rfl) ?_
                  refine d_qk (.bool true) (by kernel_rfl) ?_
                  refine d_nil ?_
                  obtain rfl := Option.some.inj r136
                  exact k80 _ _ ⟨⟨by kernel_rfl, by kernel_rfl, by kernel_rfl, by kernel_rfl, trivial⟩, (FrS.refl (W := []) e59.wf)⟩
              · have r137 := ite_f h92 r91
                refine d_qk (.bool true) (by kernel_rfl) ?_
                refine d_qk (.bool true) (by kernel_rfl) ?_
                refine d_idle (by kernel_rfl) ?_
                refine d_idle (by kernel_rfl) ?_
                refine d_idle (by kernel_rfl) ?_
                refine d_idle (by kernel_rfl) ?_
                refine d_idle (by kernel_rfl) ?_
                refine d_idle (by kernel_rfl) ?_
                refine d_idle (by kernel_rfl) ?_
                refine d_idle (by kernel_rfl) ?_
                refine d_idle (by kernel_rfl) ?_
                refine d_idle (by kernel_rfl) ?_
                refine d_idle (by kernel_rfl) ?_
                refine d_idle (by kernel_rfl) ?_
                refine d_idle (by kernel_rfl) ?_
                refine d_qk (.bool true) (by kernel_rfl) ?_
                refine d_qk (.bool true) (by kernel_rfl) ?_
                refine d_idle (by kernel_rfl) ?_
                refine d_idle (by kernel_rfl) ?_
                refine d_idle (by kernel_rfl) ?_
                refine d_idle (by kernel_rfl) ?_
                refine d_idle (by kernel_rfl) ?_
                refine d_idle (by kernel_rfl) ?_
                refine d_qk (.bool true) (by kernel_rfl) ?_
                refine d_nil ?_
                obtain rfl := Option.some.inj r137
                exact k80 _ _ ⟨⟨by kernel_rfl, by kernel_rfl, by kernel_rfl, by kernel_rfl, trivial⟩, (FrS.refl (W := []) e59.wf)⟩
        · obtain ⟨hh81, e79⟩ := hM
          obtain ⟨β, rfl⟩ := has_ex hh81
          clear hh81
          refine k74 _ _ ?_
          refine w_cond (o75) (by kernel_rfl) rfl (fun h138 => ?_) (fun h138 => ?_)
          · have r139 := ite_t h138 r77
            refine w_seqk fun K140 k140 => ?_
            refine w_reg (by kernel_rfl) ?_
            refine s_qk (.bool false) (by kernel_rfl) ?_
            refine s_nil ?_
            refine k140 _ _ ?_
            refine w_ret (th_ret ?_)
            refine b_ret (fn := Go.Proofs.Try.f3) (vs := [.bool false]) (aRes_tmp (by kernel_rfl) (rfl)) ?_
            obtain rfl := Option.some.inj r139
            exact ⟨rfl, (FrS.step wf (FrS.step wf (FrS.step wf (FrS.step wf ((FrS.refl (W := []) wf).extR e4) e16 Inn.nil) e46 Inn.nil) e59 Inn.nil) e79 Inn.nil)⟩
          · have r141 := ite_bf h138 r77
            refine w_skip ?_
            refine k73 _ _ ?_
            refine w_seqk fun K142 k142 => ?_
            refine w_seqk fun K143 k143 => ?_
            refine w_reg (by kernel_rfl) ?_
            refine s_qk (.slice a63 n64 c65) (by kernel_rfl) ?_
            have u144 := (m60.fr e79 Dj.nil_l)
            refine s_ql (.int .i64 (y53.length : Int)) (x := aLen Go.Proofs.Try.prog 22 (.slice a63 n64 c65) H78) (by kernel_rfl) (u144.sq.lenb (by kernel_rfl)) ?_
            refine s_qk (.int .i64 0) (by kernel_rfl) ?_
            refine s_nil ?_
            refine k143 _ _ ?_
            obtain ⟨z148, hx146, r147⟩ := bind_some r141
            refine w_mid (fun α H149 => ∃ o145, z148 = Sum.inr o145 ∧ Has α [(1, hd_l), (2, .pointer (some ⟨b2, 0, none⟩)), (5, .slice a63 n64 c65)] ∧ H78 = H149) (fun K151 k151 => ?_) (fun α H149 hM => ?_)
            · refine w_block ?_
              obtain ⟨n153, hn154⟩ := loopO_iff.1 hx146
              refine w_loopn (fun n α H155 => ∃ (i2 : Int), iterO (fun s => z_viaductlaw09_WalkLoops_l0 l y53 s) n i2 = some z148 ∧ Has α [(1, hd_l), (2, .pointer (some ⟨b2, 0, none⟩)), (5, .slice a63 n64 c65), (78, .int .i64 (y53.length : Int)), (79, .int .i64 i2)] ∧ H78 = H155) n153 ⟨0, hn154, ⟨by kernel_rfl, by kernel_rfl, by kernel_rfl, by kernel_rfl, by kernel_rfl, trivial⟩, rfl⟩ ?_
              rintro n153 α H155 ⟨i2, hi158, hh157, rfl⟩ K163 k163
              obtain ⟨n159, z160, rfl, hz161, hn162⟩ := iter_succ hi158
              obtain ⟨β, rfl⟩ := has_ex hh157
              clear hh157
              replace hz161 : z_viaductlaw09_WalkLoops_l0 l y53 i2 = some z160 := hz161
              unfold z_viaductlaw09_WalkLoops_l0 at hz161
              refine w_seqk fun K164 k164 => ?_
              refine w_reg (by kernel_rfl) ?_
              refine s_qk (.bool (decide (i2 < (y53.length : Int)))) (by kernel_rfl) ?_
              refine s_nil ?_
              refine k164 _ _ ?_
              refine w_seqk fun K165 k165 => ?_
              refine w_condp (i2 < (y53.length : Int)) (by kernel_rfl) rfl (fun h166 => ?_) (fun h166 => ?_)
              · have r167 := ite_t h166 hz161
                refine w_skip ?_
                refine k165 _ _ ?_
                refine w_seqk fun K168 k168 => ?_
                refine w_block ?_
                refine w_seqk fun K169 k169 => ?_
                refine w_reg (by kernel_rfl) ?_
                refine s_qk (.int .i64 i2) (by kernel_rfl) ?_
                refine s_qk (.int .i64 i2) (by kernel_rfl) ?_
                refine s_nil ?_
                refine k169 _ _ ?_
                refine w_seqk fun K170 k170 => ?_
                refine w_seqk fun K171 k171 => ?_
                refine w_reg (by kernel_rfl) ?_
                refine s_qk (.slice a63 n64 c65) (by kernel_rfl) ?_
                refine s_qk (.int .i64 i2) (by kernel_rfl) ?_
                obtain ⟨g172, r173⟩ := G_some r167
                obtain ⟨s174, q175, hs176⟩ := Ow.head (P := Go.Proofs.Try.prog) u144 (t := 22) (by kernel_rfl) (hi := (some (.int .i64 i2))) (r := i2.toNat) (aBound_int _ (by have := g172; omega)) (by have := g172; omega)
                obtain ⟨a177, n178, c179, rfl⟩ := hs176.form
                refine s_ql (.slice a177 n178 c179) (by kernel_rfl) q175 ?_
                refine s_ql (.int .i64 ((y53.take i2.toNat).length : Int)) (x := aLen Go.Proofs.Try.prog 22 (.slice a177 n178 c179) H78) (by kernel_rfl) (hs176.sq.lenb (by kernel_rfl)) ?_
                refine s_qk (.int .i64 0) (by kernel_rfl) ?_
                refine s_nil ?_
                refine k171 _ _ ?_
                obtain ⟨z184, hx182, r183⟩ := bind_some r173
                refine w_mid (fun α H185 => ∃ o181, z184 = Sum.inr o181 ∧ Has α [(1, hd_l), (2, .pointer (some ⟨b2, 0, none⟩)), (5, .slice a63 n64 c65), (6, .int .i64 i2), (78, .int .i64 (y53.length : Int)), (79, .int .i64 i2)] ∧ H78 = H185) (fun K187 k187 => ?_) (fun α H185 hM => ?_)
                · refine w_block ?_
                  obtain ⟨n189, hn190⟩ := loopO_iff.1 hx182
                  refine w_loopn (fun n α H191 => ∃ (i0 : Int), iterO (fun s => z_viaductlaw09_WalkLoops_l1 y53 i2 s) n i0 = some z184 ∧ Has α [(1, hd_l), (2, .pointer (some ⟨b2, 0, none⟩)), (5, .slice a63 n64 c65), (6, .int .i64 i2), (78, .int .i64 (y53.length : Int)), (79, .int .i64 i2), (84, .slice a177 n178 c179), (85, .int .i64 ((y53.take i2.toNat).length : Int)), (86, .int .i64 i0)] ∧ H78 = H191) n189 ⟨0, hn190, ⟨by kernel_rfl, by kernel_rfl, by kernel_rfl, by kernel_rfl, by kernel_rfl, by kernel_rfl, by kernel_rfl, by kernel_rfl, by kernel_rfl, trivial⟩, rfl⟩ ?_
                  rintro n189 α H191 ⟨i0, hi194, hh193, rfl⟩ K199 k199
                  obtain ⟨n195, z196, rfl, hz197, hn198⟩ := iter_succ hi194
                  obtain ⟨β, rfl⟩ := has_ex hh193
                  clear hh193
                  replace hz197 : z_viaductlaw09_WalkLoops_l1 y53 i2 i0 = some z196 := hz197
                  unfold z_viaductlaw09_WalkLoops_l1 at hz197
                  refine w_seqk fun K200 k200 => ?_
                  refine w_reg (by kernel_rfl) ?_
                  refine s_qk (.bool (decide (i0 < ((y53.take i2.toNat).length : Int)))) (by kernel_rfl) ?_
                  refine s_nil ?_
                  refine k200 _ _ ?_
                  refine w_seqk fun K201 k201 => ?_
                  refine w_condp (i0 < ((y53.take i2.toNat).length : Int)) (by kernel_rfl) rfl (fun h202 => ?_) (fun h202 => ?_)
                  · have r203 := ite_t h202 hz197
                    refine w_skip ?_
                    refine k201 _ _ ?_
                    refine w_seqk fun K204 k204 => ?_
                    refine w_block ?_
                    refine w_seqk fun K205 k205 => ?_
                    refine w_reg (by kernel_rfl) ?_
                    obtain ⟨g206, r207⟩ := G_some r203
                    refine s_ql (elp (.slice a177 n178 c179) 1 i0.toNat 0) (x := aIndexAddr Go.Proofs.Try.prog 22 (.slice a177 n178 c179) (.int .i64 i0)) (by kernel_rfl) (hs176.sq.idxb (by kernel_rfl) g206 h202) ?_
                    refine s_ql (.int .i64 (gt (y53.take i2.toNat) i0)) (x := aLoad Go.Proofs.Try.prog 3 (elp (.slice a177 n178 c179) 1 i0.toNat 0) H78) (by kernel_rfl) (hs176.sq.ld g206 h202 (by kernel_rfl)) ?_
                    refine s_qk (.int .i64 (gt (y53.take i2.toNat) i0)) (by kernel_rfl) ?_
                    refine s_nil ?_
                    refine k205 _ _ ?_
                    refine w_seqk fun K208 k208 => ?_
                    refine w_reg (by kernel_rfl) ?_
                    refine s_qk (.int .i64 (gt (y53.take i2.toNat) i0)) (by kernel_rfl) ?_
                    refine s_qk (.slice a63 n64 c65) (by kernel_rfl) ?_
                    refine s_qk (.int .i64 i2) (by kernel_rfl) ?_
                    obtain ⟨g209, r210⟩ := G_some r207
                    refine s_ql (elp (.slice a63 n64 c65) 1 i2.toNat 0) (x := aIndexAddr Go.Proofs.Try.prog 22 (.slice a63 n64 c65) (.int .i64 i2)) (by kernel_rfl) (u144.sq.idxb (by kernel_rfl) g209 h166) ?_
                    refine s_ql (.int .i64 (gt y53 i2)) (x := aLoad Go.Proofs.Try.prog 3 (elp (.slice a63 n64 c65) 1 i2.toNat 0) H78) (by kernel_rfl) (u144.sq.ld g209 h166 (by kernel_rfl)) ?_
                    refine s_qk (.bool (decide ((gt (y53.take i2.toNat) i0) = (gt y53 i2)))) (by kernel_rfl) ?_
                    refine s_nil ?_
                    refine k208 _ _ ?_
                    refine w_condp ((gt (y53.take i2.toNat) i0) = (gt y53 i2)) (by kernel_rfl) rfl (fun h211 => ?_) (fun h211 => ?_)
                    · have r212 := ite_t h211 r210
                      refine w_seqk fun K213 k213 => ?_
                      refine w_reg (by kernel_rfl) ?_
                      refine s_qk (.bool false) (by kernel_rfl) ?_
                      refine s_nil ?_
                      refine k213 _ _ ?_
                      refine w_ret (bl_ret (th_ret (th_ret (bl_ret (th_ret (th_ret (bl_ret (th_ret (th_ret (bl_ret (th_ret (th_ret ?_))))))))))))
                      obtain ⟨v214, hv215, hz216⟩ := map_some r212
                      subst hz216
                      obtain rfl := it_inr hn198
                      have hq217 := elim_inl r183
                      rw [hq217] at hv215
                      obtain ⟨v218, hv219, hz220⟩ := map_some hv215
                      subst hz220
                      obtain rfl := it_inr hn162
                      have hq221 := elim_inl r147
                      rw [hq221] at hv219
                      refine b_ret (fn := Go.Proofs.Try.f3) (vs := [.bool false]) (aRes_tmp (by kernel_rfl) (rfl)) ?_
                      obtain rfl := Option.some.inj hv219
                      exact ⟨rfl, (FrS.step wf (FrS.step wf (FrS.step wf (FrS.step wf ((FrS.refl (W := []) wf).extR e4) e16 Inn.nil) e46 Inn.nil) e59 Inn.nil) e79 Inn.nil)⟩
                    · have r222 := ite_f h211 r210
                      refine w_skip ?_
                      refine k204 _ _ ?_
                      refine w_reg (by kernel_rfl) ?_
                      obtain ⟨g223, r224⟩ := G_some r222
                      refine s_w ((i0 + 1)) (k := .i64) (x := (i0 + 1)) (by kernel_rfl) (wrap64 (by have := g223; omega)) ?_
                      refine s_qk (.int .i64 (i0 + 1)) (by kernel_rfl) ?_
                      refine s_nil ?_
                      obtain rfl := Option.some.inj r224
                      exact k199 n195 _ _ (Nat.lt_succ_self _) ⟨(i0 + 1), hn198, ⟨by kernel_rfl, by kernel_rfl, by kernel_rfl, by kernel_rfl, by kernel_rfl, by kernel_rfl, by kernel_rfl, by kernel_rfl, by kernel_rfl, trivial⟩, rfl⟩
                  · have r225 := ite_f h202 hz197
                    refine w_exit (th_exit (th_exit (bl_eq ?_)))
                    obtain rfl := Option.some.inj r225
                    obtain rfl := it_inr hn198
                    exact k187 _ _ ⟨_, rfl, ⟨by kernel_rfl, by kernel_rfl, by kernel_rfl, by kernel_rfl, by kernel_rfl, by kernel_rfl, trivial⟩, rfl⟩
                · obtain ⟨o181, rfl, hh188, rfl⟩ := hM
                  have r226 := elim_inr r183
                  obtain ⟨β, rfl⟩ := has_ex hh188
                  clear hh188
                  refine k170 _ _ ?_
                  refine w_seqk fun K227 k227 => ?_
                  refine w_reg (by kernel_rfl) ?_
                  refine s_qk (.int .i64 i2) (by kernel_rfl) ?_
                  refine s_qk (.bool (decide (i2 = 0))) (by kernel_rfl) ?_
                  refine s_qk (.bool (decide (i2 = 0))) (by kernel_rfl) ?_
                  refine s_nil ?_
                  refine k227 _ _ ?_
                  refine w_seqk fun K228 k228 => ?_
                  refine w_seqk fun K229 k229 => ?_
                  refine w_reg (by kernel_rfl) ?_
                  refine s_qk (.int .i64 1) (by kernel_rfl) ?_
                  refine s_nil ?_
                  refine k229 _ _ ?_
                  obtain ⟨o230, hx231, r232⟩ := bind_some r226
                  refine w_mid (fun α H233 => Has α [(1, hd_l), (2, .pointer (some ⟨b2, 0, none⟩)), (5, .slice a63 n64 c65), (9, .bool o230), (78, .int .i64 (y53.length : Int)), (79, .int .i64 i2)] ∧ H78 = H233) (fun K235 k235 => ?_) (fun α H233 hM => ?_)
                  · refine w_block ?_
                    obtain ⟨n237, hn238⟩ := loopO_iff.1 hx231
                    refine w_loopn (fun n α H239 => ∃ (j1 : Int), ∃ (near3 : Bool), iterO (fun s => z_viaductlaw09_WalkLoops_l2 l y53 i2 s.1 s.2) n (j1, near3) = some o230 ∧ Has α [(1, hd_l), (2, .pointer (some ⟨b2, 0, none⟩)), (5, .slice a63 n64 c65), (6, .int .i64 i2), (9, .bool near3), (10, .int .i64 j1), (78, .int .i64 (y53.length : Int)), (79, .int .i64 i2)] ∧ H78 = H239) n237 ⟨1, (decide (i2 = 0)), hn238, ⟨by kernel_rfl, by kernel_rfl, by kernel_rfl, by kernel_rfl, by kernel_rfl, by kernel_rfl, by kernel_rfl, by kernel_rfl, trivial⟩, rfl⟩ ?_
                    rintro n237 α H239 ⟨j1, near3, hi242, hh241, rfl⟩ K247 k247
                    obtain ⟨n243, z244, rfl, hz245, hn246⟩ := iter_succ hi242
                    obtain ⟨β, rfl⟩ := has_ex hh241
                    clear hh241
                    replace hz245 : z_viaductlaw09_WalkLoops_l2 l y53 i2 j1 near3 = some z244 := hz245
                    unfold z_viaductlaw09_WalkLoops_l2 at hz245
                    refine w_seqk fun K248 k248 => ?_
                    refine w_seqk fun K249 k249 => ?_
                    refine w_reg (by kernel_rfl) ?_
                    refine s_qk (.int .i64 j1) (by kernel_rfl) ?_
                    refine s_qk (hd_l) (by kernel_rfl) ?_
                    have u250 := (u68.fr e79 Dj.nil_l)
                    refine s_ql (.int .i64 (l.length : Int)) (x := aLen Go.Proofs.Try.prog 22 hd_l H78) (by kernel_rfl) (u250.lenb (by kernel_rfl)) ?_
                    refine s_qk (.bool (decide (j1 < (l.length : Int)))) (by kernel_rfl) ?_
                    refine s_nil ?_
                    refine k249 _ _ ?_
                    refine w_condp (j1 < (l.length : Int)) (by kernel_rfl) rfl (fun h251 => ?_) (fun h251 => ?_)
                    · have r252 := ite_t h251 hz245
                      refine w_skip ?_
                      refine k248 _ _ ?_
                      refine w_seqk fun K253 k253 => ?_
                      refine w_block ?_
                      refine w_draw [0, 1, 2, 3, 4, 5, 6, 7, 8, 9, 10, 11, 12, 13, 14, 15, 16, 17, 18, 19, 20, 21, 22, 23, 24, 25] (by kernel_rfl) ?_
                      refine d_qk (.bool near3) (by kernel_rfl) ?_
                      refine d_qk (.bool near3) (by kernel_rfl) ?_
                      by_cases h254 : near3 = true
                      · have r255 := ite_t h254 r252
                        rw [h254]
                        refine d_idle (by kernel_rfl) ?_
                        refine d_idle (by kernel_rfl) ?_
                        refine d_idle (by kernel_rfl) ?_
                        refine d_idle (by kernel_rfl) ?_
                        refine d_idle (by kernel_rfl) ?_
                        refine d_idle (by kernel_rfl) ?_
                        refine d_idle (by kernel_rfl) ?_
                        refine d_idle (by kernel_rfl) ?_
                        refine d_idle (by kernel_rfl) ?_
                        refine d_idle (by kernel_rfl) ?_
                        refine d_idle (by kernel_rfl) ?_
                        refine d_idle (by kernel_rfl) ?_
                        refine d_idle (by kernel_rfl) ?_
                        refine d_idle (by kernel_rfl) ?_
                        refine d_idle (by kernel_rfl) ?_
                        refine d_idle (by kernel_rfl) ?_
                        refine d_idle (by kernel_rfl) ?_
                        refine d_idle (by kernel_rfl) ?_
                        refine d_idle (by kernel_rfl) ?_
                        refine d_idle (by kernel_rfl) ?_
                        refine d_idle (by kernel_rfl) ?_
                        refine d_idle (by kernel_rfl) ?_
                        refine d_qk (.bool true) (by kernel_rfl) ?_
                        refine d_qk (.bool true) (by kernel_rfl) ?_
                        refine d_nil ?_
                        refine k253 _ _ ?_
                        refine w_reg (by kernel_rfl) ?_
                        refine s_qk (.int .i64 j1) (by kernel_rfl) ?_
                        obtain ⟨g256, r257⟩ := G_some r255
                        refine s_w ((j1 + 1)) (k := .i64) (x := (j1 + 1)) (by kernel_rfl) (wrap64 g256) ?_
                        refine s_qk (.int .i64 (j1 + 1)) (by kernel_rfl) ?_
                        refine s_nil ?_
                        obtain rfl := Option.some.inj r257
                        exact k247 n243 _ _ (Nat.lt_succ_self _) ⟨(j1 + 1), true, hn246, ⟨by kernel_rfl, by kernel_rfl, by kernel_rfl, by kernel_rfl, by kernel_rfl, by kernel_rfl, by kernel_rfl, by kernel_rfl, trivial⟩, rfl⟩
                      · have r258 := ite_f h254 r252
                        rw [nb h254]
                        refine d_qk (hd_l) (by kernel_rfl) ?_
                        refine d_qk (.int .i64 j1) (by kernel_rfl) ?_
                        obtain ⟨g259, r260⟩ := G_some r258
                        refine d_w ((j1 - 1)) (k := .i64) (x := (j1 - 1)) (by kernel_rfl) (wrap64 g259) ?_
                        obtain ⟨g261, r262⟩ := G_some r260
                        refine d_ql (elp hd_l 1 (j1 - 1).toNat 0) (x := aIndexAddr Go.Proofs.Try.prog 22 hd_l (.int .i64 (j1 - 1))) (by kernel_rfl) (u250.idxb (by kernel_rfl) g261.1 g261.2) ?_
                        refine d_ql (.int .i64 (gt l (j1 - 1))) (x := aLoad Go.Proofs.Try.prog 3 (elp hd_l 1 (j1 - 1).toNat 0) H78) (by kernel_rfl) (u250.ld g261.1 g261.2 (by kernel_rfl)) ?_
                        refine d_qk (.slice a63 n64 c65) (by kernel_rfl) ?_
                        refine d_qk (.int .i64 i2) (by kernel_rfl) ?_
                        obtain ⟨g263, r264⟩ := G_some r262
                        refine d_w ((i2 - 1)) (k := .i64) (x := (i2 - 1)) (by kernel_rfl) (wrap64 g263) ?_
                        obtain ⟨g265, r266⟩ := G_some r264
                        refine d_ql (elp (.slice a63 n64 c65) 1 (i2 - 1).toNat 0) (x := aIndexAddr Go.Proofs.Try.prog 22 (.slice a63 n64 c65) (.int .i64 (i2 - 1))) (by kernel_rfl) (u144.sq.idxb (by kernel_rfl) g265.1 g265.2) ?_
                        refine d_ql (.int .i64 (gt y53 (i2 - 1))) (x := aLoad Go.Proofs.Try.prog 3 (elp (.slice a63 n64 c65) 1 (i2 - 1).toNat 0) H78) (by kernel_rfl) (u144.sq.ld g265.1 g265.2 (by kernel_rfl)) ?_
                        refine d_b ((gt l (j1 - 1)) = (gt y53 (i2 - 1))) (by kernel_rfl) (fun h267 => ?_) (fun h267 => ?_)
                        · have r268 := ite_t h267 r266
                          refine d_qk (.bool true) (by kernel_rfl) ?_
                          refine d_qk (hd_l) (by kernel_rfl) ?_
                          refine d_qk (.int .i64 j1) (by kernel_rfl) ?_
                          obtain ⟨g269, r270⟩ := G_some r268
                          refine d_ql (elp hd_l 1 j1.toNat 0) (x := aIndexAddr Go.Proofs.Try.prog 22 hd_l (.int .i64 j1)) (by kernel_rfl) (u250.idxb (by kernel_rfl) g269 h251) ?_
                          refine d_ql (.int .i64 (gt l j1)) (x := aLoad Go.Proofs.Try.prog 3 (elp hd_l 1 j1.toNat 0) H78) (by kernel_rfl) (u250.ld g269 h251 (by kernel_rfl)) ?_
                          refine d_qk (.slice a63 n64 c65) (by kernel_rfl) ?_
                          refine d_qk (.int .i64 i2) (by kernel_rfl) ?_
                          obtain ⟨g271, r272⟩ := G_some r270
                          refine d_ql (elp (.slice a63 n64 c65) 1 i2.toNat 0) (x := aIndexAddr Go.Proofs.Try.prog 22 (.slice a63 n64 c65) (.int .i64 i2)) (by kernel_rfl) (u144.sq.idxb (by kernel_rfl) g271 h166) ?_
                          refine d_ql (.int .i64 (gt y53 i2)) (x := aLoad Go.Proofs.Try.prog 3 (elp (.slice a63 n64 c65) 1 i2.toNat 0) H78) (by kernel_rfl) (u144.sq.ld g271 h166 (by kernel_rfl)) ?_
                          refine d_b ((gt l j1) = (gt y53 i2)) (by kernel_rfl) (fun h273 => ?_) (fun h273 => ?_)
                          · have r274 := ite_t h273 r272
                            refine d_qk (.bool true) (by kernel_rfl) ?_
                            refine d_qk (.bool true) (by kernel_rfl) ?_
                            refine d_qk (.bool true) (by kernel_rfl) ?_
                            refine d_nil ?_
                            refine k253 _ _ ?_
                            refine w_reg (by kernel_rfl) ?_
                            refine s_qk (.int .i64 j1) (by kernel_rfl) ?_
                            obtain ⟨g275, r276⟩ := G_some r274
                            refine s_w ((j1 + 1)) (k := .i64) (x := (j1 + 1)) (by kernel_rfl) (wrap64 (by have := g275; omega)) ?_
                            refine s_qk (.int .i64 (j1 + 1)) (by kernel_rfl) ?_
                            refine s_nil ?_
                            obtain rfl := Option.some.inj r276
                            exact k247 n243 _ _ (Nat.lt_succ_self _) ⟨(j1 + 1), true, hn246, ⟨by kernel_rfl, by kernel_rfl, by kernel_rfl, by kernel_rfl, by kernel_rfl, by kernel_rfl, by kernel_rfl, by kernel_rfl, trivial⟩, rfl⟩
                          · have r277 := ite_f h273 r272
                            refine d_qk (.bool false) (by kernel_rfl) ?_
                            refine d_qk (.bool false) (by kernel_rfl) ?_
                            refine d_qk (.bool false) (by kernel_rfl) ?_
                            refine d_nil ?_
                            refine k253 _ _ ?_
                            refine w_reg (by kernel_rfl) ?_
                            refine s_qk (.int .i64 j1) (by kernel_rfl) ?_
                            obtain ⟨g278, r279⟩ := G_some r277
                            refine s_w ((j1 + 1)) (k := .i64) (x := (j1 + 1)) (by kernel_rfl) (wrap64 (by have := g278; omega)) ?_
                            refine s_qk (.int .i64 (j1 + 1)) (by kernel_rfl) ?_
                            refine s_nil ?_
                            obtain rfl := Option.some.inj r279
                            exact k247 n243 _ _ (Nat.lt_succ_self _) ⟨(j1 + 1), false, hn246, ⟨by kernel_rfl, by kernel_rfl, by kernel_rfl, by kernel_rfl, by kernel_rfl, by kernel_rfl, by kernel_rfl, by kernel_rfl, trivial⟩, rfl⟩
                        · have r280 := ite_f h267 r266
                          refine d_qk (.bool false) (by kernel_rfl) ?_
                          refine d_idle (by kernel_rfl) ?_
                          refine d_idle (by kernel_rfl) ?_
                          refine d_idle (by kernel_rfl) ?_
                          refine d_idle (by kernel_rfl) ?_
                          refine d_idle (by kernel_rfl) ?_
                          refine d_idle (by kernel_rfl) ?_
                          refine d_idle (by kernel_rfl) ?_
                          refine d_idle (by kernel_rfl) ?_
                          refine d_idle (by kernel_rfl) ?_
                          refine d_qk (.bool false) (by kernel_rfl) ?_
                          refine d_qk (.bool false) (by kernel_rfl) ?_
                          refine d_qk (.bool false) (by kernel_rfl) ?_
                          refine d_nil ?_
                          refine k253 _ _ ?_
                          refine w_reg (by kernel_rfl) ?_
                          refine s_qk (.int .i64 j1) (by kernel_rfl) ?_
                          obtain ⟨g281, r282⟩ := G_some r280
                          refine s_w ((j1 + 1)) (k := .i64) (x := (j1 + 1)) (by kernel_rfl) (wrap64 g281) ?_
                          refine s_qk (.int .i64 (j1 + 1)) (by kernel_rfl) ?_
                          refine s_nil ?_
                          obtain rfl := Option.some.inj r282
                          exact k247 n243 _ _ (Nat.lt_succ_self _) ⟨(j1 + 1), false, hn246, ⟨by kernel_rfl, by kernel_rfl, by kernel_rfl, by kernel_rfl, by kernel_rfl, by kernel_rfl, by kernel_rfl, by kernel_rfl, trivial⟩, rfl⟩
                    · have r283 := ite_f h251 hz245
                      refine w_exit (th_exit (th_exit (bl_eq ?_)))
                      obtain rfl := Option.some.inj r283
                      obtain rfl := it_inr hn246
                      exact k235 _ _ ⟨⟨by kernel_rfl, by kernel_rfl, by kernel_rfl, by kernel_rfl, by kernel_rfl, by kernel_rfl, trivial⟩, rfl⟩
                  · obtain ⟨hh236, rfl⟩ := hM
                    obtain ⟨β, rfl⟩ := has_ex hh236
                    clear hh236
                    refine k228 _ _ ?_
                    refine w_seqk fun K284 k284 => ?_
                    refine w_reg (by kernel_rfl) ?_
                    refine s_qk (.bool o230) (by kernel_rfl) ?_
                    refine s_qk (.bool (!o230)) (by kernel_rfl) ?_
                    refine s_nil ?_
                    refine k284 _ _ ?_
                    refine w_cond ((!o230)) (by kernel_rfl) rfl (fun h285 => ?_) (fun h285 => ?_)
                    · have r286 := ite_t h285 r232
                      refine w_seqk fun K287 k287 => ?_
                      refine w_reg (by kernel_rfl) ?_
                      refine s_qk (.bool false) (by kernel_rfl) ?_
                      refine s_nil ?_
                      refine k287 _ _ ?_
                      refine w_ret (bl_ret (th_ret (th_ret (bl_ret (th_ret (th_ret ?_))))))
                      obtain ⟨v288, hv289, hz290⟩ := map_some r286
                      subst hz290
                      obtain rfl := it_inr hn162
                      have hq291 := elim_inl r147
                      rw [hq291] at hv289
                      refine b_ret (fn := Go.Proofs.Try.f3) (vs := [.bool false]) (aRes_tmp (by kernel_rfl) (rfl)) ?_
                      obtain rfl := Option.some.inj hv289
                      exact ⟨rfl, (FrS.step wf (FrS.step wf (FrS.step wf (FrS.step wf ((FrS.refl (W := []) wf).extR e4) e16 Inn.nil) e46 Inn.nil) e59 Inn.nil) e79 Inn.nil)⟩
                    · have r292 := ite_bf h285 r232
                      refine w_skip ?_
                      refine k168 _ _ ?_
                      refine w_reg (by kernel_rfl) ?_
                      obtain ⟨g293, r294⟩ := G_some r292
                      refine s_w ((i2 + 1)) (k := .i64) (x := (i2 + 1)) (by kernel_rfl) (wrap64 (by have := g293; omega)) ?_
                      refine s_qk (.int .i64 (i2 + 1)) (by kernel_rfl) ?_
                      refine s_nil ?_
                      obtain rfl := Option.some.inj r294
                      exact k163 n159 _ _ (Nat.lt_succ_self _) ⟨(i2 + 1), hn162, ⟨by kernel_rfl, by kernel_rfl, by kernel_rfl, by kernel_rfl, by kernel_rfl, trivial⟩, rfl⟩
              · have r295 := ite_f h166 hz161
                refine w_exit (th_exit (th_exit (bl_eq ?_)))
                obtain rfl := Option.some.inj r295
                obtain rfl := it_inr hn162
                exact k151 _ _ ⟨_, rfl, ⟨by kernel_rfl, by kernel_rfl, by kernel_rfl, trivial⟩, rfl⟩
            · obtain ⟨o145, rfl, hh152, rfl⟩ := hM
              have r296 := elim_inr r147
              obtain ⟨β, rfl⟩ := has_ex hh152
              clear hh152
              refine k142 _ _ ?_
              refine w_seqk fun K297 k297 => ?_
              refine w_reg (by kernel_rfl) ?_
              have u298 := ((((r6.frS e16 Dj.nil_l).frS e46 Dj.nil_l).frS e59 Dj.nil_l).frS e79 Dj.nil_l)
              refine s_ql (.agg #[hd_First, hd_To, hd_Weight]) (x := aLoad Go.Proofs.Try.prog 24 (.pointer (some ⟨b2, 0, none⟩)) H78) (by kernel_rfl) (u298.ld (by kernel_rfl)) ?_
              have u299 := (((((h_First.ext e4).fr e16 Dj.nil_l).fr e46 Dj.nil_l).fr e59 Dj.nil_l).fr e79 Dj.nil_l)
              have u300 := (((((h_To.ext e4).fr e16 Dj.nil_l).fr e46 Dj.nil_l).fr e59 Dj.nil_l).fr e79 Dj.nil_l)
              have u301 := (((((h_Weight.ext e4).fr e16 Dj.nil_l).fr e46 Dj.nil_l).fr e59 Dj.nil_l).fr e79 Dj.nil_l)
              obtain ⟨y302, hy303, r304⟩ := bind_some r296
              refine s_ck 14 #[.agg #[hd_First, hd_To, hd_Weight]] (by kernel_rfl) (c_viaductlaw09_of e79.wf u299 u300 u301 hy303) ?_
              rintro _ H311 ⟨s305, f306, s307, f308, s309, f310, rfl, e312, m313, m314, m315, i316, i317, i318, d319, d320, d321⟩
              obtain ⟨a325, n326, c327, rfl⟩ := m313.form
              obtain ⟨a328, n329, c330, rfl⟩ := m314.form
              obtain ⟨a331, n332, c333, rfl⟩ := m315.form
              refine s_qk (hd_l) (by kernel_rfl) ?_
              have u334 := ((u68.fr e79 Dj.nil_l).fr e312 Dj.nil_l)
              obtain ⟨y335, hy336, r337⟩ := bind_some r304
              refine s_ck 11 #[hd_l] (by kernel_rfl) (c_viaductref02_TwinInts e312.wf u334 hy336) ?_
              rintro s338 H340 ⟨_, f339, rfl, e341, m342, i343⟩
              obtain ⟨a345, n346, c347, rfl⟩ := m342.form
              have u348 := (m313.fr e341 Dj.nil_l)
              have u349 := (m314.fr e341 Dj.nil_l)
              have u350 := (m315.fr e341 Dj.nil_l)
              obtain ⟨y351, hy352, r353⟩ := bind_some r337
              refine s_ck 13 #[.agg #[.slice a325 n326 c327, .slice a328 n329 c330, .slice a331 n332 c333], .slice a345 n346 c347] (by kernel_rfl) (c_walk_Length e341.wf u348.sq u349.sq u350.sq m342.sq hy352) ?_
              rintro _ H356 ⟨v354, f355, rfl, e357, m358, i359⟩
              refine s_qk (.tuple #[.int .u64 y351.1, v354]) (by kernel_rfl) ?_
              refine s_qk (.int .u64 y351.1) (by kernel_rfl) ?_
              refine s_qk (v354) (by kernel_rfl) ?_
              refine s_qk (.int .u64 y351.1) (by kernel_rfl) ?_
              refine s_qk (v354) (by kernel_rfl) ?_
              refine s_nil ?_
              refine k297 _ _ ?_
              refine w_seqk fun K361 k361 => ?_
              refine w_seqk fun K362 k362 => ?_
              refine w_reg (by kernel_rfl) ?_
              refine s_qk (v354) (by kernel_rfl) ?_
              rcases (m358).cases with ⟨h363, rfl⟩ | ⟨h363, t364, x365, rfl⟩
              · have r366 := ite_t h363 r353
                refine s_qk (.bool false) (by kernel_rfl) ?_
                refine s_nil ?_
                refine k362 _ _ ?_
                refine w_cond false (by kernel_rfl) rfl (fun h => by cases h) (fun _ => ?_)
                refine w_skip ?_
                refine k361 _ _ ?_
                refine w_seqk fun K367 k367 => ?_
                refine w_reg (by kernel_rfl) ?_
                have u368 := (((u298.frS e312 Dj.nil_l).frS e341 Dj.nil_l).frS e357 Dj.nil_l)
                refine s_ql (.agg #[hd_First, hd_To, hd_Weight]) (x := aLoad Go.Proofs.Try.prog 24 (.pointer (some ⟨b2, 0, none⟩)) H356) (by kernel_rfl) (u368.ld (by kernel_rfl)) ?_
                have u369 := (((u299.fr e312 Dj.nil_l).fr e341 Dj.nil_l).fr e357 Dj.nil_l)
                have u370 := (((u300.fr e312 Dj.nil_l).fr e341 Dj.nil_l).fr e357 Dj.nil_l)
                have u371 := (((u301.fr e312 Dj.nil_l).fr e341 Dj.nil_l).fr e357 Dj.nil_l)
                obtain ⟨y372, hy373, r374⟩ := bind_some r366
                refine s_ck 14 #[.agg #[hd_First, hd_To, hd_Weight]] (by kernel_rfl) (c_viaductlaw09_of e357.wf u369 u370 u371 hy373) ?_
                rintro _ H381 ⟨s375, f376, s377, f378, s379, f380, rfl, e382, m383, m384, m385, i386, i387, i388, d389, d390, d391⟩
                obtain ⟨a395, n396, c397, rfl⟩ := m383.form
                obtain ⟨a398, n399, c400, rfl⟩ := m384.form
                obtain ⟨a401, n402, c403, rfl⟩ := m385.form
                refine s_qk (.slice a63 n64 c65) (by kernel_rfl) ?_
                have u404 := ((((u144.fr e312 Dj.nil_l).fr e341 Dj.nil_l).fr e357 Dj.nil_l).fr e382 Dj.nil_l)
                obtain ⟨y405, hy406, r407⟩ := bind_some r374
                refine s_ck 13 #[.agg #[.slice a395 n396 c397, .slice a398 n399 c400, .slice a401 n402 c403], .slice a63 n64 c65] (by kernel_rfl) (c_walk_Length e382.wf m383.sq m384.sq m385.sq u404.sq hy406) ?_
                rintro _ H410 ⟨v408, f409, rfl, e411, m412, i413⟩
                refine s_qk (.tuple #[.int .u64 y405.1, v408]) (by kernel_rfl) ?_
                refine s_qk (.int .u64 y405.1) (by kernel_rfl) ?_
                refine s_qk (v408) (by kernel_rfl) ?_
                refine s_qk (.int .u64 y405.1) (by kernel_rfl) ?_
                refine s_qk (v408) (by kernel_rfl) ?_
                refine s_nil ?_
                refine k367 _ _ ?_
                refine w_seqk fun K415 k415 => ?_
                refine w_reg (by kernel_rfl) ?_
                refine s_qk (v408) (by kernel_rfl) ?_
                rcases (m412).cases with ⟨h416, rfl⟩ | ⟨h416, t417, x418, rfl⟩
                · have r419 := ite_t h416 r407
                  refine s_qk (.bool true) (by kernel_rfl) ?_
                  refine s_qk (.bool true) (by kernel_rfl) ?_
                  refine s_qk (.int .u64 y405.1) (by kernel_rfl) ?_
                  refine s_qk (.int .u64 y351.1) (by kernel_rfl) ?_
                  refine s_qk (.bool (decide (y405.1 ≤ y351.1))) (by kernel_rfl) ?_
                  refine s_qk (.bool (decide (y405.1 ≤ y351.1))) (by kernel_rfl) ?_
                  refine s_qk (.bool (decide (y405.1 ≤ y351.1))) (by kernel_rfl) ?_
                  refine s_nil ?_
                  refine k415 _ _ ?_
                  refine w_ret ?_
                  refine b_ret (fn := Go.Proofs.Try.f3) (vs := [.bool (decide (y405.1 ≤ y351.1))]) (aRes_tmp (by kernel_rfl) (rfl)) ?_
                  obtain rfl := Option.some.inj r419
                  exact ⟨rfl, (FrS.step wf (FrS.step wf (FrS.step wf (FrS.step wf (FrS.step wf (FrS.step wf (FrS.step wf (FrS.step wf (FrS.step wf ((FrS.refl (W := []) wf).extR e4) e16 Inn.nil) e46 Inn.nil) e59 Inn.nil) e79 Inn.nil) e312 Inn.nil) e341 Inn.nil) e357 Inn.nil) e382 Inn.nil) e411 Inn.nil)⟩
                · have r420 := ite_f h416 r407
                  refine s_ql (.bool false) (x := aBin Go.Proofs.Try.prog .eql 31 (.tmp 152) (.const .nilIface) (.iface t417 x418) .nilIface) (by kernel_rfl) (aBin_nil (by kernel_rfl)) ?_
                  refine s_qk (.bool false) (by kernel_rfl) ?_
                  refine s_no (by kernel_rfl) ?_
                  refine s_no (by kernel_rfl) ?_
                  refine s_no (by kernel_rfl) ?_
                  refine s_qk (.bool false) (by kernel_rfl) ?_
                  refine s_qk (.bool false) (by kernel_rfl) ?_
                  refine s_nil ?_
                  refine k415 _ _ ?_
                  refine w_ret ?_
                  refine b_ret (fn := Go.Proofs.Try.f3) (vs := [.bool false]) (aRes_tmp (by kernel_rfl) (rfl)) ?_
                  obtain rfl := Option.some.inj r420
                  exact ⟨rfl, (FrS.step wf (FrS.step wf (FrS.step wf (FrS.step wf (FrS.step wf (FrS.step wf (FrS.step wf (FrS.step wf (FrS.step wf ((FrS.refl (W := []) wf).extR e4) e16 Inn.nil) e46 Inn.nil) e59 Inn.nil) e79 Inn.nil) e312 Inn.nil) e341 Inn.nil) e357 Inn.nil) e382 Inn.nil) e411 Inn.nil)⟩
              · have r421 := ite_f h363 r353
                refine s_ql (.bool true) (x := aBin Go.Proofs.Try.prog .neq 31 (.tmp 141) (.const .nilIface) (.iface t364 x365) .nilIface) (by kernel_rfl) (aBin_nnil (by kernel_rfl)) ?_
                refine s_nil ?_
                refine k362 _ _ ?_
                refine w_cond true (by kernel_rfl) rfl (fun _ => ?_) (fun h => by cases h)
                refine w_seqk fun K422 k422 => ?_
                refine w_reg (by kernel_rfl) ?_
                refine s_qk (.int .u64 y351.1) (by kernel_rfl) ?_
                refine s_qk (.bool (decide (y351.1 = 0))) (by kernel_rfl) ?_
                refine s_qk (.bool (decide (y351.1 = 0))) (by kernel_rfl) ?_
                refine s_nil ?_
                refine k422 _ _ ?_
                refine w_ret (th_ret ?_)
                refine b_ret (fn := Go.Proofs.Try.f3) (vs := [.bool (decide (y351.1 = 0))]) (aRes_tmp (by kernel_rfl) (rfl)) ?_
                obtain rfl := Option.some.inj r421
                exact ⟨rfl, (FrS.step wf (FrS.step wf (FrS.step wf (FrS.step wf (FrS.step wf (FrS.step wf (FrS.step wf ((FrS.refl (W := []) wf).extR e4) e16 Inn.nil) e46 Inn.nil) e59 Inn.nil) e79 Inn.nil) e312 Inn.nil) e341 Inn.nil) e357 Inn.nil)⟩


end Go.Vd
