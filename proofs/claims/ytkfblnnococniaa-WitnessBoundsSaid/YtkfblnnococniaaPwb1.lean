/- The walks of the functions (printed by a program of ours). -/
import Derived.Test.YtkfblnnococniaaPwb0
import Derived.Test.YtkfblnnococniaaVeC
import Derived.Test.YtkfblnnococniaaIWb
set_option linter.unusedVariables false
set_option linter.unusedSimpArgs false
set_option linter.unusedSectionVars false
/-! (KWb0) -/

set_option maxRecDepth 100000
set_option maxHeartbeats 4000000
set_option linter.unusedVariables false
namespace Go.Vd
open Go.Proofs
attribute [local irreducible] wpSeq wpOrd aWp
theorem c_viaductlaw12_awake_ev : evB Try.prog 100000 27 #[] = some true := by kernel_rfl
theorem c_viaductlaw12_awake {H : AH} : ACalls Try.prog 27 #[] H fun v H' => H = H' ∧ v = .bool true :=
 (acalls_evB mixed c_viaductlaw12_awake_ev rfl H).mono fun _ _ ⟨a, b⟩ => ⟨b.symm, a⟩

theorem c_witness_Bounds_1 {H : AH} {n_ : Int} {r : Int}
  (wf : WF H) (hr : z_witness_Bounds_1 n_ = some r) :
  ACalls Try.prog 57 #[.int .i64 n_] H fun v H' => v = .int .i64 r ∧ H = H' := by
 refine acalls_of_body mixed Try.func57 rfl (Nat.le_of_ble_eq_true rfl) ?_
 unfold z_witness_Bounds_1 at hr
 refine w_seqk fun K1 k1 => ?_
 refine w_reg (by kernel_rfl) ?_
 refine s_qk (.int .i64 0) (by kernel_rfl) ?_
 refine s_nil ?_
 refine k1 _ _ ?_
 refine w_seqk fun K2 k2 => ?_
 refine w_reg (by kernel_rfl) ?_
 refine s_qk (.int .i64 n_) (by kernel_rfl) ?_
 refine s_ql (.int .i64 (max n_ 0)) (x := aMax Try.prog [.int .i64 n_, .int .i64 0]) (by kernel_rfl) (aMax_two _ _) ?_
 refine s_ql (.int .i64 (min (max n_ 0) 1048576)) (x := aMin Try.prog [.int .i64 (max n_ 0), .int .i64 1048576]) (by kernel_rfl) (aMin_two _ _) ?_
 refine s_qk (.int .i64 (min (max n_ 0) 1048576)) (by kernel_rfl) ?_
 refine s_nil ?_
 refine k2 _ _ ?_
 refine w_ret ?_
 refine b_ret (fn := Try.f57) (vs := [.int .i64 (min (max n_ 0) 1048576)]) (aRes_tmp (by kernel_rfl) (rfl)) ?_
 obtain rfl := Option.some.inj hr
 exact ⟨rfl, rfl⟩

theorem c_witness_Bounds {H : AH} {Hops : Int} {Settles : Int} {Edge : Int} {Deleted : Int} {Depth : Int} {r : Int × Int}
  (wf : WF H) (hr : z_witness_Bounds Hops Settles Edge Deleted Depth = some r) :
  ACalls Try.prog 28 #[.agg #[.int .i64 Hops, .int .i64 Settles, .int .i64 Edge, .int .i64 Deleted, .int .i64 Depth]] H fun v H' => v = .tuple #[.int .i64 r.1, .int .i64 r.2] ∧ FrS [] H H' := by
 refine acalls_of_body mixed Try.func28 rfl (Nat.le_of_ble_eq_true rfl) ?_
 unfold z_witness_Bounds at hr
 refine w_seqk fun K1 k1 => ?_
 refine w_reg (by kernel_rfl) ?_
 refine s_rwl wf [.int .i64 Hops, .int .i64 Settles, .int .i64 Edge, .int .i64 Deleted, .int .i64 Depth] (one_cons (rfl) (one_cons (rfl) (one_cons (rfl) (one_cons (rfl) (one_cons (rfl) (one_nil)))))) (by kernel_rfl) fun b2 H3 e4 hb5 r6 => ?_
 refine s_qk (.int .i64 0) (by kernel_rfl) ?_
 refine s_qk (.int .i64 0) (by kernel_rfl) ?_
 refine s_nil ?_
 refine k1 _ _ ?_
 refine w_seqk fun K8 k8 => ?_
 refine w_reg (by kernel_rfl) ?_
 refine s_qk (.func (.func 57) #[] #[]) (by kernel_rfl) ?_
 refine s_nil ?_
 refine k8 _ _ ?_
 refine w_seqk fun K9 k9 => ?_
 refine w_draw [0, 1, 2, 4, 5, 6, 3, 7, 8, 9] (by kernel_rfl) ?_
 refine d_qk (.func (.func 57) #[] #[]) (by kernel_rfl) ?_
 refine d_qk (.pointer (some ⟨b2, 0, none⟩)) (by kernel_rfl) ?_
 refine d_ql (.int .i64 Hops) (x := aLoad Try.prog 3 (.pointer (some ⟨b2, 0, none⟩)) H3) (by kernel_rfl) (r6.ld (by kernel_rfl)) ?_
 refine d_qk (.func (.func 57) #[] #[]) (by kernel_rfl) ?_
 refine d_qk (.pointer (some ⟨b2, 1, none⟩)) (by kernel_rfl) ?_
 refine d_fl (.int .i64 Settles) (x := aLoad Try.prog 3 (.pointer (some ⟨b2, 1, none⟩)) H3) (by kernel_rfl) (r6.ld (by kernel_rfl)) ?_
 obtain ⟨y10, hy11, r12⟩ := bind_some hr
 refine d_ck 57 #[.int .i64 Hops] (by kernel_rfl) (c_witness_Bounds_1 e4.wf hy11) ?_
 rintro _ _ ⟨rfl, rfl⟩
 refine ⟨st_ql (y := aLoad Try.prog 3 (.pointer (some ⟨b2, 1, none⟩)) H3) (by kernel_rfl) (r6.ld (by kernel_rfl)) (st_nil), ?_⟩
 obtain ⟨y15, hy16, r17⟩ := bind_some r12
 refine d_ck 57 #[.int .i64 Settles] (by kernel_rfl) (c_witness_Bounds_1 e4.wf hy16) ?_
 rintro _ _ ⟨rfl, rfl⟩
 refine ⟨st_anc (by kernel_rfl) (st_nil), ?_⟩
 refine d_qk (.int .i64 y10) (by kernel_rfl) ?_
 refine d_qk (.int .i64 y15) (by kernel_rfl) ?_
 refine d_nil ?_
 refine k9 _ _ ?_
 refine w_ret ?_
 refine b_ret (fn := Try.f28) (vs := [.int .i64 y10, .int .i64 y15]) (aRes_tmp (by kernel_rfl) (aRes_tmp (by kernel_rfl) (rfl))) ?_
 obtain rfl := Option.some.inj r17
 exact ⟨rfl, ((FrS.refl (W := []) wf).extR e4)⟩

theorem c_viaductref12_bound {H : AH} {n_ : Int} {r : Int}
  (wf : WF H) (hr : z_viaductref12_bound n_ = some r) :
  ACalls Try.prog 58 #[.int .i64 n_] H fun v H' => v = .int .i64 r ∧ H = H' := by
 refine acalls_of_body mixed Try.func58 rfl (Nat.le_of_ble_eq_true rfl) ?_
 unfold z_viaductref12_bound at hr
 refine w_seqk fun K1 k1 => ?_
 refine w_reg (by kernel_rfl) ?_
 refine s_qk (.int .i64 0) (by kernel_rfl) ?_
 refine s_nil ?_
 refine k1 _ _ ?_
 refine w_seqk fun K2 k2 => ?_
 refine w_reg (by kernel_rfl) ?_
 refine s_qk (.int .i64 n_) (by kernel_rfl) ?_
 refine s_ql (.int .i64 (max n_ 0)) (x := aMax Try.prog [.int .i64 n_, .int .i64 0]) (by kernel_rfl) (aMax_two _ _) ?_
 refine s_ql (.int .i64 (min (max n_ 0) 1048576)) (x := aMin Try.prog [.int .i64 (max n_ 0), .int .i64 1048576]) (by kernel_rfl) (aMin_two _ _) ?_
 refine s_qk (.int .i64 (min (max n_ 0) 1048576)) (by kernel_rfl) ?_
 refine s_nil ?_
 refine k2 _ _ ?_
 refine w_ret ?_
 refine b_ret (fn := Try.f58) (vs := [.int .i64 (min (max n_ 0) 1048576)]) (aRes_tmp (by kernel_rfl) (rfl)) ?_
 obtain rfl := Option.some.inj hr
 exact ⟨rfl, rfl⟩

theorem c_viaductref12_Bounds {H : AH} {Hops : Int} {Settles : Int} {Edge : Int} {Deleted : Int} {Depth : Int} {r : Int × Int}
  (wf : WF H) (hr : z_viaductref12_Bounds Hops Settles Edge Deleted Depth = some r) :
  ACalls Try.prog 29 #[.agg #[.int .i64 Hops, .int .i64 Settles, .int .i64 Edge, .int .i64 Deleted, .int .i64 Depth]] H fun v H' => v = .tuple #[.int .i64 r.1, .int .i64 r.2] ∧ FrS [] H H' := by
 refine acalls_of_body mixed Try.func29 rfl (Nat.le_of_ble_eq_true rfl) ?_
 unfold z_viaductref12_Bounds at hr
 refine w_seqk fun K1 k1 => ?_
 refine w_reg (by kernel_rfl) ?_
 refine s_rwl wf [.int .i64 Hops, .int .i64 Settles, .int .i64 Edge, .int .i64 Deleted, .int .i64 Depth] (one_cons (rfl) (one_cons (rfl) (one_cons (rfl) (one_cons (rfl) (one_cons (rfl) (one_nil)))))) (by kernel_rfl) fun b2 H3 e4 hb5 r6 => ?_
 refine s_qk (.int .i64 0) (by kernel_rfl) ?_
 refine s_qk (.int .i64 0) (by kernel_rfl) ?_
 refine s_nil ?_
 refine k1 _ _ ?_
 refine w_seqk fun K8 k8 => ?_
 refine w_draw [0, 1, 3, 4, 2, 5, 6, 7] (by kernel_rfl) ?_
 refine d_qk (.pointer (some ⟨b2, 0, none⟩)) (by kernel_rfl) ?_
 refine d_ql (.int .i64 Hops) (x := aLoad Try.prog 3 (.pointer (some ⟨b2, 0, none⟩)) H3) (by kernel_rfl) (r6.ld (by kernel_rfl)) ?_
 refine d_qk (.pointer (some ⟨b2, 1, none⟩)) (by kernel_rfl) ?_
 refine d_fl (.int .i64 Settles) (x := aLoad Try.prog 3 (.pointer (some ⟨b2, 1, none⟩)) H3) (by kernel_rfl) (r6.ld (by kernel_rfl)) ?_
 obtain ⟨y9, hy10, r11⟩ := bind_some hr
 refine d_ck 58 #[.int .i64 Hops] (by kernel_rfl) (c_viaductref12_bound e4.wf hy10) ?_
 rintro _ _ ⟨rfl, rfl⟩
 refine ⟨st_ql (y := aLoad Try.prog 3 (.pointer (some ⟨b2, 1, none⟩)) H3) (by kernel_rfl) (r6.ld (by kernel_rfl)) (st_nil), ?_⟩
 obtain ⟨y14, hy15, r16⟩ := bind_some r11
 refine d_ck 58 #[.int .i64 Settles] (by kernel_rfl) (c_viaductref12_bound e4.wf hy15) ?_
 rintro _ _ ⟨rfl, rfl⟩
 refine ⟨st_anc (by kernel_rfl) (st_nil), ?_⟩
 refine d_qk (.int .i64 y9) (by kernel_rfl) ?_
 refine d_qk (.int .i64 y14) (by kernel_rfl) ?_
 refine d_nil ?_
 refine k8 _ _ ?_
 refine w_ret ?_
 refine b_ret (fn := Try.f29) (vs := [.int .i64 y9, .int .i64 y14]) (aRes_tmp (by kernel_rfl) (aRes_tmp (by kernel_rfl) (rfl))) ?_
 obtain rfl := Option.some.inj r16
 exact ⟨rfl, ((FrS.refl (W := []) wf).extR e4)⟩

theorem c_viaductlaw12_WitnessBounds {H : AH} {Hops : Int} {Settles : Int} {Edge : Int} {Deleted : Int} {Depth : Int} {r : Bool}
  (wf : WF H) (hr : z_viaductlaw12_WitnessBounds Hops Settles Edge Deleted Depth = some r) :
  ACalls Try.prog 6 #[.agg #[.int .i64 Hops, .int .i64 Settles, .int .i64 Edge, .int .i64 Deleted, .int .i64 Depth]] H fun v H' => v = .bool r ∧ FrS [] H H' := by
 refine acalls_of_body mixed Try.func6 rfl (Nat.le_of_ble_eq_true rfl) ?_
 unfold z_viaductlaw12_WitnessBounds at hr
 refine w_seqk fun K1 k1 => ?_
 refine w_reg (by kernel_rfl) ?_
 refine s_rwl wf [.int .i64 Hops, .int .i64 Settles, .int .i64 Edge, .int .i64 Deleted, .int .i64 Depth] (one_cons (rfl) (one_cons (rfl) (one_cons (rfl) (one_cons (rfl) (one_cons (rfl) (one_nil)))))) (by kernel_rfl) fun b2 H3 e4 hb5 r6 => ?_
 refine s_qk (.bool false) (by kernel_rfl) ?_
 refine s_nil ?_
 refine k1 _ _ ?_
 refine w_seqk fun K8 k8 => ?_
 refine w_seqk fun K9 k9 => ?_
 refine w_reg (by kernel_rfl) ?_
 refine s_ck 27 #[] (by kernel_rfl) c_viaductlaw12_awake ?_
 rintro _ _ ⟨rfl, rfl⟩
 refine s_qk (.bool false) (by kernel_rfl) ?_
 refine s_nil ?_
 refine k9 _ _ ?_
 refine w_cond false (by kernel_rfl) rfl (fun h => by cases h) (fun _ => ?_)
 refine w_skip ?_
 refine k8 _ _ ?_
 refine w_seqk fun K10 k10 => ?_
 refine w_reg (by kernel_rfl) ?_
 refine s_ql (.agg #[.int .i64 Hops, .int .i64 Settles, .int .i64 Edge, .int .i64 Deleted, .int .i64 Depth]) (x := aLoad Try.prog 67 (.pointer (some ⟨b2, 0, none⟩)) H3) (by kernel_rfl) (r6.ld (by kernel_rfl)) ?_
 obtain ⟨y11, hy12, r13⟩ := bind_some hr
 refine s_ck 28 #[.agg #[.int .i64 Hops, .int .i64 Settles, .int .i64 Edge, .int .i64 Deleted, .int .i64 Depth]] (by kernel_rfl) (c_witness_Bounds e4.wf hy12) ?_
 rintro _ H14 ⟨rfl, e15⟩
 refine s_qk (.tuple #[.int .i64 y11.1, .int .i64 y11.2]) (by kernel_rfl) ?_
 refine s_qk (.int .i64 y11.1) (by kernel_rfl) ?_
 refine s_qk (.int .i64 y11.2) (by kernel_rfl) ?_
 refine s_qk (.int .i64 y11.1) (by kernel_rfl) ?_
 refine s_qk (.int .i64 y11.2) (by kernel_rfl) ?_
 refine s_nil ?_
 refine k10 _ _ ?_
 refine w_seqk fun K16 k16 => ?_
 refine w_reg (by kernel_rfl) ?_
 have u17 := (r6.frS e15 Dj.nil_l)
 refine s_ql (.agg #[.int .i64 Hops, .int .i64 Settles, .int .i64 Edge, .int .i64 Deleted, .int .i64 Depth]) (x := aLoad Try.prog 67 (.pointer (some ⟨b2, 0, none⟩)) H14) (by kernel_rfl) (u17.ld (by kernel_rfl)) ?_
 obtain ⟨y18, hy19, r20⟩ := bind_some r13
 refine s_ck 29 #[.agg #[.int .i64 Hops, .int .i64 Settles, .int .i64 Edge, .int .i64 Deleted, .int .i64 Depth]] (by kernel_rfl) (c_viaductref12_Bounds e15.wf hy19) ?_
 rintro _ H21 ⟨rfl, e22⟩
 refine s_qk (.tuple #[.int .i64 y18.1, .int .i64 y18.2]) (by kernel_rfl) ?_
 refine s_qk (.int .i64 y18.1) (by kernel_rfl) ?_
 refine s_qk (.int .i64 y18.2) (by kernel_rfl) ?_
 refine s_qk (.int .i64 y18.1) (by kernel_rfl) ?_
 refine s_qk (.int .i64 y18.2) (by kernel_rfl) ?_
 refine s_nil ?_
 refine k16 _ _ ?_
 refine w_seqk fun K23 k23 => ?_
 refine w_reg (by kernel_rfl) ?_
 refine s_qk (.int .i64 y11.1) (by kernel_rfl) ?_
 refine s_qk (.int .i64 y18.1) (by kernel_rfl) ?_
 refine s_b (y11.1 = y18.1) (by kernel_rfl) (fun h24 => ?_) (fun h24 => ?_)
 ·have r25 := ite_t h24 r20
  refine s_qk (.bool true) (by kernel_rfl) ?_
  refine s_qk (.int .i64 y11.2) (by kernel_rfl) ?_
  refine s_qk (.int .i64 y18.2) (by kernel_rfl) ?_
  refine s_qk (.bool (decide (y11.2 = y18.2))) (by kernel_rfl) ?_
  refine s_qk (.bool (decide (y11.2 = y18.2))) (by kernel_rfl) ?_
  refine s_qk (.bool (decide (y11.2 = y18.2))) (by kernel_rfl) ?_
  refine s_nil ?_
  refine k23 _ _ ?_
  refine w_ret ?_
  refine b_ret (fn := Try.f6) (vs := [.bool (decide (y11.2 = y18.2))]) (aRes_tmp (by kernel_rfl) (rfl)) ?_
  obtain rfl := Option.some.inj r25
  exact ⟨rfl, (FrS.step wf (FrS.step wf ((FrS.refl (W := []) wf).extR e4) e15 Inn.nil) e22 Inn.nil)⟩
 ·have r26 := ite_f h24 r20
  refine s_qk (.bool false) (by kernel_rfl) ?_
  refine s_no (by kernel_rfl) ?_
  refine s_no (by kernel_rfl) ?_
  refine s_no (by kernel_rfl) ?_
  refine s_qk (.bool false) (by kernel_rfl) ?_
  refine s_qk (.bool false) (by kernel_rfl) ?_
  refine s_nil ?_
  refine k23 _ _ ?_
  refine w_ret ?_
  refine b_ret (fn := Try.f6) (vs := [.bool false]) (aRes_tmp (by kernel_rfl) (rfl)) ?_
  obtain rfl := Option.some.inj r26
  exact ⟨rfl, (FrS.step wf (FrS.step wf ((FrS.refl (W := []) wf).extR e4) e15 Inn.nil) e22 Inn.nil)⟩


end Go.Vd
