/- The walks of the functions (printed by a program of ours). -/
import Derived.Test.YtjfplpkmbijfpaaDoorPcb1
import Derived.Test.YtjfplpkmbijfpaaDoorDrG
import Derived.Test.YtjfplpkmbijfpaaDoorICb
import Derived.Test.YtjfplpkmbijfpaaDoorSoA
import Derived.Test.YtjfplpkmbijfpaaDoorVeV
set_option linter.unusedVariables false
set_option linter.unusedSimpArgs false
set_option linter.unusedSectionVars false
/-! (KCb3) -/

set_option maxRecDepth 100000
set_option maxHeartbeats 4000000
set_option linter.unusedVariables false
namespace Go.Vd
open Go.Proofs
attribute [local irreducible] wpSeq wpOrd aWp
theorem c_viaductseen_Same {H : AH} {ev_err : Value} {fp_err : Fp} {hd_Places : Value} {fp_Places : Fp} {err : Er} {Code : Int} {Places : List (Int × Int)} {r : Bool}
  (wf : WF H) (h_err : Ev 53 90 H ev_err err fp_err) (h_Places : Sq enc_i64_i64 2 H hd_Places Places fp_Places) (hr : z_viaductseen_Same err Code Places = some r) :
  ACalls Tryd.prog 16 #[ev_err, .agg #[.int .i64 Code, hd_Places]] H fun v H' => v = .bool r ∧ FrS [] H H' := by
 refine acalls_of_body mixed Tryd.func16 rfl (Nat.le_of_ble_eq_true rfl) ?_
 unfold z_viaductseen_Same at hr
 refine w_seqk fun K1 k1 => ?_
 refine w_reg (by kernel_rfl) ?_
 refine s_rwl wf [.int .i64 Code, hd_Places] (one_cons (rfl) (one_cons (h_Places.one1) (one_nil))) (by kernel_rfl) fun b2 H3 e4 hb5 r6 => ?_
 refine s_qk (.bool false) (by kernel_rfl) ?_
 refine s_nil ?_
 refine k1 _ _ ?_
 refine w_seqk fun K8 k8 => ?_
 refine w_seqk fun K9 k9 => ?_
 refine w_reg (by kernel_rfl) ?_
 refine s_ql (.agg #[.int .i64 Code, hd_Places]) (x := aLoad Tryd.prog 33 (.pointer (some ⟨b2, 0, none⟩)) H3) (by kernel_rfl) (r6.ld (by kernel_rfl)) ?_
 have u10 := (h_Places.ext e4)
 obtain ⟨y11, hy12, r13⟩ := bind_some hr
 refine s_ck 53 #[.agg #[.int .i64 Code, hd_Places]] (by kernel_rfl) (c_viaductref01_Err_Bad e4.wf u10 hy12) ?_
 rintro _ H14 ⟨rfl, e15⟩
 refine s_qk (.bool (!y11)) (by kernel_rfl) ?_
 refine s_nil ?_
 refine k9 _ _ ?_
 refine w_cond ((!y11)) (by kernel_rfl) rfl (fun h16 => ?_) (fun h16 => ?_)
 ·have r17 := ite_t h16 r13
  refine w_seqk fun K18 k18 => ?_
  refine w_reg (by kernel_rfl) ?_
  refine s_qk (ev_err) (by kernel_rfl) ?_
  have u22 := ((h_err.ext e4).fr e15 Dj.nil_l)
  rcases (u22).cases with ⟨h19, rfl⟩ | ⟨h19, t20, x21, rfl⟩
  ·have r23 := ite_t h19 r17
   refine s_qk (.bool true) (by kernel_rfl) ?_
   refine s_qk (.bool true) (by kernel_rfl) ?_
   refine s_nil ?_
   refine k18 _ _ ?_
   refine w_ret (th_ret ?_)
   refine b_ret (fn := Tryd.f16) (vs := [.bool true]) (aRes_tmp (by kernel_rfl) (rfl)) ?_
   obtain rfl := Option.some.inj r23
   exact ⟨rfl, (FrS.step wf ((FrS.refl (W := []) wf).extR e4) e15 Inn.nil)⟩
  ·have r24 := ite_f h19 r17
   refine s_ql (.bool false) (x := aBin Tryd.prog .eql 28 (.tmp 15) (.const .nilIface) (.iface t20 x21) .nilIface) (by kernel_rfl) (aBin_nil (by kernel_rfl)) ?_
   refine s_qk (.bool false) (by kernel_rfl) ?_
   refine s_nil ?_
   refine k18 _ _ ?_
   refine w_ret (th_ret ?_)
   refine b_ret (fn := Tryd.f16) (vs := [.bool false]) (aRes_tmp (by kernel_rfl) (rfl)) ?_
   obtain rfl := Option.some.inj r24
   exact ⟨rfl, (FrS.step wf ((FrS.refl (W := []) wf).extR e4) e15 Inn.nil)⟩
 ·have r25 := ite_bf h16 r13
  refine w_skip ?_
  refine k8 _ _ ?_
  refine w_seqk fun K26 k26 => ?_
  refine w_seqk fun K27 k27 => ?_
  refine w_reg (by kernel_rfl) ?_
  refine s_qk (ev_err) (by kernel_rfl) ?_
  have u31 := ((h_err.ext e4).fr e15 Dj.nil_l)
  rcases (u31).cases with ⟨h28, rfl⟩ | ⟨h28, t29, x30, rfl⟩
  ·have r32 := ite_t h28 r25
   refine s_qk (.bool true) (by kernel_rfl) ?_
   refine s_nil ?_
   refine k27 _ _ ?_
   refine w_cond true (by kernel_rfl) rfl (fun _ => ?_) (fun h => by cases h)
   refine w_seqk fun K33 k33 => ?_
   refine w_reg (by kernel_rfl) ?_
   refine s_qk (.bool false) (by kernel_rfl) ?_
   refine s_nil ?_
   refine k33 _ _ ?_
   refine w_ret (th_ret ?_)
   refine b_ret (fn := Tryd.f16) (vs := [.bool false]) (aRes_tmp (by kernel_rfl) (rfl)) ?_
   obtain rfl := Option.some.inj r32
   exact ⟨rfl, (FrS.step wf ((FrS.refl (W := []) wf).extR e4) e15 Inn.nil)⟩
  ·have r34 := ite_f h28 r25
   refine s_ql (.bool false) (x := aBin Tryd.prog .eql 28 (.tmp 17) (.const .nilIface) (.iface t29 x30) .nilIface) (by kernel_rfl) (aBin_nil (by kernel_rfl)) ?_
   refine s_nil ?_
   refine k27 _ _ ?_
   refine w_cond false (by kernel_rfl) rfl (fun h => by cases h) (fun _ => ?_)
   refine w_skip ?_
   refine k26 _ _ ?_
   refine w_seqk fun K35 k35 => ?_
   refine w_reg (by kernel_rfl) ?_
   refine s_qk (.iface t29 x30) (by kernel_rfl) ?_
   refine s_qk (.iface t29 x30) (by kernel_rfl) ?_
   refine s_nil ?_
   refine k35 _ _ ?_
   refine w_seqk fun K36 k36 => ?_
   refine w_seqk fun K37 k37 => ?_
   refine w_reg (by kernel_rfl) ?_
   refine s_qk (.pointer (some ⟨b2, 1, none⟩)) (by kernel_rfl) ?_
   have u38 := (r6.frS e15 Dj.nil_l)
   refine s_ql (hd_Places) (x := aLoad Tryd.prog 31 (.pointer (some ⟨b2, 1, none⟩)) H14) (by kernel_rfl) (u38.ld (by kernel_rfl)) ?_
   have u39 := (u10.fr e15 Dj.nil_l)
   refine s_ql (.int .i64 (Places.length : Int)) (x := aLen Tryd.prog 31 hd_Places H14) (by kernel_rfl) (u39.lenb (by kernel_rfl)) ?_
   refine s_qk (.int .i64 0) (by kernel_rfl) ?_
   refine s_nil ?_
   refine k37 _ _ ?_
   obtain ⟨z43, hx41, r42⟩ := bind_some r34
   refine w_mid (fun α H44 => ∃ o40, z43 = Sum.inr o40 ∧ ∃ (v48 : Value), Has α [(0, .iface t29 x30), (3, .pointer (some ⟨b2, 0, none⟩)), (5, v48)] ∧ FrS [] H14 H44 ∧ Ev 53 90 H44 v48 o40 fp_err) (fun K49 k49 => ?_) (fun α H44 hM => ?_)
   ·refine w_block ?_
    obtain ⟨n51, hn52⟩ := loopO_iff.1 hx41
    refine w_loopn (fun n α H53 => ∃ (i0 : Int), ∃ (e1 : Er), ∃ (v57 : Value), iterO (fun zz_ => z_viaductseen_Same_l0 Places zz_.1 zz_.2) n (i0, e1) = some z43 ∧ Has α [(0, .iface t29 x30), (3, .pointer (some ⟨b2, 0, none⟩)), (5, v57), (21, hd_Places), (22, .int .i64 (Places.length : Int)), (23, .int .i64 i0)] ∧ FrS [] H14 H53 ∧ Ev 53 90 H53 v57 e1 fp_err) n51 ⟨0, err, (.iface t29 x30), hn52, ⟨by kernel_rfl, by kernel_rfl, by kernel_rfl, by kernel_rfl, by kernel_rfl, by kernel_rfl, trivial⟩, (FrS.refl (W := []) e15.wf), u31⟩ ?_
    rintro n51 α H53 ⟨i0, e1, v57, hi59, hh58, e54, m56⟩ K64 k64
    obtain ⟨n60, z61, rfl, hz62, hn63⟩ := iter_succ hi59
    obtain ⟨β, rfl⟩ := has_ex hh58
    clear hh58
    replace hz62 : z_viaductseen_Same_l0 Places i0 e1 = some z61 := hz62
    unfold z_viaductseen_Same_l0 at hz62
    refine w_seqk fun K65 k65 => ?_
    refine w_reg (by kernel_rfl) ?_
    refine s_qk (.bool (decide (i0 < (Places.length : Int)))) (by kernel_rfl) ?_
    refine s_nil ?_
    refine k65 _ _ ?_
    refine w_seqk fun K66 k66 => ?_
    refine w_condp (i0 < (Places.length : Int)) (by kernel_rfl) rfl (fun h67 => ?_) (fun h67 => ?_)
    ·have r68 := ite_t h67 hz62
     refine w_skip ?_
     refine k66 _ _ ?_
     refine w_seqk fun K69 k69 => ?_
     refine w_block ?_
     refine w_seqk fun K70 k70 => ?_
     refine w_reg (by kernel_rfl) ?_
     obtain ⟨g71, r72⟩ := G_some r68
     have u73 := (u39.fr e54 Dj.nil_l)
     refine s_ql (elp hd_Places 2 i0.toNat 0) (x := aIndexAddr Tryd.prog 31 hd_Places (.int .i64 i0)) (by kernel_rfl) (u73.idxb (by kernel_rfl) g71 h67) ?_
     refine s_ql (.agg #[.int .i64 ((gt Places i0).1), .int .i64 ((gt Places i0).2)]) (x := aLoad Tryd.prog 89 (elp hd_Places 2 i0.toNat 0) H53) (by kernel_rfl) (u73.ld g71 h67 (by kernel_rfl)) ?_
     refine s_rwk e54.wf [.int .i64 0, .int .i64 0] (by kernel_rfl) fun b74 H75 e76 hb77 r78 => ?_
     obtain ⟨H80, q81, e82, r83⟩ := Row.store (P := Tryd.prog) (t := 89) (p := 0) e76.wf r78 (.agg #[.int .i64 ((gt Places i0).1), .int .i64 ((gt Places i0).2)]) [.int .i64 ((gt Places i0).1), .int .i64 ((gt Places i0).2)] (by kernel_rfl) (by kernel_rfl) (one_cons (rfl) (one_cons (rfl) (one_nil))) (Nat.le_of_ble_eq_true (by kernel_rfl)) [.int .i64 ((gt Places i0).1), .int .i64 ((gt Places i0).2)] (by kernel_rfl)
     refine s_ek (undef) (by kernel_rfl) (map_ok q81) ?_
     refine s_nil ?_
     refine k70 _ _ ?_
     refine w_seqk fun K84 k84 => ?_
     refine w_reg (by kernel_rfl) ?_
     refine s_rwk e82.wf [.pointer none] (by kernel_rfl) fun b85 H86 e87 hb88 r89 => ?_
     refine s_nil ?_
     refine k84 _ _ ?_
     refine w_seqk fun K91 k91 => ?_
     refine w_seqk fun K92 k92 => ?_
     refine w_draw [0, 1, 2, 3, 4, 5, 6, 7, 8, 9, 10, 11, 12, 13, 14, 15] (by kernel_rfl) ?_
     refine d_qk (v57) (by kernel_rfl) ?_
     refine d_qk (.iface 92 (.pointer (some ⟨b85, 0, none⟩))) (by kernel_rfl) ?_
     by_cases h93 : Er.isAt e1 = true
     ·have r94 := ite_t h93 r72
      have u103 := (((m56.ext e76).fr e82 (hb77.djn (h_err.lt.le (ntr (ntr e4.next e15.next) e54.next)))).ext e87)
      refine d_ck 55 #[v57, .iface 92 (.pointer (some ⟨b85, 0, none⟩))] (by kernel_rfl) (a_asF_at e87.wf r89 (hb88.djn (h_err.lt.le (ntr (ntr (ntr (ntr e4.next e15.next) e54.next) e76.next) e82.next))) u103 h93) ?_
      rintro _ H95 ⟨rfl, e96, b98, u99, -, i100, r97, r101, v102⟩
      refine ⟨st_nil, ?_⟩
      refine d_qk (.bool false) (by kernel_rfl) ?_
      refine d_qk (.bool false) (by kernel_rfl) ?_
      refine d_ql (.pointer (some ⟨b98, 0, none⟩)) (x := aLoad Tryd.prog 90 (.pointer (some ⟨b85, 0, none⟩)) H95) (by kernel_rfl) (r97.ld (by kernel_rfl)) ?_
      refine d_qk (.bool false) (by kernel_rfl) ?_
      refine d_qk (.bool false) (by kernel_rfl) ?_
      refine d_qk (.bool false) (by kernel_rfl) ?_
      refine d_ql (.pointer (some ⟨b98, 0, none⟩)) (x := aLoad Tryd.prog 90 (.pointer (some ⟨b85, 0, none⟩)) H95) (by kernel_rfl) (r97.ld (by kernel_rfl)) ?_
      refine d_qk (.pointer (some ⟨b98, 0, none⟩)) (by kernel_rfl) ?_
      refine d_qk (.pointer (some ⟨b98, 0, none⟩)) (by kernel_rfl) ?_
      refine d_ql (.agg #[.int .i64 (Er.fk e1), .int .i64 (Er.fi e1)]) (x := aLoad Tryd.prog 89 (.pointer (some ⟨b98, 0, none⟩)) H95) (by kernel_rfl) (r101.ld (by kernel_rfl)) ?_
      have u106 := ((r83.ext e87).frS e96 (hb88.djn (r78.ltF.le e82.next)))
      refine d_ql (.agg #[.int .i64 ((gt Places i0).1), .int .i64 ((gt Places i0).2)]) (x := aLoad Tryd.prog 89 (.pointer (some ⟨b74, 0, none⟩)) H95) (by kernel_rfl) (u106.ld (by kernel_rfl)) ?_
      refine d_ql (.bool (!decide ((Er.fk e1) = ((gt Places i0).1) ∧ (Er.fi e1) = ((gt Places i0).2)))) (x := aBin Tryd.prog .neq 89 (.tmp 39) (.tmp 40) (.agg #[.int .i64 (Er.fk e1), .int .i64 (Er.fi e1)]) (.agg #[.int .i64 ((gt Places i0).1), .int .i64 ((gt Places i0).2)])) (by kernel_rfl) (aBin_neq89 _ _ (Er.fk e1) (Er.fi e1) ((gt Places i0).1) ((gt Places i0).2)) ?_
      refine d_qk (.bool (!decide ((Er.fk e1) = ((gt Places i0).1) ∧ (Er.fi e1) = ((gt Places i0).2)))) (by kernel_rfl) ?_
      refine d_nil ?_
      refine k92 _ _ ?_
      refine w_condn ((Er.fk e1) = ((gt Places i0).1) ∧ (Er.fi e1) = ((gt Places i0).2)) (by kernel_rfl) rfl (fun h107 => ?_) (fun h107 => ?_)
      ·have r108 := ite_f h107 r94
       refine w_seqk fun K109 k109 => ?_
       refine w_reg (by kernel_rfl) ?_
       refine s_qk (.bool false) (by kernel_rfl) ?_
       refine s_nil ?_
       refine k109 _ _ ?_
       refine w_ret (th_ret (bl_ret (th_ret (th_ret (bl_ret (th_ret (th_ret ?_)))))))
       obtain ⟨v110, hv111, hz112⟩ := map_some r108
       subst hz112
       obtain rfl := it_inr hn63
       have hq113 := elim_inl r42
       rw [hq113] at hv111
       refine b_ret (fn := Tryd.f16) (vs := [.bool false]) (aRes_tmp (by kernel_rfl) (rfl)) ?_
       obtain rfl := Option.some.inj hv111
       exact ⟨rfl, (FrS.step wf ((FrS.step wf ((FrS.step wf (FrS.step wf ((FrS.refl (W := []) wf).extR e4) e15 Inn.nil) e54 Inn.nil).extR e76) e82 (hb77.fresh (ntr (ntr e4.next e15.next) e54.next))).extR e87) e96 (hb88.fresh (ntr (ntr (ntr (ntr e4.next e15.next) e54.next) e76.next) e82.next)))⟩
      ·have r114 := ite_t h107 r94
       refine w_skip ?_
       refine k91 _ _ ?_
       refine w_reg (by kernel_rfl) ?_
       refine s_ql (.pointer (some ⟨b98, 0, none⟩)) (x := aLoad Tryd.prog 90 (.pointer (some ⟨b85, 0, none⟩)) H95) (by kernel_rfl) (r97.ld (by kernel_rfl)) ?_
       refine s_qk (.pointer (some ⟨b98, 0, none⟩)) (by kernel_rfl) ?_
       refine s_qk (.pointer (some ⟨b98, 2, none⟩)) (by kernel_rfl) ?_
       refine s_ql (u99) (x := aLoad Tryd.prog 28 (.pointer (some ⟨b98, 2, none⟩)) H95) (by kernel_rfl) (r101.ld (by kernel_rfl)) ?_
       refine s_qk (u99) (by kernel_rfl) ?_
       refine s_nil ?_
       refine k69 _ _ ?_
       refine w_reg (by kernel_rfl) ?_
       obtain ⟨g115, r116⟩ := G_some r114
       refine s_w ((i0 + 1)) (k := .i64) (x := (i0 + 1)) (by kernel_rfl) (wrap64 (by have := g115; omega)) ?_
       refine s_qk (.int .i64 (i0 + 1)) (by kernel_rfl) ?_
       refine s_nil ?_
       obtain rfl := Option.some.inj r116
       exact k64 n60 _ _ (Nat.lt_succ_self _) ⟨(i0 + 1), (Er.fe e1), (u99), hn63, ⟨by kernel_rfl, by kernel_rfl, by kernel_rfl, by kernel_rfl, by kernel_rfl, by kernel_rfl, trivial⟩, (FrS.step e15.wf ((FrS.step e15.wf ((FrS.step e15.wf (FrS.refl (W := []) e15.wf) e54 Inn.nil).extR e76) e82 (hb77.fresh e54.next)).extR e87) e96 (hb88.fresh (ntr (ntr e54.next e76.next) e82.next))), v102⟩
     ·have r117 := ite_f h93 r72
      have u118 := (((m56.ext e76).fr e82 (hb77.djn (h_err.lt.le (ntr (ntr e4.next e15.next) e54.next)))).ext e87)
      refine d_ck 55 #[v57, .iface 92 (.pointer (some ⟨b85, 0, none⟩))] (by kernel_rfl) (a_asF_no r89 u118 h93) ?_
      rintro _ _ ⟨rfl, rfl⟩
      refine ⟨st_nil, ?_⟩
      refine d_qk (.bool true) (by kernel_rfl) ?_
      refine d_qk (.bool true) (by kernel_rfl) ?_
      refine d_idle (by kernel_rfl) ?_
      refine d_idle (by kernel_rfl) ?_
      refine d_qk (.bool true) (by kernel_rfl) ?_
      refine d_qk (.bool true) (by kernel_rfl) ?_
      refine d_idle (by kernel_rfl) ?_
      refine d_idle (by kernel_rfl) ?_
      refine d_idle (by kernel_rfl) ?_
      refine d_idle (by kernel_rfl) ?_
      refine d_idle (by kernel_rfl) ?_
      refine d_idle (by kernel_rfl) ?_
      refine d_qk (.bool true) (by kernel_rfl) ?_
      refine d_nil ?_
      refine k92 _ _ ?_
      refine w_cond true (by kernel_rfl) rfl (fun _ => ?_) (fun h => by cases h)
      refine w_seqk fun K119 k119 => ?_
      refine w_reg (by kernel_rfl) ?_
      refine s_qk (.bool false) (by kernel_rfl) ?_
      refine s_nil ?_
      refine k119 _ _ ?_
      refine w_ret (th_ret (bl_ret (th_ret (th_ret (bl_ret (th_ret (th_ret ?_)))))))
      obtain ⟨v120, hv121, hz122⟩ := map_some r117
      subst hz122
      obtain rfl := it_inr hn63
      have hq123 := elim_inl r42
      rw [hq123] at hv121
      refine b_ret (fn := Tryd.f16) (vs := [.bool false]) (aRes_tmp (by kernel_rfl) (rfl)) ?_
      obtain rfl := Option.some.inj hv121
      exact ⟨rfl, ((FrS.step wf ((FrS.step wf (FrS.step wf ((FrS.refl (W := []) wf).extR e4) e15 Inn.nil) e54 Inn.nil).extR e76) e82 (hb77.fresh (ntr (ntr e4.next e15.next) e54.next))).extR e87)⟩
    ·have r124 := ite_f h67 hz62
     refine w_exit (th_exit (th_exit (bl_eq ?_)))
     obtain rfl := Option.some.inj r124
     obtain rfl := it_inr hn63
     exact k49 _ _ ⟨_, rfl, (v57), ⟨by kernel_rfl, by kernel_rfl, by kernel_rfl, trivial⟩, (FrS.step e15.wf (FrS.refl (W := []) e15.wf) e54 Inn.nil), m56⟩
   ·obtain ⟨o40, rfl, v48, hh50, e45, m47⟩ := hM
    have r125 := elim_inr r42
    obtain ⟨β, rfl⟩ := has_ex hh50
    clear hh50
    refine k36 _ _ ?_
    refine w_seqk fun K126 k126 => ?_
    refine w_reg (by kernel_rfl) ?_
    refine s_rwk e45.wf [.pointer none] (by kernel_rfl) fun b127 H128 e129 hb130 r131 => ?_
    refine s_nil ?_
    refine k126 _ _ ?_
    refine w_seqk fun K133 k133 => ?_
    refine w_seqk fun K134 k134 => ?_
    refine w_reg (by kernel_rfl) ?_
    refine s_qk (v48) (by kernel_rfl) ?_
    refine s_qk (.iface 92 (.pointer (some ⟨b127, 0, none⟩))) (by kernel_rfl) ?_
    by_cases h135 : Er.isAt o40 = true
    ·have r136 := ite_t h135 r125
     have u145 := (m47.ext e129)
     refine s_ck 55 #[v48, .iface 92 (.pointer (some ⟨b127, 0, none⟩))] (by kernel_rfl) (a_asF_at e129.wf r131 (hb130.djn (h_err.lt.le (ntr (ntr e4.next e15.next) e45.next))) u145 h135) ?_
     rintro _ H137 ⟨rfl, e138, b140, u141, -, i142, r139, r143, v144⟩
     refine s_nil ?_
     refine k134 _ _ ?_
     refine w_cond true (by kernel_rfl) rfl (fun _ => ?_) (fun h => by cases h)
     refine w_seqk fun K148 k148 => ?_
     refine w_reg (by kernel_rfl) ?_
     refine s_qk (.bool false) (by kernel_rfl) ?_
     refine s_nil ?_
     refine k148 _ _ ?_
     refine w_ret (th_ret ?_)
     refine b_ret (fn := Tryd.f16) (vs := [.bool false]) (aRes_tmp (by kernel_rfl) (rfl)) ?_
     obtain rfl := Option.some.inj r136
     exact ⟨rfl, (FrS.step wf ((FrS.step wf (FrS.step wf ((FrS.refl (W := []) wf).extR e4) e15 Inn.nil) e45 Inn.nil).extR e129) e138 (hb130.fresh (ntr (ntr e4.next e15.next) e45.next)))⟩
    ·have r149 := ite_f h135 r125
     have u150 := (m47.ext e129)
     refine s_ck 55 #[v48, .iface 92 (.pointer (some ⟨b127, 0, none⟩))] (by kernel_rfl) (a_asF_no r131 u150 h135) ?_
     rintro _ _ ⟨rfl, rfl⟩
     refine s_nil ?_
     refine k134 _ _ ?_
     refine w_cond false (by kernel_rfl) rfl (fun h => by cases h) (fun _ => ?_)
     refine w_skip ?_
     refine k133 _ _ ?_
     refine w_seqk fun K151 k151 => ?_
     refine w_reg (by kernel_rfl) ?_
     refine s_rwk e129.wf [.int .i64 0] (by kernel_rfl) fun b152 H153 e154 hb155 r156 => ?_
     refine s_nil ?_
     refine k151 _ _ ?_
     refine w_seqk fun K158 k158 => ?_
     refine w_seqk fun K159 k159 => ?_
     obtain ⟨o160, hx161, r162⟩ := bind_some r149
     refine w_mid (fun α H163 => Has α [(0, .iface t29 x30), (3, .pointer (some ⟨b2, 0, none⟩)), (60, .bool o160)] ∧ FrS [b152] H153 H163) (fun K165 k165 => ?_) (fun α H163 hM => ?_)
     ·refine w_reg (by kernel_rfl) ?_
      refine s_qk (.iface t29 x30) (by kernel_rfl) ?_
      refine s_qk (.iface 95 (.pointer (some ⟨b152, 0, none⟩))) (by kernel_rfl) ?_
      by_cases h167 : (Er.num err).isSome = true
      ·have r168 := ite_t h167 hx161
       have u172 := (((u31.fr e45 Dj.nil_l).ext e129).ext e154)
       refine s_ck 55 #[.iface t29 x30, .iface 95 (.pointer (some ⟨b152, 0, none⟩))] (by kernel_rfl) (a_asN_y e154.wf r156 u172 h28 h167) ?_
       rintro _ H169 ⟨rfl, e170, r171⟩
       refine s_qk (.bool false) (by kernel_rfl) ?_
       refine s_qk (.bool false) (by kernel_rfl) ?_
       refine s_ql (.int .i64 ((Er.num err).getD 0)) (x := aLoad Tryd.prog 53 (.pointer (some ⟨b152, 0, none⟩)) H169) (by kernel_rfl) (r171.ld (by kernel_rfl)) ?_
       refine s_qk (.pointer (some ⟨b2, 0, none⟩)) (by kernel_rfl) ?_
       have u173 := ((((u38.frS e45 Dj.nil_l).ext e129).ext e154).frS e170 (hb155.djn (r6.ltF.le (ntr (ntr e15.next e45.next) e129.next))))
       refine s_ql (.int .i64 Code) (x := aLoad Tryd.prog 3 (.pointer (some ⟨b2, 0, none⟩)) H169) (by kernel_rfl) (u173.ld (by kernel_rfl)) ?_
       refine s_qk (.bool (!decide (((Er.num err).getD 0) = Code))) (by kernel_rfl) ?_
       refine s_qk (.bool (!decide (((Er.num err).getD 0) = Code))) (by kernel_rfl) ?_
       refine s_nil ?_
       obtain rfl := Option.some.inj r168
       exact k165 _ _ ⟨⟨by kernel_rfl, by kernel_rfl, by kernel_rfl, trivial⟩, (FrS.step e154.wf (FrS.refl (W := [b152]) e154.wf) e170 Inn.refl')⟩
      ·have r174 := ite_f h167 hx161
       have u178 := (((u31.fr e45 Dj.nil_l).ext e129).ext e154)
       refine s_ck 55 #[.iface t29 x30, .iface 95 (.pointer (some ⟨b152, 0, none⟩))] (by kernel_rfl) (a_asN_n e154.wf r156 u178 h28 h167) ?_
       rintro _ H175 ⟨rfl, e176, r177⟩
       refine s_qk (.bool true) (by kernel_rfl) ?_
       refine s_qk (.bool true) (by kernel_rfl) ?_
       refine s_no (by kernel_rfl) ?_
       refine s_no (by kernel_rfl) ?_
       refine s_no (by kernel_rfl) ?_
       refine s_no (by kernel_rfl) ?_
       refine s_qk (.bool true) (by kernel_rfl) ?_
       refine s_nil ?_
       obtain rfl := Option.some.inj r174
       exact k165 _ _ ⟨⟨by kernel_rfl, by kernel_rfl, by kernel_rfl, trivial⟩, (FrS.step e154.wf (FrS.refl (W := [b152]) e154.wf) e176 Inn.refl')⟩
     ·obtain ⟨hh166, e164⟩ := hM
      obtain ⟨β, rfl⟩ := has_ex hh166
      clear hh166
      refine k159 _ _ ?_
      refine w_cond (o160) (by kernel_rfl) rfl (fun h179 => ?_) (fun h179 => ?_)
      ·have r180 := ite_t h179 r162
       refine w_seqk fun K181 k181 => ?_
       refine w_reg (by kernel_rfl) ?_
       refine s_qk (.bool false) (by kernel_rfl) ?_
       refine s_nil ?_
       refine k181 _ _ ?_
       refine w_ret (th_ret ?_)
       refine b_ret (fn := Tryd.f16) (vs := [.bool false]) (aRes_tmp (by kernel_rfl) (rfl)) ?_
       obtain rfl := Option.some.inj r180
       exact ⟨rfl, (FrS.step wf (((FrS.step wf (FrS.step wf ((FrS.refl (W := []) wf).extR e4) e15 Inn.nil) e45 Inn.nil).extR e129).extR e154) e164 (hb155.fresh (ntr (ntr (ntr e4.next e15.next) e45.next) e129.next)))⟩
      ·have r182 := ite_bf h179 r162
       refine w_skip ?_
       refine k158 _ _ ?_
       refine w_seqk fun K183 k183 => ?_
       refine w_seqk fun K184 k184 => ?_
       refine w_reg (by kernel_rfl) ?_
       refine s_qk (.int .i64 1) (by kernel_rfl) ?_
       refine s_nil ?_
       refine k184 _ _ ?_
       obtain ⟨z188, hx186, r187⟩ := bind_some r182
       refine w_mid (fun α H189 => ∃ o185, z188 = Sum.inr o185 ∧ Has α [] ∧ H163 = H189) (fun K191 k191 => ?_) (fun α H189 hM => ?_)
       ·refine w_block ?_
        obtain ⟨n193, hn194⟩ := loopO_iff.1 hx186
        refine w_loopn (fun n α H195 => ∃ (i2 : Int), iterO (fun zz_ => z_viaductseen_Same_l1 err Code zz_) n i2 = some z188 ∧ Has α [(0, .iface t29 x30), (3, .pointer (some ⟨b2, 0, none⟩)), (11, .int .i64 i2)] ∧ H163 = H195) n193 ⟨1, hn194, ⟨by kernel_rfl, by kernel_rfl, by kernel_rfl, trivial⟩, rfl⟩ ?_
        rintro n193 α H195 ⟨i2, hi198, hh197, rfl⟩ K203 k203
        obtain ⟨n199, z200, rfl, hz201, hn202⟩ := iter_succ hi198
        obtain ⟨β, rfl⟩ := has_ex hh197
        clear hh197
        replace hz201 : z_viaductseen_Same_l1 err Code i2 = some z200 := hz201
        unfold z_viaductseen_Same_l1 at hz201
        refine w_seqk fun K204 k204 => ?_
        refine w_seqk fun K205 k205 => ?_
        refine w_reg (by kernel_rfl) ?_
        refine s_qk (.int .i64 i2) (by kernel_rfl) ?_
        refine s_qk (.bool (decide (i2 ≤ 20))) (by kernel_rfl) ?_
        refine s_nil ?_
        refine k205 _ _ ?_
        refine w_condp (i2 ≤ 20) (by kernel_rfl) rfl (fun h206 => ?_) (fun h206 => ?_)
        ·have r207 := ite_t h206 hz201
         refine w_skip ?_
         refine k204 _ _ ?_
         refine w_seqk fun K208 k208 => ?_
         refine w_block ?_
         refine w_seqk fun K209 k209 => ?_
         refine w_draw [0, 1, 2, 4, 5, 6, 7, 3, 8] (by kernel_rfl) ?_
         refine d_qk (.iface t29 x30) (by kernel_rfl) ?_
         refine d_qk (.int .i64 i2) (by kernel_rfl) ?_
         refine d_qk (.iface 53 (.int .i64 i2)) (by kernel_rfl) ?_
         refine d_qk (.int .i64 i2) (by kernel_rfl) ?_
         refine d_qk (.pointer (some ⟨b2, 0, none⟩)) (by kernel_rfl) ?_
         have u210 := ((((u38.frS e45 Dj.nil_l).ext e129).ext e154).frS e164 (hb155.djn (r6.ltF.le (ntr (ntr e15.next e45.next) e129.next))))
         refine d_fl (.int .i64 Code) (x := aLoad Tryd.prog 3 (.pointer (some ⟨b2, 0, none⟩)) H163) (by kernel_rfl) (u210.ld (by kernel_rfl)) ?_
         refine d_qk (.bool (decide (i2 = Code))) (by kernel_rfl) ?_
         have u211 := ((((u31.fr e45 Dj.nil_l).ext e129).ext e154).fr e164 (hb155.djn (h_err.lt.le (ntr (ntr (ntr e4.next e15.next) e45.next) e129.next))))
         refine d_ck 56 #[.iface t29 x30, .iface 53 (.int .i64 i2)] (by kernel_rfl) (a_isN u211 h28) ?_
         rintro _ _ ⟨rfl, rfl⟩
         refine ⟨st_ql (y := aLoad Tryd.prog 3 (.pointer (some ⟨b2, 0, none⟩)) H163) (by kernel_rfl) (u210.ld (by kernel_rfl)) (st_nil), ?_⟩
         refine d_qk (.bool (!decide ((decide (Er.num err = some i2)) = (decide (i2 = Code))))) (by kernel_rfl) ?_
         refine d_nil ?_
         refine k209 _ _ ?_
         refine w_condn ((decide (Er.num err = some i2)) = (decide (i2 = Code))) (by kernel_rfl) rfl (fun h212 => ?_) (fun h212 => ?_)
         ·have r213 := ite_f h212 r207
          refine w_seqk fun K214 k214 => ?_
          refine w_reg (by kernel_rfl) ?_
          refine s_qk (.bool false) (by kernel_rfl) ?_
          refine s_nil ?_
          refine k214 _ _ ?_
          refine w_ret (bl_ret (th_ret (th_ret (bl_ret (th_ret (th_ret ?_))))))
          obtain ⟨v215, hv216, hz217⟩ := map_some r213
          subst hz217
          obtain rfl := it_inr hn202
          have hq218 := elim_inl r187
          rw [hq218] at hv216
          refine b_ret (fn := Tryd.f16) (vs := [.bool false]) (aRes_tmp (by kernel_rfl) (rfl)) ?_
          obtain rfl := Option.some.inj hv216
          exact ⟨rfl, (FrS.step wf (((FrS.step wf (FrS.step wf ((FrS.refl (W := []) wf).extR e4) e15 Inn.nil) e45 Inn.nil).extR e129).extR e154) e164 (hb155.fresh (ntr (ntr (ntr e4.next e15.next) e45.next) e129.next)))⟩
         ·have r219 := ite_t h212 r207
          refine w_skip ?_
          refine k208 _ _ ?_
          refine w_reg (by kernel_rfl) ?_
          refine s_qk (.int .i64 i2) (by kernel_rfl) ?_
          obtain ⟨g220, r221⟩ := G_some r219
          refine s_w ((i2 + 1)) (k := .i64) (x := (i2 + 1)) (by kernel_rfl) (wrap64 g220) ?_
          refine s_qk (.int .i64 (i2 + 1)) (by kernel_rfl) ?_
          refine s_nil ?_
          obtain rfl := Option.some.inj r221
          exact k203 n199 _ _ (Nat.lt_succ_self _) ⟨(i2 + 1), hn202, ⟨by kernel_rfl, by kernel_rfl, by kernel_rfl, trivial⟩, rfl⟩
        ·have r222 := ite_f h206 hz201
         refine w_exit (th_exit (th_exit (bl_eq ?_)))
         obtain rfl := Option.some.inj r222
         obtain rfl := it_inr hn202
         exact k191 _ _ ⟨_, rfl, trivial, rfl⟩
       ·obtain ⟨o185, rfl, hh192, rfl⟩ := hM
        have r223 := elim_inr r187
        obtain ⟨β, rfl⟩ := has_ex hh192
        clear hh192
        refine k183 _ _ ?_
        refine w_seqk fun K224 k224 => ?_
        refine w_reg (by kernel_rfl) ?_
        refine s_qk (.bool true) (by kernel_rfl) ?_
        refine s_nil ?_
        refine k224 _ _ ?_
        refine w_ret ?_
        refine b_ret (fn := Tryd.f16) (vs := [.bool true]) (aRes_tmp (by kernel_rfl) (rfl)) ?_
        obtain rfl := Option.some.inj r223
        exact ⟨rfl, (FrS.step wf (((FrS.step wf (FrS.step wf ((FrS.refl (W := []) wf).extR e4) e15 Inn.nil) e45 Inn.nil).extR e129).extR e154) e164 (hb155.fresh (ntr (ntr (ntr e4.next e15.next) e45.next) e129.next)))⟩

theorem c_normal_Reverse {H : AH} {hd_Arcs : Value} {fp_Arcs : Fp} {N_ : Int} {Arcs : List (Int × Int × Int)} {r : Int × List (Int × Int × Int) × Er}
  (wf : WF H) (h_Arcs : Sq enc_i64_i64_i64 3 H hd_Arcs Arcs fp_Arcs) (hr : z_normal_Reverse N_ Arcs = some r) :
  ACalls Tryd.prog 19 #[.agg #[.int .i64 N_, hd_Arcs]] H fun v H' => ∃ (s3 : Value) (f4 : Fp) (v7 : Value) (f8 : Fp), v = .tuple #[.agg #[.int .i64 r.1, s3], v7] ∧ FrS [] H H' ∧ Ow enc_i64_i64_i64 3 H' s3 r.2.1 f4 ∧ Ev 53 90 H' v7 r.2.2 f8 ∧ Inn [] H f4 ∧ Inn [] H f8 ∧ Dj f4 f8 := by
 refine acalls_of_body mixed Tryd.func19 rfl (Nat.le_of_ble_eq_true rfl) ?_
 unfold z_normal_Reverse at hr
 refine w_seqk fun K12 k12 => ?_
 refine w_reg (by kernel_rfl) ?_
 refine s_rwl wf [.int .i64 N_, hd_Arcs] (one_cons (rfl) (one_cons (h_Arcs.one1) (one_nil))) (by kernel_rfl) fun b13 H14 e15 hb16 r17 => ?_
 refine s_rwk e15.wf [.int .i64 0, .slice none 0 0] (by kernel_rfl) fun b19 H20 e21 hb22 r23 => ?_
 refine s_qk (.nilIface) (by kernel_rfl) ?_
 refine s_nil ?_
 refine k12 _ _ ?_
 refine w_seqk fun K25 k25 => ?_
 refine w_seqk fun K26 k26 => ?_
 refine w_reg (by kernel_rfl) ?_
 have u27 := (r17.ext e21)
 refine s_ql (.agg #[.int .i64 N_, hd_Arcs]) (x := aLoad Tryd.prog 24 (.pointer (some ⟨b13, 0, none⟩)) H20) (by kernel_rfl) (u27.ld (by kernel_rfl)) ?_
 have u28 := ((h_Arcs.ext e15).ext e21)
 obtain ⟨y29, hy30, r31⟩ := bind_some hr
 refine s_ck 47 #[.agg #[.int .i64 N_, hd_Arcs]] (by kernel_rfl) (c_gtext_Check e21.wf u28 hy30) ?_
 rintro v32 H34 ⟨_, f33, rfl, e35, m36, i37⟩
 refine s_qk (v32) (by kernel_rfl) ?_
 refine s_nil ?_
 refine k26 _ _ ?_
 refine w_seqk fun K39 k39 => ?_
 refine w_reg (by kernel_rfl) ?_
 refine s_qk (v32) (by kernel_rfl) ?_
 rcases (m36).cases with ⟨h40, rfl⟩ | ⟨h40, t41, x42, rfl⟩
 ·have r43 := ite_t h40 r31
  refine s_qk (.bool false) (by kernel_rfl) ?_
  refine s_nil ?_
  refine k39 _ _ ?_
  refine w_cond false (by kernel_rfl) rfl (fun h => by cases h) (fun _ => ?_)
  refine w_skip ?_
  refine k25 _ _ ?_
  refine w_seqk fun K44 k44 => ?_
  refine w_reg (by kernel_rfl) ?_
  refine s_qk (.pointer (some ⟨b13, 0, none⟩)) (by kernel_rfl) ?_
  have u45 := (u27.frS e35 Dj.nil_l)
  refine s_ql (.int .i64 N_) (x := aLoad Tryd.prog 3 (.pointer (some ⟨b13, 0, none⟩)) H34) (by kernel_rfl) (u45.ld (by kernel_rfl)) ?_
  refine s_qk (.agg #[.int .i64 N_, .slice none 0 0]) (by kernel_rfl) ?_
  refine s_rwk e35.wf [.int .i64 0, .slice none 0 0] (by kernel_rfl) fun b46 H47 e48 hb49 r50 => ?_
  obtain ⟨H52, q53, e54, r55⟩ := Row.store (P := Tryd.prog) (t := 24) (p := 0) e48.wf r50 (.agg #[.int .i64 N_, .slice none 0 0]) [.int .i64 N_, .slice none 0 0] (by kernel_rfl) (by kernel_rfl) (one_cons (rfl) (one_cons (rfl) (one_nil))) (Nat.le_of_ble_eq_true (by kernel_rfl)) [.int .i64 N_, .slice none 0 0] (by kernel_rfl)
  refine s_ek (undef) (by kernel_rfl) (map_ok q53) ?_
  refine s_nil ?_
  refine k44 _ _ ?_
  refine w_seqk fun K56 k56 => ?_
  refine w_seqk fun K57 k57 => ?_
  refine w_reg (by kernel_rfl) ?_
  refine s_qk (.pointer (some ⟨b13, 1, none⟩)) (by kernel_rfl) ?_
  have u58 := ((u45.ext e48).frS e54 (hb49.djn (r17.ltF.le (ntr e21.next e35.next))))
  refine s_ql (hd_Arcs) (x := aLoad Tryd.prog 22 (.pointer (some ⟨b13, 1, none⟩)) H52) (by kernel_rfl) (u58.ld (by kernel_rfl)) ?_
  have u59 := (((u28.fr e35 Dj.nil_l).ext e48).fr e54 (hb49.djn (h_Arcs.lt.le (ntr (ntr e15.next e21.next) e35.next))))
  refine s_ql (.int .i64 (Arcs.length : Int)) (x := aLen Tryd.prog 22 hd_Arcs H52) (by kernel_rfl) (u59.lenb (by kernel_rfl)) ?_
  refine s_qk (.int .i64 0) (by kernel_rfl) ?_
  refine s_nil ?_
  refine k57 _ _ ?_
  obtain ⟨o60, hx61, r62⟩ := bind_some r43
  refine w_mid (fun α H63 => ∃ (s67 : Value) (f68 : Fp), Has α [(2, .pointer (some ⟨b19, 0, none⟩)), (5, .pointer (some ⟨b46, 0, none⟩))] ∧ FrS [b46] H52 H63 ∧ Ow enc_i64_i64_i64 3 H63 s67 o60 f68 ∧ Row H63 b46 [.int .i64 N_, s67] ∧ Inn [] H52 f68) (fun K72 k72 => ?_) (fun α H63 hM => ?_)
  ·refine w_block ?_
   obtain ⟨n74, hn75⟩ := loopO_iff.1 hx61
   refine w_loopn (fun n α H76 => ∃ (i0 : Int), ∃ (c1 : List (Int × Int × Int)), ∃ (s80 : Value), ∃ (f81 : Fp), iterO (fun zz_ => z_normal_Reverse_l0 Arcs zz_.1 zz_.2) n (i0, c1) = some o60 ∧ Has α [(2, .pointer (some ⟨b19, 0, none⟩)), (5, .pointer (some ⟨b46, 0, none⟩)), (18, hd_Arcs), (19, .int .i64 (Arcs.length : Int)), (20, .int .i64 i0)] ∧ FrS [b46] H52 H76 ∧ Ow enc_i64_i64_i64 3 H76 s80 c1 f81 ∧ Row H76 b46 [.int .i64 N_, s80] ∧ Inn [] H52 f81) n74 ⟨0, [], (.slice none 0 0), [], hn75, ⟨by kernel_rfl, by kernel_rfl, by kernel_rfl, by kernel_rfl, by kernel_rfl, trivial⟩, (FrS.refl (W := [b46]) e54.wf), (Ow.nil (by decide)), r55, Inn.nil⟩ ?_
   rintro n74 α H76 ⟨i0, c1, s80, f81, hi86, hh85, e77, m79, m83, i84⟩ K91 k91
   obtain ⟨n87, z88, rfl, hz89, hn90⟩ := iter_succ hi86
   obtain ⟨β, rfl⟩ := has_ex hh85
   clear hh85
   replace hz89 : z_normal_Reverse_l0 Arcs i0 c1 = some z88 := hz89
   unfold z_normal_Reverse_l0 at hz89
   obtain ⟨a92, n93, c94, rfl⟩ := m79.form
   refine w_seqk fun K95 k95 => ?_
   refine w_reg (by kernel_rfl) ?_
   refine s_qk (.bool (decide (i0 < (Arcs.length : Int)))) (by kernel_rfl) ?_
   refine s_nil ?_
   refine k95 _ _ ?_
   refine w_seqk fun K96 k96 => ?_
   refine w_condp (i0 < (Arcs.length : Int)) (by kernel_rfl) rfl (fun h97 => ?_) (fun h97 => ?_)
   ·have r98 := ite_t h97 hz89
    refine w_skip ?_
    refine k96 _ _ ?_
    refine w_seqk fun K99 k99 => ?_
    refine w_block ?_
    refine w_seqk fun K100 k100 => ?_
    refine w_reg (by kernel_rfl) ?_
    obtain ⟨g101, r102⟩ := G_some r98
    have u103 := (u59.fr e77 (hb49.djn (h_Arcs.lt.le (ntr (ntr e15.next e21.next) e35.next))))
    refine s_ql (elp hd_Arcs 3 i0.toNat 0) (x := aIndexAddr Tryd.prog 22 hd_Arcs (.int .i64 i0)) (by kernel_rfl) (u103.idxb (by kernel_rfl) g101 h97) ?_
    refine s_ql (.agg #[.int .i64 ((gt Arcs i0).1), .int .i64 ((gt Arcs i0).2.1), .int .i64 ((gt Arcs i0).2.2)]) (x := aLoad Tryd.prog 51 (elp hd_Arcs 3 i0.toNat 0) H76) (by kernel_rfl) (u103.ld g101 h97 (by kernel_rfl)) ?_
    refine s_rwk e77.wf [.int .i64 0, .int .i64 0, .int .i64 0] (by kernel_rfl) fun b104 H105 e106 hb107 r108 => ?_
    obtain ⟨H110, q111, e112, r113⟩ := Row.store (P := Tryd.prog) (t := 51) (p := 0) e106.wf r108 (.agg #[.int .i64 ((gt Arcs i0).1), .int .i64 ((gt Arcs i0).2.1), .int .i64 ((gt Arcs i0).2.2)]) [.int .i64 ((gt Arcs i0).1), .int .i64 ((gt Arcs i0).2.1), .int .i64 ((gt Arcs i0).2.2)] (by kernel_rfl) (by kernel_rfl) (one_cons (rfl) (one_cons (rfl) (one_cons (rfl) (one_nil)))) (Nat.le_of_ble_eq_true (by kernel_rfl)) [.int .i64 ((gt Arcs i0).1), .int .i64 ((gt Arcs i0).2.1), .int .i64 ((gt Arcs i0).2.2)] (by kernel_rfl)
    refine s_ek (undef) (by kernel_rfl) (map_ok q111) ?_
    refine s_nil ?_
    refine k100 _ _ ?_
    refine w_reg (by kernel_rfl) ?_
    refine s_qk (.pointer (some ⟨b46, 1, none⟩)) (by kernel_rfl) ?_
    have u114 := ((m83.ext e106).frS e112 (hb107.djn (r50.ltF.le (ntr e54.next e77.next))))
    refine s_ql (.slice a92 n93 c94) (x := aLoad Tryd.prog 22 (.pointer (some ⟨b46, 1, none⟩)) H110) (by kernel_rfl) (u114.ld (by kernel_rfl)) ?_
    refine s_qk (.pointer (some ⟨b104, 1, none⟩)) (by kernel_rfl) ?_
    refine s_ql (.int .i64 ((gt Arcs i0).2.1)) (x := aLoad Tryd.prog 3 (.pointer (some ⟨b104, 1, none⟩)) H110) (by kernel_rfl) (r113.ld (by kernel_rfl)) ?_
    refine s_qk (.pointer (some ⟨b104, 0, none⟩)) (by kernel_rfl) ?_
    refine s_ql (.int .i64 ((gt Arcs i0).1)) (x := aLoad Tryd.prog 3 (.pointer (some ⟨b104, 0, none⟩)) H110) (by kernel_rfl) (r113.ld (by kernel_rfl)) ?_
    refine s_qk (.pointer (some ⟨b104, 2, none⟩)) (by kernel_rfl) ?_
    refine s_ql (.int .i64 ((gt Arcs i0).2.2)) (x := aLoad Tryd.prog 3 (.pointer (some ⟨b104, 2, none⟩)) H110) (by kernel_rfl) (r113.ld (by kernel_rfl)) ?_
    refine s_qk (.agg #[.int .i64 ((gt Arcs i0).2.1), .int .i64 ((gt Arcs i0).1), .int .i64 ((gt Arcs i0).2.2)]) (by kernel_rfl) ?_
    refine s_owk (enc := enc_i64_i64_i64) (sz := 3) e112.wf [((gt Arcs i0).2.1, (gt Arcs i0).1, (gt Arcs i0).2.2)] 1 (by decide) (fun _ _ => rfl) (fun _ _ => rfl) rfl (by kernel_rfl) fun s115 f116 H117 e118 hf119 hm120 => ?_
    obtain ⟨a121, n122, c123, rfl⟩ := hm120.form
    have u125 := (((m79.ext e106).fr e112 (hb107.djn m79.lt)).ext e118)
    obtain ⟨g126, r127⟩ := G_some r102
    obtain ⟨s128, H129, f130, q134, e131, hm132, hf133⟩ := Ow.append (P := Tryd.prog) 24 e118.wf u125 hm120.sq (fun _ _ => rfl) (at_ := #[22, 22]) rfl rfl (by kernel_rfl) (by kernel_rfl) (by decide) (by have := g126; first | omega | (simp only [List.length_cons, List.length_nil] at this ⊢; omega) | (simp at this ⊢; omega))
    obtain ⟨a135, n136, c137, rfl⟩ := hm132.form
    refine s_ek (.slice a135 n136 c137) (by kernel_rfl) (q134) ?_
    refine s_qk (.pointer (some ⟨b46, 1, none⟩)) (by kernel_rfl) ?_
    have u143 := ((u114.ext e118).frS e131 (i84.djn (r50.ltF.le e54.next)))
    obtain ⟨H139, q140, e141, r142⟩ := Row.store (P := Tryd.prog) (t := 22) (p := 1) e131.wf u143 (.slice a135 n136 c137) [.slice a135 n136 c137] (by kernel_rfl) (by kernel_rfl) (one_cons (hm132.one1) (one_nil)) (Nat.le_of_ble_eq_true (by kernel_rfl)) [.int .i64 N_, .slice a135 n136 c137] (by kernel_rfl)
    refine s_ek (undef) (by kernel_rfl) (map_ok q140) ?_
    refine s_nil ?_
    refine k99 _ _ ?_
    refine w_reg (by kernel_rfl) ?_
    obtain ⟨g144, r145⟩ := G_some r127
    refine s_w ((i0 + 1)) (k := .i64) (x := (i0 + 1)) (by kernel_rfl) (wrap64 (by have := g144; omega)) ?_
    refine s_qk (.int .i64 (i0 + 1)) (by kernel_rfl) ?_
    refine s_nil ?_
    have u146 := (hm132.fr e141 (Dj.symm (hf133.dj (i84.djn (r50.ltF.le e54.next)) (r50.ltF.le (ntr (ntr (ntr (ntr e54.next e77.next) e106.next) e112.next) e118.next)))))
    obtain rfl := Option.some.inj r145
    exact k91 n87 _ _ (Nat.lt_succ_self _) ⟨(i0 + 1), (c1 ++ [((gt Arcs i0).2.1, (gt Arcs i0).1, (gt Arcs i0).2.2)]), (.slice a135 n136 c137), f130, hn90, ⟨by kernel_rfl, by kernel_rfl, by kernel_rfl, by kernel_rfl, by kernel_rfl, trivial⟩, (FrS.step e54.wf (FrS.step e54.wf ((FrS.step e54.wf ((FrS.step e54.wf (FrS.refl (W := [b46]) e54.wf) e77 Inn.refl').extR e106) e112 (hb107.fresh e77.next)).extR e118) e131 (i84.fresh (Nat.le_refl _))) e141 Inn.refl'), u146, r142, (Inn.trans (i84.fresh (Nat.le_refl _)) (ntr (ntr (ntr e77.next e106.next) e112.next) e118.next) hf133)⟩
   ·have r147 := ite_f h97 hz89
    refine w_exit (th_exit (th_exit (bl_eq ?_)))
    obtain rfl := Option.some.inj r147
    obtain rfl := it_inr hn90
    exact k72 _ _ ⟨(.slice a92 n93 c94), f81, ⟨by kernel_rfl, by kernel_rfl, trivial⟩, (FrS.step e54.wf (FrS.refl (W := [b46]) e54.wf) e77 Inn.refl'), m79, m83, (i84.fresh (Nat.le_refl _))⟩
  ·obtain ⟨s67, f68, hh73, e64, m66, m70, i71⟩ := hM
   obtain ⟨β, rfl⟩ := has_ex hh73
   clear hh73
   obtain ⟨a148, n149, c150, rfl⟩ := m66.form
   refine k56 _ _ ?_
   refine w_seqk fun K151 k151 => ?_
   refine w_reg (by kernel_rfl) ?_
   refine s_ql (.agg #[.int .i64 N_, .slice a148 n149 c150]) (x := aLoad Tryd.prog 24 (.pointer (some ⟨b46, 0, none⟩)) H63) (by kernel_rfl) (m70.ld (by kernel_rfl)) ?_
   have u156 := ((((r23.frS e35 Dj.nil_l).ext e48).frS e54 (hb49.djn (r23.ltF.le e35.next))).frS e64 (hb49.djn (r23.ltF.le e35.next)))
   obtain ⟨H152, q153, e154, r155⟩ := Row.store (P := Tryd.prog) (t := 24) (p := 0) e64.wf u156 (.agg #[.int .i64 N_, .slice a148 n149 c150]) [.int .i64 N_, .slice a148 n149 c150] (by kernel_rfl) (by kernel_rfl) (one_cons (rfl) (one_cons (m66.one1) (one_nil))) (Nat.le_of_ble_eq_true (by kernel_rfl)) [.int .i64 N_, .slice a148 n149 c150] (by kernel_rfl)
   refine s_ek (undef) (by kernel_rfl) (map_ok q153) ?_
   refine s_qk (.nilIface) (by kernel_rfl) ?_
   refine s_nil ?_
   refine k151 _ _ ?_
   refine w_ret ?_
   refine b_ret (fn := Tryd.f19) (vs := [.agg #[.int .i64 N_, .slice a148 n149 c150], .nilIface]) (aRes_cell (Eq.trans (b := aLoad Tryd.prog 24 (.pointer (some ⟨b19, 0, none⟩)) H152) (by kernel_rfl) (r155.ld (by kernel_rfl))) (aRes_tmp (by kernel_rfl) (rfl))) ?_
   have u157 := (m66.fr e154 (Dj.symm (i71.djn (r23.ltF.le (ntr (ntr e35.next e48.next) e54.next)))))
   obtain rfl := Option.some.inj r62
   exact ⟨(.slice a148 n149 c150), f68, (.nilIface), [], rfl, (FrS.step wf (FrS.step wf (FrS.step wf ((FrS.step wf (((FrS.refl (W := []) wf).extR e15).extR e21) e35 Inn.nil).extR e48) e54 (hb49.fresh (ntr (ntr e15.next e21.next) e35.next))) e64 (hb49.fresh (ntr (ntr e15.next e21.next) e35.next))) e154 (hb22.fresh e15.next)), u157, Ev.nil, (i71.fresh (ntr (ntr (ntr (ntr e15.next e21.next) e35.next) e48.next) e54.next)), Inn.nil, Dj.nil_r⟩
 ·have r158 := ite_f h40 r31
  refine s_ql (.bool true) (x := aBin Tryd.prog .neq 28 (.tmp 10) (.const .nilIface) (.iface t41 x42) .nilIface) (by kernel_rfl) (aBin_nnil (by kernel_rfl)) ?_
  refine s_nil ?_
  refine k39 _ _ ?_
  refine w_cond true (by kernel_rfl) rfl (fun _ => ?_) (fun h => by cases h)
  refine w_seqk fun K159 k159 => ?_
  refine w_reg (by kernel_rfl) ?_
  refine s_qk (.agg #[.int .i64 0, .slice none 0 0]) (by kernel_rfl) ?_
  refine s_qk (.iface t41 x42) (by kernel_rfl) ?_
  have u164 := (r23.frS e35 Dj.nil_l)
  obtain ⟨H160, q161, e162, r163⟩ := Row.store (P := Tryd.prog) (t := 24) (p := 0) e35.wf u164 (.agg #[.int .i64 0, .slice none 0 0]) [.int .i64 0, .slice none 0 0] (by kernel_rfl) (by kernel_rfl) (one_cons (rfl) (one_cons (rfl) (one_nil))) (Nat.le_of_ble_eq_true (by kernel_rfl)) [.int .i64 0, .slice none 0 0] (by kernel_rfl)
  refine s_ek (undef) (by kernel_rfl) (map_ok q161) ?_
  refine s_qk (.iface t41 x42) (by kernel_rfl) ?_
  refine s_nil ?_
  refine k159 _ _ ?_
  refine w_ret (th_ret ?_)
  refine b_ret (fn := Tryd.f19) (vs := [.agg #[.int .i64 0, .slice none 0 0], .iface t41 x42]) (aRes_cell (Eq.trans (b := aLoad Tryd.prog 24 (.pointer (some ⟨b19, 0, none⟩)) H160) (by kernel_rfl) (r163.ld (by kernel_rfl))) (aRes_tmp (by kernel_rfl) (rfl))) ?_
  have u165 := (m36.fr e162 (Dj.symm (i37.djn r23.ltF)))
  obtain rfl := Option.some.inj r158
  exact ⟨(.slice none 0 0), [], (.iface t41 x42), f33, rfl, (FrS.step wf (FrS.step wf (((FrS.refl (W := []) wf).extR e15).extR e21) e35 Inn.nil) e162 (hb22.fresh e15.next)), (Ow.nil (by decide)), u165, Inn.nil, (i37.fresh (ntr e15.next e21.next)), Dj.nil_l⟩

theorem c_csr_Back {H : AH} {hd_Arcs : Value} {fp_Arcs : Fp} {N_ : Int} {Arcs : List (Int × Int × Int)} {r : List (Int) × List (Int) × List (Int) × Er}
  (wf : WF H) (h_Arcs : Sq enc_i64_i64_i64 3 H hd_Arcs Arcs fp_Arcs) (hr : z_csr_Back N_ Arcs = some r) :
  ACalls Tryd.prog 45 #[.agg #[.int .i64 N_, hd_Arcs]] H fun v H' => ∃ (s3 : Value) (f4 : Fp) (s7 : Value) (f8 : Fp) (s11 : Value) (f12 : Fp) (v15 : Value) (f16 : Fp), v = .tuple #[.agg #[s3, s7, s11], v15] ∧ FrS [] H H' ∧ Ow (encI .i64) 1 H' s3 r.1 f4 ∧ Ow (encI .i64) 1 H' s7 r.2.1 f8 ∧ Ow (encI .i64) 1 H' s11 r.2.2.1 f12 ∧ Ev 53 90 H' v15 r.2.2.2 f16 ∧ Inn [] H f4 ∧ Inn [] H f8 ∧ Inn [] H f12 ∧ Inn [] H f16 ∧ Dj f4 f8 ∧ Dj f4 f12 ∧ Dj f8 f12 ∧ Dj f4 f16 ∧ Dj f8 f16 ∧ Dj f12 f16 := by
 refine acalls_of_body mixed Tryd.func45 rfl (Nat.le_of_ble_eq_true rfl) ?_
 unfold z_csr_Back at hr
 refine w_seqk fun K27 k27 => ?_
 refine w_reg (by kernel_rfl) ?_
 refine s_rwl wf [.int .i64 N_, hd_Arcs] (one_cons (rfl) (one_cons (h_Arcs.one1) (one_nil))) (by kernel_rfl) fun b28 H29 e30 hb31 r32 => ?_
 refine s_rwk e30.wf [.slice none 0 0, .slice none 0 0, .slice none 0 0] (by kernel_rfl) fun b34 H35 e36 hb37 r38 => ?_
 refine s_qk (.nilIface) (by kernel_rfl) ?_
 refine s_nil ?_
 refine k27 _ _ ?_
 refine w_seqk fun K40 k40 => ?_
 refine w_reg (by kernel_rfl) ?_
 have u41 := (r32.ext e36)
 refine s_ql (.agg #[.int .i64 N_, hd_Arcs]) (x := aLoad Tryd.prog 24 (.pointer (some ⟨b28, 0, none⟩)) H35) (by kernel_rfl) (u41.ld (by kernel_rfl)) ?_
 have u42 := ((h_Arcs.ext e30).ext e36)
 obtain ⟨y43, hy44, r45⟩ := bind_some hr
 refine s_ck 19 #[.agg #[.int .i64 N_, hd_Arcs]] (by kernel_rfl) (c_normal_Reverse e36.wf u42 hy44) ?_
 rintro _ H50 ⟨s46, f47, v48, f49, rfl, e51, m52, m53, i54, i55, d56⟩
 obtain ⟨a59, n60, c61, rfl⟩ := m52.form
 refine s_qk (.tuple #[.agg #[.int .i64 y43.1, .slice a59 n60 c61], v48]) (by kernel_rfl) ?_
 refine s_qk (.agg #[.int .i64 y43.1, .slice a59 n60 c61]) (by kernel_rfl) ?_
 refine s_qk (v48) (by kernel_rfl) ?_
 refine s_rwk e51.wf [.int .i64 0, .slice none 0 0] (by kernel_rfl) fun b62 H63 e64 hb65 r66 => ?_
 have u72 := (m52.ext e64)
 obtain ⟨H68, q69, e70, r71⟩ := Row.store (P := Tryd.prog) (t := 24) (p := 0) e64.wf r66 (.agg #[.int .i64 y43.1, .slice a59 n60 c61]) [.int .i64 y43.1, .slice a59 n60 c61] (by kernel_rfl) (by kernel_rfl) (one_cons (rfl) (one_cons (u72.one1) (one_nil))) (Nat.le_of_ble_eq_true (by kernel_rfl)) [.int .i64 y43.1, .slice a59 n60 c61] (by kernel_rfl)
 refine s_ek (undef) (by kernel_rfl) (map_ok q69) ?_
 refine s_qk (v48) (by kernel_rfl) ?_
 refine s_nil ?_
 refine k40 _ _ ?_
 refine w_seqk fun K73 k73 => ?_
 refine w_seqk fun K74 k74 => ?_
 refine w_reg (by kernel_rfl) ?_
 refine s_qk (v48) (by kernel_rfl) ?_
 have u78 := ((m53.ext e64).fr e70 (hb65.djn m53.lt))
 rcases (u78).cases with ⟨h75, rfl⟩ | ⟨h75, t76, x77, rfl⟩
 ·have r79 := ite_t h75 r45
  refine s_qk (.bool false) (by kernel_rfl) ?_
  refine s_nil ?_
  refine k74 _ _ ?_
  refine w_cond false (by kernel_rfl) rfl (fun h => by cases h) (fun _ => ?_)
  refine w_skip ?_
  refine k73 _ _ ?_
  refine w_seqk fun K80 k80 => ?_
  refine w_reg (by kernel_rfl) ?_
  refine s_ql (.agg #[.int .i64 y43.1, .slice a59 n60 c61]) (x := aLoad Tryd.prog 24 (.pointer (some ⟨b62, 0, none⟩)) H68) (by kernel_rfl) (r71.ld (by kernel_rfl)) ?_
  have u81 := (u72.fr e70 (hb65.djn m52.lt))
  obtain ⟨y82, hy83, r84⟩ := bind_some r79
  refine s_ck 40 #[.agg #[.int .i64 y43.1, .slice a59 n60 c61]] (by kernel_rfl) (c_csr_Build e70.wf u81.sq hy83) ?_
  rintro _ H93 ⟨s85, f86, s87, f88, s89, f90, v91, f92, rfl, e94, m95, m96, m97, m98, i99, i100, i101, i102, d103, d104, d105, d106, d107, d108⟩
  obtain ⟨a113, n114, c115, rfl⟩ := m95.form
  obtain ⟨a116, n117, c118, rfl⟩ := m96.form
  obtain ⟨a119, n120, c121, rfl⟩ := m97.form
  refine s_qk (.agg #[.slice a113 n114 c115, .slice a116 n117 c118, .slice a119 n120 c121]) (by kernel_rfl) ?_
  refine s_qk (v91) (by kernel_rfl) ?_
  have u126 := ((((r38.frS e51 Dj.nil_l).ext e64).frS e70 (hb65.djn (r38.ltF.le e51.next))).frS e94 Dj.nil_l)
  obtain ⟨H122, q123, e124, r125⟩ := Row.store (P := Tryd.prog) (t := 59) (p := 0) e94.wf u126 (.agg #[.slice a113 n114 c115, .slice a116 n117 c118, .slice a119 n120 c121]) [.slice a113 n114 c115, .slice a116 n117 c118, .slice a119 n120 c121] (by kernel_rfl) (by kernel_rfl) (one_cons (m95.one1) (one_cons (m96.one1) (one_cons (m97.one1) (one_nil)))) (Nat.le_of_ble_eq_true (by kernel_rfl)) [.slice a113 n114 c115, .slice a116 n117 c118, .slice a119 n120 c121] (by kernel_rfl)
  refine s_ek (undef) (by kernel_rfl) (map_ok q123) ?_
  refine s_qk (v91) (by kernel_rfl) ?_
  refine s_nil ?_
  refine k80 _ _ ?_
  refine w_ret ?_
  refine b_ret (fn := Tryd.f45) (vs := [.agg #[.slice a113 n114 c115, .slice a116 n117 c118, .slice a119 n120 c121], v91]) (aRes_cell (Eq.trans (b := aLoad Tryd.prog 59 (.pointer (some ⟨b34, 0, none⟩)) H122) (by kernel_rfl) (r125.ld (by kernel_rfl))) (aRes_tmp (by kernel_rfl) (rfl))) ?_
  have u127 := (m95.fr e124 (Dj.symm (i99.djn (r38.ltF.le (ntr (ntr e51.next e64.next) e70.next)))))
  have u128 := (m96.fr e124 (Dj.symm (i100.djn (r38.ltF.le (ntr (ntr e51.next e64.next) e70.next)))))
  have u129 := (m97.fr e124 (Dj.symm (i101.djn (r38.ltF.le (ntr (ntr e51.next e64.next) e70.next)))))
  have u130 := (m98.fr e124 (Dj.symm (i102.djn (r38.ltF.le (ntr (ntr e51.next e64.next) e70.next)))))
  obtain rfl := Option.some.inj r84
  exact ⟨(.slice a113 n114 c115), f86, (.slice a116 n117 c118), f88, (.slice a119 n120 c121), f90, (v91), f92, rfl, (FrS.step wf (FrS.step wf (FrS.step wf ((FrS.step wf (((FrS.refl (W := []) wf).extR e30).extR e36) e51 Inn.nil).extR e64) e70 (hb65.fresh (ntr (ntr e30.next e36.next) e51.next))) e94 Inn.nil) e124 (hb37.fresh e30.next)), u127, u128, u129, u130, (i99.fresh (ntr (ntr (ntr (ntr e30.next e36.next) e51.next) e64.next) e70.next)), (i100.fresh (ntr (ntr (ntr (ntr e30.next e36.next) e51.next) e64.next) e70.next)), (i101.fresh (ntr (ntr (ntr (ntr e30.next e36.next) e51.next) e64.next) e70.next)), (i102.fresh (ntr (ntr (ntr (ntr e30.next e36.next) e51.next) e64.next) e70.next)), d103, d104, d105, d106, d107, d108⟩
 ·have r131 := ite_f h75 r45
  refine s_ql (.bool true) (x := aBin Tryd.prog .neq 28 (.tmp 11) (.const .nilIface) (.iface t76 x77) .nilIface) (by kernel_rfl) (aBin_nnil (by kernel_rfl)) ?_
  refine s_nil ?_
  refine k74 _ _ ?_
  refine w_cond true (by kernel_rfl) rfl (fun _ => ?_) (fun h => by cases h)
  refine w_seqk fun K132 k132 => ?_
  refine w_reg (by kernel_rfl) ?_
  refine s_qk (.agg #[.slice none 0 0, .slice none 0 0, .slice none 0 0]) (by kernel_rfl) ?_
  refine s_qk (.iface t76 x77) (by kernel_rfl) ?_
  have u137 := (((r38.frS e51 Dj.nil_l).ext e64).frS e70 (hb65.djn (r38.ltF.le e51.next)))
  obtain ⟨H133, q134, e135, r136⟩ := Row.store (P := Tryd.prog) (t := 59) (p := 0) e70.wf u137 (.agg #[.slice none 0 0, .slice none 0 0, .slice none 0 0]) [.slice none 0 0, .slice none 0 0, .slice none 0 0] (by kernel_rfl) (by kernel_rfl) (one_cons (rfl) (one_cons (rfl) (one_cons (rfl) (one_nil)))) (Nat.le_of_ble_eq_true (by kernel_rfl)) [.slice none 0 0, .slice none 0 0, .slice none 0 0] (by kernel_rfl)
  refine s_ek (undef) (by kernel_rfl) (map_ok q134) ?_
  refine s_qk (.iface t76 x77) (by kernel_rfl) ?_
  refine s_nil ?_
  refine k132 _ _ ?_
  refine w_ret (th_ret ?_)
  refine b_ret (fn := Tryd.f45) (vs := [.agg #[.slice none 0 0, .slice none 0 0, .slice none 0 0], .iface t76 x77]) (aRes_cell (Eq.trans (b := aLoad Tryd.prog 59 (.pointer (some ⟨b34, 0, none⟩)) H133) (by kernel_rfl) (r136.ld (by kernel_rfl))) (aRes_tmp (by kernel_rfl) (rfl))) ?_
  have u138 := (u78.fr e135 (Dj.symm (i55.djn r38.ltF)))
  obtain rfl := Option.some.inj r131
  exact ⟨(.slice none 0 0), [], (.slice none 0 0), [], (.slice none 0 0), [], (.iface t76 x77), f49, rfl, (FrS.step wf (FrS.step wf ((FrS.step wf (((FrS.refl (W := []) wf).extR e30).extR e36) e51 Inn.nil).extR e64) e70 (hb65.fresh (ntr (ntr e30.next e36.next) e51.next))) e135 (hb37.fresh e30.next)), (Ow.nil (by decide)), (Ow.nil (by decide)), (Ow.nil (by decide)), u138, Inn.nil, Inn.nil, Inn.nil, (i55.fresh (ntr e30.next e36.next)), Dj.nil_l, Dj.nil_l, Dj.nil_l, Dj.nil_l, Dj.nil_l, Dj.nil_l⟩

theorem c_viaductref04_Reverse {H : AH} {hd_Arcs : Value} {fp_Arcs : Fp} {N_ : Int} {Arcs : List (Int × Int × Int)} {r : Int × List (Int × Int × Int)}
  (wf : WF H) (h_Arcs : Sq enc_i64_i64_i64 3 H hd_Arcs Arcs fp_Arcs) (hr : z_viaductref04_Reverse N_ Arcs = some r) :
  ACalls Tryd.prog 58 #[.agg #[.int .i64 N_, hd_Arcs]] H fun v H' => ∃ (s3 : Value) (f4 : Fp), v = .agg #[.int .i64 r.1, s3] ∧ FrS [] H H' ∧ Ow enc_i64_i64_i64 3 H' s3 r.2 f4 ∧ Inn [] H f4 := by
 refine acalls_of_body mixed Tryd.func58 rfl (Nat.le_of_ble_eq_true rfl) ?_
 unfold z_viaductref04_Reverse at hr
 refine w_seqk fun K6 k6 => ?_
 refine w_reg (by kernel_rfl) ?_
 refine s_rwl wf [.int .i64 N_, hd_Arcs] (one_cons (rfl) (one_cons (h_Arcs.one1) (one_nil))) (by kernel_rfl) fun b7 H8 e9 hb10 r11 => ?_
 refine s_rwk e9.wf [.int .i64 0, .slice none 0 0] (by kernel_rfl) fun b13 H14 e15 hb16 r17 => ?_
 refine s_nil ?_
 refine k6 _ _ ?_
 refine w_seqk fun K19 k19 => ?_
 refine w_reg (by kernel_rfl) ?_
 refine s_qk (.pointer (some ⟨b7, 0, none⟩)) (by kernel_rfl) ?_
 have u20 := (r11.ext e15)
 refine s_ql (.int .i64 N_) (x := aLoad Tryd.prog 3 (.pointer (some ⟨b7, 0, none⟩)) H14) (by kernel_rfl) (u20.ld (by kernel_rfl)) ?_
 refine s_qk (.agg #[.int .i64 N_, .slice none 0 0]) (by kernel_rfl) ?_
 refine s_rwk e15.wf [.int .i64 0, .slice none 0 0] (by kernel_rfl) fun b21 H22 e23 hb24 r25 => ?_
 obtain ⟨H27, q28, e29, r30⟩ := Row.store (P := Tryd.prog) (t := 24) (p := 0) e23.wf r25 (.agg #[.int .i64 N_, .slice none 0 0]) [.int .i64 N_, .slice none 0 0] (by kernel_rfl) (by kernel_rfl) (one_cons (rfl) (one_cons (rfl) (one_nil))) (Nat.le_of_ble_eq_true (by kernel_rfl)) [.int .i64 N_, .slice none 0 0] (by kernel_rfl)
 refine s_ek (undef) (by kernel_rfl) (map_ok q28) ?_
 refine s_nil ?_
 refine k19 _ _ ?_
 refine w_seqk fun K31 k31 => ?_
 refine w_seqk fun K32 k32 => ?_
 refine w_reg (by kernel_rfl) ?_
 refine s_qk (.pointer (some ⟨b7, 1, none⟩)) (by kernel_rfl) ?_
 have u33 := ((u20.ext e23).frS e29 (hb24.djn (r11.ltF.le e15.next)))
 refine s_ql (hd_Arcs) (x := aLoad Tryd.prog 22 (.pointer (some ⟨b7, 1, none⟩)) H27) (by kernel_rfl) (u33.ld (by kernel_rfl)) ?_
 have u34 := ((((h_Arcs.ext e9).ext e15).ext e23).fr e29 (hb24.djn (h_Arcs.lt.le (ntr e9.next e15.next))))
 refine s_ql (.int .i64 (Arcs.length : Int)) (x := aLen Tryd.prog 22 hd_Arcs H27) (by kernel_rfl) (u34.lenb (by kernel_rfl)) ?_
 refine s_qk (.int .i64 0) (by kernel_rfl) ?_
 refine s_nil ?_
 refine k32 _ _ ?_
 obtain ⟨o35, hx36, r37⟩ := bind_some hr
 refine w_mid (fun α H38 => ∃ (s42 : Value) (f43 : Fp), Has α [(2, .pointer (some ⟨b13, 0, none⟩)), (3, .pointer (some ⟨b21, 0, none⟩))] ∧ FrS [b21] H27 H38 ∧ Ow enc_i64_i64_i64 3 H38 s42 o35 f43 ∧ Row H38 b21 [.int .i64 N_, s42] ∧ Inn [] H27 f43) (fun K47 k47 => ?_) (fun α H38 hM => ?_)
 ·refine w_block ?_
  obtain ⟨n49, hn50⟩ := loopO_iff.1 hx36
  refine w_loopn (fun n α H51 => ∃ (i0 : Int), ∃ (c1 : List (Int × Int × Int)), ∃ (s55 : Value), ∃ (f56 : Fp), iterO (fun zz_ => z_viaductref04_Reverse_l0 Arcs zz_.1 zz_.2) n (i0, c1) = some o35 ∧ Has α [(2, .pointer (some ⟨b13, 0, none⟩)), (3, .pointer (some ⟨b21, 0, none⟩)), (10, hd_Arcs), (11, .int .i64 (Arcs.length : Int)), (12, .int .i64 i0)] ∧ FrS [b21] H27 H51 ∧ Ow enc_i64_i64_i64 3 H51 s55 c1 f56 ∧ Row H51 b21 [.int .i64 N_, s55] ∧ Inn [] H27 f56) n49 ⟨0, [], (.slice none 0 0), [], hn50, ⟨by kernel_rfl, by kernel_rfl, by kernel_rfl, by kernel_rfl, by kernel_rfl, trivial⟩, (FrS.refl (W := [b21]) e29.wf), (Ow.nil (by decide)), r30, Inn.nil⟩ ?_
  rintro n49 α H51 ⟨i0, c1, s55, f56, hi61, hh60, e52, m54, m58, i59⟩ K66 k66
  obtain ⟨n62, z63, rfl, hz64, hn65⟩ := iter_succ hi61
  obtain ⟨β, rfl⟩ := has_ex hh60
  clear hh60
  replace hz64 : z_viaductref04_Reverse_l0 Arcs i0 c1 = some z63 := hz64
  unfold z_viaductref04_Reverse_l0 at hz64
  obtain ⟨a67, n68, c69, rfl⟩ := m54.form
  refine w_seqk fun K70 k70 => ?_
  refine w_reg (by kernel_rfl) ?_
  refine s_qk (.bool (decide (i0 < (Arcs.length : Int)))) (by kernel_rfl) ?_
  refine s_nil ?_
  refine k70 _ _ ?_
  refine w_seqk fun K71 k71 => ?_
  refine w_condp (i0 < (Arcs.length : Int)) (by kernel_rfl) rfl (fun h72 => ?_) (fun h72 => ?_)
  ·have r73 := ite_t h72 hz64
   refine w_skip ?_
   refine k71 _ _ ?_
   refine w_seqk fun K74 k74 => ?_
   refine w_block ?_
   refine w_seqk fun K75 k75 => ?_
   refine w_reg (by kernel_rfl) ?_
   obtain ⟨g76, r77⟩ := G_some r73
   have u78 := (u34.fr e52 (hb24.djn (h_Arcs.lt.le (ntr e9.next e15.next))))
   refine s_ql (elp hd_Arcs 3 i0.toNat 0) (x := aIndexAddr Tryd.prog 22 hd_Arcs (.int .i64 i0)) (by kernel_rfl) (u78.idxb (by kernel_rfl) g76 h72) ?_
   refine s_ql (.agg #[.int .i64 ((gt Arcs i0).1), .int .i64 ((gt Arcs i0).2.1), .int .i64 ((gt Arcs i0).2.2)]) (x := aLoad Tryd.prog 51 (elp hd_Arcs 3 i0.toNat 0) H51) (by kernel_rfl) (u78.ld g76 h72 (by kernel_rfl)) ?_
   refine s_rwk e52.wf [.int .i64 0, .int .i64 0, .int .i64 0] (by kernel_rfl) fun b79 H80 e81 hb82 r83 => ?_
   obtain ⟨H85, q86, e87, r88⟩ := Row.store (P := Tryd.prog) (t := 51) (p := 0) e81.wf r83 (.agg #[.int .i64 ((gt Arcs i0).1), .int .i64 ((gt Arcs i0).2.1), .int .i64 ((gt Arcs i0).2.2)]) [.int .i64 ((gt Arcs i0).1), .int .i64 ((gt Arcs i0).2.1), .int .i64 ((gt Arcs i0).2.2)] (by kernel_rfl) (by kernel_rfl) (one_cons (rfl) (one_cons (rfl) (one_cons (rfl) (one_nil)))) (Nat.le_of_ble_eq_true (by kernel_rfl)) [.int .i64 ((gt Arcs i0).1), .int .i64 ((gt Arcs i0).2.1), .int .i64 ((gt Arcs i0).2.2)] (by kernel_rfl)
   refine s_ek (undef) (by kernel_rfl) (map_ok q86) ?_
   refine s_nil ?_
   refine k75 _ _ ?_
   refine w_reg (by kernel_rfl) ?_
   refine s_qk (.pointer (some ⟨b21, 1, none⟩)) (by kernel_rfl) ?_
   have u89 := ((m58.ext e81).frS e87 (hb82.djn (r25.ltF.le (ntr e29.next e52.next))))
   refine s_ql (.slice a67 n68 c69) (x := aLoad Tryd.prog 22 (.pointer (some ⟨b21, 1, none⟩)) H85) (by kernel_rfl) (u89.ld (by kernel_rfl)) ?_
   refine s_qk (.pointer (some ⟨b79, 1, none⟩)) (by kernel_rfl) ?_
   refine s_ql (.int .i64 ((gt Arcs i0).2.1)) (x := aLoad Tryd.prog 3 (.pointer (some ⟨b79, 1, none⟩)) H85) (by kernel_rfl) (r88.ld (by kernel_rfl)) ?_
   refine s_qk (.pointer (some ⟨b79, 0, none⟩)) (by kernel_rfl) ?_
   refine s_ql (.int .i64 ((gt Arcs i0).1)) (x := aLoad Tryd.prog 3 (.pointer (some ⟨b79, 0, none⟩)) H85) (by kernel_rfl) (r88.ld (by kernel_rfl)) ?_
   refine s_qk (.pointer (some ⟨b79, 2, none⟩)) (by kernel_rfl) ?_
   refine s_ql (.int .i64 ((gt Arcs i0).2.2)) (x := aLoad Tryd.prog 3 (.pointer (some ⟨b79, 2, none⟩)) H85) (by kernel_rfl) (r88.ld (by kernel_rfl)) ?_
   refine s_qk (.agg #[.int .i64 ((gt Arcs i0).2.1), .int .i64 ((gt Arcs i0).1), .int .i64 ((gt Arcs i0).2.2)]) (by kernel_rfl) ?_
   refine s_owk (enc := enc_i64_i64_i64) (sz := 3) e87.wf [((gt Arcs i0).2.1, (gt Arcs i0).1, (gt Arcs i0).2.2)] 1 (by decide) (fun _ _ => rfl) (fun _ _ => rfl) rfl (by kernel_rfl) fun s90 f91 H92 e93 hf94 hm95 => ?_
   obtain ⟨a96, n97, c98, rfl⟩ := hm95.form
   have u100 := (((m54.ext e81).fr e87 (hb82.djn m54.lt)).ext e93)
   obtain ⟨g101, r102⟩ := G_some r77
   obtain ⟨s103, H104, f105, q109, e106, hm107, hf108⟩ := Ow.append (P := Tryd.prog) 24 e93.wf u100 hm95.sq (fun _ _ => rfl) (at_ := #[22, 22]) rfl rfl (by kernel_rfl) (by kernel_rfl) (by decide) (by have := g101; first | omega | (simp only [List.length_cons, List.length_nil] at this ⊢; omega) | (simp at this ⊢; omega))
   obtain ⟨a110, n111, c112, rfl⟩ := hm107.form
   refine s_ek (.slice a110 n111 c112) (by kernel_rfl) (q109) ?_
   refine s_qk (.pointer (some ⟨b21, 1, none⟩)) (by kernel_rfl) ?_
   have u118 := ((u89.ext e93).frS e106 (i59.djn (r25.ltF.le e29.next)))
   obtain ⟨H114, q115, e116, r117⟩ := Row.store (P := Tryd.prog) (t := 22) (p := 1) e106.wf u118 (.slice a110 n111 c112) [.slice a110 n111 c112] (by kernel_rfl) (by kernel_rfl) (one_cons (hm107.one1) (one_nil)) (Nat.le_of_ble_eq_true (by kernel_rfl)) [.int .i64 N_, .slice a110 n111 c112] (by kernel_rfl)
   refine s_ek (undef) (by kernel_rfl) (map_ok q115) ?_
   refine s_nil ?_
   refine k74 _ _ ?_
   refine w_reg (by kernel_rfl) ?_
   obtain ⟨g119, r120⟩ := G_some r102
   refine s_w ((i0 + 1)) (k := .i64) (x := (i0 + 1)) (by kernel_rfl) (wrap64 (by have := g119; omega)) ?_
   refine s_qk (.int .i64 (i0 + 1)) (by kernel_rfl) ?_
   refine s_nil ?_
   have u121 := (hm107.fr e116 (Dj.symm (hf108.dj (i59.djn (r25.ltF.le e29.next)) (r25.ltF.le (ntr (ntr (ntr (ntr e29.next e52.next) e81.next) e87.next) e93.next)))))
   obtain rfl := Option.some.inj r120
   exact k66 n62 _ _ (Nat.lt_succ_self _) ⟨(i0 + 1), (c1 ++ [((gt Arcs i0).2.1, (gt Arcs i0).1, (gt Arcs i0).2.2)]), (.slice a110 n111 c112), f105, hn65, ⟨by kernel_rfl, by kernel_rfl, by kernel_rfl, by kernel_rfl, by kernel_rfl, trivial⟩, (FrS.step e29.wf (FrS.step e29.wf ((FrS.step e29.wf ((FrS.step e29.wf (FrS.refl (W := [b21]) e29.wf) e52 Inn.refl').extR e81) e87 (hb82.fresh e52.next)).extR e93) e106 (i59.fresh (Nat.le_refl _))) e116 Inn.refl'), u121, r117, (Inn.trans (i59.fresh (Nat.le_refl _)) (ntr (ntr (ntr e52.next e81.next) e87.next) e93.next) hf108)⟩
  ·have r122 := ite_f h72 hz64
   refine w_exit (th_exit (th_exit (bl_eq ?_)))
   obtain rfl := Option.some.inj r122
   obtain rfl := it_inr hn65
   exact k47 _ _ ⟨(.slice a67 n68 c69), f56, ⟨by kernel_rfl, by kernel_rfl, trivial⟩, (FrS.step e29.wf (FrS.refl (W := [b21]) e29.wf) e52 Inn.refl'), m54, m58, (i59.fresh (Nat.le_refl _))⟩
 ·obtain ⟨s42, f43, hh48, e39, m41, m45, i46⟩ := hM
  obtain ⟨β, rfl⟩ := has_ex hh48
  clear hh48
  obtain ⟨a123, n124, c125, rfl⟩ := m41.form
  refine k31 _ _ ?_
  refine w_seqk fun K126 k126 => ?_
  refine w_reg (by kernel_rfl) ?_
  refine s_ql (.agg #[.int .i64 N_, .slice a123 n124 c125]) (x := aLoad Tryd.prog 24 (.pointer (some ⟨b21, 0, none⟩)) H38) (by kernel_rfl) (m45.ld (by kernel_rfl)) ?_
  have u131 := (((r17.ext e23).frS e29 (hb24.djn r17.ltF)).frS e39 (hb24.djn r17.ltF))
  obtain ⟨H127, q128, e129, r130⟩ := Row.store (P := Tryd.prog) (t := 24) (p := 0) e39.wf u131 (.agg #[.int .i64 N_, .slice a123 n124 c125]) [.int .i64 N_, .slice a123 n124 c125] (by kernel_rfl) (by kernel_rfl) (one_cons (rfl) (one_cons (m41.one1) (one_nil))) (Nat.le_of_ble_eq_true (by kernel_rfl)) [.int .i64 N_, .slice a123 n124 c125] (by kernel_rfl)
  refine s_ek (undef) (by kernel_rfl) (map_ok q128) ?_
  refine s_nil ?_
  refine k126 _ _ ?_
  refine w_ret ?_
  refine b_ret (fn := Tryd.f58) (vs := [.agg #[.int .i64 N_, .slice a123 n124 c125]]) (aRes_cell (Eq.trans (b := aLoad Tryd.prog 24 (.pointer (some ⟨b13, 0, none⟩)) H127) (by kernel_rfl) (r130.ld (by kernel_rfl))) (rfl)) ?_
  have u132 := (m41.fr e129 (Dj.symm (i46.djn (r17.ltF.le (ntr e23.next e29.next)))))
  obtain rfl := Option.some.inj r37
  exact ⟨(.slice a123 n124 c125), f43, rfl, (FrS.step wf (FrS.step wf (FrS.step wf ((((FrS.refl (W := []) wf).extR e9).extR e15).extR e23) e29 (hb24.fresh (ntr e9.next e15.next))) e39 (hb24.fresh (ntr e9.next e15.next))) e129 (hb16.fresh e9.next)), u132, (i46.fresh (ntr (ntr (ntr e9.next e15.next) e23.next) e29.next))⟩

theorem c_viaductref04_DocReverse {H : AH} {hd_Arcs : Value} {fp_Arcs : Fp} {N_ : Int} {Arcs : List (Int × Int × Int)} {r : Int × List (Int × Int × Int) × Int × List (Int × Int)}
  (wf : WF H) (h_Arcs : Sq enc_i64_i64_i64 3 H hd_Arcs Arcs fp_Arcs) (hr : z_viaductref04_DocReverse N_ Arcs = some r) :
  ACalls Tryd.prog 20 #[.agg #[.int .i64 N_, hd_Arcs]] H fun v H' => ∃ (s3 : Value) (f4 : Fp) (s7 : Value) (f8 : Fp), v = .tuple #[.agg #[.int .i64 r.1, s3], .agg #[.int .i64 r.2.2.1, s7]] ∧ FrS [] H H' ∧ Ow enc_i64_i64_i64 3 H' s3 r.2.1 f4 ∧ Ow enc_i64_i64 2 H' s7 r.2.2.2 f8 ∧ Inn [] H f4 ∧ Inn [] H f8 ∧ Dj f4 f8 := by
 refine acalls_of_body mixed Tryd.func20 rfl (Nat.le_of_ble_eq_true rfl) ?_
 unfold z_viaductref04_DocReverse at hr
 refine w_seqk fun K12 k12 => ?_
 refine w_reg (by kernel_rfl) ?_
 refine s_rwl wf [.int .i64 N_, hd_Arcs] (one_cons (rfl) (one_cons (h_Arcs.one1) (one_nil))) (by kernel_rfl) fun b13 H14 e15 hb16 r17 => ?_
 refine s_rwk e15.wf [.int .i64 0, .slice none 0 0] (by kernel_rfl) fun b19 H20 e21 hb22 r23 => ?_
 refine s_rwk e21.wf [.int .i64 0, .slice none 0 0] (by kernel_rfl) fun b25 H26 e27 hb28 r29 => ?_
 refine s_nil ?_
 refine k12 _ _ ?_
 refine w_seqk fun K31 k31 => ?_
 refine w_seqk fun K32 k32 => ?_
 refine w_reg (by kernel_rfl) ?_
 have u33 := ((r17.ext e21).ext e27)
 refine s_ql (.agg #[.int .i64 N_, hd_Arcs]) (x := aLoad Tryd.prog 24 (.pointer (some ⟨b13, 0, none⟩)) H26) (by kernel_rfl) (u33.ld (by kernel_rfl)) ?_
 have u34 := (((h_Arcs.ext e15).ext e21).ext e27)
 obtain ⟨y35, hy36, r37⟩ := bind_some hr
 refine s_ck 52 #[.agg #[.int .i64 N_, hd_Arcs]] (by kernel_rfl) (c_viaductref03_DocCheck e27.wf u34 hy36) ?_
 rintro _ H40 ⟨s38, f39, rfl, e41, m42, i43⟩
 obtain ⟨a45, n46, c47, rfl⟩ := m42.form
 refine s_rwk e41.wf [.int .i64 0, .slice none 0 0] (by kernel_rfl) fun b48 H49 e50 hb51 r52 => ?_
 have u58 := (m42.ext e50)
 obtain ⟨H54, q55, e56, r57⟩ := Row.store (P := Tryd.prog) (t := 33) (p := 0) e50.wf r52 (.agg #[.int .i64 y35.1, .slice a45 n46 c47]) [.int .i64 y35.1, .slice a45 n46 c47] (by kernel_rfl) (by kernel_rfl) (one_cons (rfl) (one_cons (u58.one1) (one_nil))) (Nat.le_of_ble_eq_true (by kernel_rfl)) [.int .i64 y35.1, .slice a45 n46 c47] (by kernel_rfl)
 refine s_ek (undef) (by kernel_rfl) (map_ok q55) ?_
 refine s_nil ?_
 refine k32 _ _ ?_
 refine w_seqk fun K59 k59 => ?_
 refine w_reg (by kernel_rfl) ?_
 refine s_ql (.agg #[.int .i64 y35.1, .slice a45 n46 c47]) (x := aLoad Tryd.prog 33 (.pointer (some ⟨b48, 0, none⟩)) H54) (by kernel_rfl) (r57.ld (by kernel_rfl)) ?_
 have u60 := (u58.fr e56 (hb51.djn m42.lt))
 obtain ⟨y61, hy62, r63⟩ := bind_some r37
 refine s_ck 53 #[.agg #[.int .i64 y35.1, .slice a45 n46 c47]] (by kernel_rfl) (c_viaductref01_Err_Bad e56.wf u60.sq hy62) ?_
 rintro _ H64 ⟨rfl, e65⟩
 refine s_nil ?_
 refine k59 _ _ ?_
 refine w_cond (y61) (by kernel_rfl) rfl (fun h66 => ?_) (fun h66 => ?_)
 ·have r67 := ite_t h66 r63
  refine w_seqk fun K68 k68 => ?_
  refine w_draw [0, 1, 2, 3] (by kernel_rfl) ?_
  refine d_qk (.agg #[.int .i64 0, .slice none 0 0]) (by kernel_rfl) ?_
  have u69 := (r57.frS e65 Dj.nil_l)
  refine d_fl (.agg #[.int .i64 y35.1, .slice a45 n46 c47]) (x := aLoad Tryd.prog 33 (.pointer (some ⟨b48, 0, none⟩)) H64) (by kernel_rfl) (u69.ld (by kernel_rfl)) ?_
  have u74 := (((((r23.ext e27).frS e41 Dj.nil_l).ext e50).frS e56 (hb51.djn (r23.ltF.le (ntr e27.next e41.next)))).frS e65 Dj.nil_l)
  obtain ⟨H70, q71, e72, r73⟩ := Row.store (P := Tryd.prog) (t := 24) (p := 0) e65.wf u74 (.agg #[.int .i64 0, .slice none 0 0]) [.int .i64 0, .slice none 0 0] (by kernel_rfl) (by kernel_rfl) (one_cons (rfl) (one_cons (rfl) (one_nil))) (Nat.le_of_ble_eq_true (by kernel_rfl)) [.int .i64 0, .slice none 0 0] (by kernel_rfl)
  have u75 := (u69.frS e72 (Dj.symm (hb51.djn (r23.ltF.le (ntr e27.next e41.next)))))
  refine d_ek (undef) (by kernel_rfl) (map_ok q71) (st_ql (y := aLoad Tryd.prog 33 (.pointer (some ⟨b48, 0, none⟩)) H70) (by kernel_rfl) (u75.ld (by kernel_rfl)) (st_nil)) ?_
  have u80 := (((((r29.frS e41 Dj.nil_l).ext e50).frS e56 (hb51.djn (r29.ltF.le e41.next))).frS e65 Dj.nil_l).frS e72 (Dj.symm (hb28.djn r23.ltF)))
  have u81 := ((u60.fr e65 Dj.nil_l).fr e72 (Dj.symm (i43.djn (r23.ltF.le e27.next))))
  obtain ⟨H76, q77, e78, r79⟩ := Row.store (P := Tryd.prog) (t := 33) (p := 0) e72.wf u80 (.agg #[.int .i64 y35.1, .slice a45 n46 c47]) [.int .i64 y35.1, .slice a45 n46 c47] (by kernel_rfl) (by kernel_rfl) (one_cons (rfl) (one_cons (u81.one1) (one_nil))) (Nat.le_of_ble_eq_true (by kernel_rfl)) [.int .i64 y35.1, .slice a45 n46 c47] (by kernel_rfl)
  refine d_ek (undef) (by kernel_rfl) (map_ok q77) (st_anc (by kernel_rfl) (st_nil)) ?_
  refine d_nil ?_
  refine k68 _ _ ?_
  refine w_ret (th_ret ?_)
  have u82 := (r73.frS e78 (hb28.djn r23.ltF))
  refine b_ret (fn := Tryd.f20) (vs := [.agg #[.int .i64 0, .slice none 0 0], .agg #[.int .i64 y35.1, .slice a45 n46 c47]]) (aRes_cell (Eq.trans (b := aLoad Tryd.prog 24 (.pointer (some ⟨b19, 0, none⟩)) H76) (by kernel_rfl) (u82.ld (by kernel_rfl))) (aRes_cell (Eq.trans (b := aLoad Tryd.prog 33 (.pointer (some ⟨b25, 0, none⟩)) H76) (by kernel_rfl) (r79.ld (by kernel_rfl))) (rfl))) ?_
  have u83 := (u81.fr e78 (Dj.symm (i43.djn r29.ltF)))
  obtain rfl := Option.some.inj r67
  exact ⟨(.slice none 0 0), [], (.slice a45 n46 c47), f39, rfl, (FrS.step wf (FrS.step wf (FrS.step wf (FrS.step wf ((FrS.step wf ((((FrS.refl (W := []) wf).extR e15).extR e21).extR e27) e41 Inn.nil).extR e50) e56 (hb51.fresh (ntr (ntr (ntr e15.next e21.next) e27.next) e41.next))) e65 Inn.nil) e72 (hb22.fresh e15.next)) e78 (hb28.fresh (ntr e15.next e21.next))), (Ow.nil (by decide)), u83, Inn.nil, (i43.fresh (ntr (ntr e15.next e21.next) e27.next)), Dj.nil_l⟩
 ·have r84 := ite_bf h66 r63
  refine w_skip ?_
  refine k31 _ _ ?_
  refine w_seqk fun K85 k85 => ?_
  refine w_reg (by kernel_rfl) ?_
  have u86 := ((((u33.frS e41 Dj.nil_l).ext e50).frS e56 (hb51.djn (r17.ltF.le (ntr (ntr e21.next e27.next) e41.next)))).frS e65 Dj.nil_l)
  refine s_ql (.agg #[.int .i64 N_, hd_Arcs]) (x := aLoad Tryd.prog 24 (.pointer (some ⟨b13, 0, none⟩)) H64) (by kernel_rfl) (u86.ld (by kernel_rfl)) ?_
  have u87 := ((((u34.fr e41 Dj.nil_l).ext e50).fr e56 (hb51.djn (h_Arcs.lt.le (ntr (ntr (ntr e15.next e21.next) e27.next) e41.next)))).fr e65 Dj.nil_l)
  obtain ⟨y88, hy89, r90⟩ := bind_some r84
  refine s_ck 58 #[.agg #[.int .i64 N_, hd_Arcs]] (by kernel_rfl) (c_viaductref04_Reverse e65.wf u87 hy89) ?_
  rintro _ H93 ⟨s91, f92, rfl, e94, m95, i96⟩
  obtain ⟨a98, n99, c100, rfl⟩ := m95.form
  refine s_qk (.agg #[.int .i64 0, .slice none 0 0]) (by kernel_rfl) ?_
  have u105 := ((((((r23.ext e27).frS e41 Dj.nil_l).ext e50).frS e56 (hb51.djn (r23.ltF.le (ntr e27.next e41.next)))).frS e65 Dj.nil_l).frS e94 Dj.nil_l)
  obtain ⟨H101, q102, e103, r104⟩ := Row.store (P := Tryd.prog) (t := 24) (p := 0) e94.wf u105 (.agg #[.int .i64 y88.1, .slice a98 n99 c100]) [.int .i64 y88.1, .slice a98 n99 c100] (by kernel_rfl) (by kernel_rfl) (one_cons (rfl) (one_cons (m95.one1) (one_nil))) (Nat.le_of_ble_eq_true (by kernel_rfl)) [.int .i64 y88.1, .slice a98 n99 c100] (by kernel_rfl)
  refine s_ek (undef) (by kernel_rfl) (map_ok q102) ?_
  have u110 := ((((((r29.frS e41 Dj.nil_l).ext e50).frS e56 (hb51.djn (r29.ltF.le e41.next))).frS e65 Dj.nil_l).frS e94 Dj.nil_l).frS e103 (Dj.symm (hb28.djn r23.ltF)))
  obtain ⟨H106, q107, e108, r109⟩ := Row.store (P := Tryd.prog) (t := 33) (p := 0) e103.wf u110 (.agg #[.int .i64 0, .slice none 0 0]) [.int .i64 0, .slice none 0 0] (by kernel_rfl) (by kernel_rfl) (one_cons (rfl) (one_cons (rfl) (one_nil))) (Nat.le_of_ble_eq_true (by kernel_rfl)) [.int .i64 0, .slice none 0 0] (by kernel_rfl)
  refine s_ek (undef) (by kernel_rfl) (map_ok q107) ?_
  refine s_nil ?_
  refine k85 _ _ ?_
  refine w_ret ?_
  have u111 := (r104.frS e108 (hb28.djn r23.ltF))
  refine b_ret (fn := Tryd.f20) (vs := [.agg #[.int .i64 y88.1, .slice a98 n99 c100], .agg #[.int .i64 0, .slice none 0 0]]) (aRes_cell (Eq.trans (b := aLoad Tryd.prog 24 (.pointer (some ⟨b19, 0, none⟩)) H106) (by kernel_rfl) (u111.ld (by kernel_rfl))) (aRes_cell (Eq.trans (b := aLoad Tryd.prog 33 (.pointer (some ⟨b25, 0, none⟩)) H106) (by kernel_rfl) (r109.ld (by kernel_rfl))) (rfl))) ?_
  have u112 := ((m95.fr e103 (Dj.symm (i96.djn (r23.ltF.le (ntr (ntr (ntr (ntr e27.next e41.next) e50.next) e56.next) e65.next))))).fr e108 (Dj.symm (i96.djn (r29.ltF.le (ntr (ntr (ntr e41.next e50.next) e56.next) e65.next)))))
  obtain rfl := Option.some.inj r90
  exact ⟨(.slice a98 n99 c100), f92, (.slice none 0 0), [], rfl, (FrS.step wf (FrS.step wf (FrS.step wf (FrS.step wf (FrS.step wf ((FrS.step wf ((((FrS.refl (W := []) wf).extR e15).extR e21).extR e27) e41 Inn.nil).extR e50) e56 (hb51.fresh (ntr (ntr (ntr e15.next e21.next) e27.next) e41.next))) e65 Inn.nil) e94 Inn.nil) e103 (hb22.fresh e15.next)) e108 (hb28.fresh (ntr e15.next e21.next))), u112, (Ow.nil (by decide)), (i96.fresh (ntr (ntr (ntr (ntr (ntr (ntr e15.next e21.next) e27.next) e41.next) e50.next) e56.next) e65.next)), Inn.nil, Dj.nil_r⟩

theorem c_viaductref05_DocBack {H : AH} {hd_Arcs : Value} {fp_Arcs : Fp} {N_ : Int} {Arcs : List (Int × Int × Int)} {r : List (Int) × List (Int) × List (Int) × Int × List (Int × Int)}
  (wf : WF H) (h_Arcs : Sq enc_i64_i64_i64 3 H hd_Arcs Arcs fp_Arcs) (hr : z_viaductref05_DocBack N_ Arcs = some r) :
  ACalls Tryd.prog 46 #[.agg #[.int .i64 N_, hd_Arcs]] H fun v H' => ∃ (s3 : Value) (f4 : Fp) (s7 : Value) (f8 : Fp) (s11 : Value) (f12 : Fp) (s15 : Value) (f16 : Fp), v = .tuple #[.agg #[s3, s7, s11], .agg #[.int .i64 r.2.2.2.1, s15]] ∧ FrS [] H H' ∧ Ow (encI .i64) 1 H' s3 r.1 f4 ∧ Ow (encI .i64) 1 H' s7 r.2.1 f8 ∧ Ow (encI .i64) 1 H' s11 r.2.2.1 f12 ∧ Ow enc_i64_i64 2 H' s15 r.2.2.2.2 f16 ∧ Inn [] H f4 ∧ Inn [] H f8 ∧ Inn [] H f12 ∧ Inn [] H f16 ∧ Dj f4 f8 ∧ Dj f4 f12 ∧ Dj f8 f12 ∧ Dj f4 f16 ∧ Dj f8 f16 ∧ Dj f12 f16 := by
 refine acalls_of_body mixed Tryd.func46 rfl (Nat.le_of_ble_eq_true rfl) ?_
 unfold z_viaductref05_DocBack at hr
 refine w_seqk fun K27 k27 => ?_
 refine w_reg (by kernel_rfl) ?_
 refine s_rwl wf [.int .i64 N_, hd_Arcs] (one_cons (rfl) (one_cons (h_Arcs.one1) (one_nil))) (by kernel_rfl) fun b28 H29 e30 hb31 r32 => ?_
 refine s_rwk e30.wf [.slice none 0 0, .slice none 0 0, .slice none 0 0] (by kernel_rfl) fun b34 H35 e36 hb37 r38 => ?_
 refine s_rwk e36.wf [.int .i64 0, .slice none 0 0] (by kernel_rfl) fun b40 H41 e42 hb43 r44 => ?_
 refine s_nil ?_
 refine k27 _ _ ?_
 refine w_seqk fun K46 k46 => ?_
 refine w_reg (by kernel_rfl) ?_
 have u47 := ((r32.ext e36).ext e42)
 refine s_ql (.agg #[.int .i64 N_, hd_Arcs]) (x := aLoad Tryd.prog 24 (.pointer (some ⟨b28, 0, none⟩)) H41) (by kernel_rfl) (u47.ld (by kernel_rfl)) ?_
 have u48 := (((h_Arcs.ext e30).ext e36).ext e42)
 obtain ⟨y49, hy50, r51⟩ := bind_some hr
 refine s_ck 20 #[.agg #[.int .i64 N_, hd_Arcs]] (by kernel_rfl) (c_viaductref04_DocReverse e42.wf u48 hy50) ?_
 rintro _ H56 ⟨s52, f53, s54, f55, rfl, e57, m58, m59, i60, i61, d62⟩
 obtain ⟨a65, n66, c67, rfl⟩ := m58.form
 obtain ⟨a68, n69, c70, rfl⟩ := m59.form
 refine s_qk (.tuple #[.agg #[.int .i64 y49.1, .slice a65 n66 c67], .agg #[.int .i64 y49.2.2.1, .slice a68 n69 c70]]) (by kernel_rfl) ?_
 refine s_qk (.agg #[.int .i64 y49.1, .slice a65 n66 c67]) (by kernel_rfl) ?_
 refine s_qk (.agg #[.int .i64 y49.2.2.1, .slice a68 n69 c70]) (by kernel_rfl) ?_
 refine s_rwk e57.wf [.int .i64 0, .slice none 0 0] (by kernel_rfl) fun b71 H72 e73 hb74 r75 => ?_
 refine s_rwk e73.wf [.int .i64 0, .slice none 0 0] (by kernel_rfl) fun b77 H78 e79 hb80 r81 => ?_
 have u87 := (r75.ext e79)
 have u88 := ((m58.ext e73).ext e79)
 obtain ⟨H83, q84, e85, r86⟩ := Row.store (P := Tryd.prog) (t := 24) (p := 0) e79.wf u87 (.agg #[.int .i64 y49.1, .slice a65 n66 c67]) [.int .i64 y49.1, .slice a65 n66 c67] (by kernel_rfl) (by kernel_rfl) (one_cons (rfl) (one_cons (u88.one1) (one_nil))) (Nat.le_of_ble_eq_true (by kernel_rfl)) [.int .i64 y49.1, .slice a65 n66 c67] (by kernel_rfl)
 refine s_ek (undef) (by kernel_rfl) (map_ok q84) ?_
 have u93 := (r81.frS e85 (Dj.symm (hb80.djn r75.ltF)))
 have u94 := (((m59.ext e73).ext e79).fr e85 (hb74.djn m59.lt))
 obtain ⟨H89, q90, e91, r92⟩ := Row.store (P := Tryd.prog) (t := 33) (p := 0) e85.wf u93 (.agg #[.int .i64 y49.2.2.1, .slice a68 n69 c70]) [.int .i64 y49.2.2.1, .slice a68 n69 c70] (by kernel_rfl) (by kernel_rfl) (one_cons (rfl) (one_cons (u94.one1) (one_nil))) (Nat.le_of_ble_eq_true (by kernel_rfl)) [.int .i64 y49.2.2.1, .slice a68 n69 c70] (by kernel_rfl)
 refine s_ek (undef) (by kernel_rfl) (map_ok q90) ?_
 refine s_nil ?_
 refine k46 _ _ ?_
 refine w_seqk fun K95 k95 => ?_
 refine w_seqk fun K96 k96 => ?_
 refine w_reg (by kernel_rfl) ?_
 refine s_ql (.agg #[.int .i64 y49.2.2.1, .slice a68 n69 c70]) (x := aLoad Tryd.prog 33 (.pointer (some ⟨b77, 0, none⟩)) H89) (by kernel_rfl) (r92.ld (by kernel_rfl)) ?_
 have u97 := (u94.fr e91 (hb80.djn (m59.lt.le e73.next)))
 obtain ⟨y98, hy99, r100⟩ := bind_some r51
 refine s_ck 53 #[.agg #[.int .i64 y49.2.2.1, .slice a68 n69 c70]] (by kernel_rfl) (c_viaductref01_Err_Bad e91.wf u97.sq hy99) ?_
 rintro _ H101 ⟨rfl, e102⟩
 refine s_nil ?_
 refine k96 _ _ ?_
 refine w_cond (y98) (by kernel_rfl) rfl (fun h103 => ?_) (fun h103 => ?_)
 ·have r104 := ite_t h103 r100
  refine w_seqk fun K105 k105 => ?_
  refine w_draw [0, 1, 2, 3] (by kernel_rfl) ?_
  refine d_qk (.agg #[.slice none 0 0, .slice none 0 0, .slice none 0 0]) (by kernel_rfl) ?_
  have u106 := (r92.frS e102 Dj.nil_l)
  refine d_fl (.agg #[.int .i64 y49.2.2.1, .slice a68 n69 c70]) (x := aLoad Tryd.prog 33 (.pointer (some ⟨b77, 0, none⟩)) H101) (by kernel_rfl) (u106.ld (by kernel_rfl)) ?_
  have u111 := (((((((r38.ext e42).frS e57 Dj.nil_l).ext e73).ext e79).frS e85 (hb74.djn (r38.ltF.le (ntr e42.next e57.next)))).frS e91 (hb80.djn (r38.ltF.le (ntr (ntr e42.next e57.next) e73.next)))).frS e102 Dj.nil_l)
  obtain ⟨H107, q108, e109, r110⟩ := Row.store (P := Tryd.prog) (t := 57) (p := 0) e102.wf u111 (.agg #[.slice none 0 0, .slice none 0 0, .slice none 0 0]) [.slice none 0 0, .slice none 0 0, .slice none 0 0] (by kernel_rfl) (by kernel_rfl) (one_cons (rfl) (one_cons (rfl) (one_cons (rfl) (one_nil)))) (Nat.le_of_ble_eq_true (by kernel_rfl)) [.slice none 0 0, .slice none 0 0, .slice none 0 0] (by kernel_rfl)
  have u112 := (u106.frS e109 (Dj.symm (hb80.djn (r38.ltF.le (ntr (ntr e42.next e57.next) e73.next)))))
  refine d_ek (undef) (by kernel_rfl) (map_ok q108) (st_ql (y := aLoad Tryd.prog 33 (.pointer (some ⟨b77, 0, none⟩)) H107) (by kernel_rfl) (u112.ld (by kernel_rfl)) (st_nil)) ?_
  have u117 := (((((((r44.frS e57 Dj.nil_l).ext e73).ext e79).frS e85 (hb74.djn (r44.ltF.le e57.next))).frS e91 (hb80.djn (r44.ltF.le (ntr e57.next e73.next)))).frS e102 Dj.nil_l).frS e109 (Dj.symm (hb43.djn r38.ltF)))
  have u118 := ((u97.fr e102 Dj.nil_l).fr e109 (Dj.symm (i61.djn (r38.ltF.le e42.next))))
  obtain ⟨H113, q114, e115, r116⟩ := Row.store (P := Tryd.prog) (t := 33) (p := 0) e109.wf u117 (.agg #[.int .i64 y49.2.2.1, .slice a68 n69 c70]) [.int .i64 y49.2.2.1, .slice a68 n69 c70] (by kernel_rfl) (by kernel_rfl) (one_cons (rfl) (one_cons (u118.one1) (one_nil))) (Nat.le_of_ble_eq_true (by kernel_rfl)) [.int .i64 y49.2.2.1, .slice a68 n69 c70] (by kernel_rfl)
  refine d_ek (undef) (by kernel_rfl) (map_ok q114) (st_anc (by kernel_rfl) (st_nil)) ?_
  refine d_nil ?_
  refine k105 _ _ ?_
  refine w_ret (th_ret ?_)
  have u119 := (r110.frS e115 (hb43.djn r38.ltF))
  refine b_ret (fn := Tryd.f46) (vs := [.agg #[.slice none 0 0, .slice none 0 0, .slice none 0 0], .agg #[.int .i64 y49.2.2.1, .slice a68 n69 c70]]) (aRes_cell (Eq.trans (b := aLoad Tryd.prog 57 (.pointer (some ⟨b34, 0, none⟩)) H113) (by kernel_rfl) (u119.ld (by kernel_rfl))) (aRes_cell (Eq.trans (b := aLoad Tryd.prog 33 (.pointer (some ⟨b40, 0, none⟩)) H113) (by kernel_rfl) (r116.ld (by kernel_rfl))) (rfl))) ?_
  have u120 := (u118.fr e115 (Dj.symm (i61.djn r44.ltF)))
  obtain rfl := Option.some.inj r104
  exact ⟨(.slice none 0 0), [], (.slice none 0 0), [], (.slice none 0 0), [], (.slice a68 n69 c70), f55, rfl, (FrS.step wf (FrS.step wf (FrS.step wf (FrS.step wf (FrS.step wf (((FrS.step wf ((((FrS.refl (W := []) wf).extR e30).extR e36).extR e42) e57 Inn.nil).extR e73).extR e79) e85 (hb74.fresh (ntr (ntr (ntr e30.next e36.next) e42.next) e57.next))) e91 (hb80.fresh (ntr (ntr (ntr (ntr e30.next e36.next) e42.next) e57.next) e73.next))) e102 Inn.nil) e109 (hb37.fresh e30.next)) e115 (hb43.fresh (ntr e30.next e36.next))), (Ow.nil (by decide)), (Ow.nil (by decide)), (Ow.nil (by decide)), u120, Inn.nil, Inn.nil, Inn.nil, (i61.fresh (ntr (ntr e30.next e36.next) e42.next)), Dj.nil_l, Dj.nil_l, Dj.nil_l, Dj.nil_l, Dj.nil_l, Dj.nil_l⟩
 ·have r121 := ite_bf h103 r100
  refine w_skip ?_
  refine k95 _ _ ?_
  refine w_seqk fun K122 k122 => ?_
  refine w_draw [0, 3, 1, 2, 4, 5] (by kernel_rfl) ?_
  have u123 := ((r86.frS e91 (hb80.djn r75.ltF)).frS e102 Dj.nil_l)
  refine d_ql (.agg #[.int .i64 y49.1, .slice a65 n66 c67]) (x := aLoad Tryd.prog 24 (.pointer (some ⟨b71, 0, none⟩)) H101) (by kernel_rfl) (u123.ld (by kernel_rfl)) ?_
  have u124 := (r92.frS e102 Dj.nil_l)
  refine d_fl (.agg #[.int .i64 y49.2.2.1, .slice a68 n69 c70]) (x := aLoad Tryd.prog 33 (.pointer (some ⟨b77, 0, none⟩)) H101) (by kernel_rfl) (u124.ld (by kernel_rfl)) ?_
  have u125 := (((u88.fr e85 (hb74.djn m58.lt)).fr e91 (hb80.djn (m58.lt.le e73.next))).fr e102 Dj.nil_l)
  obtain ⟨y126, hy127, r128⟩ := bind_some r121
  refine d_ck 54 #[.agg #[.int .i64 y49.1, .slice a65 n66 c67]] (by kernel_rfl) (c_viaductref04_Of e102.wf u125.sq hy127) ?_
  rintro _ H131 ⟨s129, f130, rfl, e132, m133, i134⟩
  obtain ⟨a136, n137, c138, rfl⟩ := m133.form
  have u139 := (u124.frS e132 Dj.nil_l)
  refine ⟨st_ql (y := aLoad Tryd.prog 33 (.pointer (some ⟨b77, 0, none⟩)) H131) (by kernel_rfl) (u139.ld (by kernel_rfl)) (st_nil), ?_⟩
  obtain ⟨y140, hy141, r142⟩ := bind_some r128
  refine d_ck 73 #[.agg #[.int .i64 y126.1, .slice a136 n137 c138]] (by kernel_rfl) (c_viaductref05_Build e132.wf m133.sq hy141) ?_
  rintro _ H149 ⟨s143, f144, s145, f146, s147, f148, rfl, e150, m151, m152, m153, i154, i155, i156, d157, d158, d159⟩
  obtain ⟨a163, n164, c165, rfl⟩ := m151.form
  obtain ⟨a166, n167, c168, rfl⟩ := m152.form
  obtain ⟨a169, n170, c171, rfl⟩ := m153.form
  have u172 := (u139.frS e150 Dj.nil_l)
  refine ⟨st_ql (y := aLoad Tryd.prog 33 (.pointer (some ⟨b77, 0, none⟩)) H149) (by kernel_rfl) (u172.ld (by kernel_rfl)) (st_nil), ?_⟩
  have u177 := (((((((((r38.ext e42).frS e57 Dj.nil_l).ext e73).ext e79).frS e85 (hb74.djn (r38.ltF.le (ntr e42.next e57.next)))).frS e91 (hb80.djn (r38.ltF.le (ntr (ntr e42.next e57.next) e73.next)))).frS e102 Dj.nil_l).frS e132 Dj.nil_l).frS e150 Dj.nil_l)
  obtain ⟨H173, q174, e175, r176⟩ := Row.store (P := Tryd.prog) (t := 57) (p := 0) e150.wf u177 (.agg #[.slice a163 n164 c165, .slice a166 n167 c168, .slice a169 n170 c171]) [.slice a163 n164 c165, .slice a166 n167 c168, .slice a169 n170 c171] (by kernel_rfl) (by kernel_rfl) (one_cons (m151.one1) (one_cons (m152.one1) (one_cons (m153.one1) (one_nil)))) (Nat.le_of_ble_eq_true (by kernel_rfl)) [.slice a163 n164 c165, .slice a166 n167 c168, .slice a169 n170 c171] (by kernel_rfl)
  have u178 := (u172.frS e175 (Dj.symm (hb80.djn (r38.ltF.le (ntr (ntr e42.next e57.next) e73.next)))))
  refine d_ek (undef) (by kernel_rfl) (map_ok q174) (st_ql (y := aLoad Tryd.prog 33 (.pointer (some ⟨b77, 0, none⟩)) H173) (by kernel_rfl) (u178.ld (by kernel_rfl)) (st_nil)) ?_
  have u183 := (((((((((r44.frS e57 Dj.nil_l).ext e73).ext e79).frS e85 (hb74.djn (r44.ltF.le e57.next))).frS e91 (hb80.djn (r44.ltF.le (ntr e57.next e73.next)))).frS e102 Dj.nil_l).frS e132 Dj.nil_l).frS e150 Dj.nil_l).frS e175 (Dj.symm (hb43.djn r38.ltF)))
  have u184 := ((((u97.fr e102 Dj.nil_l).fr e132 Dj.nil_l).fr e150 Dj.nil_l).fr e175 (Dj.symm (i61.djn (r38.ltF.le e42.next))))
  obtain ⟨H179, q180, e181, r182⟩ := Row.store (P := Tryd.prog) (t := 33) (p := 0) e175.wf u183 (.agg #[.int .i64 y49.2.2.1, .slice a68 n69 c70]) [.int .i64 y49.2.2.1, .slice a68 n69 c70] (by kernel_rfl) (by kernel_rfl) (one_cons (rfl) (one_cons (u184.one1) (one_nil))) (Nat.le_of_ble_eq_true (by kernel_rfl)) [.int .i64 y49.2.2.1, .slice a68 n69 c70] (by kernel_rfl)
  refine d_ek (undef) (by kernel_rfl) (map_ok q180) (st_anc (by kernel_rfl) (st_nil)) ?_
  refine d_nil ?_
  refine k122 _ _ ?_
  refine w_ret ?_
  have u185 := (r176.frS e181 (hb43.djn r38.ltF))
  refine b_ret (fn := Tryd.f46) (vs := [.agg #[.slice a163 n164 c165, .slice a166 n167 c168, .slice a169 n170 c171], .agg #[.int .i64 y49.2.2.1, .slice a68 n69 c70]]) (aRes_cell (Eq.trans (b := aLoad Tryd.prog 57 (.pointer (some ⟨b34, 0, none⟩)) H179) (by kernel_rfl) (u185.ld (by kernel_rfl))) (aRes_cell (Eq.trans (b := aLoad Tryd.prog 33 (.pointer (some ⟨b40, 0, none⟩)) H179) (by kernel_rfl) (r182.ld (by kernel_rfl))) (rfl))) ?_
  have u186 := ((m151.fr e175 (Dj.symm (i154.djn (r38.ltF.le (ntr (ntr (ntr (ntr (ntr (ntr (ntr e42.next e57.next) e73.next) e79.next) e85.next) e91.next) e102.next) e132.next))))).fr e181 (Dj.symm (i154.djn (r44.ltF.le (ntr (ntr (ntr (ntr (ntr (ntr e57.next e73.next) e79.next) e85.next) e91.next) e102.next) e132.next)))))
  have u187 := ((m152.fr e175 (Dj.symm (i155.djn (r38.ltF.le (ntr (ntr (ntr (ntr (ntr (ntr (ntr e42.next e57.next) e73.next) e79.next) e85.next) e91.next) e102.next) e132.next))))).fr e181 (Dj.symm (i155.djn (r44.ltF.le (ntr (ntr (ntr (ntr (ntr (ntr e57.next e73.next) e79.next) e85.next) e91.next) e102.next) e132.next)))))
  have u188 := ((m153.fr e175 (Dj.symm (i156.djn (r38.ltF.le (ntr (ntr (ntr (ntr (ntr (ntr (ntr e42.next e57.next) e73.next) e79.next) e85.next) e91.next) e102.next) e132.next))))).fr e181 (Dj.symm (i156.djn (r44.ltF.le (ntr (ntr (ntr (ntr (ntr (ntr e57.next e73.next) e79.next) e85.next) e91.next) e102.next) e132.next)))))
  have u189 := (u184.fr e181 (Dj.symm (i61.djn r44.ltF)))
  obtain rfl := Option.some.inj r142
  exact ⟨(.slice a163 n164 c165), f144, (.slice a166 n167 c168), f146, (.slice a169 n170 c171), f148, (.slice a68 n69 c70), f55, rfl, (FrS.step wf (FrS.step wf (FrS.step wf (FrS.step wf (FrS.step wf (FrS.step wf (FrS.step wf (((FrS.step wf ((((FrS.refl (W := []) wf).extR e30).extR e36).extR e42) e57 Inn.nil).extR e73).extR e79) e85 (hb74.fresh (ntr (ntr (ntr e30.next e36.next) e42.next) e57.next))) e91 (hb80.fresh (ntr (ntr (ntr (ntr e30.next e36.next) e42.next) e57.next) e73.next))) e102 Inn.nil) e132 Inn.nil) e150 Inn.nil) e175 (hb37.fresh e30.next)) e181 (hb43.fresh (ntr e30.next e36.next))), u186, u187, u188, u189, (i154.fresh (ntr (ntr (ntr (ntr (ntr (ntr (ntr (ntr (ntr e30.next e36.next) e42.next) e57.next) e73.next) e79.next) e85.next) e91.next) e102.next) e132.next)), (i155.fresh (ntr (ntr (ntr (ntr (ntr (ntr (ntr (ntr (ntr e30.next e36.next) e42.next) e57.next) e73.next) e79.next) e85.next) e91.next) e102.next) e132.next)), (i156.fresh (ntr (ntr (ntr (ntr (ntr (ntr (ntr (ntr (ntr e30.next e36.next) e42.next) e57.next) e73.next) e79.next) e85.next) e91.next) e102.next) e132.next)), (i61.fresh (ntr (ntr e30.next e36.next) e42.next)), d157, d158, d159, (i154.djn (m59.lt.le (ntr (ntr (ntr (ntr (ntr e73.next e79.next) e85.next) e91.next) e102.next) e132.next))), (i155.djn (m59.lt.le (ntr (ntr (ntr (ntr (ntr e73.next e79.next) e85.next) e91.next) e102.next) e132.next))), (i156.djn (m59.lt.le (ntr (ntr (ntr (ntr (ntr e73.next e79.next) e85.next) e91.next) e102.next) e132.next)))⟩


end Go.Vd

/-! (KCb4) -/

set_option maxRecDepth 100000
set_option maxHeartbeats 4000000
set_option linter.unusedVariables false
namespace Go.Vd
open Go.Proofs
attribute [local irreducible] wpSeq wpOrd aWp
theorem c_viaductlaw05_CsrBuilds {H : AH} {hd_Arcs : Value} {fp_Arcs : Fp} {N_ : Int} {Arcs : List (Int × Int × Int)} {r : Bool}
  (wf : WF H) (h_Arcs : Sq enc_i64_i64_i64 3 H hd_Arcs Arcs fp_Arcs) (hr : z_viaductlaw05_CsrBuilds N_ Arcs = some r) :
  ACalls Tryd.prog 9 #[.agg #[.int .i64 N_, hd_Arcs]] H fun v H' => v = .bool r ∧ FrS [] H H' := by
 refine acalls_of_body mixed Tryd.func9 rfl (Nat.le_of_ble_eq_true rfl) ?_
 unfold z_viaductlaw05_CsrBuilds at hr
 refine w_seqk fun K1 k1 => ?_
 refine w_reg (by kernel_rfl) ?_
 refine s_rwl wf [.int .i64 N_, hd_Arcs] (one_cons (rfl) (one_cons (h_Arcs.one1) (one_nil))) (by kernel_rfl) fun b2 H3 e4 hb5 r6 => ?_
 refine s_qk (.bool false) (by kernel_rfl) ?_
 refine s_nil ?_
 refine k1 _ _ ?_
 refine w_seqk fun K8 k8 => ?_
 refine w_seqk fun K9 k9 => ?_
 refine w_reg (by kernel_rfl) ?_
 refine s_ck 28 #[] (by kernel_rfl) c_viaductlaw05_awake ?_
 rintro _ _ ⟨rfl, rfl⟩
 refine s_qk (.bool false) (by kernel_rfl) ?_
 refine s_nil ?_
 refine k9 _ _ ?_
 refine w_cond false (by kernel_rfl) rfl (fun h => by cases h) (fun _ => ?_)
 refine w_skip ?_
 refine k8 _ _ ?_
 refine w_seqk fun K10 k10 => ?_
 refine w_seqk fun K11 k11 => ?_
 refine w_reg (by kernel_rfl) ?_
 refine s_ql (.agg #[.int .i64 N_, hd_Arcs]) (x := aLoad Tryd.prog 24 (.pointer (some ⟨b2, 0, none⟩)) H3) (by kernel_rfl) (r6.ld (by kernel_rfl)) ?_
 have u12 := (h_Arcs.ext e4)
 obtain ⟨y13, hy14, r15⟩ := bind_some hr
 refine s_ck 41 #[.agg #[.int .i64 N_, hd_Arcs]] (by kernel_rfl) (c_viaductlaw05_great e4.wf u12 hy14) ?_
 rintro _ H16 ⟨rfl, e17⟩
 refine s_nil ?_
 refine k11 _ _ ?_
 refine w_cond (y13) (by kernel_rfl) rfl (fun h18 => ?_) (fun h18 => ?_)
 ·have r19 := ite_t h18 r15
  refine w_seqk fun K20 k20 => ?_
  refine w_reg (by kernel_rfl) ?_
  refine s_qk (.bool true) (by kernel_rfl) ?_
  refine s_nil ?_
  refine k20 _ _ ?_
  refine w_ret (th_ret ?_)
  refine b_ret (fn := Tryd.f9) (vs := [.bool true]) (aRes_tmp (by kernel_rfl) (rfl)) ?_
  obtain rfl := Option.some.inj r19
  exact ⟨rfl, (FrS.step wf ((FrS.refl (W := []) wf).extR e4) e17 Inn.nil)⟩
 ·have r21 := ite_bf h18 r15
  refine w_skip ?_
  refine k10 _ _ ?_
  refine w_seqk fun K22 k22 => ?_
  refine w_reg (by kernel_rfl) ?_
  have u23 := (r6.frS e17 Dj.nil_l)
  refine s_ql (.agg #[.int .i64 N_, hd_Arcs]) (x := aLoad Tryd.prog 24 (.pointer (some ⟨b2, 0, none⟩)) H16) (by kernel_rfl) (u23.ld (by kernel_rfl)) ?_
  have u24 := (u12.fr e17 Dj.nil_l)
  obtain ⟨y25, hy26, r27⟩ := bind_some r21
  refine s_ck 40 #[.agg #[.int .i64 N_, hd_Arcs]] (by kernel_rfl) (c_csr_Build e17.wf u24 hy26) ?_
  rintro _ H36 ⟨s28, f29, s30, f31, s32, f33, v34, f35, rfl, e37, m38, m39, m40, m41, i42, i43, i44, i45, d46, d47, d48, d49, d50, d51⟩
  obtain ⟨a56, n57, c58, rfl⟩ := m38.form
  obtain ⟨a59, n60, c61, rfl⟩ := m39.form
  obtain ⟨a62, n63, c64, rfl⟩ := m40.form
  refine s_qk (.tuple #[.agg #[.slice a56 n57 c58, .slice a59 n60 c61, .slice a62 n63 c64], v34]) (by kernel_rfl) ?_
  refine s_qk (.agg #[.slice a56 n57 c58, .slice a59 n60 c61, .slice a62 n63 c64]) (by kernel_rfl) ?_
  refine s_qk (v34) (by kernel_rfl) ?_
  refine s_rwk e37.wf [.slice none 0 0, .slice none 0 0, .slice none 0 0] (by kernel_rfl) fun b65 H66 e67 hb68 r69 => ?_
  have u75 := (m40.ext e67)
  have u76 := (m39.ext e67)
  have u77 := (m38.ext e67)
  obtain ⟨H71, q72, e73, r74⟩ := Row.store (P := Tryd.prog) (t := 59) (p := 0) e67.wf r69 (.agg #[.slice a56 n57 c58, .slice a59 n60 c61, .slice a62 n63 c64]) [.slice a56 n57 c58, .slice a59 n60 c61, .slice a62 n63 c64] (by kernel_rfl) (by kernel_rfl) (one_cons (u77.one1) (one_cons (u76.one1) (one_cons (u75.one1) (one_nil)))) (Nat.le_of_ble_eq_true (by kernel_rfl)) [.slice a56 n57 c58, .slice a59 n60 c61, .slice a62 n63 c64] (by kernel_rfl)
  refine s_ek (undef) (by kernel_rfl) (map_ok q72) ?_
  refine s_qk (v34) (by kernel_rfl) ?_
  refine s_nil ?_
  refine k22 _ _ ?_
  refine w_seqk fun K78 k78 => ?_
  refine w_reg (by kernel_rfl) ?_
  have u79 := (((u23.frS e37 Dj.nil_l).ext e67).frS e73 (hb68.djn (r6.ltF.le (ntr e17.next e37.next))))
  refine s_ql (.agg #[.int .i64 N_, hd_Arcs]) (x := aLoad Tryd.prog 24 (.pointer (some ⟨b2, 0, none⟩)) H71) (by kernel_rfl) (u79.ld (by kernel_rfl)) ?_
  have u80 := (((u24.fr e37 Dj.nil_l).ext e67).fr e73 (hb68.djn (h_Arcs.lt.le (ntr (ntr e4.next e17.next) e37.next))))
  obtain ⟨y81, hy82, r83⟩ := bind_some r27
  refine s_ck 42 #[.agg #[.int .i64 N_, hd_Arcs]] (by kernel_rfl) (c_viaductref05_DocBuild e73.wf u80 hy82) ?_
  rintro _ H92 ⟨s84, f85, s86, f87, s88, f89, s90, f91, rfl, e93, m94, m95, m96, m97, i98, i99, i100, i101, d102, d103, d104, d105, d106, d107⟩
  obtain ⟨a112, n113, c114, rfl⟩ := m94.form
  obtain ⟨a115, n116, c117, rfl⟩ := m95.form
  obtain ⟨a118, n119, c120, rfl⟩ := m96.form
  obtain ⟨a121, n122, c123, rfl⟩ := m97.form
  refine s_qk (.tuple #[.agg #[.slice a112 n113 c114, .slice a115 n116 c117, .slice a118 n119 c120], .agg #[.int .i64 y81.2.2.2.1, .slice a121 n122 c123]]) (by kernel_rfl) ?_
  refine s_qk (.agg #[.slice a112 n113 c114, .slice a115 n116 c117, .slice a118 n119 c120]) (by kernel_rfl) ?_
  refine s_qk (.agg #[.int .i64 y81.2.2.2.1, .slice a121 n122 c123]) (by kernel_rfl) ?_
  refine s_rwk e93.wf [.slice none 0 0, .slice none 0 0, .slice none 0 0] (by kernel_rfl) fun b124 H125 e126 hb127 r128 => ?_
  refine s_rwk e126.wf [.int .i64 0, .slice none 0 0] (by kernel_rfl) fun b130 H131 e132 hb133 r134 => ?_
  have u140 := (r128.ext e132)
  have u141 := ((m96.ext e126).ext e132)
  have u142 := ((m95.ext e126).ext e132)
  have u143 := ((m94.ext e126).ext e132)
  obtain ⟨H136, q137, e138, r139⟩ := Row.store (P := Tryd.prog) (t := 57) (p := 0) e132.wf u140 (.agg #[.slice a112 n113 c114, .slice a115 n116 c117, .slice a118 n119 c120]) [.slice a112 n113 c114, .slice a115 n116 c117, .slice a118 n119 c120] (by kernel_rfl) (by kernel_rfl) (one_cons (u143.one1) (one_cons (u142.one1) (one_cons (u141.one1) (one_nil)))) (Nat.le_of_ble_eq_true (by kernel_rfl)) [.slice a112 n113 c114, .slice a115 n116 c117, .slice a118 n119 c120] (by kernel_rfl)
  refine s_ek (undef) (by kernel_rfl) (map_ok q137) ?_
  have u148 := (r134.frS e138 (Dj.symm (hb133.djn r128.ltF)))
  have u149 := (((m97.ext e126).ext e132).fr e138 (hb127.djn m97.lt))
  obtain ⟨H144, q145, e146, r147⟩ := Row.store (P := Tryd.prog) (t := 33) (p := 0) e138.wf u148 (.agg #[.int .i64 y81.2.2.2.1, .slice a121 n122 c123]) [.int .i64 y81.2.2.2.1, .slice a121 n122 c123] (by kernel_rfl) (by kernel_rfl) (one_cons (rfl) (one_cons (u149.one1) (one_nil))) (Nat.le_of_ble_eq_true (by kernel_rfl)) [.int .i64 y81.2.2.2.1, .slice a121 n122 c123] (by kernel_rfl)
  refine s_ek (undef) (by kernel_rfl) (map_ok q145) ?_
  refine s_nil ?_
  refine k78 _ _ ?_
  refine w_seqk fun K150 k150 => ?_
  refine w_seqk fun K151 k151 => ?_
  obtain ⟨o152, hx153, r154⟩ := bind_some r83
  refine w_mid (fun α H155 => Has α [(1, .pointer (some ⟨b2, 0, none⟩)), (3, .pointer (some ⟨b65, 0, none⟩)), (5, .pointer (some ⟨b124, 0, none⟩)), (6, .pointer (some ⟨b130, 0, none⟩)), (31, .bool o152)] ∧ FrS [] H144 H155) (fun K157 k157 => ?_) (fun α H155 hM => ?_)
  ·refine w_draw [0, 2, 1, 3, 4, 5, 6, 7, 8, 9, 10] (by kernel_rfl) ?_
   have u159 := (((((r74.frS e93 Dj.nil_l).ext e126).ext e132).frS e138 (hb127.djn (r69.ltF.le (ntr e73.next e93.next)))).frS e146 (hb133.djn (r69.ltF.le (ntr (ntr e73.next e93.next) e126.next))))
   refine d_ql (.agg #[.slice a56 n57 c58, .slice a59 n60 c61, .slice a62 n63 c64]) (x := aLoad Tryd.prog 59 (.pointer (some ⟨b65, 0, none⟩)) H144) (by kernel_rfl) (u159.ld (by kernel_rfl)) ?_
   have u160 := (r139.frS e146 (hb133.djn r128.ltF))
   refine d_fl (.agg #[.slice a112 n113 c114, .slice a115 n116 c117, .slice a118 n119 c120]) (x := aLoad Tryd.prog 57 (.pointer (some ⟨b124, 0, none⟩)) H144) (by kernel_rfl) (u160.ld (by kernel_rfl)) ?_
   have u161 := ((((((u77.fr e73 (hb68.djn m38.lt)).fr e93 Dj.nil_l).ext e126).ext e132).fr e138 (hb127.djn (m38.lt.le (ntr (ntr e67.next e73.next) e93.next)))).fr e146 (hb133.djn (m38.lt.le (ntr (ntr (ntr e67.next e73.next) e93.next) e126.next))))
   have u162 := ((((((u76.fr e73 (hb68.djn m39.lt)).fr e93 Dj.nil_l).ext e126).ext e132).fr e138 (hb127.djn (m39.lt.le (ntr (ntr e67.next e73.next) e93.next)))).fr e146 (hb133.djn (m39.lt.le (ntr (ntr (ntr e67.next e73.next) e93.next) e126.next))))
   have u163 := ((((((u75.fr e73 (hb68.djn m40.lt)).fr e93 Dj.nil_l).ext e126).ext e132).fr e138 (hb127.djn (m40.lt.le (ntr (ntr e67.next e73.next) e93.next)))).fr e146 (hb133.djn (m40.lt.le (ntr (ntr (ntr e67.next e73.next) e93.next) e126.next))))
   obtain ⟨y164, hy165, r166⟩ := bind_some hx153
   refine d_ck 44 #[.agg #[.slice a56 n57 c58, .slice a59 n60 c61, .slice a62 n63 c64]] (by kernel_rfl) (c_viaductlaw05_of e146.wf u161.sq u162.sq u163.sq hy165) ?_
   rintro _ H167 ⟨rfl, e168⟩
   have u169 := (u160.frS e168 Dj.nil_l)
   refine ⟨st_ql (y := aLoad Tryd.prog 57 (.pointer (some ⟨b124, 0, none⟩)) H167) (by kernel_rfl) (u169.ld (by kernel_rfl)) (st_nil), ?_⟩
   have u170 := (u161.fr e168 Dj.nil_l)
   have u171 := (u162.fr e168 Dj.nil_l)
   have u172 := (u163.fr e168 Dj.nil_l)
   have u173 := (((u143.fr e138 (hb127.djn m94.lt)).fr e146 (hb133.djn (m94.lt.le e126.next))).fr e168 Dj.nil_l)
   have u174 := (((u142.fr e138 (hb127.djn m95.lt)).fr e146 (hb133.djn (m95.lt.le e126.next))).fr e168 Dj.nil_l)
   have u175 := (((u141.fr e138 (hb127.djn m96.lt)).fr e146 (hb133.djn (m96.lt.le e126.next))).fr e168 Dj.nil_l)
   obtain ⟨y176, hy177, r178⟩ := bind_some r166
   refine d_ck 43 #[.agg #[.slice a56 n57 c58, .slice a59 n60 c61, .slice a62 n63 c64], .agg #[.slice a112 n113 c114, .slice a115 n116 c117, .slice a118 n119 c120]] (by kernel_rfl) (c_viaductref05_Same e168.wf u170.sq u171.sq u172.sq u173.sq u174.sq u175.sq hy177) ?_
   rintro _ H179 ⟨rfl, e180⟩
   refine ⟨st_anc (by kernel_rfl) (st_nil), ?_⟩
   by_cases h181 : y176 = true
   ·have r182 := ite_t h181 r178
    rw [h181]
    refine d_qk (.bool false) (by kernel_rfl) ?_
    refine d_qk (.bool false) (by kernel_rfl) ?_
    refine d_qk (v34) (by kernel_rfl) ?_
    have u184 := ((r147.frS e168 Dj.nil_l).frS e180 Dj.nil_l)
    refine d_ql (.agg #[.int .i64 y81.2.2.2.1, .slice a121 n122 c123]) (x := aLoad Tryd.prog 33 (.pointer (some ⟨b130, 0, none⟩)) H179) (by kernel_rfl) (u184.ld (by kernel_rfl)) ?_
    have u185 := (((((((((m41.ext e67).fr e73 (hb68.djn m41.lt)).fr e93 Dj.nil_l).ext e126).ext e132).fr e138 (hb127.djn (m41.lt.le (ntr (ntr e67.next e73.next) e93.next)))).fr e146 (hb133.djn (m41.lt.le (ntr (ntr (ntr e67.next e73.next) e93.next) e126.next)))).fr e168 Dj.nil_l).fr e180 Dj.nil_l)
    have u186 := (((u149.fr e146 (hb133.djn (m97.lt.le e126.next))).fr e168 Dj.nil_l).fr e180 Dj.nil_l)
    obtain ⟨y187, hy188, r189⟩ := bind_some r182
    refine d_ck 16 #[v34, .agg #[.int .i64 y81.2.2.2.1, .slice a121 n122 c123]] (by kernel_rfl) (c_viaductseen_Same e180.wf u185 u186.sq hy188) ?_
    rintro _ H190 ⟨rfl, e191⟩
    refine ⟨st_anc (by kernel_rfl) (st_nil), ?_⟩
    refine d_qk (.bool (!y187)) (by kernel_rfl) ?_
    refine d_qk (.bool (!y187)) (by kernel_rfl) ?_
    refine d_nil ?_
    obtain rfl := Option.some.inj r189
    exact k157 _ _ ⟨⟨by kernel_rfl, by kernel_rfl, by kernel_rfl, by kernel_rfl, by kernel_rfl, trivial⟩, (FrS.step e146.wf (FrS.step e146.wf (FrS.step e146.wf (FrS.refl (W := []) e146.wf) e168 Inn.nil) e180 Inn.nil) e191 Inn.nil)⟩
   ·have r192 := ite_f h181 r178
    rw [nb h181]
    refine d_qk (.bool true) (by kernel_rfl) ?_
    refine d_qk (.bool true) (by kernel_rfl) ?_
    refine d_idle (by kernel_rfl) ?_
    refine d_idle (by kernel_rfl) ?_
    refine d_idle (by kernel_rfl) ?_
    refine d_idle (by kernel_rfl) ?_
    refine d_qk (.bool true) (by kernel_rfl) ?_
    refine d_nil ?_
    obtain rfl := Option.some.inj r192
    exact k157 _ _ ⟨⟨by kernel_rfl, by kernel_rfl, by kernel_rfl, by kernel_rfl, by kernel_rfl, trivial⟩, (FrS.step e146.wf (FrS.step e146.wf (FrS.refl (W := []) e146.wf) e168 Inn.nil) e180 Inn.nil)⟩
  ·obtain ⟨hh158, e156⟩ := hM
   obtain ⟨β, rfl⟩ := has_ex hh158
   clear hh158
   refine k151 _ _ ?_
   refine w_cond (o152) (by kernel_rfl) rfl (fun h194 => ?_) (fun h194 => ?_)
   ·have r195 := ite_t h194 r154
    refine w_seqk fun K196 k196 => ?_
    refine w_reg (by kernel_rfl) ?_
    refine s_qk (.bool false) (by kernel_rfl) ?_
    refine s_nil ?_
    refine k196 _ _ ?_
    refine w_ret (th_ret ?_)
    refine b_ret (fn := Tryd.f9) (vs := [.bool false]) (aRes_tmp (by kernel_rfl) (rfl)) ?_
    obtain rfl := Option.some.inj r195
    exact ⟨rfl, (FrS.step wf (FrS.step wf (FrS.step wf (((FrS.step wf (FrS.step wf ((FrS.step wf (FrS.step wf ((FrS.refl (W := []) wf).extR e4) e17 Inn.nil) e37 Inn.nil).extR e67) e73 (hb68.fresh (ntr (ntr e4.next e17.next) e37.next))) e93 Inn.nil).extR e126).extR e132) e138 (hb127.fresh (ntr (ntr (ntr (ntr (ntr e4.next e17.next) e37.next) e67.next) e73.next) e93.next))) e146 (hb133.fresh (ntr (ntr (ntr (ntr (ntr (ntr e4.next e17.next) e37.next) e67.next) e73.next) e93.next) e126.next))) e156 Inn.nil)⟩
   ·have r197 := ite_bf h194 r154
    refine w_skip ?_
    refine k150 _ _ ?_
    refine w_seqk fun K198 k198 => ?_
    refine w_reg (by kernel_rfl) ?_
    have u199 := ((((((u79.frS e93 Dj.nil_l).ext e126).ext e132).frS e138 (hb127.djn (r6.ltF.le (ntr (ntr (ntr (ntr e17.next e37.next) e67.next) e73.next) e93.next)))).frS e146 (hb133.djn (r6.ltF.le (ntr (ntr (ntr (ntr (ntr e17.next e37.next) e67.next) e73.next) e93.next) e126.next)))).frS e156 Dj.nil_l)
    refine s_ql (.agg #[.int .i64 N_, hd_Arcs]) (x := aLoad Tryd.prog 24 (.pointer (some ⟨b2, 0, none⟩)) H155) (by kernel_rfl) (u199.ld (by kernel_rfl)) ?_
    have u200 := ((((((u80.fr e93 Dj.nil_l).ext e126).ext e132).fr e138 (hb127.djn (h_Arcs.lt.le (ntr (ntr (ntr (ntr (ntr e4.next e17.next) e37.next) e67.next) e73.next) e93.next)))).fr e146 (hb133.djn (h_Arcs.lt.le (ntr (ntr (ntr (ntr (ntr (ntr e4.next e17.next) e37.next) e67.next) e73.next) e93.next) e126.next)))).fr e156 Dj.nil_l)
    obtain ⟨y201, hy202, r203⟩ := bind_some r197
    refine s_ck 45 #[.agg #[.int .i64 N_, hd_Arcs]] (by kernel_rfl) (c_csr_Back e156.wf u200 hy202) ?_
    rintro _ H212 ⟨s204, f205, s206, f207, s208, f209, v210, f211, rfl, e213, m214, m215, m216, m217, i218, i219, i220, i221, d222, d223, d224, d225, d226, d227⟩
    obtain ⟨a232, n233, c234, rfl⟩ := m214.form
    obtain ⟨a235, n236, c237, rfl⟩ := m215.form
    obtain ⟨a238, n239, c240, rfl⟩ := m216.form
    refine s_qk (.tuple #[.agg #[.slice a232 n233 c234, .slice a235 n236 c237, .slice a238 n239 c240], v210]) (by kernel_rfl) ?_
    refine s_qk (.agg #[.slice a232 n233 c234, .slice a235 n236 c237, .slice a238 n239 c240]) (by kernel_rfl) ?_
    refine s_qk (v210) (by kernel_rfl) ?_
    have u245 := (((((((r74.frS e93 Dj.nil_l).ext e126).ext e132).frS e138 (hb127.djn (r69.ltF.le (ntr e73.next e93.next)))).frS e146 (hb133.djn (r69.ltF.le (ntr (ntr e73.next e93.next) e126.next)))).frS e156 Dj.nil_l).frS e213 Dj.nil_l)
    obtain ⟨H241, q242, e243, r244⟩ := Row.store (P := Tryd.prog) (t := 59) (p := 0) e213.wf u245 (.agg #[.slice a232 n233 c234, .slice a235 n236 c237, .slice a238 n239 c240]) [.slice a232 n233 c234, .slice a235 n236 c237, .slice a238 n239 c240] (by kernel_rfl) (by kernel_rfl) (one_cons (m214.one1) (one_cons (m215.one1) (one_cons (m216.one1) (one_nil)))) (Nat.le_of_ble_eq_true (by kernel_rfl)) [.slice a232 n233 c234, .slice a235 n236 c237, .slice a238 n239 c240] (by kernel_rfl)
    refine s_ek (undef) (by kernel_rfl) (map_ok q242) ?_
    refine s_qk (v210) (by kernel_rfl) ?_
    refine s_nil ?_
    refine k198 _ _ ?_
    refine w_seqk fun K246 k246 => ?_
    refine w_reg (by kernel_rfl) ?_
    have u247 := ((u199.frS e213 Dj.nil_l).frS e243 (hb68.djn (r6.ltF.le (ntr e17.next e37.next))))
    refine s_ql (.agg #[.int .i64 N_, hd_Arcs]) (x := aLoad Tryd.prog 24 (.pointer (some ⟨b2, 0, none⟩)) H241) (by kernel_rfl) (u247.ld (by kernel_rfl)) ?_
    have u248 := ((u200.fr e213 Dj.nil_l).fr e243 (hb68.djn (h_Arcs.lt.le (ntr (ntr e4.next e17.next) e37.next))))
    obtain ⟨y249, hy250, r251⟩ := bind_some r203
    refine s_ck 46 #[.agg #[.int .i64 N_, hd_Arcs]] (by kernel_rfl) (c_viaductref05_DocBack e243.wf u248 hy250) ?_
    rintro _ H260 ⟨s252, f253, s254, f255, s256, f257, s258, f259, rfl, e261, m262, m263, m264, m265, i266, i267, i268, i269, d270, d271, d272, d273, d274, d275⟩
    obtain ⟨a280, n281, c282, rfl⟩ := m262.form
    obtain ⟨a283, n284, c285, rfl⟩ := m263.form
    obtain ⟨a286, n287, c288, rfl⟩ := m264.form
    obtain ⟨a289, n290, c291, rfl⟩ := m265.form
    refine s_qk (.tuple #[.agg #[.slice a280 n281 c282, .slice a283 n284 c285, .slice a286 n287 c288], .agg #[.int .i64 y249.2.2.2.1, .slice a289 n290 c291]]) (by kernel_rfl) ?_
    refine s_qk (.agg #[.slice a280 n281 c282, .slice a283 n284 c285, .slice a286 n287 c288]) (by kernel_rfl) ?_
    refine s_qk (.agg #[.int .i64 y249.2.2.2.1, .slice a289 n290 c291]) (by kernel_rfl) ?_
    have u296 := (((((r139.frS e146 (hb133.djn r128.ltF)).frS e156 Dj.nil_l).frS e213 Dj.nil_l).frS e243 (Dj.symm (hb127.djn (r69.ltF.le (ntr e73.next e93.next))))).frS e261 Dj.nil_l)
    obtain ⟨H292, q293, e294, r295⟩ := Row.store (P := Tryd.prog) (t := 57) (p := 0) e261.wf u296 (.agg #[.slice a280 n281 c282, .slice a283 n284 c285, .slice a286 n287 c288]) [.slice a280 n281 c282, .slice a283 n284 c285, .slice a286 n287 c288] (by kernel_rfl) (by kernel_rfl) (one_cons (m262.one1) (one_cons (m263.one1) (one_cons (m264.one1) (one_nil)))) (Nat.le_of_ble_eq_true (by kernel_rfl)) [.slice a280 n281 c282, .slice a283 n284 c285, .slice a286 n287 c288] (by kernel_rfl)
    refine s_ek (undef) (by kernel_rfl) (map_ok q293) ?_
    have u301 := (((((r147.frS e156 Dj.nil_l).frS e213 Dj.nil_l).frS e243 (Dj.symm (hb133.djn (r69.ltF.le (ntr (ntr e73.next e93.next) e126.next))))).frS e261 Dj.nil_l).frS e294 (Dj.symm (hb133.djn r128.ltF)))
    have u302 := (m265.fr e294 (Dj.symm (i269.djn (r128.ltF.le (ntr (ntr (ntr (ntr (ntr e132.next e138.next) e146.next) e156.next) e213.next) e243.next)))))
    obtain ⟨H297, q298, e299, r300⟩ := Row.store (P := Tryd.prog) (t := 33) (p := 0) e294.wf u301 (.agg #[.int .i64 y249.2.2.2.1, .slice a289 n290 c291]) [.int .i64 y249.2.2.2.1, .slice a289 n290 c291] (by kernel_rfl) (by kernel_rfl) (one_cons (rfl) (one_cons (u302.one1) (one_nil))) (Nat.le_of_ble_eq_true (by kernel_rfl)) [.int .i64 y249.2.2.2.1, .slice a289 n290 c291] (by kernel_rfl)
    refine s_ek (undef) (by kernel_rfl) (map_ok q298) ?_
    refine s_nil ?_
    refine k246 _ _ ?_
    refine w_seqk fun K303 k303 => ?_
    refine w_draw [0, 2, 1, 3, 4, 5, 6, 7, 8, 9] (by kernel_rfl) ?_
    have u304 := (((r244.frS e261 Dj.nil_l).frS e294 (hb127.djn (r69.ltF.le (ntr e73.next e93.next)))).frS e299 (hb133.djn (r69.ltF.le (ntr (ntr e73.next e93.next) e126.next))))
    refine d_ql (.agg #[.slice a232 n233 c234, .slice a235 n236 c237, .slice a238 n239 c240]) (x := aLoad Tryd.prog 59 (.pointer (some ⟨b65, 0, none⟩)) H297) (by kernel_rfl) (u304.ld (by kernel_rfl)) ?_
    have u305 := (r295.frS e299 (hb133.djn r128.ltF))
    refine d_fl (.agg #[.slice a280 n281 c282, .slice a283 n284 c285, .slice a286 n287 c288]) (x := aLoad Tryd.prog 57 (.pointer (some ⟨b124, 0, none⟩)) H297) (by kernel_rfl) (u305.ld (by kernel_rfl)) ?_
    have u306 := ((((m214.fr e243 (Dj.symm (i218.djn (r69.ltF.le (ntr (ntr (ntr (ntr (ntr (ntr e73.next e93.next) e126.next) e132.next) e138.next) e146.next) e156.next))))).fr e261 Dj.nil_l).fr e294 (Dj.symm (i218.djn (r128.ltF.le (ntr (ntr (ntr e132.next e138.next) e146.next) e156.next))))).fr e299 (Dj.symm (i218.djn (r134.ltF.le (ntr (ntr e138.next e146.next) e156.next)))))
    have u307 := ((((m215.fr e243 (Dj.symm (i219.djn (r69.ltF.le (ntr (ntr (ntr (ntr (ntr (ntr e73.next e93.next) e126.next) e132.next) e138.next) e146.next) e156.next))))).fr e261 Dj.nil_l).fr e294 (Dj.symm (i219.djn (r128.ltF.le (ntr (ntr (ntr e132.next e138.next) e146.next) e156.next))))).fr e299 (Dj.symm (i219.djn (r134.ltF.le (ntr (ntr e138.next e146.next) e156.next)))))
    have u308 := ((((m216.fr e243 (Dj.symm (i220.djn (r69.ltF.le (ntr (ntr (ntr (ntr (ntr (ntr e73.next e93.next) e126.next) e132.next) e138.next) e146.next) e156.next))))).fr e261 Dj.nil_l).fr e294 (Dj.symm (i220.djn (r128.ltF.le (ntr (ntr (ntr e132.next e138.next) e146.next) e156.next))))).fr e299 (Dj.symm (i220.djn (r134.ltF.le (ntr (ntr e138.next e146.next) e156.next)))))
    obtain ⟨y309, hy310, r311⟩ := bind_some r251
    refine d_ck 44 #[.agg #[.slice a232 n233 c234, .slice a235 n236 c237, .slice a238 n239 c240]] (by kernel_rfl) (c_viaductlaw05_of e299.wf u306.sq u307.sq u308.sq hy310) ?_
    rintro _ H312 ⟨rfl, e313⟩
    have u314 := (u305.frS e313 Dj.nil_l)
    refine ⟨st_ql (y := aLoad Tryd.prog 57 (.pointer (some ⟨b124, 0, none⟩)) H312) (by kernel_rfl) (u314.ld (by kernel_rfl)) (st_nil), ?_⟩
    have u315 := (u306.fr e313 Dj.nil_l)
    have u316 := (u307.fr e313 Dj.nil_l)
    have u317 := (u308.fr e313 Dj.nil_l)
    have u318 := (((m262.fr e294 (Dj.symm (i266.djn (r128.ltF.le (ntr (ntr (ntr (ntr (ntr e132.next e138.next) e146.next) e156.next) e213.next) e243.next))))).fr e299 (Dj.symm (i266.djn (r134.ltF.le (ntr (ntr (ntr (ntr e138.next e146.next) e156.next) e213.next) e243.next))))).fr e313 Dj.nil_l)
    have u319 := (((m263.fr e294 (Dj.symm (i267.djn (r128.ltF.le (ntr (ntr (ntr (ntr (ntr e132.next e138.next) e146.next) e156.next) e213.next) e243.next))))).fr e299 (Dj.symm (i267.djn (r134.ltF.le (ntr (ntr (ntr (ntr e138.next e146.next) e156.next) e213.next) e243.next))))).fr e313 Dj.nil_l)
    have u320 := (((m264.fr e294 (Dj.symm (i268.djn (r128.ltF.le (ntr (ntr (ntr (ntr (ntr e132.next e138.next) e146.next) e156.next) e213.next) e243.next))))).fr e299 (Dj.symm (i268.djn (r134.ltF.le (ntr (ntr (ntr (ntr e138.next e146.next) e156.next) e213.next) e243.next))))).fr e313 Dj.nil_l)
    obtain ⟨y321, hy322, r323⟩ := bind_some r311
    refine d_ck 43 #[.agg #[.slice a232 n233 c234, .slice a235 n236 c237, .slice a238 n239 c240], .agg #[.slice a280 n281 c282, .slice a283 n284 c285, .slice a286 n287 c288]] (by kernel_rfl) (c_viaductref05_Same e313.wf u315.sq u316.sq u317.sq u318.sq u319.sq u320.sq hy322) ?_
    rintro _ H324 ⟨rfl, e325⟩
    refine ⟨st_anc (by kernel_rfl) (st_nil), ?_⟩
    by_cases h326 : y321 = true
    ·have r327 := ite_t h326 r323
     rw [h326]
     refine d_qk (.bool true) (by kernel_rfl) ?_
     refine d_qk (v210) (by kernel_rfl) ?_
     have u329 := ((r300.frS e313 Dj.nil_l).frS e325 Dj.nil_l)
     refine d_ql (.agg #[.int .i64 y249.2.2.2.1, .slice a289 n290 c291]) (x := aLoad Tryd.prog 33 (.pointer (some ⟨b130, 0, none⟩)) H324) (by kernel_rfl) (u329.ld (by kernel_rfl)) ?_
     have u330 := ((((((m217.fr e243 (Dj.symm (i221.djn (r69.ltF.le (ntr (ntr (ntr (ntr (ntr (ntr e73.next e93.next) e126.next) e132.next) e138.next) e146.next) e156.next))))).fr e261 Dj.nil_l).fr e294 (Dj.symm (i221.djn (r128.ltF.le (ntr (ntr (ntr e132.next e138.next) e146.next) e156.next))))).fr e299 (Dj.symm (i221.djn (r134.ltF.le (ntr (ntr e138.next e146.next) e156.next))))).fr e313 Dj.nil_l).fr e325 Dj.nil_l)
     have u331 := (((u302.fr e299 (Dj.symm (i269.djn (r134.ltF.le (ntr (ntr (ntr (ntr e138.next e146.next) e156.next) e213.next) e243.next))))).fr e313 Dj.nil_l).fr e325 Dj.nil_l)
     obtain ⟨y332, hy333, r334⟩ := bind_some r327
     refine d_ck 16 #[v210, .agg #[.int .i64 y249.2.2.2.1, .slice a289 n290 c291]] (by kernel_rfl) (c_viaductseen_Same e325.wf u330 u331.sq hy333) ?_
     rintro _ H335 ⟨rfl, e336⟩
     refine ⟨st_anc (by kernel_rfl) (st_nil), ?_⟩
     refine d_qk (.bool y332) (by kernel_rfl) ?_
     refine d_qk (.bool y332) (by kernel_rfl) ?_
     refine d_nil ?_
     refine k303 _ _ ?_
     refine w_ret ?_
     refine b_ret (fn := Tryd.f9) (vs := [.bool y332]) (aRes_tmp (by kernel_rfl) (rfl)) ?_
     obtain rfl := Option.some.inj r334
     exact ⟨rfl, (FrS.step wf (FrS.step wf (FrS.step wf (FrS.step wf (FrS.step wf (FrS.step wf (FrS.step wf (FrS.step wf (FrS.step wf (FrS.step wf (FrS.step wf (((FrS.step wf (FrS.step wf ((FrS.step wf (FrS.step wf ((FrS.refl (W := []) wf).extR e4) e17 Inn.nil) e37 Inn.nil).extR e67) e73 (hb68.fresh (ntr (ntr e4.next e17.next) e37.next))) e93 Inn.nil).extR e126).extR e132) e138 (hb127.fresh (ntr (ntr (ntr (ntr (ntr e4.next e17.next) e37.next) e67.next) e73.next) e93.next))) e146 (hb133.fresh (ntr (ntr (ntr (ntr (ntr (ntr e4.next e17.next) e37.next) e67.next) e73.next) e93.next) e126.next))) e156 Inn.nil) e213 Inn.nil) e243 (hb68.fresh (ntr (ntr e4.next e17.next) e37.next))) e261 Inn.nil) e294 (hb127.fresh (ntr (ntr (ntr (ntr (ntr e4.next e17.next) e37.next) e67.next) e73.next) e93.next))) e299 (hb133.fresh (ntr (ntr (ntr (ntr (ntr (ntr e4.next e17.next) e37.next) e67.next) e73.next) e93.next) e126.next))) e313 Inn.nil) e325 Inn.nil) e336 Inn.nil)⟩
    ·have r337 := ite_f h326 r323
     rw [nb h326]
     refine d_qk (.bool false) (by kernel_rfl) ?_
     refine d_idle (by kernel_rfl) ?_
     refine d_idle (by kernel_rfl) ?_
     refine d_idle (by kernel_rfl) ?_
     refine d_qk (.bool false) (by kernel_rfl) ?_
     refine d_qk (.bool false) (by kernel_rfl) ?_
     refine d_nil ?_
     refine k303 _ _ ?_
     refine w_ret ?_
     refine b_ret (fn := Tryd.f9) (vs := [.bool false]) (aRes_tmp (by kernel_rfl) (rfl)) ?_
     obtain rfl := Option.some.inj r337
     exact ⟨rfl, (FrS.step wf (FrS.step wf (FrS.step wf (FrS.step wf (FrS.step wf (FrS.step wf (FrS.step wf (FrS.step wf (FrS.step wf (FrS.step wf (((FrS.step wf (FrS.step wf ((FrS.step wf (FrS.step wf ((FrS.refl (W := []) wf).extR e4) e17 Inn.nil) e37 Inn.nil).extR e67) e73 (hb68.fresh (ntr (ntr e4.next e17.next) e37.next))) e93 Inn.nil).extR e126).extR e132) e138 (hb127.fresh (ntr (ntr (ntr (ntr (ntr e4.next e17.next) e37.next) e67.next) e73.next) e93.next))) e146 (hb133.fresh (ntr (ntr (ntr (ntr (ntr (ntr e4.next e17.next) e37.next) e67.next) e73.next) e93.next) e126.next))) e156 Inn.nil) e213 Inn.nil) e243 (hb68.fresh (ntr (ntr e4.next e17.next) e37.next))) e261 Inn.nil) e294 (hb127.fresh (ntr (ntr (ntr (ntr (ntr e4.next e17.next) e37.next) e67.next) e73.next) e93.next))) e299 (hb133.fresh (ntr (ntr (ntr (ntr (ntr (ntr e4.next e17.next) e37.next) e67.next) e73.next) e93.next) e126.next))) e313 Inn.nil) e325 Inn.nil)⟩


end Go.Vd
