/- The walks of the functions (printed by a program of ours). -/
import Derived.Test.YtcgjelpcgdjecaaGreatDoorPop0
import Derived.Test.YtcgjelpcgdjecaaGreatDoorPopDrG
import Derived.Test.YtcgjelpcgdjecaaGreatDoorPopIOp
import Derived.Test.YtcgjelpcgdjecaaGreatDoorPopVeN
import Derived.Test.YtcgjelpcgdjecaaGreatDoorPopVeM
import Derived.Test.YtcgjelpcgdjecaaGreatDoorPopVeG
import Derived.Test.YtcgjelpcgdjecaaGreatDoorPopSoA
import Derived.Test.YtcgjelpcgdjecaaGreatDoorPopVeV
set_option linter.unusedVariables false
set_option linter.unusedSimpArgs false
set_option linter.unusedSectionVars false
namespace Go.Vd
/-! Steps under short names: what is reckoned is reckoned by itself. -/
section
set_option linter.unusedSectionVars false
variable [Pins] {P : Program} {ops : Array Oper} {K : AAct → AH → Prop} {α : AAct} {H : AH} {o : Oper} {rest : List Oper} {tbl : List (List Nat)} {i : Nat} {rs : List Nat} {fl : List (Nat × AAct × Value)}
theorem q_ (v : Value) (k : wpSeq P ops K rest (α.put o.dst v) H) (h : stepQ P ops o α H = some v := by kernel_rfl) : wpSeq P ops K (o :: rest) α H := s_qk v h k
theorem l_' (v : Value) (x : Option Value) (h : x = some v) (k : wpSeq P ops K rest (α.put o.dst v) H) (h1 : stepQ P ops o α H = x := by kernel_rfl) : wpSeq P ops K (o :: rest) α H := s_ql v h1 h k
theorem e_' (v : Value) (k : wpOrd P ops tbl K rs fl (α.put (dstOf ops i) v) H) (h : stepD P ops tbl i rs α H = some v := by kernel_rfl) : wpOrd P ops tbl K (i :: rs) fl α H := d_qk v h k
theorem m_' (v : Value) (x : Option Value) (h : x = some v) (k : wpOrd P ops tbl K rs fl (α.put (dstOf ops i) v) H) (h1 : stepD P ops tbl i rs α H = x := by kernel_rfl) : wpOrd P ops tbl K (i :: rs) fl α H := d_ql v h1 h k
theorem has_of : ∀ {l : List (Nat × Value)}, (l.map fun p => α p.1) = l.map (·.2) → Has α l
  | [], _ => trivial
  | (_, _) :: _, h => ⟨(List.cons.inj h).1, has_of (List.cons.inj h).2⟩
theorem ha_ {l : List (Nat × Value)} (h : (l.map fun p => α p.1) = l.map (·.2) := by kernel_rfl) : Has α l := has_of h
theorem n_' (k : wpSeq P ops K rest (α.put o.dst undef) H) (hg : Region.wanted o (aYield ops α) = false := by kernel_rfl) : wpSeq P ops K (o :: rest) α H := s_no hg k
theorem j_' (k : wpOrd P ops tbl K rs fl (α.put (dstOf ops i) undef) H) (h : idle ops i α = true := by kernel_rfl) : wpOrd P ops tbl K (i :: rs) fl α H := d_idle h k
theorem g_' {N id : Nat} {l : List Oper} {Q : Exit → AAct → AH → Prop} (h : wpSeq P l.toArray (Q .normal) l α H) (hok : opsOk N l = true := by kernel_rfl) : aWp P N (.region id l.toArray false) Q α H := w_reg hok h
theorem w_' (x : Int) (hw : IntKind.i64.wrap x = x) (kk : wpSeq P ops K rest (α.put o.dst (.int .i64 x)) H) (h : stepQ P ops o α H = some (.int .i64 (IntKind.i64.wrap x)) := by kernel_rfl) : wpSeq P ops K (o :: rest) α H := s_w x h hw kk
end
abbrev i_ (n : Int) : Value := .int .i64 n
abbrev pt_ (b o : Nat) : Value := .pointer (some ⟨b, o, none⟩)
end Go.Vd

/-! (KOp0) -/

set_option maxRecDepth 100000
set_option maxHeartbeats 4000000
set_option linter.unusedVariables false
namespace Go.Vd
open Go.Proofs
attribute [local irreducible] wpSeq wpOrd aWp
set_option linter.unusedSimpArgs false
theorem e_pure {α : Type} (P : Program) (a : α) : pr P (pure a : Sem α) = some a := rfl
theorem e_prog {P : Program} : pr P (program : Sem Program) = some P := rfl
theorem e_und {P : Program} {t : TypeId} {d : TypeDesc} (h : P.underlying t = some d) : pr P (underlying t) = some d := by
  simp only [underlying, pr_bind]
  show ((pr P (program : Sem Program)).bind _) = _
  simp [show pr P (program : Sem Program) = some P from rfl, h]
  rfl
theorem e_int {P : Program} (d : Nat) (t : TypeId) (k : IntKind) (h : P.underlying t = some (.int k)) (a c : Int) : pr P (Op.equalIn (d+1) t (.int k a) (.int k c)) = some (a == c) := by
  simp only [Op.equalIn, pr_bind, e_und h]
  simp [e_pure]
theorem e_bool {P : Program} (d : Nat) (t : TypeId) (h : P.underlying t = some .bool) (a c : Bool) : pr P (Op.equalIn (d+1) t (.bool a) (.bool c)) = some (a == c) := by
  simp only [Op.equalIn, pr_bind, e_und h]
  simp [e_pure]

theorem e76_p0 (a0 : Int) (a1 : Int) : pr Tryz.prog (part 74 #[i_ a0, i_ a1] 0) = some (i_ a0) := by kernel_rfl
theorem e76_q0 (a c : Int) : pr Tryz.prog (Op.equalIn 9999 74 (i_ a) (i_ c)) = some (a == c) := e_int 9998 74 .i64 Go.Proofs.Tryz.underlying74 a c
theorem e76_p1 (a0 : Int) (a1 : Int) : pr Tryz.prog (part 3 #[i_ a0, i_ a1] 1) = some (i_ a1) := by kernel_rfl
theorem e76_q1 (a c : Int) : pr Tryz.prog (Op.equalIn 9999 3 (i_ a) (i_ c)) = some (a == c) := e_int 9998 3 .i64 Go.Proofs.Tryz.underlying3 a c
theorem e76_stood : Tryz.prog.stoodInHeld 76 = false := by kernel_rfl
theorem e76_eq (a0 : Int) (a1 : Int) (c0 : Int) (c1 : Int) : pr Tryz.prog (Op.equalIn Op.maxDepth 76 (.agg #[i_ a0, i_ a1]) (.agg #[i_ c0, i_ c1])) = some (a0 == c0 && a1 == c1) := by
  rw [show Op.maxDepth = 9998 + 1 + 1 from rfl, Op.equalIn]
  rw [pr_bind, e_und Go.Proofs.Tryz.underlying76]
  simp only [Option.bind_some, pr_bind, e_prog, e76_stood, Bool.false_eq_true, if_false]
  simp [pr_bind, e76_p0, e76_p1, e76_q0, e76_q1]
  by_cases h0 : a0 = c0
  · subst h0
    by_cases h1 : a1 = c1
    · subst h1
      simp [e_pure, pr_bind, e76_p0, e76_p1, e76_q0, e76_q1]
    · simp [e_pure, pr_bind, e76_p0, e76_p1, e76_q0, e76_q1, h1]
  · simp [e_pure, pr_bind, e76_p0, e76_p1, e76_q0, e76_q1, h0]
theorem e76_gneq (x y : Operand) (a0 : Int) (a1 : Int) (c0 : Int) (c1 : Int) : pr Tryz.prog (eqGuard .neq 76 x y (.agg #[i_ a0, i_ a1]) (.agg #[i_ c0, i_ c1])) = some () := by kernel_rfl
theorem aBin_neq76 (x y : Operand) (a0 : Int) (a1 : Int) (c0 : Int) (c1 : Int) : aBin Tryz.prog .neq 76 x y (.agg #[i_ a0, i_ a1]) (.agg #[i_ c0, i_ c1]) = some (.bool (!decide (a0 = c0 ∧ a1 = c1))) := by
  unfold aBin
  rw [if_pos (show (plain (.agg #[i_ a0, i_ a1]) && plain (.agg #[i_ c0, i_ c1])) = true from rfl), pr_bind, e76_gneq]
  have : pr Tryz.prog (binOp .neq 76 (.agg #[i_ a0, i_ a1]) (.agg #[i_ c0, i_ c1])) = some (.bool (!decide (a0 = c0 ∧ a1 = c1))) := by
    simp only [binOp, Op.equal, pr_bind, e76_eq]
    by_cases g0 : a0 = c0 <;> by_cases g1 : a1 = c1 <;> simp [e_pure, g0, g1]
  simp only [Option.bind_some, this]
  rfl
theorem e76_geql (x y : Operand) (a0 : Int) (a1 : Int) (c0 : Int) (c1 : Int) : pr Tryz.prog (eqGuard .eql 76 x y (.agg #[i_ a0, i_ a1]) (.agg #[i_ c0, i_ c1])) = some () := by kernel_rfl
theorem aBin_eql76 (x y : Operand) (a0 : Int) (a1 : Int) (c0 : Int) (c1 : Int) : aBin Tryz.prog .eql 76 x y (.agg #[i_ a0, i_ a1]) (.agg #[i_ c0, i_ c1]) = some (.bool (decide (a0 = c0 ∧ a1 = c1))) := by
  unfold aBin
  rw [if_pos (show (plain (.agg #[i_ a0, i_ a1]) && plain (.agg #[i_ c0, i_ c1])) = true from rfl), pr_bind, e76_geql]
  have : pr Tryz.prog (binOp .eql 76 (.agg #[i_ a0, i_ a1]) (.agg #[i_ c0, i_ c1])) = some (.bool (decide (a0 = c0 ∧ a1 = c1))) := by
    simp only [binOp, Op.equal, pr_bind, e76_eq]
    by_cases g0 : a0 = c0 <;> by_cases g1 : a1 = c1 <;> simp [e_pure, g0, g1]
  simp only [Option.bind_some, this]
  rfl
theorem c_gtext_within {H : AH} {x : Int} {n_ : Int} {r : Bool}
    (wf : WF H) (hr : z_gtext_within x n_ = some r) :
    ACalls Tryz.prog 67 #[i_ x, i_ n_] H fun v H' => v = .bool r ∧ H = H' := by
 refine acalls_of_body mixed Tryz.func67 rfl (Nat.le_of_ble_eq_true rfl) ?_
 unfold z_gtext_within at hr
 refine w_seqk fun _ k1 => ?_
 refine g_' ?_
 refine q_ (.bool false) ?_
 refine s_nil (k1 _ _ ?_)
 refine w_seqk fun _ k2 => ?_
 refine g_' ?_
 refine q_ (i_ x) ?_
 refine s_b (x ≥ 0) (by kernel_rfl) (fun h3 => ?_) (fun h3 => ?_)
 ·have r4 := ite_t h3 hr
  refine q_ (.bool true) ?_
  refine q_ (i_ x) ?_
  refine q_ (i_ n_) ?_
  refine q_ (.bool (decide (x < n_))) ?_
  refine q_ (.bool (decide (x < n_))) ?_
  refine q_ (.bool (decide (x < n_))) ?_
  refine s_nil (k2 _ _ ?_)
  refine w_ret ?_
  refine b_ret (fn := Tryz.f67) (vs := [.bool (decide (x < n_))]) (aRes_tmp (by kernel_rfl) (rfl)) ?_
  obtain rfl := Option.some.inj r4
  exact ⟨rfl, rfl⟩
 have r5 := ite_f h3 hr
 refine q_ (.bool false) ?_
 refine n_' ?_
 refine n_' ?_
 refine n_' ?_
 refine q_ (.bool false) ?_
 refine q_ (.bool false) ?_
 refine s_nil (k2 _ _ ?_)
 refine w_ret ?_
 refine b_ret (fn := Tryz.f67) (vs := [.bool false]) (aRes_tmp (by kernel_rfl) (rfl)) ?_
 obtain rfl := Option.some.inj r5
 exact ⟨rfl, rfl⟩

theorem c_gtext_arc {H : AH} {From : Int} {To : Int} {Weight : Int} {n_ : Int} {r : Er}
    (wf : WF H) (hr : z_gtext_arc From To Weight n_ = some r) :
    ACalls Tryz.prog 54 #[.agg #[i_ From, i_ To, i_ Weight], i_ n_] H fun v H' => ∃ (v3 : Value) (f4 : Fp), v = v3 ∧ FrS [] H H' ∧ Ev 72 77 H' v3 r f4 ∧ Inn [] H f4 := by
 refine acalls_of_body mixed Tryz.func54 rfl (Nat.le_of_ble_eq_true rfl) ?_
 unfold z_gtext_arc at hr
 refine w_seqk fun _ k6 => ?_
 refine g_' ?_
 refine s_rwl wf [i_ From, i_ To, i_ Weight] (one_cons (rfl) (one_cons (rfl) (one_cons (rfl) (one_nil)))) (by kernel_rfl) fun b7 H8 e9 hb10 r11 => ?_
 refine q_ (.nilIface) ?_
 refine s_nil (k6 _ _ ?_)
 refine w_seqk fun _ k13 => ?_
 refine w_block ?_
 refine w_seqk fun _ k14 => ?_
 obtain ⟨o15, hx16, r17⟩ := bind_some hr
 refine w_mid (fun α H18 => Has α [(2, pt_ b7 0), (5, .bool o15)] ∧ H8 = H18) (fun _ k20 => ?_) (fun α H18 hM => ?_)
 ·refine g_' ?_
  refine q_ (pt_ b7 0) ?_
  refine l_' (i_ From) (aLoad Tryz.prog 3 (pt_ b7 0) H8) (r11.ld (by kernel_rfl)) ?_
  refine q_ (i_ n_) ?_
  obtain ⟨y22, hy23, r24⟩ := bind_some hx16
  refine s_ck 67 #[i_ From, i_ n_] (by kernel_rfl) (c_gtext_within e9.wf hy23) ?_
  rintro _ _ ⟨rfl, rfl⟩
  by_cases h27 : y22 = true
  ·have r28 := ite_t h27 r24
   rw [h27]
   refine q_ (.bool false) ?_
   refine q_ (.bool false) ?_
   refine q_ (pt_ b7 1) ?_
   refine l_' (i_ To) (aLoad Tryz.prog 3 (pt_ b7 1) H8) (r11.ld (by kernel_rfl)) ?_
   refine q_ (i_ n_) ?_
   obtain ⟨y30, hy31, r32⟩ := bind_some r28
   refine s_ck 67 #[i_ To, i_ n_] (by kernel_rfl) (c_gtext_within e9.wf hy31) ?_
   rintro _ _ ⟨rfl, rfl⟩
   refine q_ (.bool (!y30)) ?_
   refine q_ (.bool (!y30)) ?_
   refine q_ (.bool (!y30)) ?_
   refine s_nil ?_
   obtain rfl := Option.some.inj r32
   exact k20 _ _ ⟨ha_, rfl⟩
  have r35 := ite_f h27 r24
  rw [nb h27]
  refine q_ (.bool true) ?_
  refine q_ (.bool true) ?_
  refine n_' ?_
  refine n_' ?_
  refine n_' ?_
  refine n_' ?_
  refine n_' ?_
  refine q_ (.bool true) ?_
  refine q_ (.bool true) ?_
  refine s_nil ?_
  obtain rfl := Option.some.inj r35
  exact k20 _ _ ⟨ha_, rfl⟩
 obtain ⟨hh21, rfl⟩ := hM
 obtain ⟨β, rfl⟩ := has_ex hh21
 clear hh21
 refine k14 _ _ ?_
 refine w_cond (o15) (by kernel_rfl) rfl (fun h37 => ?_) (fun h37 => ?_)
 ·have r38 := ite_t h37 r17
  refine w_seqk fun _ k39 => ?_
  refine g_' ?_
  refine q_ (.iface 72 (i_ 7)) ?_
  refine q_ (.iface 72 (i_ 7)) ?_
  refine s_nil (k39 _ _ ?_)
  refine w_ret (bl_ret (th_ret ?_))
  refine b_ret (fn := Tryz.f54) (vs := [.iface 72 (i_ 7)]) (aRes_tmp (by kernel_rfl) (rfl)) ?_
  obtain rfl := Option.some.inj r38
  exact ⟨(.iface 72 (i_ 7)), [], rfl, ((FrS.refl (W := []) wf).extR e9), Ev.no, Inn.nil⟩
 have r40 := ite_bf h37 r17
 refine w_seqk fun _ k41 => ?_
 refine g_' ?_
 refine q_ (pt_ b7 2) ?_
 refine l_' (i_ Weight) (aLoad Tryz.prog 3 (pt_ b7 2) H8) (r11.ld (by kernel_rfl)) ?_
 refine s_b (Weight < 0) (by kernel_rfl) (fun h42 => ?_) (fun h42 => ?_)
 ·have r43 := ite_t h42 r40
  refine q_ (.bool true) ?_
  refine n_' ?_
  refine n_' ?_
  refine n_' ?_
  refine q_ (.bool true) ?_
  refine q_ (.bool true) ?_
  refine s_nil (k41 _ _ ?_)
  refine w_cond true (by kernel_rfl) rfl (fun _ => ?_) (fun h => by cases h)
  refine w_seqk fun _ k44 => ?_
  refine g_' ?_
  refine q_ (.iface 72 (i_ 8)) ?_
  refine q_ (.iface 72 (i_ 8)) ?_
  refine s_nil (k44 _ _ ?_)
  refine w_ret (bl_ret (th_ret ?_))
  refine b_ret (fn := Tryz.f54) (vs := [.iface 72 (i_ 8)]) (aRes_tmp (by kernel_rfl) (rfl)) ?_
  obtain rfl := Option.some.inj r43
  exact ⟨(.iface 72 (i_ 8)), [], rfl, ((FrS.refl (W := []) wf).extR e9), Ev.no, Inn.nil⟩
 have r45 := ite_f h42 r40
 refine q_ (.bool false) ?_
 refine q_ (pt_ b7 2) ?_
 refine l_' (i_ Weight) (aLoad Tryz.prog 3 (pt_ b7 2) H8) (r11.ld (by kernel_rfl)) ?_
 refine q_ (.bool (decide (Weight > 2147483647))) ?_
 refine q_ (.bool (decide (Weight > 2147483647))) ?_
 refine q_ (.bool (decide (Weight > 2147483647))) ?_
 refine s_nil (k41 _ _ ?_)
 refine w_condp (Weight > 2147483647) (by kernel_rfl) rfl (fun h46 => ?_) (fun h46 => ?_)
 ·have r47 := ite_t h46 r45
  refine w_seqk fun _ k48 => ?_
  refine g_' ?_
  refine q_ (.iface 72 (i_ 8)) ?_
  refine q_ (.iface 72 (i_ 8)) ?_
  refine s_nil (k48 _ _ ?_)
  refine w_ret (bl_ret (th_ret ?_))
  refine b_ret (fn := Tryz.f54) (vs := [.iface 72 (i_ 8)]) (aRes_tmp (by kernel_rfl) (rfl)) ?_
  obtain rfl := Option.some.inj r47
  exact ⟨(.iface 72 (i_ 8)), [], rfl, ((FrS.refl (W := []) wf).extR e9), Ev.no, Inn.nil⟩
 have r49 := ite_f h46 r45
 refine w_skip ?_
 refine k13 _ _ ?_
 refine w_seqk fun _ k50 => ?_
 refine g_' ?_
 refine q_ (.nilIface) ?_
 refine s_nil (k50 _ _ ?_)
 refine w_ret ?_
 refine b_ret (fn := Tryz.f54) (vs := [.nilIface]) (aRes_tmp (by kernel_rfl) (rfl)) ?_
 obtain rfl := Option.some.inj r49
 exact ⟨(.nilIface), [], rfl, ((FrS.refl (W := []) wf).extR e9), Ev.nil, Inn.nil⟩

theorem c_fault_At {H : AH} {ev_err : Value} {fp_err : Fp} {kind : Int} {at_ : Int} {err : Er} {r : Er}
    (wf : WF H) (h_err : Ev 72 77 H ev_err err fp_err) (hr : z_fault_At kind at_ err = some r) :
    ACalls Tryz.prog 55 #[i_ kind, i_ at_, ev_err] H fun v H' => ∃ (v3 : Value) (f4 : Fp), v = v3 ∧ FrS [] H H' ∧ Ev 72 77 H' v3 r f4 ∧ Inn fp_err H f4 := by
 refine acalls_of_body mixed Tryz.func55 rfl (Nat.le_of_ble_eq_true rfl) ?_
 unfold z_fault_At at hr
 refine w_seqk fun _ k6 => ?_
 refine g_' ?_
 refine q_ (.nilIface) ?_
 refine s_nil (k6 _ _ ?_)
 refine w_seqk fun _ k7 => ?_
 refine w_seqk fun _ k8 => ?_
 refine g_' ?_
 refine q_ (ev_err) ?_
 rcases (h_err).cases with ⟨h9, rfl⟩ | ⟨h9, t10, x11, rfl⟩
 ·have r12 := ite_t h9 hr
  refine q_ (.bool true) ?_
  refine s_nil (k8 _ _ ?_)
  refine w_cond true (by kernel_rfl) rfl (fun _ => ?_) (fun h => by cases h)
  refine w_seqk fun _ k13 => ?_
  refine g_' ?_
  refine q_ (.nilIface) ?_
  refine s_nil (k13 _ _ ?_)
  refine w_ret (th_ret ?_)
  refine b_ret (fn := Tryz.f55) (vs := [.nilIface]) (aRes_tmp (by kernel_rfl) (rfl)) ?_
  obtain rfl := Option.some.inj r12
  exact ⟨(.nilIface), [], rfl, (FrS.refl (W := []) wf), Ev.nil, Inn.nil⟩
 have r14 := ite_f h9 hr
 refine l_' (.bool false) (aBin Tryz.prog .eql 29 (.tmp 7) (.const .nilIface) (.iface t10 x11) .nilIface) (aBin_nil (by kernel_rfl)) ?_
 refine s_nil (k8 _ _ ?_)
 refine w_cond false (by kernel_rfl) rfl (fun h => by cases h) (fun _ => ?_)
 refine w_skip ?_
 refine k7 _ _ ?_
 refine w_seqk fun _ k15 => ?_
 refine g_' ?_
 refine q_ (i_ kind) ?_
 refine q_ (i_ at_) ?_
 refine q_ (.agg #[i_ kind, i_ at_]) ?_
 refine q_ (.iface t10 x11) ?_
 refine q_ (.agg #[i_ kind, i_ at_, .iface t10 x11]) ?_
 refine s_rwl wf [i_ kind, i_ at_, .iface t10 x11] (one_cons (rfl) (one_cons (rfl) (one_cons (h_err.one1) (one_nil)))) (by kernel_rfl) fun b16 H17 e18 hb19 r20 => ?_
 have u22 := (h_err.ext e18)
 obtain ⟨fq23, he24, hi25⟩ := Ev.at r20 u22 hb19
 refine q_ (.iface 77 (pt_ b16 0)) ?_
 refine q_ (.iface 77 (pt_ b16 0)) ?_
 refine s_nil (k15 _ _ ?_)
 refine w_ret ?_
 refine b_ret (fn := Tryz.f55) (vs := [.iface 77 (pt_ b16 0)]) (aRes_tmp (by kernel_rfl) (rfl)) ?_
 obtain rfl := Option.some.inj r14
 exact ⟨(.iface 77 (pt_ b16 0)), fq23, rfl, ((FrS.refl (W := []) wf).extR e18), he24, (Inn.trans Inn.refl' (Nat.le_refl _) hi25)⟩

theorem c_gtext_Check {H : AH} {hd_Arcs : Value} {fp_Arcs : Fp} {N_ : Int} {Arcs : List (Int × Int × Int)} {r : Er}
    (wf : WF H) (h_Arcs : Sq enc_i64_i64_i64 3 H hd_Arcs Arcs fp_Arcs) (hr : z_gtext_Check N_ Arcs = some r) :
    ACalls Tryz.prog 39 #[.agg #[i_ N_, hd_Arcs]] H fun v H' => ∃ (v3 : Value) (f4 : Fp), v = v3 ∧ FrS [] H H' ∧ Ev 72 77 H' v3 r f4 ∧ Inn [] H f4 := by
 refine acalls_of_body mixed Tryz.func39 rfl (Nat.le_of_ble_eq_true rfl) ?_
 unfold z_gtext_Check at hr
 refine w_seqk fun _ k6 => ?_
 refine g_' ?_
 refine s_rwl wf [i_ N_, hd_Arcs] (one_cons (rfl) (one_cons (h_Arcs.one1) (one_nil))) (by kernel_rfl) fun b7 H8 e9 hb10 r11 => ?_
 refine q_ (.nilIface) ?_
 refine s_nil (k6 _ _ ?_)
 refine w_seqk fun _ k13 => ?_
 refine w_seqk fun _ k14 => ?_
 obtain ⟨o15, hx16, r17⟩ := bind_some hr
 refine w_mid (fun α H18 => Has α [(1, pt_ b7 0), (19, .bool o15)] ∧ H8 = H18) (fun _ k20 => ?_) (fun α H18 hM => ?_)
 ·refine g_' ?_
  refine q_ (pt_ b7 0) ?_
  refine l_' (i_ N_) (aLoad Tryz.prog 3 (pt_ b7 0) H8) (r11.ld (by kernel_rfl)) ?_
  refine s_b (N_ < 0) (by kernel_rfl) (fun h22 => ?_) (fun h22 => ?_)
  ·have r23 := ite_t h22 hx16
   refine q_ (.bool true) ?_
   refine n_' ?_
   refine n_' ?_
   refine n_' ?_
   refine q_ (.bool true) ?_
   refine q_ (.bool true) ?_
   refine n_' ?_
   refine n_' ?_
   refine n_' ?_
   refine n_' ?_
   refine q_ (.bool true) ?_
   refine s_nil ?_
   obtain rfl := Option.some.inj r23
   exact k20 _ _ ⟨ha_, rfl⟩
  have r24 := ite_f h22 hx16
  refine q_ (.bool false) ?_
  refine q_ (pt_ b7 0) ?_
  refine l_' (i_ N_) (aLoad Tryz.prog 3 (pt_ b7 0) H8) (r11.ld (by kernel_rfl)) ?_
  refine s_b (N_ > 65536) (by kernel_rfl) (fun h25 => ?_) (fun h25 => ?_)
  ·have r26 := ite_t h25 r24
   refine q_ (.bool true) ?_
   refine q_ (.bool true) ?_
   refine n_' ?_
   refine n_' ?_
   refine n_' ?_
   refine n_' ?_
   refine q_ (.bool true) ?_
   refine s_nil ?_
   obtain rfl := Option.some.inj r26
   exact k20 _ _ ⟨ha_, rfl⟩
  have r27 := ite_f h25 r24
  refine q_ (.bool false) ?_
  refine q_ (.bool false) ?_
  refine q_ (pt_ b7 1) ?_
  refine l_' (hd_Arcs) (aLoad Tryz.prog 22 (pt_ b7 1) H8) (r11.ld (by kernel_rfl)) ?_
  have u28 := (h_Arcs.ext e9)
  refine l_' (i_ (Arcs.length : Int)) (aLen Tryz.prog 22 hd_Arcs H8) (u28.lenb (by kernel_rfl)) ?_
  refine q_ (.bool (decide ((Arcs.length : Int) > 262144))) ?_
  refine q_ (.bool (decide ((Arcs.length : Int) > 262144))) ?_
  refine s_nil ?_
  obtain rfl := Option.some.inj r27
  exact k20 _ _ ⟨ha_, rfl⟩
 obtain ⟨hh21, rfl⟩ := hM
 obtain ⟨β, rfl⟩ := has_ex hh21
 clear hh21
 refine k14 _ _ ?_
 refine w_cond (o15) (by kernel_rfl) rfl (fun h29 => ?_) (fun h29 => ?_)
 ·have r30 := ite_t h29 r17
  refine w_seqk fun _ k31 => ?_
  refine g_' ?_
  refine q_ (.iface 72 (i_ 9)) ?_
  refine q_ (.iface 72 (i_ 9)) ?_
  refine s_nil (k31 _ _ ?_)
  refine w_ret (th_ret ?_)
  refine b_ret (fn := Tryz.f39) (vs := [.iface 72 (i_ 9)]) (aRes_tmp (by kernel_rfl) (rfl)) ?_
  obtain rfl := Option.some.inj r30
  exact ⟨(.iface 72 (i_ 9)), [], rfl, ((FrS.refl (W := []) wf).extR e9), Ev.no, Inn.nil⟩
 have r32 := ite_bf h29 r17
 refine w_skip ?_
 refine k13 _ _ ?_
 refine w_seqk fun _ k33 => ?_
 refine w_seqk fun _ k34 => ?_
 refine g_' ?_
 refine q_ (pt_ b7 1) ?_
 refine l_' (hd_Arcs) (aLoad Tryz.prog 22 (pt_ b7 1) H8) (r11.ld (by kernel_rfl)) ?_
 have u35 := (h_Arcs.ext e9)
 refine l_' (i_ (Arcs.length : Int)) (aLen Tryz.prog 22 hd_Arcs H8) (u35.lenb (by kernel_rfl)) ?_
 refine q_ (i_ 0) ?_
 refine s_nil (k34 _ _ ?_)
 obtain ⟨z39, hx37, r38⟩ := bind_some r32
 refine w_mid (fun α H40 => ∃ o36, z39 = Sum.inr o36 ∧ Has α [] ∧ FrS [] H8 H40) (fun _ k42 => ?_) (fun α H40 hM => ?_)
 ·refine w_block ?_
  obtain ⟨n44, hn45⟩ := loopO_iff.1 hx37
  refine w_loopn (fun n α H46 => ∃ (i0 : Int), iterO (fun zz_ => z_gtext_Check_l0 N_ Arcs zz_) n i0 = some z39 ∧ Has α [(1, pt_ b7 0), (22, hd_Arcs), (23, i_ (Arcs.length : Int)), (24, i_ i0)] ∧ FrS [] H8 H46) n44 ⟨0, hn45, ha_, (FrS.refl (W := []) e9.wf)⟩ ?_
  rintro n44 α H46 ⟨i0, hi49, hh48, e47⟩ K54 k54
  obtain ⟨n50, z51, rfl, hz52, hn53⟩ := iter_succ hi49
  obtain ⟨β, rfl⟩ := has_ex hh48
  clear hh48
  replace hz52 : z_gtext_Check_l0 N_ Arcs i0 = some z51 := hz52
  unfold z_gtext_Check_l0 at hz52
  refine w_seqk fun _ k55 => ?_
  refine g_' ?_
  refine q_ (.bool (decide (i0 < (Arcs.length : Int)))) ?_
  refine s_nil (k55 _ _ ?_)
  refine w_seqk fun _ k56 => ?_
  refine w_condp (i0 < (Arcs.length : Int)) (by kernel_rfl) rfl (fun h57 => ?_) (fun h57 => ?_)
  ·have r58 := ite_t h57 hz52
   refine w_skip ?_
   refine k56 _ _ ?_
   refine w_seqk fun _ k59 => ?_
   refine w_block ?_
   refine w_seqk fun _ k60 => ?_
   refine g_' ?_
   refine q_ (i_ i0) ?_
   obtain ⟨g61, r62⟩ := G_some r58
   have u63 := (u35.fr e47 Dj.nil_l)
   refine l_' (elp hd_Arcs 3 i0.toNat 0) (aIndexAddr Tryz.prog 22 hd_Arcs (i_ i0)) (u63.idxb (by kernel_rfl) g61 h57) ?_
   refine l_' (.agg #[i_ ((gt Arcs i0).1), i_ ((gt Arcs i0).2.1), i_ ((gt Arcs i0).2.2)]) (aLoad Tryz.prog 55 (elp hd_Arcs 3 i0.toNat 0) H46) (u63.ld g61 h57 (by kernel_rfl)) ?_
   refine s_rwk e47.wf [i_ 0, i_ 0, i_ 0] (by kernel_rfl) fun b64 H65 e66 hb67 r68 => ?_
   refine q_ (i_ i0) ?_
   obtain ⟨H70, q71, e72, r73⟩ := Row.store (P := Tryz.prog) (t := 55) (p := 0) e66.wf r68 (.agg #[i_ ((gt Arcs i0).1), i_ ((gt Arcs i0).2.1), i_ ((gt Arcs i0).2.2)]) [i_ ((gt Arcs i0).1), i_ ((gt Arcs i0).2.1), i_ ((gt Arcs i0).2.2)] (by kernel_rfl) (by kernel_rfl) (one_cons (rfl) (one_cons (rfl) (one_cons (rfl) (one_nil)))) (Nat.le_of_ble_eq_true (by kernel_rfl)) [i_ ((gt Arcs i0).1), i_ ((gt Arcs i0).2.1), i_ ((gt Arcs i0).2.2)] (by kernel_rfl)
   refine s_ek (undef) (by kernel_rfl) (map_ok q71) ?_
   refine s_nil (k60 _ _ ?_)
   refine w_seqk fun _ k74 => ?_
   refine g_' ?_
   refine l_' (.agg #[i_ ((gt Arcs i0).1), i_ ((gt Arcs i0).2.1), i_ ((gt Arcs i0).2.2)]) (aLoad Tryz.prog 55 (pt_ b64 0) H70) (r73.ld (by kernel_rfl)) ?_
   refine q_ (pt_ b7 0) ?_
   have u75 := (((r11.frS e47 Dj.nil_l).ext e66).frS e72 (hb67.djn (r11.ltF.le e47.next)))
   refine l_' (i_ N_) (aLoad Tryz.prog 3 (pt_ b7 0) H70) (u75.ld (by kernel_rfl)) ?_
   obtain ⟨y76, hy77, r78⟩ := bind_some r62
   refine s_ck 54 #[.agg #[i_ ((gt Arcs i0).1), i_ ((gt Arcs i0).2.1), i_ ((gt Arcs i0).2.2)], i_ N_] (by kernel_rfl) (c_gtext_arc e72.wf hy77) ?_
   rintro v79 H81 ⟨_, f80, rfl, e82, m83, i84⟩
   refine q_ (v79) ?_
   refine s_nil (k74 _ _ ?_)
   refine w_seqk fun _ k86 => ?_
   refine g_' ?_
   refine q_ (v79) ?_
   rcases (m83).cases with ⟨h87, rfl⟩ | ⟨h87, t88, x89, rfl⟩
   ·have r90 := ite_t h87 r78
    refine q_ (.bool false) ?_
    refine s_nil (k86 _ _ ?_)
    refine w_cond false (by kernel_rfl) rfl (fun h => by cases h) (fun _ => ?_)
    refine w_skip ?_
    refine k59 _ _ ?_
    refine g_' ?_
    obtain ⟨g91, r92⟩ := G_some r90
    refine s_w ((i0 + 1)) (k := .i64) (x := (i0 + 1)) (by kernel_rfl) (wrap64 (by have := g91; omega)) ?_
    refine q_ (i_ (i0 + 1)) ?_
    refine s_nil ?_
    obtain rfl := Option.some.inj r92
    exact k54 n50 _ _ (Nat.lt_succ_self _) ⟨(i0 + 1), hn53, ha_, (FrS.step e9.wf (FrS.step e9.wf ((FrS.step e9.wf (FrS.refl (W := []) e9.wf) e47 Inn.nil).extR e66) e72 (hb67.fresh e47.next)) e82 Inn.nil)⟩
   have r93 := ite_f h87 r78
   refine l_' (.bool true) (aBin Tryz.prog .neq 29 (.tmp 33) (.const .nilIface) (.iface t88 x89) .nilIface) (aBin_nnil (by kernel_rfl)) ?_
   refine s_nil (k86 _ _ ?_)
   refine w_cond true (by kernel_rfl) rfl (fun _ => ?_) (fun h => by cases h)
   refine w_seqk fun _ k94 => ?_
   refine g_' ?_
   refine q_ (i_ i0) ?_
   refine q_ (.iface t88 x89) ?_
   obtain ⟨y95, hy96, r97⟩ := bind_some r93
   refine s_ck 55 #[i_ 4, i_ i0, .iface t88 x89] (by kernel_rfl) (c_fault_At e82.wf m83 hy96) ?_
   rintro v98 H100 ⟨_, f99, rfl, e101, m102, i103⟩
   refine q_ (v98) ?_
   refine s_nil (k94 _ _ ?_)
   refine w_ret (bl_ret (th_ret (th_ret (bl_ret (th_ret (th_ret ?_))))))
   obtain ⟨v105, hv106, hz107⟩ := map_some r97
   subst hz107
   obtain rfl := it_inr hn53
   have hq108 := elim_inl r38
   rw [hq108] at hv106
   refine b_ret (fn := Tryz.f39) (vs := [v98]) (aRes_tmp (by kernel_rfl) (rfl)) ?_
   obtain rfl := Option.some.inj hv106
   exact ⟨(v98), f99, rfl, (FrS.step wf (FrS.step wf (FrS.step wf ((FrS.step wf ((FrS.refl (W := []) wf).extR e9) e47 Inn.nil).extR e66) e72 (hb67.fresh (ntr e9.next e47.next))) e82 Inn.nil) e101 Inn.nil), m102, (Inn.trans (i84.fresh (ntr (ntr (ntr e9.next e47.next) e66.next) e72.next)) (ntr (ntr (ntr (ntr e9.next e47.next) e66.next) e72.next) e82.next) i103)⟩
  have r109 := ite_f h57 hz52
  refine w_exit (th_exit (th_exit (bl_eq ?_)))
  obtain rfl := Option.some.inj r109
  obtain rfl := it_inr hn53
  exact k42 _ _ ⟨_, rfl, trivial, (FrS.step e9.wf (FrS.refl (W := []) e9.wf) e47 Inn.nil)⟩
 obtain ⟨o36, rfl, hh43, e41⟩ := hM
 have r110 := elim_inr r38
 obtain ⟨β, rfl⟩ := has_ex hh43
 clear hh43
 refine k33 _ _ ?_
 refine w_seqk fun _ k111 => ?_
 refine g_' ?_
 refine q_ (.nilIface) ?_
 refine s_nil (k111 _ _ ?_)
 refine w_ret ?_
 refine b_ret (fn := Tryz.f39) (vs := [.nilIface]) (aRes_tmp (by kernel_rfl) (rfl)) ?_
 obtain rfl := Option.some.inj r110
 exact ⟨(.nilIface), [], rfl, (FrS.step wf ((FrS.refl (W := []) wf).extR e9) e41 Inn.nil), Ev.nil, Inn.nil⟩

theorem c_cmp_isNaN {H : AH} {x : Int} {r : Bool}
    (wf : WF H) (hr : z_cmp_isNaN x = some r) :
    ACalls Tryz.prog 78 #[i_ x] H fun v H' => v = .bool r ∧ H = H' := by
 refine acalls_of_body mixed Tryz.func78 rfl (Nat.le_of_ble_eq_true rfl) ?_
 unfold z_cmp_isNaN at hr
 refine w_seqk fun _ k1 => ?_
 refine g_' ?_
 refine q_ (.bool false) ?_
 refine s_nil (k1 _ _ ?_)
 refine w_seqk fun _ k2 => ?_
 refine g_' ?_
 refine q_ (i_ x) ?_
 refine q_ (i_ x) ?_
 refine q_ (.bool (!decide (x = x))) ?_
 refine q_ (.bool (!decide (x = x))) ?_
 refine s_nil (k2 _ _ ?_)
 refine w_ret ?_
 refine b_ret (fn := Tryz.f78) (vs := [.bool (!decide (x = x))]) (aRes_tmp (by kernel_rfl) (rfl)) ?_
 obtain rfl := Option.some.inj hr
 exact ⟨rfl, rfl⟩

theorem c_cmp_Compare {H : AH} {x : Int} {y : Int} {r : Int}
    (wf : WF H) (hr : z_cmp_Compare x y = some r) :
    ACalls Tryz.prog 59 #[i_ x, i_ y] H fun v H' => v = i_ r ∧ H = H' := by
 refine acalls_of_body mixed Tryz.func59 rfl (Nat.le_of_ble_eq_true rfl) ?_
 unfold z_cmp_Compare at hr
 refine w_seqk fun _ k1 => ?_
 refine g_' ?_
 refine q_ (i_ 0) ?_
 refine s_nil (k1 _ _ ?_)
 refine w_seqk fun _ k2 => ?_
 refine g_' ?_
 refine q_ (i_ x) ?_
 obtain ⟨y3, hy4, r5⟩ := bind_some hr
 refine s_ck 78 #[i_ x] (by kernel_rfl) (c_cmp_isNaN wf hy4) ?_
 rintro _ _ ⟨rfl, rfl⟩
 refine q_ (.bool y3) ?_
 refine s_nil (k2 _ _ ?_)
 refine w_seqk fun _ k8 => ?_
 refine g_' ?_
 refine q_ (i_ y) ?_
 obtain ⟨y9, hy10, r11⟩ := bind_some r5
 refine s_ck 78 #[i_ y] (by kernel_rfl) (c_cmp_isNaN wf hy10) ?_
 rintro _ _ ⟨rfl, rfl⟩
 refine q_ (.bool y9) ?_
 refine s_nil (k8 _ _ ?_)
 refine w_seqk fun _ k14 => ?_
 refine w_seqk fun _ k15 => ?_
 refine g_' ?_
 refine q_ (.bool y3) ?_
 refine s_nil (k15 _ _ ?_)
 refine w_cond (y3) (by kernel_rfl) rfl (fun h16 => ?_) (fun h16 => ?_)
 ·have r17 := ite_t h16 r11
  refine w_seqk fun _ k18 => ?_
  refine w_seqk fun _ k19 => ?_
  refine g_' ?_
  refine q_ (.bool y9) ?_
  refine s_nil (k19 _ _ ?_)
  refine w_cond (y9) (by kernel_rfl) rfl (fun h20 => ?_) (fun h20 => ?_)
  ·have r21 := ite_t h20 r17
   refine w_seqk fun _ k22 => ?_
   refine g_' ?_
   refine q_ (i_ 0) ?_
   refine s_nil (k22 _ _ ?_)
   refine w_ret (th_ret (th_ret ?_))
   refine b_ret (fn := Tryz.f59) (vs := [i_ 0]) (aRes_tmp (by kernel_rfl) (rfl)) ?_
   obtain rfl := Option.some.inj r21
   exact ⟨rfl, rfl⟩
  have r23 := ite_bf h20 r17
  refine w_skip ?_
  refine k18 _ _ ?_
  refine w_seqk fun _ k24 => ?_
  refine g_' ?_
  refine q_ (i_ (-1)) ?_
  refine s_nil (k24 _ _ ?_)
  refine w_ret (th_ret ?_)
  refine b_ret (fn := Tryz.f59) (vs := [i_ (-1)]) (aRes_tmp (by kernel_rfl) (rfl)) ?_
  obtain rfl := Option.some.inj r23
  exact ⟨rfl, rfl⟩
 have r25 := ite_bf h16 r11
 refine w_skip ?_
 refine k14 _ _ ?_
 refine w_seqk fun _ k26 => ?_
 refine w_seqk fun _ k27 => ?_
 refine g_' ?_
 refine q_ (.bool y9) ?_
 refine s_nil (k27 _ _ ?_)
 refine w_cond (y9) (by kernel_rfl) rfl (fun h28 => ?_) (fun h28 => ?_)
 ·have r29 := ite_t h28 r25
  refine w_seqk fun _ k30 => ?_
  refine g_' ?_
  refine q_ (i_ 1) ?_
  refine s_nil (k30 _ _ ?_)
  refine w_ret (th_ret ?_)
  refine b_ret (fn := Tryz.f59) (vs := [i_ 1]) (aRes_tmp (by kernel_rfl) (rfl)) ?_
  obtain rfl := Option.some.inj r29
  exact ⟨rfl, rfl⟩
 have r31 := ite_bf h28 r25
 refine w_skip ?_
 refine k26 _ _ ?_
 refine w_seqk fun _ k32 => ?_
 refine w_seqk fun _ k33 => ?_
 refine g_' ?_
 refine q_ (i_ x) ?_
 refine q_ (i_ y) ?_
 refine q_ (.bool (decide (x < y))) ?_
 refine s_nil (k33 _ _ ?_)
 refine w_condp (x < y) (by kernel_rfl) rfl (fun h34 => ?_) (fun h34 => ?_)
 ·have r35 := ite_t h34 r31
  refine w_seqk fun _ k36 => ?_
  refine g_' ?_
  refine q_ (i_ (-1)) ?_
  refine s_nil (k36 _ _ ?_)
  refine w_ret (th_ret ?_)
  refine b_ret (fn := Tryz.f59) (vs := [i_ (-1)]) (aRes_tmp (by kernel_rfl) (rfl)) ?_
  obtain rfl := Option.some.inj r35
  exact ⟨rfl, rfl⟩
 have r37 := ite_f h34 r31
 refine w_skip ?_
 refine k32 _ _ ?_
 refine w_seqk fun _ k38 => ?_
 refine w_seqk fun _ k39 => ?_
 refine g_' ?_
 refine q_ (i_ x) ?_
 refine q_ (i_ y) ?_
 refine q_ (.bool (decide (x > y))) ?_
 refine s_nil (k39 _ _ ?_)
 refine w_condp (x > y) (by kernel_rfl) rfl (fun h40 => ?_) (fun h40 => ?_)
 ·have r41 := ite_t h40 r37
  refine w_seqk fun _ k42 => ?_
  refine g_' ?_
  refine q_ (i_ 1) ?_
  refine s_nil (k42 _ _ ?_)
  refine w_ret (th_ret ?_)
  refine b_ret (fn := Tryz.f59) (vs := [i_ 1]) (aRes_tmp (by kernel_rfl) (rfl)) ?_
  obtain rfl := Option.some.inj r41
  exact ⟨rfl, rfl⟩
 have r43 := ite_f h40 r37
 refine w_skip ?_
 refine k38 _ _ ?_
 refine w_seqk fun _ k44 => ?_
 refine g_' ?_
 refine q_ (i_ 0) ?_
 refine s_nil (k44 _ _ ?_)
 refine w_ret ?_
 refine b_ret (fn := Tryz.f59) (vs := [i_ 0]) (aRes_tmp (by kernel_rfl) (rfl)) ?_
 obtain rfl := Option.some.inj r43
 exact ⟨rfl, rfl⟩

theorem c_cmp_Or {H : AH} {hd_vals : Value} {fp_vals : Fp} {vals : List (Int)} {r : Int}
    (wf : WF H) (h_vals : Sq (encI .i64) 1 H hd_vals vals fp_vals) (hr : z_cmp_Or vals = some r) :
    ACalls Tryz.prog 58 #[hd_vals] H fun v H' => v = i_ r ∧ H = H' := by
 refine acalls_of_body mixed Tryz.func58 rfl (Nat.le_of_ble_eq_true rfl) ?_
 unfold z_cmp_Or at hr
 refine w_seqk fun _ k1 => ?_
 refine g_' ?_
 refine q_ (i_ 0) ?_
 refine s_nil (k1 _ _ ?_)
 refine w_seqk fun _ k2 => ?_
 refine g_' ?_
 refine q_ (i_ 0) ?_
 refine s_nil (k2 _ _ ?_)
 refine w_seqk fun _ k3 => ?_
 refine w_seqk fun _ k4 => ?_
 refine g_' ?_
 refine q_ (hd_vals) ?_
 refine l_' (i_ (vals.length : Int)) (aLen Tryz.prog 164 hd_vals H) (h_vals.lenb (by kernel_rfl)) ?_
 refine q_ (i_ 0) ?_
 refine s_nil (k4 _ _ ?_)
 obtain ⟨z8, hx6, r7⟩ := bind_some hr
 refine w_mid (fun α H9 => ∃ o5, z8 = Sum.inr o5 ∧ Has α [(3, i_ 0)] ∧ H = H9) (fun _ k11 => ?_) (fun α H9 hM => ?_)
 ·refine w_block ?_
  obtain ⟨n13, hn14⟩ := loopO_iff.1 hx6
  refine w_loopn (fun n α H15 => ∃ (i0 : Int), iterO (fun zz_ => z_cmp_Or_l0 vals zz_) n i0 = some z8 ∧ Has α [(3, i_ 0), (6, hd_vals), (7, i_ (vals.length : Int)), (8, i_ i0)] ∧ H = H15) n13 ⟨0, hn14, ha_, rfl⟩ ?_
  rintro n13 α H15 ⟨i0, hi18, hh17, rfl⟩ K23 k23
  obtain ⟨n19, z20, rfl, hz21, hn22⟩ := iter_succ hi18
  obtain ⟨β, rfl⟩ := has_ex hh17
  clear hh17
  replace hz21 : z_cmp_Or_l0 vals i0 = some z20 := hz21
  unfold z_cmp_Or_l0 at hz21
  refine w_seqk fun _ k24 => ?_
  refine g_' ?_
  refine q_ (.bool (decide (i0 < (vals.length : Int)))) ?_
  refine s_nil (k24 _ _ ?_)
  refine w_seqk fun _ k25 => ?_
  refine w_condp (i0 < (vals.length : Int)) (by kernel_rfl) rfl (fun h26 => ?_) (fun h26 => ?_)
  ·have r27 := ite_t h26 hz21
   refine w_skip ?_
   refine k25 _ _ ?_
   refine w_seqk fun _ k28 => ?_
   refine w_block ?_
   refine w_seqk fun _ k29 => ?_
   refine g_' ?_
   obtain ⟨g30, r31⟩ := G_some r27
   refine l_' (elp hd_vals 1 i0.toNat 0) (aIndexAddr Tryz.prog 164 hd_vals (i_ i0)) (h_vals.idxb (by kernel_rfl) g30 h26) ?_
   refine l_' (i_ (gt vals i0)) (aLoad Tryz.prog 3 (elp hd_vals 1 i0.toNat 0) H) (h_vals.ld g30 h26 (by kernel_rfl)) ?_
   refine q_ (i_ (gt vals i0)) ?_
   refine s_nil (k29 _ _ ?_)
   refine w_seqk fun _ k32 => ?_
   refine g_' ?_
   refine q_ (i_ (gt vals i0)) ?_
   refine q_ (i_ 0) ?_
   refine q_ (.bool (!decide ((gt vals i0) = 0))) ?_
   refine s_nil (k32 _ _ ?_)
   refine w_condn ((gt vals i0) = 0) (by kernel_rfl) rfl (fun h33 => ?_) (fun h33 => ?_)
   ·have r34 := ite_f h33 r31
    refine w_seqk fun _ k35 => ?_
    refine g_' ?_
    refine q_ (i_ (gt vals i0)) ?_
    refine q_ (i_ (gt vals i0)) ?_
    refine s_nil (k35 _ _ ?_)
    refine w_ret (bl_ret (th_ret (th_ret (bl_ret (th_ret (th_ret ?_))))))
    obtain ⟨v36, hv37, hz38⟩ := map_some r34
    subst hz38
    obtain rfl := it_inr hn22
    have hq39 := elim_inl r7
    rw [hq39] at hv37
    refine b_ret (fn := Tryz.f58) (vs := [i_ (gt vals i0)]) (aRes_tmp (by kernel_rfl) (rfl)) ?_
    obtain rfl := Option.some.inj hv37
    exact ⟨rfl, rfl⟩
   have r40 := ite_t h33 r31
   refine w_skip ?_
   refine k28 _ _ ?_
   refine g_' ?_
   obtain ⟨g41, r42⟩ := G_some r40
   refine s_w ((i0 + 1)) (k := .i64) (x := (i0 + 1)) (by kernel_rfl) (wrap64 (by have := g41; omega)) ?_
   refine q_ (i_ (i0 + 1)) ?_
   refine s_nil ?_
   obtain rfl := Option.some.inj r42
   exact k23 n19 _ _ (Nat.lt_succ_self _) ⟨(i0 + 1), hn22, ha_, rfl⟩
  have r43 := ite_f h26 hz21
  refine w_exit (th_exit (th_exit (bl_eq ?_)))
  obtain rfl := Option.some.inj r43
  obtain rfl := it_inr hn22
  exact k11 _ _ ⟨_, rfl, ha_, rfl⟩
 obtain ⟨o5, rfl, hh12, rfl⟩ := hM
 have r44 := elim_inr r7
 obtain ⟨β, rfl⟩ := has_ex hh12
 clear hh12
 refine k3 _ _ ?_
 refine w_seqk fun _ k45 => ?_
 refine g_' ?_
 refine q_ (i_ 0) ?_
 refine q_ (i_ 0) ?_
 refine s_nil (k45 _ _ ?_)
 refine w_ret ?_
 refine b_ret (fn := Tryz.f58) (vs := [i_ 0]) (aRes_tmp (by kernel_rfl) (rfl)) ?_
 obtain rfl := Option.some.inj r44
 exact ⟨rfl, rfl⟩

theorem c_normal_order {H : AH} {From : Int} {To : Int} {Weight : Int} {From_ : Int} {To_ : Int} {Weight_ : Int} {r : Int}
    (wf : WF H) (hr : z_normal_order From To Weight From_ To_ Weight_ = some r) :
    ACalls Tryz.prog 41 #[.agg #[i_ From, i_ To, i_ Weight], .agg #[i_ From_, i_ To_, i_ Weight_]] H fun v H' => v = i_ r ∧ FrS [] H H' := by
 refine acalls_of_body mixed Tryz.func41 rfl (Nat.le_of_ble_eq_true rfl) ?_
 unfold z_normal_order at hr
 refine w_seqk fun _ k1 => ?_
 refine g_' ?_
 refine s_rwl wf [i_ From, i_ To, i_ Weight] (one_cons (rfl) (one_cons (rfl) (one_cons (rfl) (one_nil)))) (by kernel_rfl) fun b2 H3 e4 hb5 r6 => ?_
 refine s_rwl e4.wf [i_ From_, i_ To_, i_ Weight_] (one_cons (rfl) (one_cons (rfl) (one_cons (rfl) (one_nil)))) (by kernel_rfl) fun b8 H9 e10 hb11 r12 => ?_
 refine q_ (i_ 0) ?_
 refine s_nil (k1 _ _ ?_)
 refine w_seqk fun _ k14 => ?_
 refine w_draw [0, 1, 2, 3, 5, 6, 7, 8, 10, 11, 12, 13, 4, 9, 14, 15, 16, 17] (by kernel_rfl) ?_
 refine e_' (pt_ b2 0) ?_
 have u15 := (r6.ext e10)
 refine m_' (i_ From) (aLoad Tryz.prog 3 (pt_ b2 0) H9) (u15.ld (by kernel_rfl)) ?_
 refine e_' (pt_ b8 0) ?_
 refine m_' (i_ From_) (aLoad Tryz.prog 3 (pt_ b8 0) H9) (r12.ld (by kernel_rfl)) ?_
 refine e_' (pt_ b2 1) ?_
 refine d_fl (i_ To) (x := aLoad Tryz.prog 3 (pt_ b2 1) H9) (by kernel_rfl) (u15.ld (by kernel_rfl)) ?_
 refine e_' (pt_ b8 1) ?_
 refine d_fl (i_ To_) (x := aLoad Tryz.prog 3 (pt_ b8 1) H9) (by kernel_rfl) (r12.ld (by kernel_rfl)) ?_
 refine e_' (pt_ b2 2) ?_
 refine d_fl (i_ Weight) (x := aLoad Tryz.prog 3 (pt_ b2 2) H9) (by kernel_rfl) (u15.ld (by kernel_rfl)) ?_
 refine e_' (pt_ b8 2) ?_
 refine d_fl (i_ Weight_) (x := aLoad Tryz.prog 3 (pt_ b8 2) H9) (by kernel_rfl) (r12.ld (by kernel_rfl)) ?_
 obtain ⟨y16, hy17, r18⟩ := bind_some hr
 refine d_ck 59 #[i_ From, i_ From_] (by kernel_rfl) (c_cmp_Compare e10.wf hy17) ?_
 rintro _ _ ⟨rfl, rfl⟩
 refine ⟨st_ql (y := aLoad Tryz.prog 3 (pt_ b8 2) H9) (by kernel_rfl) (r12.ld (by kernel_rfl)) (st_ql (y := aLoad Tryz.prog 3 (pt_ b2 2) H9) (by kernel_rfl) (u15.ld (by kernel_rfl)) (st_ql (y := aLoad Tryz.prog 3 (pt_ b8 1) H9) (by kernel_rfl) (r12.ld (by kernel_rfl)) (st_ql (y := aLoad Tryz.prog 3 (pt_ b2 1) H9) (by kernel_rfl) (u15.ld (by kernel_rfl)) (st_nil)))), ?_⟩
 obtain ⟨y21, hy22, r23⟩ := bind_some r18
 refine d_ck 59 #[i_ To, i_ To_] (by kernel_rfl) (c_cmp_Compare e10.wf hy22) ?_
 rintro _ _ ⟨rfl, rfl⟩
 refine ⟨st_ql (y := aLoad Tryz.prog 3 (pt_ b8 2) H9) (by kernel_rfl) (r12.ld (by kernel_rfl)) (st_ql (y := aLoad Tryz.prog 3 (pt_ b2 2) H9) (by kernel_rfl) (u15.ld (by kernel_rfl)) (st_anc (by kernel_rfl) (st_anc (by kernel_rfl) (st_nil)))), ?_⟩
 obtain ⟨y26, hy27, r28⟩ := bind_some r23
 refine d_ck 59 #[i_ Weight, i_ Weight_] (by kernel_rfl) (c_cmp_Compare e10.wf hy27) ?_
 rintro _ _ ⟨rfl, rfl⟩
 refine ⟨st_anc (by kernel_rfl) (st_anc (by kernel_rfl) (st_anc (by kernel_rfl) (st_anc (by kernel_rfl) (st_nil)))), ?_⟩
 refine d_owk (enc := (encI .i64)) (sz := 1) e10.wf [y16, y21, y26] 3 (by decide) (fun _ _ => rfl) (fun _ _ => rfl) rfl (by kernel_rfl) fun s31 f32 H33 e34 hf35 hm36 => ?_
 obtain ⟨a37, n38, c39, rfl⟩ := hm36.form
 obtain ⟨y41, hy42, r43⟩ := bind_some r28
 refine d_ck 58 #[.slice a37 n38 c39] (by kernel_rfl) (c_cmp_Or e34.wf hm36.sq hy42) ?_
 rintro _ _ ⟨rfl, rfl⟩
 refine ⟨st_anc (by kernel_rfl) (st_anc (by kernel_rfl) (st_anc (by kernel_rfl) (st_anc (by kernel_rfl) (st_nil)))), ?_⟩
 refine e_' (i_ y41) ?_
 refine d_nil ?_
 refine k14 _ _ ?_
 refine w_ret ?_
 refine b_ret (fn := Tryz.f41) (vs := [i_ y41]) (aRes_tmp (by kernel_rfl) (rfl)) ?_
 obtain rfl := Option.some.inj r43
 exact ⟨rfl, ((((FrS.refl (W := []) wf).extR e4).extR e10).extR e34)⟩

theorem c_normal_Of_1 {H : AH} {From : Int} {To : Int} {Weight : Int} {From_ : Int} {To_ : Int} {Weight_ : Int} {r : Bool}
    (wf : WF H) (hr : z_normal_Of_1 From To Weight From_ To_ Weight_ = some r) :
    ACalls Tryz.prog 43 #[.agg #[i_ From, i_ To, i_ Weight], .agg #[i_ From_, i_ To_, i_ Weight_]] H fun v H' => v = .bool r ∧ FrS [] H H' := by
 refine acalls_of_body mixed Tryz.func43 rfl (Nat.le_of_ble_eq_true rfl) ?_
 unfold z_normal_Of_1 at hr
 refine w_seqk fun _ k1 => ?_
 refine g_' ?_
 refine s_rwl wf [i_ From, i_ To, i_ Weight] (one_cons (rfl) (one_cons (rfl) (one_cons (rfl) (one_nil)))) (by kernel_rfl) fun b2 H3 e4 hb5 r6 => ?_
 refine s_rwl e4.wf [i_ From_, i_ To_, i_ Weight_] (one_cons (rfl) (one_cons (rfl) (one_cons (rfl) (one_nil)))) (by kernel_rfl) fun b8 H9 e10 hb11 r12 => ?_
 refine q_ (.bool false) ?_
 refine s_nil (k1 _ _ ?_)
 refine w_seqk fun _ k14 => ?_
 refine g_' ?_
 refine q_ (pt_ b2 0) ?_
 have u15 := (r6.ext e10)
 refine l_' (i_ From) (aLoad Tryz.prog 3 (pt_ b2 0) H9) (u15.ld (by kernel_rfl)) ?_
 refine q_ (pt_ b8 0) ?_
 refine l_' (i_ From_) (aLoad Tryz.prog 3 (pt_ b8 0) H9) (r12.ld (by kernel_rfl)) ?_
 refine s_b (From = From_) (by kernel_rfl) (fun h16 => ?_) (fun h16 => ?_)
 ·have r17 := ite_t h16 hr
  refine q_ (.bool true) ?_
  refine q_ (pt_ b2 1) ?_
  refine l_' (i_ To) (aLoad Tryz.prog 3 (pt_ b2 1) H9) (u15.ld (by kernel_rfl)) ?_
  refine q_ (pt_ b8 1) ?_
  refine l_' (i_ To_) (aLoad Tryz.prog 3 (pt_ b8 1) H9) (r12.ld (by kernel_rfl)) ?_
  refine q_ (.bool (decide (To = To_))) ?_
  refine q_ (.bool (decide (To = To_))) ?_
  refine q_ (.bool (decide (To = To_))) ?_
  refine s_nil (k14 _ _ ?_)
  refine w_ret ?_
  refine b_ret (fn := Tryz.f43) (vs := [.bool (decide (To = To_))]) (aRes_tmp (by kernel_rfl) (rfl)) ?_
  obtain rfl := Option.some.inj r17
  exact ⟨rfl, (((FrS.refl (W := []) wf).extR e4).extR e10)⟩
 have r18 := ite_f h16 hr
 refine q_ (.bool false) ?_
 refine n_' ?_
 refine n_' ?_
 refine n_' ?_
 refine n_' ?_
 refine n_' ?_
 refine q_ (.bool false) ?_
 refine q_ (.bool false) ?_
 refine s_nil (k14 _ _ ?_)
 refine w_ret ?_
 refine b_ret (fn := Tryz.f43) (vs := [.bool false]) (aRes_tmp (by kernel_rfl) (rfl)) ?_
 obtain rfl := Option.some.inj r18
 exact ⟨rfl, (((FrS.refl (W := []) wf).extR e4).extR e10)⟩

theorem c_slices_CompactFunc {H : AH} {hd_s : Value} {fp_s : Fp} {s : List (Int × Int × Int)} {r : List (Int × Int × Int) × List (Int × Int × Int)}
    (wf : WF H) (h_s : Ow enc_i64_i64_i64 3 H hd_s s fp_s) (hr : z_slices_CompactFunc s = some r) :
    ACalls Tryz.prog 42 #[hd_s, .func (.func 43) #[] #[]] H fun v H' => ∃ (s3 : Value), v = s3 ∧ FrS fp_s H H' ∧ Ow enc_i64_i64_i64 3 H' s3 r.1 fp_s ∧ Ow enc_i64_i64_i64 3 H' hd_s r.2 fp_s := by
 refine acalls_of_body mixed Tryz.func42 rfl (Nat.le_of_ble_eq_true rfl) ?_
 unfold z_slices_CompactFunc at hr
 refine w_seqk fun _ k6 => ?_
 refine g_' ?_
 refine q_ (.slice none 0 0) ?_
 refine s_nil (k6 _ _ ?_)
 refine w_seqk fun _ k7 => ?_
 refine w_seqk fun _ k8 => ?_
 refine g_' ?_
 refine q_ (hd_s) ?_
 refine l_' (i_ (s.length : Int)) (aLen Tryz.prog 22 hd_s H) (h_s.sq.lenb (by kernel_rfl)) ?_
 refine q_ (.bool (decide ((s.length : Int) < 2))) ?_
 refine s_nil (k8 _ _ ?_)
 refine w_condp ((s.length : Int) < 2) (by kernel_rfl) rfl (fun h9 => ?_) (fun h9 => ?_)
 ·have r10 := ite_t h9 hr
  refine w_seqk fun _ k11 => ?_
  refine g_' ?_
  refine q_ (hd_s) ?_
  refine q_ (hd_s) ?_
  refine s_nil (k11 _ _ ?_)
  refine w_ret (th_ret ?_)
  refine b_ret (fn := Tryz.f42) (vs := [hd_s]) (aRes_tmp (by kernel_rfl) (rfl)) ?_
  obtain rfl := Option.some.inj r10
  exact ⟨(hd_s), rfl, (FrS.refl (W := fp_s) wf), h_s, h_s⟩
 have r12 := ite_f h9 hr
 refine w_skip ?_
 refine k7 _ _ ?_
 refine w_seqk fun _ k13 => ?_
 refine w_seqk fun _ k14 => ?_
 refine g_' ?_
 refine q_ (i_ 1) ?_
 refine s_nil (k14 _ _ ?_)
 obtain ⟨z18, hx16, r17⟩ := bind_some r12
 refine w_mid (fun α H19 => ∃ o15, z18 = Sum.inr o15 ∧ Has α [(0, hd_s)] ∧ FrS [] H H19) (fun _ k21 => ?_) (fun α H19 hM => ?_)
 ·refine w_block ?_
  obtain ⟨n23, hn24⟩ := loopO_iff.1 hx16
  refine w_loopn (fun n α H25 => ∃ (k3 : Int), iterO (fun zz_ => z_slices_CompactFunc_l1 s zz_) n k3 = some z18 ∧ Has α [(0, hd_s), (1, .func (.func 43) #[] #[]), (5, i_ k3)] ∧ FrS [] H H25) n23 ⟨1, hn24, ha_, (FrS.refl (W := []) wf)⟩ ?_
  rintro n23 α H25 ⟨k3, hi28, hh27, e26⟩ K33 k33
  obtain ⟨n29, z30, rfl, hz31, hn32⟩ := iter_succ hi28
  obtain ⟨β, rfl⟩ := has_ex hh27
  clear hh27
  replace hz31 : z_slices_CompactFunc_l1 s k3 = some z30 := hz31
  unfold z_slices_CompactFunc_l1 at hz31
  refine w_seqk fun _ k34 => ?_
  refine w_seqk fun _ k35 => ?_
  refine g_' ?_
  refine q_ (i_ k3) ?_
  refine q_ (hd_s) ?_
  have u36 := (h_s.fr e26 Dj.nil_l)
  refine l_' (i_ (s.length : Int)) (aLen Tryz.prog 22 hd_s H25) (u36.sq.lenb (by kernel_rfl)) ?_
  refine q_ (.bool (decide (k3 < (s.length : Int)))) ?_
  refine s_nil (k35 _ _ ?_)
  refine w_condp (k3 < (s.length : Int)) (by kernel_rfl) rfl (fun h37 => ?_) (fun h37 => ?_)
  ·have r38 := ite_t h37 hz31
   refine w_skip ?_
   refine k34 _ _ ?_
   refine w_seqk fun _ k39 => ?_
   refine w_block ?_
   refine w_seqk fun _ k40 => ?_
   refine w_draw [0, 1, 2, 3, 4, 5, 6, 7, 8, 9, 10] (by kernel_rfl) ?_
   refine e_' (.func (.func 43) #[] #[]) ?_
   refine e_' (hd_s) ?_
   refine e_' (i_ k3) ?_
   obtain ⟨g41, r42⟩ := G_some r38
   refine m_' (elp hd_s 3 k3.toNat 0) (aIndexAddr Tryz.prog 22 hd_s (i_ k3)) (u36.sq.idxb (by kernel_rfl) g41 h37) ?_
   refine m_' (.agg #[i_ ((gt s k3).1), i_ ((gt s k3).2.1), i_ ((gt s k3).2.2)]) (aLoad Tryz.prog 55 (elp hd_s 3 k3.toNat 0) H25) (u36.sq.ld g41 h37 (by kernel_rfl)) ?_
   refine e_' (hd_s) ?_
   refine e_' (i_ k3) ?_
   obtain ⟨g43, r44⟩ := G_some r42
   refine d_w ((k3 - 1)) (k := .i64) (x := (k3 - 1)) (by kernel_rfl) (wrap64 g43) ?_
   obtain ⟨g45, r46⟩ := G_some r44
   refine m_' (elp hd_s 3 (k3 - 1).toNat 0) (aIndexAddr Tryz.prog 22 hd_s (i_ (k3 - 1))) (u36.sq.idxb (by kernel_rfl) g45.1 g45.2) ?_
   refine m_' (.agg #[i_ ((gt s (k3 - 1)).1), i_ ((gt s (k3 - 1)).2.1), i_ ((gt s (k3 - 1)).2.2)]) (aLoad Tryz.prog 55 (elp hd_s 3 (k3 - 1).toNat 0) H25) (u36.sq.ld g45.1 g45.2 (by kernel_rfl)) ?_
   obtain ⟨y47, hy48, r49⟩ := bind_some r46
   refine d_ck 43 #[.agg #[i_ ((gt s k3).1), i_ ((gt s k3).2.1), i_ ((gt s k3).2.2)], .agg #[i_ ((gt s (k3 - 1)).1), i_ ((gt s (k3 - 1)).2.1), i_ ((gt s (k3 - 1)).2.2)]] (by kernel_rfl) (c_normal_Of_1 e26.wf hy48) ?_
   rintro _ H50 ⟨rfl, e51⟩
   refine ⟨st_nil, ?_⟩
   refine d_nil ?_
   refine k40 _ _ ?_
   refine w_cond (y47) (by kernel_rfl) rfl (fun h52 => ?_) (fun h52 => ?_)
   ·have r53 := ite_t h52 r49
    refine w_seqk fun _ k54 => ?_
    refine g_' ?_
    refine q_ (hd_s) ?_
    refine q_ (i_ k3) ?_
    obtain ⟨g55, r56⟩ := G_some r53
    have u60 := (u36.fr e51 Dj.nil_l)
    obtain ⟨s57, q58, vw59⟩ := Ow.view (P := Tryz.prog) u60 (t := 22) (by kernel_rfl) (lo := some (i_ k3)) (l := k3.toNat) (aBound_int _ (by have := g55; omega)) (by have := g55; omega)
    obtain ⟨a61, n62, c63, rfl⟩ := vw59.form
    refine s_ql (.slice a61 n62 c63) (by kernel_rfl) q58 ?_
    refine q_ (.slice a61 n62 c63) ?_
    refine s_nil (k54 _ _ ?_)
    refine w_seqk fun _ k64 => ?_
    refine w_seqk fun _ k65 => ?_
    refine g_' ?_
    refine q_ (i_ 1) ?_
    refine s_nil (k65 _ _ ?_)
    obtain ⟨o66, hx67, r68⟩ := bind_some r56
    refine w_mid (fun α H69 => Has α [(0, hd_s), (5, i_ o66.2)] ∧ FrS fp_s H50 H69 ∧ Ow enc_i64_i64_i64 3 H69 hd_s o66.1 fp_s) (fun _ k73 => ?_) (fun α H69 hM => ?_)
    ·refine w_block ?_
     obtain ⟨n75, hn76⟩ := loopO_iff.1 hx67
     refine w_loopn (fun n α H77 => ∃ (s0 : List (Int × Int × Int)), ∃ (k1 : Int), ∃ (k22 : Int), iterO (fun zz_ => z_slices_CompactFunc_l0 k3 zz_.1 zz_.2.1 zz_.2.2) n (s0, k1, k22) = some o66 ∧ Has α [(0, hd_s), (1, .func (.func 43) #[] #[]), (5, i_ k1), (6, .slice a61 n62 c63), (7, i_ k22)] ∧ FrS fp_s H50 H77 ∧ Ow enc_i64_i64_i64 3 H77 hd_s s0 fp_s) n75 ⟨s, k3, 1, hn76, ha_, (FrS.refl (W := fp_s) e51.wf), u60⟩ ?_
     rintro n75 α H77 ⟨s0, k1, k22, hi82, hh81, e78, m80⟩ K87 k87
     obtain ⟨n83, z84, rfl, hz85, hn86⟩ := iter_succ hi82
     obtain ⟨β, rfl⟩ := has_ex hh81
     clear hh81
     replace hz85 : z_slices_CompactFunc_l0 k3 s0 k1 k22 = some z84 := hz85
     unfold z_slices_CompactFunc_l0 at hz85
     refine w_seqk fun _ k88 => ?_
     refine w_seqk fun _ k89 => ?_
     refine g_' ?_
     refine q_ (i_ k22) ?_
     refine q_ (.slice a61 n62 c63) ?_
     obtain ⟨hs90, hl91⟩ := vw59.sq m80
     refine l_' (i_ ((s0.drop k3.toNat).length : Int)) (aLen Tryz.prog 22 (.slice a61 n62 c63) H77) (hs90.lenb (by kernel_rfl)) ?_
     refine q_ (.bool (decide (k22 < ((s0.drop k3.toNat).length : Int)))) ?_
     refine s_nil (k89 _ _ ?_)
     refine w_condp (k22 < ((s0.drop k3.toNat).length : Int)) (by kernel_rfl) rfl (fun h93 => ?_) (fun h93 => ?_)
     ·have r94 := ite_t h93 hz85
      refine w_skip ?_
      refine k88 _ _ ?_
      refine w_seqk fun _ k95 => ?_
      refine w_block ?_
      refine w_seqk fun _ k96 => ?_
      refine w_draw [0, 1, 2, 3, 4, 5, 6, 7, 8, 9, 10, 11] (by kernel_rfl) ?_
      refine e_' (.func (.func 43) #[] #[]) ?_
      refine e_' (.slice a61 n62 c63) ?_
      refine e_' (i_ k22) ?_
      obtain ⟨hs97, hl98⟩ := vw59.sq m80
      obtain ⟨g100, r101⟩ := G_some r94
      refine m_' (elp (.slice a61 n62 c63) 3 k22.toNat 0) (aIndexAddr Tryz.prog 22 (.slice a61 n62 c63) (i_ k22)) (hs97.idxb (by kernel_rfl) g100 h93) ?_
      refine m_' (.agg #[i_ ((gt (s0.drop k3.toNat) k22).1), i_ ((gt (s0.drop k3.toNat) k22).2.1), i_ ((gt (s0.drop k3.toNat) k22).2.2)]) (aLoad Tryz.prog 55 (elp (.slice a61 n62 c63) 3 k22.toNat 0) H77) (hs97.ld g100 h93 (by kernel_rfl)) ?_
      refine e_' (.slice a61 n62 c63) ?_
      refine e_' (i_ k22) ?_
      obtain ⟨g102, r103⟩ := G_some r101
      refine d_w ((k22 - 1)) (k := .i64) (x := (k22 - 1)) (by kernel_rfl) (wrap64 g102) ?_
      obtain ⟨hs104, hl105⟩ := vw59.sq m80
      obtain ⟨g107, r108⟩ := G_some r103
      refine m_' (elp (.slice a61 n62 c63) 3 (k22 - 1).toNat 0) (aIndexAddr Tryz.prog 22 (.slice a61 n62 c63) (i_ (k22 - 1))) (hs104.idxb (by kernel_rfl) g107.1 g107.2) ?_
      refine m_' (.agg #[i_ ((gt (s0.drop k3.toNat) (k22 - 1)).1), i_ ((gt (s0.drop k3.toNat) (k22 - 1)).2.1), i_ ((gt (s0.drop k3.toNat) (k22 - 1)).2.2)]) (aLoad Tryz.prog 55 (elp (.slice a61 n62 c63) 3 (k22 - 1).toNat 0) H77) (hs104.ld g107.1 g107.2 (by kernel_rfl)) ?_
      obtain ⟨y109, hy110, r111⟩ := bind_some r108
      refine d_ck 43 #[.agg #[i_ ((gt (s0.drop k3.toNat) k22).1), i_ ((gt (s0.drop k3.toNat) k22).2.1), i_ ((gt (s0.drop k3.toNat) k22).2.2)], .agg #[i_ ((gt (s0.drop k3.toNat) (k22 - 1)).1), i_ ((gt (s0.drop k3.toNat) (k22 - 1)).2.1), i_ ((gt (s0.drop k3.toNat) (k22 - 1)).2.2)]] (by kernel_rfl) (c_normal_Of_1 e78.wf hy110) ?_
      rintro _ H112 ⟨rfl, e113⟩
      refine ⟨st_nil, ?_⟩
      refine e_' (.bool (!y109)) ?_
      refine d_nil ?_
      refine k96 _ _ ?_
      refine w_cond ((!y109)) (by kernel_rfl) rfl (fun h114 => ?_) (fun h114 => ?_)
      ·have r115 := ite_t h114 r111
       refine w_seqk fun _ k116 => ?_
       refine g_' ?_
       refine q_ (hd_s) ?_
       refine q_ (i_ k1) ?_
       refine q_ (.slice a61 n62 c63) ?_
       refine q_ (i_ k22) ?_
       have u119 := (m80.fr e113 Dj.nil_l)
       obtain ⟨hs117, hl118⟩ := vw59.sq u119
       refine l_' (elp (.slice a61 n62 c63) 3 k22.toNat 0) (aIndexAddr Tryz.prog 22 (.slice a61 n62 c63) (i_ k22)) (hs117.idxb (by kernel_rfl) g100 h93) ?_
       refine l_' (.agg #[i_ ((gt (s0.drop k3.toNat) k22).1), i_ ((gt (s0.drop k3.toNat) k22).2.1), i_ ((gt (s0.drop k3.toNat) k22).2.2)]) (aLoad Tryz.prog 55 (elp (.slice a61 n62 c63) 3 k22.toNat 0) H112) (hs117.ld g100 h93 (by kernel_rfl)) ?_
       obtain ⟨g121, r122⟩ := G_some r115
       refine l_' (elp hd_s 3 k1.toNat 0) (aIndexAddr Tryz.prog 22 hd_s (i_ k1)) (u119.sq.idxb (by kernel_rfl) g121.1 g121.2) ?_
       obtain ⟨H123, q124, e125, hm126⟩ := Ow.store (P := Tryz.prog) (t := 55) (off := 0) e113.wf u119 g121.1 g121.2 (.agg #[i_ ((gt (s0.drop k3.toNat) k22).1), i_ ((gt (s0.drop k3.toNat) k22).2.1), i_ ((gt (s0.drop k3.toNat) k22).2.2)]) [i_ ((gt (s0.drop k3.toNat) k22).1), i_ ((gt (s0.drop k3.toNat) k22).2.1), i_ ((gt (s0.drop k3.toNat) k22).2.2)] (by kernel_rfl) (by kernel_rfl) rfl ((gt (s0.drop k3.toNat) k22).1, (gt (s0.drop k3.toNat) k22).2.1, (gt (s0.drop k3.toNat) k22).2.2) (Nat.le_of_ble_eq_true rfl) (by kernel_rfl)
       refine s_ek (undef) (by kernel_rfl) (map_ok q124) ?_
       refine s_nil (k116 _ _ ?_)
       refine g_' ?_
       refine q_ (i_ k1) ?_
       obtain ⟨g127, r128⟩ := G_some r122
       refine s_w ((k1 + 1)) (k := .i64) (x := (k1 + 1)) (by kernel_rfl) (wrap64 (by have := g127; omega)) ?_
       refine q_ (i_ (k1 + 1)) ?_
       refine s_nil (k95 _ _ ?_)
       refine g_' ?_
       refine q_ (i_ k22) ?_
       obtain ⟨g129, r130⟩ := G_some r128
       refine s_w ((k22 + 1)) (k := .i64) (x := (k22 + 1)) (by kernel_rfl) (wrap64 (by have := g129; omega)) ?_
       refine q_ (i_ (k22 + 1)) ?_
       refine s_nil ?_
       obtain rfl := Option.some.inj r130
       exact k87 n83 _ _ (Nat.lt_succ_self _) ⟨(s0.set k1.toNat ((gt (s0.drop k3.toNat) k22).1, (gt (s0.drop k3.toNat) k22).2.1, (gt (s0.drop k3.toNat) k22).2.2)), (k1 + 1), (k22 + 1), hn86, ha_, (FrS.step e51.wf (FrS.step e51.wf (FrS.step e51.wf (FrS.refl (W := fp_s) e51.wf) e78 Inn.refl') e113 Inn.nil) e125 Inn.refl'), hm126⟩
      have r131 := ite_bf h114 r111
      refine w_skip ?_
      refine k95 _ _ ?_
      refine g_' ?_
      refine q_ (i_ k22) ?_
      obtain ⟨g132, r133⟩ := G_some r131
      refine s_w ((k22 + 1)) (k := .i64) (x := (k22 + 1)) (by kernel_rfl) (wrap64 (by have := g132; omega)) ?_
      refine q_ (i_ (k22 + 1)) ?_
      refine s_nil ?_
      have u134 := (m80.fr e113 Dj.nil_l)
      obtain rfl := Option.some.inj r133
      exact k87 n83 _ _ (Nat.lt_succ_self _) ⟨s0, k1, (k22 + 1), hn86, ha_, (FrS.step e51.wf (FrS.step e51.wf (FrS.refl (W := fp_s) e51.wf) e78 Inn.refl') e113 Inn.nil), u134⟩
     have r135 := ite_f h93 hz85
     refine w_exit (th_exit (th_exit (bl_eq ?_)))
     obtain rfl := Option.some.inj r135
     obtain rfl := it_inr hn86
     exact k73 _ _ ⟨ha_, (FrS.step e51.wf (FrS.refl (W := fp_s) e51.wf) e78 Inn.refl'), m80⟩
    obtain ⟨hh74, e70, m72⟩ := hM
    obtain ⟨β, rfl⟩ := has_ex hh74
    clear hh74
    refine k64 _ _ ?_
    refine w_seqk fun _ k136 => ?_
    refine g_' ?_
    refine q_ (hd_s) ?_
    refine q_ (i_ o66.2) ?_
    obtain ⟨g137, r138⟩ := G_some r68
    obtain ⟨s139, q140, vw141⟩ := Ow.view (P := Tryz.prog) m72 (t := 22) (by kernel_rfl) (lo := some (i_ o66.2)) (l := o66.2.toNat) (aBound_int _ (by have := g137; omega)) (by have := g137; omega)
    obtain ⟨a142, n143, c144, rfl⟩ := vw141.form
    refine s_ql (.slice a142 n143 c144) (by kernel_rfl) q140 ?_
    obtain ⟨g145, r146⟩ := G_some r138
    obtain ⟨H147, q148, e149, hm150⟩ := View.clear (P := Tryz.prog) (m := 24) (at_ := #[22]) vw141 ((0, 0, 0) : Int × Int × Int) e70.wf m72 g145 rfl (by kernel_rfl)
    refine s_ek (.tuple #[]) (by kernel_rfl) (map_ok q148) ?_
    refine s_nil (k136 _ _ ?_)
    refine w_seqk fun _ k151 => ?_
    refine g_' ?_
    refine q_ (hd_s) ?_
    refine q_ (i_ o66.2) ?_
    obtain ⟨g152, r153⟩ := G_some r146
    obtain ⟨s154, q155, hs156⟩ := Ow.head (P := Tryz.prog) hm150 (t := 22) (by kernel_rfl) (hi := (some (i_ o66.2))) (r := o66.2.toNat) (aBound_int _ (by have := g152; omega)) (by have := g152; omega)
    obtain ⟨a157, n158, c159, rfl⟩ := hs156.form
    refine s_ql (.slice a157 n158 c159) (by kernel_rfl) q155 ?_
    refine q_ (.slice a157 n158 c159) ?_
    refine s_nil (k151 _ _ ?_)
    refine w_ret (bl_ret (th_ret (th_ret (bl_ret (th_ret (th_ret ?_))))))
    obtain ⟨v161, hv162, hz163⟩ := map_some r153
    subst hz163
    obtain rfl := it_inr hn32
    have hq164 := elim_inl r17
    rw [hq164] at hv162
    refine b_ret (fn := Tryz.f42) (vs := [.slice a157 n158 c159]) (aRes_tmp (by kernel_rfl) (rfl)) ?_
    obtain rfl := Option.some.inj hv162
    exact ⟨(.slice a157 n158 c159), rfl, (FrS.step wf (FrS.step wf (FrS.step wf (FrS.step wf (FrS.refl (W := fp_s) wf) e26 Inn.nil) e51 Inn.nil) e70 Inn.refl') e149 Inn.refl'), hs156, hm150⟩
   have r165 := ite_bf h52 r49
   refine w_skip ?_
   refine k39 _ _ ?_
   refine g_' ?_
   refine q_ (i_ k3) ?_
   obtain ⟨g166, r167⟩ := G_some r165
   refine s_w ((k3 + 1)) (k := .i64) (x := (k3 + 1)) (by kernel_rfl) (wrap64 (by have := g166; omega)) ?_
   refine q_ (i_ (k3 + 1)) ?_
   refine s_nil ?_
   obtain rfl := Option.some.inj r167
   exact k33 n29 _ _ (Nat.lt_succ_self _) ⟨(k3 + 1), hn32, ha_, (FrS.step wf (FrS.step wf (FrS.refl (W := []) wf) e26 Inn.nil) e51 Inn.nil)⟩
  have r168 := ite_f h37 hz31
  refine w_exit (th_exit (th_exit (bl_eq ?_)))
  obtain rfl := Option.some.inj r168
  obtain rfl := it_inr hn32
  exact k21 _ _ ⟨_, rfl, ha_, (FrS.step wf (FrS.refl (W := []) wf) e26 Inn.nil)⟩
 obtain ⟨o15, rfl, hh22, e20⟩ := hM
 have r169 := elim_inr r17
 obtain ⟨β, rfl⟩ := has_ex hh22
 clear hh22
 refine k13 _ _ ?_
 refine w_seqk fun _ k170 => ?_
 refine g_' ?_
 refine q_ (hd_s) ?_
 refine q_ (hd_s) ?_
 refine s_nil (k170 _ _ ?_)
 refine w_ret ?_
 refine b_ret (fn := Tryz.f42) (vs := [hd_s]) (aRes_tmp (by kernel_rfl) (rfl)) ?_
 have u171 := (h_s.fr e20 Dj.nil_l)
 obtain rfl := Option.some.inj r169
 exact ⟨(hd_s), rfl, (FrS.step wf (FrS.refl (W := fp_s) wf) e20 Inn.nil), u171, u171⟩

theorem c_normal_Of {H : AH} {hd_Arcs : Value} {fp_Arcs : Fp} {N_ : Int} {Arcs : List (Int × Int × Int)} {r : Int × List (Int × Int × Int) × Er}
    (wf : WF H) (h_Arcs : Sq enc_i64_i64_i64 3 H hd_Arcs Arcs fp_Arcs) (hr : z_normal_Of N_ Arcs = some r) :
    ACalls Tryz.prog 21 #[.agg #[i_ N_, hd_Arcs]] H fun v H' => ∃ (s3 : Value) (f4 : Fp) (v7 : Value) (f8 : Fp), v = .tuple #[.agg #[i_ r.1, s3], v7] ∧ FrS [] H H' ∧ Ow enc_i64_i64_i64 3 H' s3 r.2.1 f4 ∧ Ev 72 77 H' v7 r.2.2 f8 ∧ Inn [] H f4 ∧ Inn [] H f8 ∧ Dj f4 f8 := by
 refine acalls_of_body mixed Tryz.func21 rfl (Nat.le_of_ble_eq_true rfl) ?_
 unfold z_normal_Of at hr
 refine w_seqk fun _ k12 => ?_
 refine g_' ?_
 refine s_rwl wf [i_ N_, hd_Arcs] (one_cons (rfl) (one_cons (h_Arcs.one1) (one_nil))) (by kernel_rfl) fun b13 H14 e15 hb16 r17 => ?_
 refine s_rwk e15.wf [i_ 0, .slice none 0 0] (by kernel_rfl) fun b19 H20 e21 hb22 r23 => ?_
 refine q_ (.nilIface) ?_
 refine s_nil (k12 _ _ ?_)
 refine w_seqk fun _ k25 => ?_
 refine w_seqk fun _ k26 => ?_
 refine g_' ?_
 have u27 := (r17.ext e21)
 refine l_' (.agg #[i_ N_, hd_Arcs]) (aLoad Tryz.prog 24 (pt_ b13 0) H20) (u27.ld (by kernel_rfl)) ?_
 have u28 := ((h_Arcs.ext e15).ext e21)
 obtain ⟨y29, hy30, r31⟩ := bind_some hr
 refine s_ck 39 #[.agg #[i_ N_, hd_Arcs]] (by kernel_rfl) (c_gtext_Check e21.wf u28 hy30) ?_
 rintro v32 H34 ⟨_, f33, rfl, e35, m36, i37⟩
 refine q_ (v32) ?_
 refine s_nil (k26 _ _ ?_)
 refine w_seqk fun _ k39 => ?_
 refine g_' ?_
 refine q_ (v32) ?_
 rcases (m36).cases with ⟨h40, rfl⟩ | ⟨h40, t41, x42, rfl⟩
 ·have r43 := ite_t h40 r31
  refine q_ (.bool false) ?_
  refine s_nil (k39 _ _ ?_)
  refine w_cond false (by kernel_rfl) rfl (fun h => by cases h) (fun _ => ?_)
  refine w_skip ?_
  refine k25 _ _ ?_
  refine w_seqk fun _ k44 => ?_
  refine g_' ?_
  refine q_ (pt_ b13 0) ?_
  have u45 := (u27.frS e35 Dj.nil_l)
  refine l_' (i_ N_) (aLoad Tryz.prog 3 (pt_ b13 0) H34) (u45.ld (by kernel_rfl)) ?_
  refine q_ (.agg #[i_ N_, .slice none 0 0]) ?_
  refine s_rwk e35.wf [i_ 0, .slice none 0 0] (by kernel_rfl) fun b46 H47 e48 hb49 r50 => ?_
  obtain ⟨H52, q53, e54, r55⟩ := Row.store (P := Tryz.prog) (t := 24) (p := 0) e48.wf r50 (.agg #[i_ N_, .slice none 0 0]) [i_ N_, .slice none 0 0] (by kernel_rfl) (by kernel_rfl) (one_cons (rfl) (one_cons (rfl) (one_nil))) (Nat.le_of_ble_eq_true (by kernel_rfl)) [i_ N_, .slice none 0 0] (by kernel_rfl)
  refine s_ek (undef) (by kernel_rfl) (map_ok q53) ?_
  refine s_nil (k44 _ _ ?_)
  refine w_seqk fun _ k56 => ?_
  refine w_seqk fun _ k57 => ?_
  refine g_' ?_
  refine q_ (pt_ b13 1) ?_
  have u58 := ((u45.ext e48).frS e54 (hb49.djn (r17.ltF.le (ntr e21.next e35.next))))
  refine l_' (hd_Arcs) (aLoad Tryz.prog 22 (pt_ b13 1) H52) (u58.ld (by kernel_rfl)) ?_
  have u59 := (((u28.fr e35 Dj.nil_l).ext e48).fr e54 (hb49.djn (h_Arcs.lt.le (ntr (ntr e15.next e21.next) e35.next))))
  refine l_' (i_ (Arcs.length : Int)) (aLen Tryz.prog 22 hd_Arcs H52) (u59.lenb (by kernel_rfl)) ?_
  refine q_ (i_ 0) ?_
  refine s_nil (k57 _ _ ?_)
  obtain ⟨o60, hx61, r62⟩ := bind_some r43
  refine w_mid (fun α H63 => ∃ (s67 : Value) (f68 : Fp), Has α [(2, pt_ b19 0), (5, pt_ b46 0)] ∧ FrS [b46] H52 H63 ∧ Ow enc_i64_i64_i64 3 H63 s67 o60 f68 ∧ Row H63 b46 [i_ N_, s67] ∧ Inn [] H52 f68) (fun _ k72 => ?_) (fun α H63 hM => ?_)
  ·refine w_block ?_
   obtain ⟨n74, hn75⟩ := loopO_iff.1 hx61
   refine w_loopn (fun n α H76 => ∃ (i0 : Int), ∃ (c1 : List (Int × Int × Int)), ∃ (s80 : Value), ∃ (f81 : Fp), iterO (fun zz_ => z_normal_Of_l0 Arcs zz_.1 zz_.2) n (i0, c1) = some o60 ∧ Has α [(2, pt_ b19 0), (5, pt_ b46 0), (18, hd_Arcs), (19, i_ (Arcs.length : Int)), (20, i_ i0)] ∧ FrS [b46] H52 H76 ∧ Ow enc_i64_i64_i64 3 H76 s80 c1 f81 ∧ Row H76 b46 [i_ N_, s80] ∧ Inn [] H52 f81) n74 ⟨0, [], (.slice none 0 0), [], hn75, ha_, (FrS.refl (W := [b46]) e54.wf), (Ow.nil (by decide)), r55, Inn.nil⟩ ?_
   rintro n74 α H76 ⟨i0, c1, s80, f81, hi86, hh85, e77, m79, m83, i84⟩ K91 k91
   obtain ⟨n87, z88, rfl, hz89, hn90⟩ := iter_succ hi86
   obtain ⟨β, rfl⟩ := has_ex hh85
   clear hh85
   replace hz89 : z_normal_Of_l0 Arcs i0 c1 = some z88 := hz89
   unfold z_normal_Of_l0 at hz89
   obtain ⟨a92, n93, c94, rfl⟩ := m79.form
   refine w_seqk fun _ k95 => ?_
   refine g_' ?_
   refine q_ (.bool (decide (i0 < (Arcs.length : Int)))) ?_
   refine s_nil (k95 _ _ ?_)
   refine w_seqk fun _ k96 => ?_
   refine w_condp (i0 < (Arcs.length : Int)) (by kernel_rfl) rfl (fun h97 => ?_) (fun h97 => ?_)
   ·have r98 := ite_t h97 hz89
    refine w_skip ?_
    refine k96 _ _ ?_
    refine w_seqk fun _ k99 => ?_
    refine w_block ?_
    refine w_seqk fun _ k100 => ?_
    refine g_' ?_
    obtain ⟨g101, r102⟩ := G_some r98
    have u103 := (u59.fr e77 (hb49.djn (h_Arcs.lt.le (ntr (ntr e15.next e21.next) e35.next))))
    refine l_' (elp hd_Arcs 3 i0.toNat 0) (aIndexAddr Tryz.prog 22 hd_Arcs (i_ i0)) (u103.idxb (by kernel_rfl) g101 h97) ?_
    refine l_' (.agg #[i_ ((gt Arcs i0).1), i_ ((gt Arcs i0).2.1), i_ ((gt Arcs i0).2.2)]) (aLoad Tryz.prog 55 (elp hd_Arcs 3 i0.toNat 0) H76) (u103.ld g101 h97 (by kernel_rfl)) ?_
    refine s_rwk e77.wf [i_ 0, i_ 0, i_ 0] (by kernel_rfl) fun b104 H105 e106 hb107 r108 => ?_
    obtain ⟨H110, q111, e112, r113⟩ := Row.store (P := Tryz.prog) (t := 55) (p := 0) e106.wf r108 (.agg #[i_ ((gt Arcs i0).1), i_ ((gt Arcs i0).2.1), i_ ((gt Arcs i0).2.2)]) [i_ ((gt Arcs i0).1), i_ ((gt Arcs i0).2.1), i_ ((gt Arcs i0).2.2)] (by kernel_rfl) (by kernel_rfl) (one_cons (rfl) (one_cons (rfl) (one_cons (rfl) (one_nil)))) (Nat.le_of_ble_eq_true (by kernel_rfl)) [i_ ((gt Arcs i0).1), i_ ((gt Arcs i0).2.1), i_ ((gt Arcs i0).2.2)] (by kernel_rfl)
    refine s_ek (undef) (by kernel_rfl) (map_ok q111) ?_
    refine s_nil (k100 _ _ ?_)
    refine w_seqk fun _ k114 => ?_
    refine g_' ?_
    refine q_ (pt_ b104 0) ?_
    refine l_' (i_ ((gt Arcs i0).1)) (aLoad Tryz.prog 3 (pt_ b104 0) H110) (r113.ld (by kernel_rfl)) ?_
    refine q_ (pt_ b104 1) ?_
    refine l_' (i_ ((gt Arcs i0).2.1)) (aLoad Tryz.prog 3 (pt_ b104 1) H110) (r113.ld (by kernel_rfl)) ?_
    refine q_ (.bool (!decide (((gt Arcs i0).1) = ((gt Arcs i0).2.1)))) ?_
    refine s_nil (k114 _ _ ?_)
    refine w_condn (((gt Arcs i0).1) = ((gt Arcs i0).2.1)) (by kernel_rfl) rfl (fun h115 => ?_) (fun h115 => ?_)
    ·have r116 := ite_f h115 r102
     refine g_' ?_
     refine q_ (pt_ b46 1) ?_
     have u117 := ((m83.ext e106).frS e112 (hb107.djn (r50.ltF.le (ntr e54.next e77.next))))
     refine l_' (.slice a92 n93 c94) (aLoad Tryz.prog 22 (pt_ b46 1) H110) (u117.ld (by kernel_rfl)) ?_
     refine l_' (.agg #[i_ ((gt Arcs i0).1), i_ ((gt Arcs i0).2.1), i_ ((gt Arcs i0).2.2)]) (aLoad Tryz.prog 55 (pt_ b104 0) H110) (r113.ld (by kernel_rfl)) ?_
     refine s_owk (enc := enc_i64_i64_i64) (sz := 3) e112.wf [((gt Arcs i0).1, (gt Arcs i0).2.1, (gt Arcs i0).2.2)] 1 (by decide) (fun _ _ => rfl) (fun _ _ => rfl) rfl (by kernel_rfl) fun s118 f119 H120 e121 hf122 hm123 => ?_
     obtain ⟨a124, n125, c126, rfl⟩ := hm123.form
     have u128 := (((m79.ext e106).fr e112 (hb107.djn m79.lt)).ext e121)
     obtain ⟨g129, r130⟩ := G_some r116
     obtain ⟨s131, H132, f133, q137, e134, hm135, hf136⟩ := Ow.append (P := Tryz.prog) 24 e121.wf u128 hm123.sq (fun _ _ => rfl) (at_ := #[22, 22]) rfl rfl (by kernel_rfl) (by kernel_rfl) (by decide) (by have := g129; first | omega | (simp only [List.length_cons, List.length_nil] at this ⊢; omega) | (simp at this ⊢; omega))
     obtain ⟨a138, n139, c140, rfl⟩ := hm135.form
     refine s_ek (.slice a138 n139 c140) (by kernel_rfl) (q137) ?_
     refine q_ (pt_ b46 1) ?_
     have u146 := ((u117.ext e121).frS e134 (i84.djn (r50.ltF.le e54.next)))
     obtain ⟨H142, q143, e144, r145⟩ := Row.store (P := Tryz.prog) (t := 22) (p := 1) e134.wf u146 (.slice a138 n139 c140) [.slice a138 n139 c140] (by kernel_rfl) (by kernel_rfl) (one_cons (hm135.one1) (one_nil)) (Nat.le_of_ble_eq_true (by kernel_rfl)) [i_ N_, .slice a138 n139 c140] (by kernel_rfl)
     refine s_ek (undef) (by kernel_rfl) (map_ok q143) ?_
     refine s_nil (k99 _ _ ?_)
     refine g_' ?_
     obtain ⟨g147, r148⟩ := G_some r130
     refine s_w ((i0 + 1)) (k := .i64) (x := (i0 + 1)) (by kernel_rfl) (wrap64 (by have := g147; omega)) ?_
     refine q_ (i_ (i0 + 1)) ?_
     refine s_nil ?_
     have u149 := (hm135.fr e144 (Dj.symm (hf136.dj (i84.djn (r50.ltF.le e54.next)) (r50.ltF.le (ntr (ntr (ntr (ntr e54.next e77.next) e106.next) e112.next) e121.next)))))
     obtain rfl := Option.some.inj r148
     exact k91 n87 _ _ (Nat.lt_succ_self _) ⟨(i0 + 1), (c1 ++ [((gt Arcs i0).1, (gt Arcs i0).2.1, (gt Arcs i0).2.2)]), (.slice a138 n139 c140), f133, hn90, ha_, (FrS.step e54.wf (FrS.step e54.wf ((FrS.step e54.wf ((FrS.step e54.wf (FrS.refl (W := [b46]) e54.wf) e77 Inn.refl').extR e106) e112 (hb107.fresh e77.next)).extR e121) e134 (i84.fresh (Nat.le_refl _))) e144 Inn.refl'), u149, r145, (Inn.trans (i84.fresh (Nat.le_refl _)) (ntr (ntr (ntr e77.next e106.next) e112.next) e121.next) hf136)⟩
    have r150 := ite_t h115 r102
    refine w_skip ?_
    refine k99 _ _ ?_
    refine g_' ?_
    obtain ⟨g151, r152⟩ := G_some r150
    refine s_w ((i0 + 1)) (k := .i64) (x := (i0 + 1)) (by kernel_rfl) (wrap64 (by have := g151; omega)) ?_
    refine q_ (i_ (i0 + 1)) ?_
    refine s_nil ?_
    have u153 := ((m79.ext e106).fr e112 (hb107.djn m79.lt))
    have u154 := ((m83.ext e106).frS e112 (hb107.djn (r50.ltF.le (ntr e54.next e77.next))))
    obtain rfl := Option.some.inj r152
    exact k91 n87 _ _ (Nat.lt_succ_self _) ⟨(i0 + 1), c1, (.slice a92 n93 c94), f81, hn90, ha_, (FrS.step e54.wf ((FrS.step e54.wf (FrS.refl (W := [b46]) e54.wf) e77 Inn.refl').extR e106) e112 (hb107.fresh e77.next)), u153, u154, (i84.fresh (Nat.le_refl _))⟩
   have r155 := ite_f h97 hz89
   refine w_exit (th_exit (th_exit (bl_eq ?_)))
   obtain rfl := Option.some.inj r155
   obtain rfl := it_inr hn90
   exact k72 _ _ ⟨(.slice a92 n93 c94), f81, ha_, (FrS.step e54.wf (FrS.refl (W := [b46]) e54.wf) e77 Inn.refl'), m79, m83, (i84.fresh (Nat.le_refl _))⟩
  obtain ⟨s67, f68, hh73, e64, m66, m70, i71⟩ := hM
  obtain ⟨β, rfl⟩ := has_ex hh73
  clear hh73
  obtain ⟨a156, n157, c158, rfl⟩ := m66.form
  refine k56 _ _ ?_
  refine w_seqk fun _ k159 => ?_
  refine g_' ?_
  refine q_ (pt_ b46 1) ?_
  refine l_' (.slice a156 n157 c158) (aLoad Tryz.prog 22 (pt_ b46 1) H63) (m70.ld (by kernel_rfl)) ?_
  obtain ⟨g160, r161⟩ := G_some r62
  obtain ⟨y162, hy163, r164⟩ := bind_some r161
  refine s_ck 40 #[.slice a156 n157 c158, .func (.func 41) #[] #[]] (by kernel_rfl) (a_sortO (enc := enc_i64_i64_i64) (fun _ => rfl) (by intro x v hv; simp only [enc_i64_i64_i64, List.mem_cons, List.not_mem_nil, or_false] at hv; rcases hv with rfl | rfl | rfl <;> rfl) (by intro x v hv; simp only [enc_i64_i64_i64, List.mem_cons, List.not_mem_nil, or_false] at hv; rcases hv with rfl | rfl | rfl <;> rfl) (c := (fun (a_ b_ : Int × Int × Int) => z_normal_order a_.1 a_.2.1 a_.2.2 b_.1 b_.2.1 b_.2.2)) (Go.Proofs.enters_of Tryz.func41 (by kernel_rfl) rfl) (fun x y r hr => (c_normal_order aNil_wf hr).mono fun v H' h => h.1) e64.wf m66 g160 hy163) ?_
  rintro _ H165 ⟨rfl, e166, hm167⟩
  refine s_nil (k159 _ _ ?_)
  refine w_seqk fun _ k168 => ?_
  refine g_' ?_
  refine q_ (pt_ b46 1) ?_
  have u169 := (m70.frS e166 (i71.djn (r50.ltF.le e54.next)))
  refine l_' (.slice a156 n157 c158) (aLoad Tryz.prog 22 (pt_ b46 1) H165) (u169.ld (by kernel_rfl)) ?_
  obtain ⟨y170, hy171, r172⟩ := bind_some r164
  refine s_ck 42 #[.slice a156 n157 c158, .func (.func 43) #[] #[]] (by kernel_rfl) (c_slices_CompactFunc e166.wf hm167 hy171) ?_
  rintro s173 H174 ⟨_, rfl, e175, m176, m177⟩
  obtain ⟨a179, n180, c181, rfl⟩ := m176.form
  refine q_ (pt_ b46 1) ?_
  have u186 := (u169.frS e175 (i71.djn (r50.ltF.le e54.next)))
  obtain ⟨H182, q183, e184, r185⟩ := Row.store (P := Tryz.prog) (t := 22) (p := 1) e175.wf u186 (.slice a179 n180 c181) [.slice a179 n180 c181] (by kernel_rfl) (by kernel_rfl) (one_cons (m176.one1) (one_nil)) (Nat.le_of_ble_eq_true (by kernel_rfl)) [i_ N_, .slice a179 n180 c181] (by kernel_rfl)
  refine s_ek (undef) (by kernel_rfl) (map_ok q183) ?_
  refine s_nil (k168 _ _ ?_)
  refine w_seqk fun _ k187 => ?_
  refine g_' ?_
  refine l_' (.agg #[i_ N_, .slice a179 n180 c181]) (aLoad Tryz.prog 24 (pt_ b46 0) H182) (r185.ld (by kernel_rfl)) ?_
  have u192 := (((((((r23.frS e35 Dj.nil_l).ext e48).frS e54 (hb49.djn (r23.ltF.le e35.next))).frS e64 (hb49.djn (r23.ltF.le e35.next))).frS e166 (i71.djn (r23.ltF.le (ntr (ntr e35.next e48.next) e54.next)))).frS e175 (i71.djn (r23.ltF.le (ntr (ntr e35.next e48.next) e54.next)))).frS e184 (hb49.djn (r23.ltF.le e35.next)))
  have u193 := (m176.fr e184 (Dj.symm (i71.djn (r50.ltF.le e54.next))))
  obtain ⟨H188, q189, e190, r191⟩ := Row.store (P := Tryz.prog) (t := 24) (p := 0) e184.wf u192 (.agg #[i_ N_, .slice a179 n180 c181]) [i_ N_, .slice a179 n180 c181] (by kernel_rfl) (by kernel_rfl) (one_cons (rfl) (one_cons (u193.one1) (one_nil))) (Nat.le_of_ble_eq_true (by kernel_rfl)) [i_ N_, .slice a179 n180 c181] (by kernel_rfl)
  refine s_ek (undef) (by kernel_rfl) (map_ok q189) ?_
  refine q_ (.nilIface) ?_
  refine s_nil (k187 _ _ ?_)
  refine w_ret ?_
  refine b_ret (fn := Tryz.f21) (vs := [.agg #[i_ N_, .slice a179 n180 c181], .nilIface]) (aRes_cell (Eq.trans (b := aLoad Tryz.prog 24 (pt_ b19 0) H188) (by kernel_rfl) (r191.ld (by kernel_rfl))) (aRes_tmp (by kernel_rfl) (rfl))) ?_
  have u194 := (u193.fr e190 (Dj.symm (i71.djn (r23.ltF.le (ntr (ntr e35.next e48.next) e54.next)))))
  obtain rfl := Option.some.inj r172
  exact ⟨(.slice a179 n180 c181), f68, (.nilIface), [], rfl, (FrS.step wf (FrS.step wf (FrS.step wf (FrS.step wf (FrS.step wf (FrS.step wf ((FrS.step wf (((FrS.refl (W := []) wf).extR e15).extR e21) e35 Inn.nil).extR e48) e54 (hb49.fresh (ntr (ntr e15.next e21.next) e35.next))) e64 (hb49.fresh (ntr (ntr e15.next e21.next) e35.next))) e166 (i71.fresh (ntr (ntr (ntr (ntr e15.next e21.next) e35.next) e48.next) e54.next))) e175 (i71.fresh (ntr (ntr (ntr (ntr e15.next e21.next) e35.next) e48.next) e54.next))) e184 (hb49.fresh (ntr (ntr e15.next e21.next) e35.next))) e190 (hb22.fresh e15.next)), u194, Ev.nil, (i71.fresh (ntr (ntr (ntr (ntr e15.next e21.next) e35.next) e48.next) e54.next)), Inn.nil, Dj.nil_r⟩
 have r195 := ite_f h40 r31
 refine l_' (.bool true) (aBin Tryz.prog .neq 29 (.tmp 10) (.const .nilIface) (.iface t41 x42) .nilIface) (aBin_nnil (by kernel_rfl)) ?_
 refine s_nil (k39 _ _ ?_)
 refine w_cond true (by kernel_rfl) rfl (fun _ => ?_) (fun h => by cases h)
 refine w_seqk fun _ k196 => ?_
 refine g_' ?_
 refine q_ (.agg #[i_ 0, .slice none 0 0]) ?_
 refine q_ (.iface t41 x42) ?_
 have u201 := (r23.frS e35 Dj.nil_l)
 obtain ⟨H197, q198, e199, r200⟩ := Row.store (P := Tryz.prog) (t := 24) (p := 0) e35.wf u201 (.agg #[i_ 0, .slice none 0 0]) [i_ 0, .slice none 0 0] (by kernel_rfl) (by kernel_rfl) (one_cons (rfl) (one_cons (rfl) (one_nil))) (Nat.le_of_ble_eq_true (by kernel_rfl)) [i_ 0, .slice none 0 0] (by kernel_rfl)
 refine s_ek (undef) (by kernel_rfl) (map_ok q198) ?_
 refine q_ (.iface t41 x42) ?_
 refine s_nil (k196 _ _ ?_)
 refine w_ret (th_ret ?_)
 refine b_ret (fn := Tryz.f21) (vs := [.agg #[i_ 0, .slice none 0 0], .iface t41 x42]) (aRes_cell (Eq.trans (b := aLoad Tryz.prog 24 (pt_ b19 0) H197) (by kernel_rfl) (r200.ld (by kernel_rfl))) (aRes_tmp (by kernel_rfl) (rfl))) ?_
 have u202 := (m36.fr e199 (Dj.symm (i37.djn r23.ltF)))
 obtain rfl := Option.some.inj r195
 exact ⟨(.slice none 0 0), [], (.iface t41 x42), f33, rfl, (FrS.step wf (FrS.step wf (((FrS.refl (W := []) wf).extR e15).extR e21) e35 Inn.nil) e199 (hb22.fresh e15.next)), (Ow.nil (by decide)), u202, Inn.nil, (i37.fresh (ntr e15.next e21.next)), Dj.nil_l⟩


end Go.Vd

/-! (KOp1) -/

set_option maxRecDepth 100000
set_option maxHeartbeats 4000000
set_option linter.unusedVariables false
namespace Go.Vd
open Go.Proofs
attribute [local irreducible] wpSeq wpOrd aWp
theorem c_overlay_New {H : AH} {hd_Arcs : Value} {fp_Arcs : Fp} {N_ : Int} {Arcs : List (Int × Int × Int)} {r : (Er) ⊕ (List (Bool × List (Int × Int × Int) × List (Int × Int × Int)) × Int × Int)}
    (wf : WF H) (h_Arcs : Sq enc_i64_i64_i64 3 H hd_Arcs Arcs fp_Arcs) (hr : z_overlay_New N_ Arcs = some r) :
    ACalls Tryz.prog 5 #[.agg #[i_ N_, hd_Arcs]] H fun v H' => Sum.elim (fun (r : Er) => ∃ (v3 : Value) (f4 : Fp), v = .tuple #[.pointer none, v3] ∧ FrS [] H H' ∧ Ev 72 77 H' v3 r f4 ∧ Inn [] H f4) (fun (r : List (Bool × List (Int × Int × Int) × List (Int × Int × Int)) × Int × Int) => ∃ (s8 : Value) (f9 : Fp) (b12 : Nat), v = .tuple #[pt_ b12 0, .nilIface] ∧ FrS [] H H' ∧ Nd enc_i64_u64_i64 3 H' s8 r.1 f9 [] ∧ Row H' b12 [s8, i_ r.2.1, i_ r.2.2] ∧ Inn [] H f9 ∧ Inn [] H [b12] ∧ Dj f9 [b12]) r := by
 refine acalls_of_body mixed Tryz.func5 rfl (Nat.le_of_ble_eq_true rfl) ?_
 unfold z_overlay_New at hr
 refine w_seqk fun _ k16 => ?_
 refine g_' ?_
 refine s_rwl wf [i_ N_, hd_Arcs] (one_cons (rfl) (one_cons (h_Arcs.one1) (one_nil))) (by kernel_rfl) fun b17 H18 e19 hb20 r21 => ?_
 refine q_ (.pointer none) ?_
 refine q_ (.nilIface) ?_
 refine s_nil (k16 _ _ ?_)
 refine w_seqk fun _ k23 => ?_
 refine g_' ?_
 refine l_' (.agg #[i_ N_, hd_Arcs]) (aLoad Tryz.prog 24 (pt_ b17 0) H18) (r21.ld (by kernel_rfl)) ?_
 have u24 := (h_Arcs.ext e19)
 obtain ⟨y25, hy26, r27⟩ := bind_some hr
 refine s_ck 21 #[.agg #[i_ N_, hd_Arcs]] (by kernel_rfl) (c_normal_Of e19.wf u24 hy26) ?_
 rintro _ H32 ⟨s28, f29, v30, f31, rfl, e33, m34, m35, i36, i37, d38⟩
 obtain ⟨a41, n42, c43, rfl⟩ := m34.form
 refine q_ (.tuple #[.agg #[i_ y25.1, .slice a41 n42 c43], v30]) ?_
 refine q_ (.agg #[i_ y25.1, .slice a41 n42 c43]) ?_
 refine q_ (v30) ?_
 refine s_rwk e33.wf [i_ 0, .slice none 0 0] (by kernel_rfl) fun b44 H45 e46 hb47 r48 => ?_
 have u54 := (m34.ext e46)
 obtain ⟨H50, q51, e52, r53⟩ := Row.store (P := Tryz.prog) (t := 24) (p := 0) e46.wf r48 (.agg #[i_ y25.1, .slice a41 n42 c43]) [i_ y25.1, .slice a41 n42 c43] (by kernel_rfl) (by kernel_rfl) (one_cons (rfl) (one_cons (u54.one1) (one_nil))) (Nat.le_of_ble_eq_true (by kernel_rfl)) [i_ y25.1, .slice a41 n42 c43] (by kernel_rfl)
 refine s_ek (undef) (by kernel_rfl) (map_ok q51) ?_
 refine q_ (v30) ?_
 refine s_nil (k23 _ _ ?_)
 refine w_seqk fun _ k55 => ?_
 refine w_seqk fun _ k56 => ?_
 refine g_' ?_
 refine q_ (v30) ?_
 have u60 := ((m35.ext e46).fr e52 (hb47.djn m35.lt))
 rcases (u60).cases with ⟨h57, rfl⟩ | ⟨h57, t58, x59, rfl⟩
 ·have r61 := ite_t h57 r27
  refine q_ (.bool false) ?_
  refine s_nil (k56 _ _ ?_)
  refine w_cond false (by kernel_rfl) rfl (fun h => by cases h) (fun _ => ?_)
  refine w_skip ?_
  refine k55 _ _ ?_
  refine w_seqk fun _ k62 => ?_
  refine w_draw [0, 1, 2, 3, 4, 5, 6, 7, 8, 9, 10] (by kernel_rfl) ?_
  refine e_' (pt_ b44 0) ?_
  refine m_' (i_ y25.1) (aLoad Tryz.prog 3 (pt_ b44 0) H50) (r53.ld (by kernel_rfl)) ?_
  obtain ⟨g63, r64⟩ := G_some r61
  refine d_mks (t := 65) (m := 56) (l := y25.1) (c := y25.1) (enc := id) (sz := 3) e52.wf [.bool false, .slice none 0 0, .slice none 0 0] (by kernel_rfl) (by decide) g63.1 (Int.le_refl _) (by omega) (by have := g63; omega) (by kernel_rfl) fun s65 f66 H67 e68 hf69 hm70 => ?_
  replace hm70 := Nd.zeros (enc := enc_i64_u64_i64) (sz := 3) (by decide) hm70
  obtain ⟨a71, n72, c73, rfl⟩ := hm70.form
  have hm70 : Nd enc_i64_u64_i64 3 H67 (.slice a71 n72 c73) (List.replicate y25.1.toNat (false, [], [])) f66 [] := hm70
  refine e_' (pt_ b44 0) ?_
  have u75 := (r53.ext e68)
  refine m_' (i_ y25.1) (aLoad Tryz.prog 3 (pt_ b44 0) H67) (u75.ld (by kernel_rfl)) ?_
  refine e_' (pt_ b44 1) ?_
  refine m_' (.slice a41 n42 c43) (aLoad Tryz.prog 22 (pt_ b44 1) H67) (u75.ld (by kernel_rfl)) ?_
  have u76 := ((u54.fr e52 (hb47.djn m34.lt)).ext e68)
  refine m_' (i_ (y25.2.1.length : Int)) (aLen Tryz.prog 22 (.slice a41 n42 c43) H67) (u76.sq.lenb (by kernel_rfl)) ?_
  refine e_' (.agg #[.slice a71 n72 c73, i_ y25.1, i_ (y25.2.1.length : Int)]) ?_
  refine d_rwl e68.wf [.slice a71 n72 c73, i_ y25.1, i_ (y25.2.1.length : Int)] (one_cons (hm70.one1) (one_cons (rfl) (one_cons (rfl) (one_nil)))) (by kernel_rfl) fun b77 H78 e79 hb80 r81 => ?_
  refine e_' (pt_ b77 0) ?_
  refine d_nil ?_
  refine k62 _ _ ?_
  refine w_seqk fun _ k83 => ?_
  refine w_seqk fun _ k84 => ?_
  refine g_' ?_
  refine q_ (pt_ b44 1) ?_
  have u85 := (u75.ext e79)
  refine l_' (.slice a41 n42 c43) (aLoad Tryz.prog 22 (pt_ b44 1) H78) (u85.ld (by kernel_rfl)) ?_
  have u86 := (u76.ext e79)
  refine l_' (i_ (y25.2.1.length : Int)) (aLen Tryz.prog 22 (.slice a41 n42 c43) H78) (u86.sq.lenb (by kernel_rfl)) ?_
  refine q_ (i_ 0) ?_
  refine s_nil (k84 _ _ ?_)
  obtain ⟨o87, hx88, r89⟩ := bind_some r64
  refine w_mid (fun α H90 => ∃ (f94 : Fp), Has α [(6, pt_ b77 0)] ∧ FrS f66 H78 H90 ∧ Nd enc_i64_u64_i64 3 H90 (.slice a71 n72 c73) o87 f94 [] ∧ Inn f66 H78 f94) (fun _ k96 => ?_) (fun α H90 hM => ?_)
  ·refine w_block ?_
   obtain ⟨n98, hn99⟩ := loopO_iff.1 hx88
   have u112 := (hm70.ext e79)
   refine w_loopn (fun n α H100 => ∃ (i0 : Int), ∃ (o1 : List (Bool × List (Int × Int × Int) × List (Int × Int × Int))), ∃ (f104 : Fp), iterO (fun zz_ => z_overlay_New_l0 y25 zz_.1 zz_.2) n (i0, o1) = some o87 ∧ Has α [(6, pt_ b77 0), (28, .slice a41 n42 c43), (29, i_ (y25.2.1.length : Int)), (30, i_ i0)] ∧ FrS f66 H78 H100 ∧ Nd enc_i64_u64_i64 3 H100 (.slice a71 n72 c73) o1 f104 [] ∧ Inn f66 H78 f104) n98 ⟨0, (List.replicate y25.1.toNat (false, [], [])), f66, hn99, ha_, (FrS.refl (W := f66) e79.wf), u112, Inn.refl'⟩ ?_
   rintro n98 α H100 ⟨i0, o1, f104, hi107, hh106, e101, m103, i105⟩ K113 k113
   obtain ⟨n108, z109, rfl, hz110, hn111⟩ := iter_succ hi107
   obtain ⟨β, rfl⟩ := has_ex hh106
   clear hh106
   replace hz110 : z_overlay_New_l0 y25 i0 o1 = some z109 := hz110
   unfold z_overlay_New_l0 at hz110
   refine w_seqk fun _ k114 => ?_
   refine g_' ?_
   refine q_ (.bool (decide (i0 < (y25.2.1.length : Int)))) ?_
   refine s_nil (k114 _ _ ?_)
   refine w_seqk fun _ k115 => ?_
   refine w_condp (i0 < (y25.2.1.length : Int)) (by kernel_rfl) rfl (fun h116 => ?_) (fun h116 => ?_)
   ·have r117 := ite_t h116 hz110
    refine w_skip ?_
    refine k115 _ _ ?_
    refine w_seqk fun _ k118 => ?_
    refine w_block ?_
    refine w_seqk fun _ k119 => ?_
    refine g_' ?_
    obtain ⟨g120, r121⟩ := G_some r117
    have u122 := (u86.fr e101 (hf69.djn (m34.lt.le (ntr e46.next e52.next))))
    refine l_' (elp (.slice a41 n42 c43) 3 i0.toNat 0) (aIndexAddr Tryz.prog 22 (.slice a41 n42 c43) (i_ i0)) (u122.sq.idxb (by kernel_rfl) g120 h116) ?_
    refine l_' (.agg #[i_ ((gt y25.2.1 i0).1), i_ ((gt y25.2.1 i0).2.1), i_ ((gt y25.2.1 i0).2.2)]) (aLoad Tryz.prog 55 (elp (.slice a41 n42 c43) 3 i0.toNat 0) H100) (u122.sq.ld g120 h116 (by kernel_rfl)) ?_
    refine s_rwk e101.wf [i_ 0, i_ 0, i_ 0] (by kernel_rfl) fun b123 H124 e125 hb126 r127 => ?_
    obtain ⟨H129, q130, e131, r132⟩ := Row.store (P := Tryz.prog) (t := 55) (p := 0) e125.wf r127 (.agg #[i_ ((gt y25.2.1 i0).1), i_ ((gt y25.2.1 i0).2.1), i_ ((gt y25.2.1 i0).2.2)]) [i_ ((gt y25.2.1 i0).1), i_ ((gt y25.2.1 i0).2.1), i_ ((gt y25.2.1 i0).2.2)] (by kernel_rfl) (by kernel_rfl) (one_cons (rfl) (one_cons (rfl) (one_cons (rfl) (one_nil)))) (Nat.le_of_ble_eq_true (by kernel_rfl)) [i_ ((gt y25.2.1 i0).1), i_ ((gt y25.2.1 i0).2.1), i_ ((gt y25.2.1 i0).2.2)] (by kernel_rfl)
    refine s_ek (undef) (by kernel_rfl) (map_ok q130) ?_
    refine s_nil (k119 _ _ ?_)
    refine w_seqk fun _ k133 => ?_
    refine w_draw [0, 1, 2, 3, 4, 5, 6, 7, 8, 9, 10, 11, 12, 13, 14, 15, 16, 17, 18, 19, 20, 21, 22, 23, 24, 25] (by kernel_rfl) ?_
    refine e_' (pt_ b77 0) ?_
    refine e_' (pt_ b77 0) ?_
    refine e_' (pt_ b77 0) ?_
    have u134 := (((r81.frS e101 (Dj.symm (hb80.djn hm70.lt))).ext e125).frS e131 (hb126.djn (r81.ltF.le e101.next)))
    refine d_fl (.slice a71 n72 c73) (x := aLoad Tryz.prog 65 (pt_ b77 0) H129) (by kernel_rfl) (u134.ld (by kernel_rfl)) ?_
    refine e_' (pt_ b123 0) ?_
    refine d_fl (i_ ((gt y25.2.1 i0).1)) (x := aLoad Tryz.prog 3 (pt_ b123 0) H129) (by kernel_rfl) (r132.ld (by kernel_rfl)) ?_
    refine e_' (pt_ b77 0) ?_
    refine e_' (pt_ b77 0) ?_
    refine e_' (pt_ b77 0) ?_
    refine m_' (.slice a71 n72 c73) (aLoad Tryz.prog 65 (pt_ b77 0) H129) (u134.ld (by kernel_rfl)) ?_
    refine e_' (pt_ b123 0) ?_
    refine m_' (i_ ((gt y25.2.1 i0).1)) (aLoad Tryz.prog 3 (pt_ b123 0) H129) (r132.ld (by kernel_rfl)) ?_
    obtain ⟨g135, r136⟩ := G_some r121
    have u137 := ((m103.ext e125).fr e131 (hb126.djn m103.lt))
    refine m_' (elp (.slice a71 n72 c73) 3 ((gt y25.2.1 i0).1).toNat 0) (aIndexAddr Tryz.prog 65 (.slice a71 n72 c73) (i_ ((gt y25.2.1 i0).1))) (u137.idxb (by kernel_rfl) g135.1 g135.2) ?_
    refine m_' (elp (.slice a71 n72 c73) 3 ((gt y25.2.1 i0).1).toNat 1) (aFieldAddr Tryz.prog 69 (elp (.slice a71 n72 c73) 3 ((gt y25.2.1 i0).1).toNat 0) 1) (Nd.fldq (d := 1) u137 g135.1 g135.2 (by kernel_rfl)) ?_
    obtain ⟨u138, u139, hl140, hk141⟩ := Nd.at u137 g135.1 g135.2
    have kd142 : KdS enc_i64_u64_i64 3 H129 u138 ((gt o1 ((gt y25.2.1 i0).1)).2.1) f104 (.slice a71 n72 c73) 3 ((gt y25.2.1 i0).1).toNat 1 := hk141 false (by simp)
    obtain ⟨a143, n144, c145, rfl⟩ := kd142.sq.form
    refine m_' (.slice a143 n144 c145) (aLoad Tryz.prog 49 (elp (.slice a71 n72 c73) 3 ((gt y25.2.1 i0).1).toNat 1) H129) (hl140 _ _ _ _ (by kernel_rfl)) ?_
    refine e_' (pt_ b123 1) ?_
    refine m_' (i_ ((gt y25.2.1 i0).2.1)) (aLoad Tryz.prog 3 (pt_ b123 1) H129) (r132.ld (by kernel_rfl)) ?_
    refine e_' (pt_ b123 2) ?_
    refine m_' (i_ ((gt y25.2.1 i0).2.2)) (aLoad Tryz.prog 3 (pt_ b123 2) H129) (r132.ld (by kernel_rfl)) ?_
    obtain ⟨g147, r148⟩ := G_some r136
    refine d_w ((gt y25.2.1 i0).2.2) (k := .u64) (x := (gt y25.2.1 i0).2.2) (by kernel_rfl) (wrapu64 g147) ?_
    refine e_' (.agg #[i_ ((gt y25.2.1 i0).2.1), .int .u64 ((gt y25.2.1 i0).2.2), i_ (-1)]) ?_
    refine d_owk (enc := enc_i64_u64_i64) (sz := 3) e131.wf [((gt y25.2.1 i0).2.1, (gt y25.2.1 i0).2.2, (-1))] 1 (by decide) (fun _ _ => rfl) (fun _ _ => rfl) rfl (by kernel_rfl) fun s149 f150 H151 e152 hf153 hm154 => ?_
    obtain ⟨a155, n156, c157, rfl⟩ := hm154.form
    have u159 := (u137.ext e152)
    have u160 := (kd142.ext e152)
    obtain ⟨f161, f162, hh163, ho164, d165, hs166, hs167⟩ := Nd.borrow false u159 g135.1 g135.2 (by simp) u160 rfl
    have w168 := Inn.sub' (H := H151) hs166
    have w169 := Inn.sub' (H := H151) hs167
    have hh163 : Nd enc_i64_u64_i64 3 H151 (.slice a71 n72 c73) o1 f161 [(((gt y25.2.1 i0).1).toNat, false)] := hh163
    obtain ⟨g170, r171⟩ := G_some r148
    obtain ⟨s172, H173, f174, q178, e175, hm176, hf177⟩ := Ow.append (P := Tryz.prog) 24 e152.wf ho164 hm154.sq (fun _ _ => rfl) (at_ := #[49, 49]) rfl rfl (by kernel_rfl) (by kernel_rfl) (by decide) (by have := g170; first | omega | (simp only [List.length_cons, List.length_nil] at this ⊢; omega) | (simp at this ⊢; omega))
    obtain ⟨a179, n180, c181, rfl⟩ := hm176.form
    have u183 := ((u134.ext e152).frS e175 (w169.dj (i105.dj (Dj.symm (hb80.djn hm70.lt)) r81.ltF) (r81.ltF.le (ntr (ntr (ntr e101.next e125.next) e131.next) e152.next))))
    have u184 := ((r132.ext e152).frS e175 (w169.dj (Dj.symm (hb126.djn m103.lt)) (r127.ltF.le (ntr e131.next e152.next))))
    refine d_ek (.slice a179 n180 c181) (by kernel_rfl) (q178) (st_ql (y := aLoad Tryz.prog 3 (pt_ b123 0) H173) (by kernel_rfl) (u184.ld (by kernel_rfl)) (st_ql (y := aLoad Tryz.prog 65 (pt_ b77 0) H173) (by kernel_rfl) (u183.ld (by kernel_rfl)) (st_nil))) ?_
    have u185 := (hh163.fr e175 (Dj.symm d165))
    refine m_' (elp (.slice a71 n72 c73) 3 ((gt y25.2.1 i0).1).toNat 0) (aIndexAddr Tryz.prog 65 (.slice a71 n72 c73) (i_ ((gt y25.2.1 i0).1))) (u185.idxb (by kernel_rfl) g135.1 g135.2) ?_
    refine m_' (elp (.slice a71 n72 c73) 3 ((gt y25.2.1 i0).1).toNat 1) (aFieldAddr Tryz.prog 69 (elp (.slice a71 n72 c73) 3 ((gt y25.2.1 i0).1).toNat 0) 1) (Nd.fldq (d := 1) u185 g135.1 g135.2 (by kernel_rfl)) ?_
    obtain ⟨H186, f187, q188, e189, hm190, hf191⟩ := Nd.close (P := Tryz.prog) (t := 49) false e175.wf u185 hm176 (Dj.symm (hf177.dj (Dj.symm d165) hh163.lt)) g135.1 g135.2 (by kernel_rfl) (by kernel_rfl) (by kernel_rfl)
    have hm190 : Nd enc_i64_u64_i64 3 H186 (.slice a71 n72 c73) (o1.set ((gt y25.2.1 i0).1).toNat ((gt o1 ((gt y25.2.1 i0).1)).1, ((gt o1 ((gt y25.2.1 i0).1)).2.1 ++ [((gt y25.2.1 i0).2.1, (gt y25.2.1 i0).2.2, (-1))]), (gt o1 ((gt y25.2.1 i0).1)).2.2)) f187 [] := hm190
    have w192 := hf191.grow3 (Inn.trans Inn.refl' (Nat.le_refl _) w168) (Inn.trans (Inn.trans Inn.refl' (Nat.le_refl _) w169) (Nat.le_refl _) hf177) e175.next
    refine d_ek (undef) (by kernel_rfl) (map_ok q188) (st_anc (by kernel_rfl) (st_anc (by kernel_rfl) (st_nil))) ?_
    refine d_nil ?_
    refine k133 _ _ ?_
    refine w_draw [0, 1, 2, 3, 4, 5, 6, 7, 8, 9, 10, 11, 12, 13, 14, 15, 16, 17, 18, 19, 20, 21, 22, 23, 24, 25] (by kernel_rfl) ?_
    refine e_' (pt_ b77 0) ?_
    refine e_' (pt_ b77 0) ?_
    refine e_' (pt_ b77 0) ?_
    have u193 := (u183.frS e189 (w168.dj (i105.dj (Dj.symm (hb80.djn hm70.lt)) r81.ltF) (r81.ltF.le (ntr (ntr (ntr e101.next e125.next) e131.next) e152.next))))
    refine d_fl (.slice a71 n72 c73) (x := aLoad Tryz.prog 65 (pt_ b77 0) H186) (by kernel_rfl) (u193.ld (by kernel_rfl)) ?_
    refine e_' (pt_ b123 1) ?_
    have u194 := (u184.frS e189 (w168.dj (Dj.symm (hb126.djn m103.lt)) (r127.ltF.le (ntr e131.next e152.next))))
    refine d_fl (i_ ((gt y25.2.1 i0).2.1)) (x := aLoad Tryz.prog 3 (pt_ b123 1) H186) (by kernel_rfl) (u194.ld (by kernel_rfl)) ?_
    refine e_' (pt_ b77 0) ?_
    refine e_' (pt_ b77 0) ?_
    refine e_' (pt_ b77 0) ?_
    refine m_' (.slice a71 n72 c73) (aLoad Tryz.prog 65 (pt_ b77 0) H186) (u193.ld (by kernel_rfl)) ?_
    refine e_' (pt_ b123 1) ?_
    refine m_' (i_ ((gt y25.2.1 i0).2.1)) (aLoad Tryz.prog 3 (pt_ b123 1) H186) (u194.ld (by kernel_rfl)) ?_
    obtain ⟨g195, r196⟩ := G_some r171
    refine m_' (elp (.slice a71 n72 c73) 3 ((gt y25.2.1 i0).2.1).toNat 0) (aIndexAddr Tryz.prog 65 (.slice a71 n72 c73) (i_ ((gt y25.2.1 i0).2.1))) (hm190.idxb (by kernel_rfl) g195.1 g195.2) ?_
    refine m_' (elp (.slice a71 n72 c73) 3 ((gt y25.2.1 i0).2.1).toNat 2) (aFieldAddr Tryz.prog 69 (elp (.slice a71 n72 c73) 3 ((gt y25.2.1 i0).2.1).toNat 0) 2) (Nd.fldq (d := 2) hm190 g195.1 g195.2 (by kernel_rfl)) ?_
    obtain ⟨u197, u198, hl199, hk200⟩ := Nd.at hm190 g195.1 g195.2
    have kd201 : KdS enc_i64_u64_i64 3 H186 u198 ((gt (o1.set ((gt y25.2.1 i0).1).toNat ((gt o1 ((gt y25.2.1 i0).1)).1, ((gt o1 ((gt y25.2.1 i0).1)).2.1 ++ [((gt y25.2.1 i0).2.1, (gt y25.2.1 i0).2.2, (-1))]), (gt o1 ((gt y25.2.1 i0).1)).2.2)) ((gt y25.2.1 i0).2.1)).2.2) f187 (.slice a71 n72 c73) 3 ((gt y25.2.1 i0).2.1).toNat 2 := hk200 true (by simp)
    obtain ⟨a202, n203, c204, rfl⟩ := kd201.sq.form
    refine m_' (.slice a202 n203 c204) (aLoad Tryz.prog 49 (elp (.slice a71 n72 c73) 3 ((gt y25.2.1 i0).2.1).toNat 2) H186) (hl199 _ _ _ _ (by kernel_rfl)) ?_
    refine e_' (pt_ b123 0) ?_
    refine m_' (i_ ((gt y25.2.1 i0).1)) (aLoad Tryz.prog 3 (pt_ b123 0) H186) (u194.ld (by kernel_rfl)) ?_
    refine e_' (pt_ b123 2) ?_
    refine m_' (i_ ((gt y25.2.1 i0).2.2)) (aLoad Tryz.prog 3 (pt_ b123 2) H186) (u194.ld (by kernel_rfl)) ?_
    obtain ⟨g206, r207⟩ := G_some r196
    refine d_w ((gt y25.2.1 i0).2.2) (k := .u64) (x := (gt y25.2.1 i0).2.2) (by kernel_rfl) (wrapu64 (by have := g206; omega)) ?_
    refine e_' (.agg #[i_ ((gt y25.2.1 i0).1), .int .u64 ((gt y25.2.1 i0).2.2), i_ (-1)]) ?_
    refine d_owk (enc := enc_i64_u64_i64) (sz := 3) e189.wf [((gt y25.2.1 i0).1, (gt y25.2.1 i0).2.2, (-1))] 1 (by decide) (fun _ _ => rfl) (fun _ _ => rfl) rfl (by kernel_rfl) fun s208 f209 H210 e211 hf212 hm213 => ?_
    obtain ⟨a214, n215, c216, rfl⟩ := hm213.form
    have u218 := (hm190.ext e211)
    have u219 := (kd201.ext e211)
    obtain ⟨f220, f221, hh222, ho223, d224, hs225, hs226⟩ := Nd.borrow true u218 g195.1 g195.2 (by simp) u219 rfl
    have w227 := Inn.sub' (H := H210) hs225
    have w228 := Inn.sub' (H := H210) hs226
    have hh222 : Nd enc_i64_u64_i64 3 H210 (.slice a71 n72 c73) (o1.set ((gt y25.2.1 i0).1).toNat ((gt o1 ((gt y25.2.1 i0).1)).1, ((gt o1 ((gt y25.2.1 i0).1)).2.1 ++ [((gt y25.2.1 i0).2.1, (gt y25.2.1 i0).2.2, (-1))]), (gt o1 ((gt y25.2.1 i0).1)).2.2)) f220 [(((gt y25.2.1 i0).2.1).toNat, true)] := hh222
    obtain ⟨g229, r230⟩ := G_some r207
    obtain ⟨s231, H232, f233, q237, e234, hm235, hf236⟩ := Ow.append (P := Tryz.prog) 24 e211.wf ho223 hm213.sq (fun _ _ => rfl) (at_ := #[49, 49]) rfl rfl (by kernel_rfl) (by kernel_rfl) (by decide) (by have := g229; first | omega | (simp only [List.length_cons, List.length_nil] at this ⊢; omega) | (simp at this ⊢; omega))
    obtain ⟨a238, n239, c240, rfl⟩ := hm235.form
    have u242 := ((u193.ext e211).frS e234 (w228.dj (w192.dj (i105.dj (Dj.symm (hb80.djn hm70.lt)) r81.ltF) (r81.ltF.le (ntr (ntr (ntr e101.next e125.next) e131.next) e152.next))) (r81.ltF.le (ntr (ntr (ntr (ntr (ntr (ntr e101.next e125.next) e131.next) e152.next) e175.next) e189.next) e211.next))))
    have u243 := ((u194.ext e211).frS e234 (w228.dj (w192.dj (Dj.symm (hb126.djn m103.lt)) (r127.ltF.le (ntr e131.next e152.next))) (r127.ltF.le (ntr (ntr (ntr (ntr e131.next e152.next) e175.next) e189.next) e211.next))))
    refine d_ek (.slice a238 n239 c240) (by kernel_rfl) (q237) (st_ql (y := aLoad Tryz.prog 3 (pt_ b123 1) H232) (by kernel_rfl) (u243.ld (by kernel_rfl)) (st_ql (y := aLoad Tryz.prog 65 (pt_ b77 0) H232) (by kernel_rfl) (u242.ld (by kernel_rfl)) (st_nil))) ?_
    have u244 := (hh222.fr e234 (Dj.symm d224))
    refine m_' (elp (.slice a71 n72 c73) 3 ((gt y25.2.1 i0).2.1).toNat 0) (aIndexAddr Tryz.prog 65 (.slice a71 n72 c73) (i_ ((gt y25.2.1 i0).2.1))) (u244.idxb (by kernel_rfl) g195.1 g195.2) ?_
    refine m_' (elp (.slice a71 n72 c73) 3 ((gt y25.2.1 i0).2.1).toNat 2) (aFieldAddr Tryz.prog 69 (elp (.slice a71 n72 c73) 3 ((gt y25.2.1 i0).2.1).toNat 0) 2) (Nd.fldq (d := 2) u244 g195.1 g195.2 (by kernel_rfl)) ?_
    obtain ⟨H245, f246, q247, e248, hm249, hf250⟩ := Nd.close (P := Tryz.prog) (t := 49) true e234.wf u244 hm235 (Dj.symm (hf236.dj (Dj.symm d224) hh222.lt)) g195.1 g195.2 (by kernel_rfl) (by kernel_rfl) (by kernel_rfl)
    have hm249 : Nd enc_i64_u64_i64 3 H245 (.slice a71 n72 c73) ((o1.set ((gt y25.2.1 i0).1).toNat ((gt o1 ((gt y25.2.1 i0).1)).1, ((gt o1 ((gt y25.2.1 i0).1)).2.1 ++ [((gt y25.2.1 i0).2.1, (gt y25.2.1 i0).2.2, (-1))]), (gt o1 ((gt y25.2.1 i0).1)).2.2)).set ((gt y25.2.1 i0).2.1).toNat ((gt (o1.set ((gt y25.2.1 i0).1).toNat ((gt o1 ((gt y25.2.1 i0).1)).1, ((gt o1 ((gt y25.2.1 i0).1)).2.1 ++ [((gt y25.2.1 i0).2.1, (gt y25.2.1 i0).2.2, (-1))]), (gt o1 ((gt y25.2.1 i0).1)).2.2)) ((gt y25.2.1 i0).2.1)).1, (gt (o1.set ((gt y25.2.1 i0).1).toNat ((gt o1 ((gt y25.2.1 i0).1)).1, ((gt o1 ((gt y25.2.1 i0).1)).2.1 ++ [((gt y25.2.1 i0).2.1, (gt y25.2.1 i0).2.2, (-1))]), (gt o1 ((gt y25.2.1 i0).1)).2.2)) ((gt y25.2.1 i0).2.1)).2.1, ((gt (o1.set ((gt y25.2.1 i0).1).toNat ((gt o1 ((gt y25.2.1 i0).1)).1, ((gt o1 ((gt y25.2.1 i0).1)).2.1 ++ [((gt y25.2.1 i0).2.1, (gt y25.2.1 i0).2.2, (-1))]), (gt o1 ((gt y25.2.1 i0).1)).2.2)) ((gt y25.2.1 i0).2.1)).2.2 ++ [((gt y25.2.1 i0).1, (gt y25.2.1 i0).2.2, (-1))]))) f246 [] := hm249
    have w251 := hf250.grow3 (Inn.trans Inn.refl' (Nat.le_refl _) w227) (Inn.trans (Inn.trans Inn.refl' (Nat.le_refl _) w228) (Nat.le_refl _) hf236) e234.next
    refine d_ek (undef) (by kernel_rfl) (map_ok q247) (st_anc (by kernel_rfl) (st_anc (by kernel_rfl) (st_nil))) ?_
    refine d_nil ?_
    refine k118 _ _ ?_
    refine g_' ?_
    obtain ⟨g252, r253⟩ := G_some r230
    refine s_w ((i0 + 1)) (k := .i64) (x := (i0 + 1)) (by kernel_rfl) (wrap64 (by have := g252; omega)) ?_
    refine q_ (i_ (i0 + 1)) ?_
    refine s_nil ?_
    obtain rfl := Option.some.inj r253
    exact k113 n108 _ _ (Nat.lt_succ_self _) ⟨(i0 + 1), ((o1.set ((gt y25.2.1 i0).1).toNat ((gt o1 ((gt y25.2.1 i0).1)).1, ((gt o1 ((gt y25.2.1 i0).1)).2.1 ++ [((gt y25.2.1 i0).2.1, (gt y25.2.1 i0).2.2, (-1))]), (gt o1 ((gt y25.2.1 i0).1)).2.2)).set ((gt y25.2.1 i0).2.1).toNat ((gt (o1.set ((gt y25.2.1 i0).1).toNat ((gt o1 ((gt y25.2.1 i0).1)).1, ((gt o1 ((gt y25.2.1 i0).1)).2.1 ++ [((gt y25.2.1 i0).2.1, (gt y25.2.1 i0).2.2, (-1))]), (gt o1 ((gt y25.2.1 i0).1)).2.2)) ((gt y25.2.1 i0).2.1)).1, (gt (o1.set ((gt y25.2.1 i0).1).toNat ((gt o1 ((gt y25.2.1 i0).1)).1, ((gt o1 ((gt y25.2.1 i0).1)).2.1 ++ [((gt y25.2.1 i0).2.1, (gt y25.2.1 i0).2.2, (-1))]), (gt o1 ((gt y25.2.1 i0).1)).2.2)) ((gt y25.2.1 i0).2.1)).2.1, ((gt (o1.set ((gt y25.2.1 i0).1).toNat ((gt o1 ((gt y25.2.1 i0).1)).1, ((gt o1 ((gt y25.2.1 i0).1)).2.1 ++ [((gt y25.2.1 i0).2.1, (gt y25.2.1 i0).2.2, (-1))]), (gt o1 ((gt y25.2.1 i0).1)).2.2)) ((gt y25.2.1 i0).2.1)).2.2 ++ [((gt y25.2.1 i0).1, (gt y25.2.1 i0).2.2, (-1))]))), f246, hn111, ha_, (FrS.step e79.wf (FrS.step e79.wf ((FrS.step e79.wf (FrS.step e79.wf ((FrS.step e79.wf ((FrS.step e79.wf (FrS.refl (W := f66) e79.wf) e101 Inn.refl').extR e125) e131 (hb126.fresh e101.next)).extR e152) e175 (Inn.trans (Inn.trans Inn.refl' (Nat.le_refl _) i105) (ntr (ntr (ntr e101.next e125.next) e131.next) e152.next) w169)) e189 (Inn.trans (Inn.trans Inn.refl' (Nat.le_refl _) i105) (ntr (ntr (ntr e101.next e125.next) e131.next) e152.next) w168)).extR e211) e234 (Inn.trans (Inn.trans (Inn.trans Inn.refl' (Nat.le_refl _) i105) (ntr (ntr (ntr e101.next e125.next) e131.next) e152.next) w192) (ntr (ntr (ntr (ntr (ntr (ntr e101.next e125.next) e131.next) e152.next) e175.next) e189.next) e211.next) w228)) e248 (Inn.trans (Inn.trans (Inn.trans Inn.refl' (Nat.le_refl _) i105) (ntr (ntr (ntr e101.next e125.next) e131.next) e152.next) w192) (ntr (ntr (ntr (ntr (ntr (ntr e101.next e125.next) e131.next) e152.next) e175.next) e189.next) e211.next) w227)), hm249, (Inn.trans (Inn.trans (Inn.trans Inn.refl' (Nat.le_refl _) i105) (ntr (ntr (ntr e101.next e125.next) e131.next) e152.next) w192) (ntr (ntr (ntr (ntr (ntr (ntr e101.next e125.next) e131.next) e152.next) e175.next) e189.next) e211.next) w251)⟩
   have r254 := ite_f h116 hz110
   refine w_exit (th_exit (th_exit (bl_eq ?_)))
   obtain rfl := Option.some.inj r254
   obtain rfl := it_inr hn111
   exact k96 _ _ ⟨f104, ha_, (FrS.step e79.wf (FrS.refl (W := f66) e79.wf) e101 Inn.refl'), m103, (Inn.trans Inn.refl' (Nat.le_refl _) i105)⟩
  obtain ⟨f94, hh97, e91, m93, i95⟩ := hM
  obtain ⟨β, rfl⟩ := has_ex hh97
  clear hh97
  refine k83 _ _ ?_
  refine w_seqk fun _ k255 => ?_
  refine g_' ?_
  refine q_ (pt_ b77 0) ?_
  refine q_ (pt_ b77 0) ?_
  refine q_ (.nilIface) ?_
  refine s_nil (k255 _ _ ?_)
  refine w_ret ?_
  refine b_ret (fn := Tryz.f5) (vs := [pt_ b77 0, .nilIface]) (aRes_tmp (by kernel_rfl) (aRes_tmp (by kernel_rfl) (rfl))) ?_
  have u256 := (r81.frS e91 (Dj.symm (hb80.djn hm70.lt)))
  obtain rfl := Option.some.inj r89
  exact (elimP_r ⟨(.slice a71 n72 c73), f94, b77, rfl, (FrS.step wf (((FrS.step wf ((FrS.step wf ((FrS.refl (W := []) wf).extR e19) e33 Inn.nil).extR e46) e52 (hb47.fresh (ntr e19.next e33.next))).extR e68).extR e79) e91 (hf69.fresh (ntr (ntr (ntr e19.next e33.next) e46.next) e52.next))), m93, u256, (Inn.trans (hf69.fresh (ntr (ntr (ntr e19.next e33.next) e46.next) e52.next)) (ntr (ntr (ntr (ntr (ntr e19.next e33.next) e46.next) e52.next) e68.next) e79.next) i95), (hb80.fresh (ntr (ntr (ntr (ntr e19.next e33.next) e46.next) e52.next) e68.next)), (i95.dj (Dj.symm (hb80.djn hm70.lt)) r81.ltF)⟩)
 have r257 := ite_f h57 r27
 refine l_' (.bool true) (aBin Tryz.prog .neq 29 (.tmp 14) (.const .nilIface) (.iface t58 x59) .nilIface) (aBin_nnil (by kernel_rfl)) ?_
 refine s_nil (k56 _ _ ?_)
 refine w_cond true (by kernel_rfl) rfl (fun _ => ?_) (fun h => by cases h)
 refine w_seqk fun _ k258 => ?_
 refine g_' ?_
 refine q_ (.iface t58 x59) ?_
 refine q_ (.pointer none) ?_
 refine q_ (.iface t58 x59) ?_
 refine s_nil (k258 _ _ ?_)
 refine w_ret (th_ret ?_)
 refine b_ret (fn := Tryz.f5) (vs := [.pointer none, .iface t58 x59]) (aRes_tmp (by kernel_rfl) (aRes_tmp (by kernel_rfl) (rfl))) ?_
 obtain rfl := Option.some.inj r257
 exact (elimP_l ⟨(.iface t58 x59), f31, rfl, (FrS.step wf ((FrS.step wf ((FrS.refl (W := []) wf).extR e19) e33 Inn.nil).extR e46) e52 (hb47.fresh (ntr e19.next e33.next))), u60, (i37.fresh e19.next)⟩)

theorem c_overlay_Overlay_Len {H : AH} {b_o : Nat} {hd_o_ : Value} {fp_o_ : Fp} {o_ : List (Bool × List (Int × Int × Int) × List (Int × Int × Int))} {o_2 : Int} {o_3 : Int} {r : Int}
    (wf : WF H) (h_o_ : Nd enc_i64_u64_i64 3 H hd_o_ o_ fp_o_ []) (h_o : Row H b_o [hd_o_, i_ o_2, i_ o_3]) (hr : z_overlay_Overlay_Len o_ o_2 o_3 = some r) :
    ACalls Tryz.prog 16 #[pt_ b_o 0] H fun v H' => v = i_ r ∧ H = H' := by
 refine acalls_of_body mixed Tryz.func16 rfl (Nat.le_of_ble_eq_true rfl) ?_
 unfold z_overlay_Overlay_Len at hr
 refine w_seqk fun _ k1 => ?_
 refine g_' ?_
 refine q_ (i_ 0) ?_
 refine s_nil (k1 _ _ ?_)
 refine w_seqk fun _ k2 => ?_
 refine w_seqk fun _ k3 => ?_
 refine g_' ?_
 refine q_ (pt_ b_o 0) ?_
 refine q_ (.bool false) ?_
 refine s_nil (k3 _ _ ?_)
 refine w_cond false (by kernel_rfl) rfl (fun h => by cases h) (fun _ => ?_)
 refine w_skip ?_
 refine k2 _ _ ?_
 refine w_seqk fun _ k4 => ?_
 refine g_' ?_
 refine q_ (pt_ b_o 0) ?_
 refine q_ (pt_ b_o 0) ?_
 refine q_ (pt_ b_o 1) ?_
 refine l_' (i_ o_2) (aLoad Tryz.prog 3 (pt_ b_o 1) H) (h_o.ld (by kernel_rfl)) ?_
 refine q_ (i_ o_2) ?_
 refine s_nil (k4 _ _ ?_)
 refine w_ret ?_
 refine b_ret (fn := Tryz.f16) (vs := [i_ o_2]) (aRes_tmp (by kernel_rfl) (rfl)) ?_
 obtain rfl := Option.some.inj hr
 exact ⟨rfl, rfl⟩

theorem c_overlay_Overlay_Arcs {H : AH} {b_o : Nat} {hd_o_ : Value} {fp_o_ : Fp} {o_ : List (Bool × List (Int × Int × Int) × List (Int × Int × Int))} {o_2 : Int} {o_3 : Int} {r : Int}
    (wf : WF H) (h_o_ : Nd enc_i64_u64_i64 3 H hd_o_ o_ fp_o_ []) (h_o : Row H b_o [hd_o_, i_ o_2, i_ o_3]) (hr : z_overlay_Overlay_Arcs o_ o_2 o_3 = some r) :
    ACalls Tryz.prog 17 #[pt_ b_o 0] H fun v H' => v = i_ r ∧ H = H' := by
 refine acalls_of_body mixed Tryz.func17 rfl (Nat.le_of_ble_eq_true rfl) ?_
 unfold z_overlay_Overlay_Arcs at hr
 refine w_seqk fun _ k1 => ?_
 refine g_' ?_
 refine q_ (i_ 0) ?_
 refine s_nil (k1 _ _ ?_)
 refine w_seqk fun _ k2 => ?_
 refine w_seqk fun _ k3 => ?_
 refine g_' ?_
 refine q_ (pt_ b_o 0) ?_
 refine q_ (.bool false) ?_
 refine s_nil (k3 _ _ ?_)
 refine w_cond false (by kernel_rfl) rfl (fun h => by cases h) (fun _ => ?_)
 refine w_skip ?_
 refine k2 _ _ ?_
 refine w_seqk fun _ k4 => ?_
 refine g_' ?_
 refine q_ (pt_ b_o 0) ?_
 refine q_ (pt_ b_o 0) ?_
 refine q_ (pt_ b_o 2) ?_
 refine l_' (i_ o_3) (aLoad Tryz.prog 3 (pt_ b_o 2) H) (h_o.ld (by kernel_rfl)) ?_
 refine q_ (i_ o_3) ?_
 refine s_nil (k4 _ _ ?_)
 refine w_ret ?_
 refine b_ret (fn := Tryz.f17) (vs := [i_ o_3]) (aRes_tmp (by kernel_rfl) (rfl)) ?_
 obtain rfl := Option.some.inj hr
 exact ⟨rfl, rfl⟩

theorem c_overlay_Overlay_Alive {H : AH} {b_o : Nat} {hd_o_ : Value} {fp_o_ : Fp} {o_ : List (Bool × List (Int × Int × Int) × List (Int × Int × Int))} {o_2 : Int} {o_3 : Int} {v_ : Int} {r : Bool}
    (wf : WF H) (h_o_ : Nd enc_i64_u64_i64 3 H hd_o_ o_ fp_o_ []) (h_o : Row H b_o [hd_o_, i_ o_2, i_ o_3]) (hr : z_overlay_Overlay_Alive o_ o_2 o_3 v_ = some r) :
    ACalls Tryz.prog 20 #[pt_ b_o 0, i_ v_] H fun v H' => v = .bool r ∧ H = H' := by
 refine acalls_of_body mixed Tryz.func20 rfl (Nat.le_of_ble_eq_true rfl) ?_
 unfold z_overlay_Overlay_Alive at hr
 refine w_seqk fun _ k1 => ?_
 refine g_' ?_
 refine q_ (.bool false) ?_
 refine s_nil (k1 _ _ ?_)
 refine w_seqk fun _ k2 => ?_
 refine g_' ?_
 refine q_ (pt_ b_o 0) ?_
 refine q_ (.bool true) ?_
 refine q_ (.bool true) ?_
 refine q_ (i_ v_) ?_
 refine s_b (v_ ≥ 0) (by kernel_rfl) (fun h3 => ?_) (fun h3 => ?_)
 ·have r4 := ite_t h3 hr
  refine q_ (.bool true) ?_
  refine q_ (.bool true) ?_
  refine q_ (i_ v_) ?_
  refine q_ (pt_ b_o 0) ?_
  refine q_ (pt_ b_o 0) ?_
  refine q_ (pt_ b_o 0) ?_
  refine l_' (hd_o_) (aLoad Tryz.prog 65 (pt_ b_o 0) H) (h_o.ld (by kernel_rfl)) ?_
  refine l_' (i_ (o_.length : Int)) (aLen Tryz.prog 65 hd_o_ H) (h_o_.lenb (by kernel_rfl)) ?_
  refine s_b (v_ < (o_.length : Int)) (by kernel_rfl) (fun h5 => ?_) (fun h5 => ?_)
  ·have r6 := ite_t h5 r4
   refine q_ (.bool true) ?_
   refine q_ (.bool true) ?_
   refine q_ (pt_ b_o 0) ?_
   refine q_ (pt_ b_o 0) ?_
   refine q_ (pt_ b_o 0) ?_
   refine l_' (hd_o_) (aLoad Tryz.prog 65 (pt_ b_o 0) H) (h_o.ld (by kernel_rfl)) ?_
   refine q_ (i_ v_) ?_
   obtain ⟨g7, r8⟩ := G_some r6
   refine l_' (elp hd_o_ 3 v_.toNat 0) (aIndexAddr Tryz.prog 65 hd_o_ (i_ v_)) (h_o_.idxb (by kernel_rfl) g7 h5) ?_
   refine l_' (elp hd_o_ 3 v_.toNat 0) (aFieldAddr Tryz.prog 69 (elp hd_o_ 3 v_.toNat 0) 0) (Nd.fldq (d := 0) h_o_ g7 h5 (by kernel_rfl)) ?_
   obtain ⟨u9, u10, hl11, hk12⟩ := Nd.at h_o_ g7 h5
   refine l_' (.bool ((gt o_ v_).1)) (aLoad Tryz.prog 4 (elp hd_o_ 3 v_.toNat 0) H) (hl11 _ _ _ _ (by kernel_rfl)) ?_
   refine q_ (.bool (!(gt o_ v_).1)) ?_
   refine q_ (.bool (!(gt o_ v_).1)) ?_
   refine q_ (.bool (!(gt o_ v_).1)) ?_
   refine s_nil (k2 _ _ ?_)
   refine w_ret ?_
   refine b_ret (fn := Tryz.f20) (vs := [.bool (!(gt o_ v_).1)]) (aRes_tmp (by kernel_rfl) (rfl)) ?_
   obtain rfl := Option.some.inj r8
   exact ⟨rfl, rfl⟩
  have r13 := ite_f h5 r4
  refine q_ (.bool false) ?_
  refine q_ (.bool false) ?_
  refine n_' ?_
  refine n_' ?_
  refine n_' ?_
  refine n_' ?_
  refine n_' ?_
  refine n_' ?_
  refine n_' ?_
  refine n_' ?_
  refine n_' ?_
  refine q_ (.bool false) ?_
  refine q_ (.bool false) ?_
  refine s_nil (k2 _ _ ?_)
  refine w_ret ?_
  refine b_ret (fn := Tryz.f20) (vs := [.bool false]) (aRes_tmp (by kernel_rfl) (rfl)) ?_
  obtain rfl := Option.some.inj r13
  exact ⟨rfl, rfl⟩
 have r14 := ite_f h3 hr
 refine q_ (.bool false) ?_
 refine q_ (.bool false) ?_
 refine n_' ?_
 refine n_' ?_
 refine n_' ?_
 refine n_' ?_
 refine n_' ?_
 refine n_' ?_
 refine n_' ?_
 refine q_ (.bool false) ?_
 refine q_ (.bool false) ?_
 refine n_' ?_
 refine n_' ?_
 refine n_' ?_
 refine n_' ?_
 refine n_' ?_
 refine n_' ?_
 refine n_' ?_
 refine n_' ?_
 refine n_' ?_
 refine q_ (.bool false) ?_
 refine q_ (.bool false) ?_
 refine s_nil (k2 _ _ ?_)
 refine w_ret ?_
 refine b_ret (fn := Tryz.f20) (vs := [.bool false]) (aRes_tmp (by kernel_rfl) (rfl)) ?_
 obtain rfl := Option.some.inj r14
 exact ⟨rfl, rfl⟩

theorem c_overlay_find_1 {H : AH} {Node : Int} {Weight : Int} {Via : Int} {v_ : Int} {r : Int}
    (wf : WF H) (hr : z_overlay_find_1 Node Weight Via v_ = some r) :
    ACalls Tryz.prog 64 #[.agg #[i_ Node, .int .u64 Weight, i_ Via], i_ v_] H fun v H' => v = i_ r ∧ FrS [] H H' := by
 refine acalls_of_body mixed Tryz.func64 rfl (Nat.le_of_ble_eq_true rfl) ?_
 unfold z_overlay_find_1 at hr
 refine w_seqk fun _ k1 => ?_
 refine g_' ?_
 refine s_rwl wf [i_ Node, .int .u64 Weight, i_ Via] (one_cons (rfl) (one_cons (rfl) (one_cons (rfl) (one_nil)))) (by kernel_rfl) fun b2 H3 e4 hb5 r6 => ?_
 refine q_ (i_ 0) ?_
 refine s_nil (k1 _ _ ?_)
 refine w_seqk fun _ k8 => ?_
 refine g_' ?_
 refine q_ (pt_ b2 0) ?_
 refine l_' (i_ Node) (aLoad Tryz.prog 3 (pt_ b2 0) H3) (r6.ld (by kernel_rfl)) ?_
 refine q_ (i_ v_) ?_
 refine q_ (i_ (IntKind.i64.wrap (Node - v_))) ?_
 refine q_ (i_ (IntKind.i64.wrap (Node - v_))) ?_
 refine s_nil (k8 _ _ ?_)
 refine w_ret ?_
 refine b_ret (fn := Tryz.f64) (vs := [i_ (IntKind.i64.wrap (Node - v_))]) (aRes_tmp (by kernel_rfl) (rfl)) ?_
 obtain rfl := Option.some.inj hr
 exact ⟨rfl, ((FrS.refl (W := []) wf).extR e4)⟩

theorem c_slices_BinarySearchFunc {H : AH} {hd_x : Value} {fp_x : Fp} {x : List (Int × Int × Int)} {target : Int} {r : Int × Bool}
    (wf : WF H) (h_x : Sq enc_i64_u64_i64 3 H hd_x x fp_x) (hr : z_slices_BinarySearchFunc x target = some r) :
    ACalls Tryz.prog 63 #[hd_x, i_ target, .func (.func 64) #[] #[]] H fun v H' => v = .tuple #[i_ r.1, .bool r.2] ∧ FrS [] H H' := by
 refine acalls_of_body mixed Tryz.func63 rfl (Nat.le_of_ble_eq_true rfl) ?_
 unfold z_slices_BinarySearchFunc at hr
 refine w_seqk fun _ k1 => ?_
 refine g_' ?_
 refine q_ (i_ 0) ?_
 refine q_ (.bool false) ?_
 refine s_nil (k1 _ _ ?_)
 refine w_seqk fun _ k2 => ?_
 refine g_' ?_
 refine q_ (hd_x) ?_
 refine l_' (i_ (x.length : Int)) (aLen Tryz.prog 49 hd_x H) (h_x.lenb (by kernel_rfl)) ?_
 refine q_ (i_ (x.length : Int)) ?_
 refine s_nil (k2 _ _ ?_)
 refine w_seqk fun _ k3 => ?_
 refine g_' ?_
 refine q_ (i_ (x.length : Int)) ?_
 refine q_ (i_ 0) ?_
 refine q_ (i_ (x.length : Int)) ?_
 refine s_nil (k3 _ _ ?_)
 refine w_seqk fun _ k4 => ?_
 obtain ⟨o5, hx6, r7⟩ := bind_some hr
 refine w_mid (fun α H8 => Has α [(0, hd_x), (1, i_ target), (2, .func (.func 64) #[] #[]), (8, i_ (x.length : Int)), (9, i_ o5)] ∧ FrS [] H H8) (fun _ k10 => ?_) (fun α H8 hM => ?_)
 ·refine w_block ?_
  obtain ⟨n12, hn13⟩ := loopO_iff.1 hx6
  refine w_loopn (fun n α H14 => ∃ (j0 : Int), ∃ (i1 : Int), iterO (fun zz_ => z_slices_BinarySearchFunc_l0 x target zz_.1 zz_.2) n (j0, i1) = some o5 ∧ Has α [(0, hd_x), (1, i_ target), (2, .func (.func 64) #[] #[]), (8, i_ (x.length : Int)), (9, i_ i1), (10, i_ j0)] ∧ FrS [] H H14) n12 ⟨(x.length : Int), 0, hn13, ha_, (FrS.refl (W := []) wf)⟩ ?_
  rintro n12 α H14 ⟨j0, i1, hi17, hh16, e15⟩ K22 k22
  obtain ⟨n18, z19, rfl, hz20, hn21⟩ := iter_succ hi17
  obtain ⟨β, rfl⟩ := has_ex hh16
  clear hh16
  replace hz20 : z_slices_BinarySearchFunc_l0 x target j0 i1 = some z19 := hz20
  unfold z_slices_BinarySearchFunc_l0 at hz20
  refine w_seqk fun _ k23 => ?_
  refine w_seqk fun _ k24 => ?_
  refine g_' ?_
  refine q_ (i_ i1) ?_
  refine q_ (i_ j0) ?_
  refine q_ (.bool (decide (i1 < j0))) ?_
  refine s_nil (k24 _ _ ?_)
  refine w_condp (i1 < j0) (by kernel_rfl) rfl (fun h25 => ?_) (fun h25 => ?_)
  ·have r26 := ite_t h25 hz20
   refine w_skip ?_
   refine k23 _ _ ?_
   refine w_block ?_
   refine w_seqk fun _ k27 => ?_
   refine g_' ?_
   refine q_ (i_ i1) ?_
   refine q_ (i_ j0) ?_
   obtain ⟨g28, r29⟩ := G_some r26
   refine s_w ((i1 + j0)) (k := .i64) (x := (i1 + j0)) (by kernel_rfl) (wrap64 g28) ?_
   obtain ⟨g30, r31⟩ := G_some r29
   refine s_w ((i1 + j0)) (k := .u64) (x := (i1 + j0)) (by kernel_rfl) (wrapu64 g30) ?_
   refine l_' (.int .u64 ((i1 + j0) / 2)) (some (.int .u64 (Int.fdiv (i1 + j0) 2))) (by rw [Int.fdiv_eq_ediv_of_nonneg _ (by decide)]) ?_
   obtain ⟨g32, r33⟩ := G_some r31
   refine s_w (((i1 + j0) / 2)) (k := .i64) (x := ((i1 + j0) / 2)) (by kernel_rfl) (wrap64 g32) ?_
   refine q_ (i_ ((i1 + j0) / 2)) ?_
   refine s_nil (k27 _ _ ?_)
   refine w_seqk fun _ k34 => ?_
   refine g_' ?_
   refine q_ (.func (.func 64) #[] #[]) ?_
   refine q_ (hd_x) ?_
   refine q_ (i_ ((i1 + j0) / 2)) ?_
   obtain ⟨g35, r36⟩ := G_some r33
   have u37 := (h_x.fr e15 Dj.nil_l)
   refine l_' (elp hd_x 3 ((i1 + j0) / 2).toNat 0) (aIndexAddr Tryz.prog 49 hd_x (i_ ((i1 + j0) / 2))) (u37.idxb (by kernel_rfl) g35.1 g35.2) ?_
   refine l_' (.agg #[i_ ((gt x ((i1 + j0) / 2)).1), .int .u64 ((gt x ((i1 + j0) / 2)).2.1), i_ ((gt x ((i1 + j0) / 2)).2.2)]) (aLoad Tryz.prog 70 (elp hd_x 3 ((i1 + j0) / 2).toNat 0) H14) (u37.ld g35.1 g35.2 (by kernel_rfl)) ?_
   refine q_ (i_ target) ?_
   obtain ⟨y38, hy39, r40⟩ := bind_some r36
   refine s_ck 64 #[.agg #[i_ ((gt x ((i1 + j0) / 2)).1), .int .u64 ((gt x ((i1 + j0) / 2)).2.1), i_ ((gt x ((i1 + j0) / 2)).2.2)], i_ target] (by kernel_rfl) (c_overlay_find_1 e15.wf hy39) ?_
   rintro _ H41 ⟨rfl, e42⟩
   refine q_ (.bool (decide (y38 < 0))) ?_
   refine s_nil (k34 _ _ ?_)
   refine w_condp (y38 < 0) (by kernel_rfl) rfl (fun h43 => ?_) (fun h43 => ?_)
   ·have r44 := ite_t h43 r40
    refine g_' ?_
    refine q_ (i_ ((i1 + j0) / 2)) ?_
    obtain ⟨g45, r46⟩ := G_some r44
    refine s_w ((((i1 + j0) / 2) + 1)) (k := .i64) (x := (((i1 + j0) / 2) + 1)) (by kernel_rfl) (wrap64 (by have := g45; omega)) ?_
    refine q_ (i_ (((i1 + j0) / 2) + 1)) ?_
    refine s_nil ?_
    obtain rfl := Option.some.inj r46
    exact k22 n18 _ _ (Nat.lt_succ_self _) ⟨j0, (((i1 + j0) / 2) + 1), hn21, ha_, (FrS.step wf (FrS.step wf (FrS.refl (W := []) wf) e15 Inn.nil) e42 Inn.nil)⟩
   have r47 := ite_f h43 r40
   refine g_' ?_
   refine q_ (i_ ((i1 + j0) / 2)) ?_
   refine q_ (i_ ((i1 + j0) / 2)) ?_
   refine s_nil ?_
   obtain rfl := Option.some.inj r47
   exact k22 n18 _ _ (Nat.lt_succ_self _) ⟨((i1 + j0) / 2), i1, hn21, ha_, (FrS.step wf (FrS.step wf (FrS.refl (W := []) wf) e15 Inn.nil) e42 Inn.nil)⟩
  have r48 := ite_f h25 hz20
  refine w_exit (th_exit (th_exit (bl_eq ?_)))
  obtain rfl := Option.some.inj r48
  obtain rfl := it_inr hn21
  exact k10 _ _ ⟨ha_, (FrS.step wf (FrS.refl (W := []) wf) e15 Inn.nil)⟩
 obtain ⟨hh11, e9⟩ := hM
 obtain ⟨β, rfl⟩ := has_ex hh11
 clear hh11
 refine k4 _ _ ?_
 refine w_seqk fun _ k49 => ?_
 refine g_' ?_
 refine q_ (i_ o5) ?_
 refine q_ (i_ o5) ?_
 refine q_ (i_ (x.length : Int)) ?_
 refine s_b (o5 < (x.length : Int)) (by kernel_rfl) (fun h50 => ?_) (fun h50 => ?_)
 ·have r51 := ite_t h50 r7
  refine q_ (.bool true) ?_
  refine q_ (.func (.func 64) #[] #[]) ?_
  refine q_ (hd_x) ?_
  refine q_ (i_ o5) ?_
  obtain ⟨g52, r53⟩ := G_some r51
  have u54 := (h_x.fr e9 Dj.nil_l)
  refine l_' (elp hd_x 3 o5.toNat 0) (aIndexAddr Tryz.prog 49 hd_x (i_ o5)) (u54.idxb (by kernel_rfl) g52 h50) ?_
  refine l_' (.agg #[i_ ((gt x o5).1), .int .u64 ((gt x o5).2.1), i_ ((gt x o5).2.2)]) (aLoad Tryz.prog 70 (elp hd_x 3 o5.toNat 0) H8) (u54.ld g52 h50 (by kernel_rfl)) ?_
  refine q_ (i_ target) ?_
  obtain ⟨y55, hy56, r57⟩ := bind_some r53
  refine s_ck 64 #[.agg #[i_ ((gt x o5).1), .int .u64 ((gt x o5).2.1), i_ ((gt x o5).2.2)], i_ target] (by kernel_rfl) (c_overlay_find_1 e9.wf hy56) ?_
  rintro _ H58 ⟨rfl, e59⟩
  refine q_ (.bool (decide (y55 = 0))) ?_
  refine q_ (.bool (decide (y55 = 0))) ?_
  refine q_ (i_ o5) ?_
  refine q_ (.bool (decide (y55 = 0))) ?_
  refine s_nil (k49 _ _ ?_)
  refine w_ret ?_
  refine b_ret (fn := Tryz.f63) (vs := [i_ o5, .bool (decide (y55 = 0))]) (aRes_tmp (by kernel_rfl) (aRes_tmp (by kernel_rfl) (rfl))) ?_
  obtain rfl := Option.some.inj r57
  exact ⟨rfl, (FrS.step wf (FrS.step wf (FrS.refl (W := []) wf) e9 Inn.nil) e59 Inn.nil)⟩
 have r60 := ite_f h50 r7
 refine q_ (.bool false) ?_
 refine n_' ?_
 refine n_' ?_
 refine n_' ?_
 refine n_' ?_
 refine n_' ?_
 refine n_' ?_
 refine n_' ?_
 refine n_' ?_
 refine q_ (.bool false) ?_
 refine q_ (i_ o5) ?_
 refine q_ (.bool false) ?_
 refine s_nil (k49 _ _ ?_)
 refine w_ret ?_
 refine b_ret (fn := Tryz.f63) (vs := [i_ o5, .bool false]) (aRes_tmp (by kernel_rfl) (aRes_tmp (by kernel_rfl) (rfl))) ?_
 obtain rfl := Option.some.inj r60
 exact ⟨rfl, (FrS.step wf (FrS.refl (W := []) wf) e9 Inn.nil)⟩

theorem c_overlay_find {H : AH} {hd_l : Value} {fp_l : Fp} {l : List (Int × Int × Int)} {v_ : Int} {r : Int × Bool}
    (wf : WF H) (h_l : Sq enc_i64_u64_i64 3 H hd_l l fp_l) (hr : z_overlay_find l v_ = some r) :
    ACalls Tryz.prog 51 #[hd_l, i_ v_] H fun v H' => v = .tuple #[i_ r.1, .bool r.2] ∧ FrS [] H H' := by
 refine acalls_of_body mixed Tryz.func51 rfl (Nat.le_of_ble_eq_true rfl) ?_
 unfold z_overlay_find at hr
 refine w_seqk fun _ k1 => ?_
 refine g_' ?_
 refine q_ (i_ 0) ?_
 refine q_ (.bool false) ?_
 refine s_nil (k1 _ _ ?_)
 refine w_seqk fun _ k2 => ?_
 refine g_' ?_
 refine q_ (hd_l) ?_
 refine q_ (i_ v_) ?_
 obtain ⟨y3, hy4, r5⟩ := bind_some hr
 refine s_ck 63 #[hd_l, i_ v_, .func (.func 64) #[] #[]] (by kernel_rfl) (c_slices_BinarySearchFunc wf h_l hy4) ?_
 rintro _ H6 ⟨rfl, e7⟩
 refine q_ (i_ y3.1) ?_
 refine q_ (.bool y3.2) ?_
 refine q_ (i_ y3.1) ?_
 refine q_ (.bool y3.2) ?_
 refine s_nil (k2 _ _ ?_)
 refine w_ret ?_
 refine b_ret (fn := Tryz.f51) (vs := [i_ y3.1, .bool y3.2]) (aRes_tmp (by kernel_rfl) (aRes_tmp (by kernel_rfl) (rfl))) ?_
 obtain rfl := Option.some.inj r5
 exact ⟨rfl, (FrS.step wf (FrS.refl (W := []) wf) e7 Inn.nil)⟩

theorem c_overlay_without {H : AH} {hd_l : Value} {fp_l : Fp} {l : List (Int × Int × Int)} {v_ : Int} {r : List (Int × Int × Int)}
    (wf : WF H) (h_l : Ow enc_i64_u64_i64 3 H hd_l l fp_l) (hr : z_overlay_without l v_ = some r) :
    ACalls Tryz.prog 37 #[hd_l, i_ v_] H fun v H' => ∃ (s3 : Value) (f4 : Fp), v = s3 ∧ FrS fp_l H H' ∧ Ow enc_i64_u64_i64 3 H' s3 r f4 ∧ Inn fp_l H f4 := by
 refine acalls_of_body mixed Tryz.func37 rfl (Nat.le_of_ble_eq_true rfl) ?_
 unfold z_overlay_without at hr
 refine w_seqk fun _ k6 => ?_
 refine g_' ?_
 refine q_ (.slice none 0 0) ?_
 refine s_nil (k6 _ _ ?_)
 refine w_seqk fun _ k7 => ?_
 refine g_' ?_
 refine q_ (hd_l) ?_
 refine q_ (i_ v_) ?_
 obtain ⟨y8, hy9, r10⟩ := bind_some hr
 refine s_ck 51 #[hd_l, i_ v_] (by kernel_rfl) (c_overlay_find wf h_l.sq hy9) ?_
 rintro _ H11 ⟨rfl, e12⟩
 refine q_ (.tuple #[i_ y8.1, .bool y8.2]) ?_
 refine q_ (i_ y8.1) ?_
 refine q_ (.bool y8.2) ?_
 refine q_ (i_ y8.1) ?_
 refine q_ (.bool y8.2) ?_
 refine s_nil (k7 _ _ ?_)
 refine w_seqk fun _ k13 => ?_
 refine w_seqk fun _ k14 => ?_
 refine g_' ?_
 refine q_ (.bool y8.2) ?_
 refine q_ (.bool (!y8.2)) ?_
 refine s_nil (k14 _ _ ?_)
 refine w_cond ((!y8.2)) (by kernel_rfl) rfl (fun h15 => ?_) (fun h15 => ?_)
 ·have r16 := ite_t h15 r10
  refine w_seqk fun _ k17 => ?_
  refine g_' ?_
  refine q_ (hd_l) ?_
  refine q_ (hd_l) ?_
  refine s_nil (k17 _ _ ?_)
  refine w_ret (th_ret ?_)
  refine b_ret (fn := Tryz.f37) (vs := [hd_l]) (aRes_tmp (by kernel_rfl) (rfl)) ?_
  have u18 := (h_l.fr e12 Dj.nil_l)
  obtain rfl := Option.some.inj r16
  exact ⟨(hd_l), fp_l, rfl, (FrS.step wf (FrS.refl (W := fp_l) wf) e12 Inn.nil), u18, Inn.refl'⟩
 have r19 := ite_bf h15 r10
 refine w_skip ?_
 refine k13 _ _ ?_
 refine w_seqk fun _ k20 => ?_
 refine g_' ?_
 refine q_ (hd_l) ?_
 refine q_ (i_ y8.1) ?_
 refine q_ (i_ y8.1) ?_
 obtain ⟨g21, r22⟩ := G_some r19
 refine s_w ((y8.1 + 1)) (k := .i64) (x := (y8.1 + 1)) (by kernel_rfl) (wrap64 g21) ?_
 have u23 := (h_l.fr e12 Dj.nil_l)
 obtain ⟨g24, r25⟩ := G_some r22
 refine s_ck 52 #[hd_l, i_ y8.1, i_ (y8.1 + 1)] (by kernel_rfl) (a_Delete e12.wf u23 g24) ?_
 rintro s26 H27 ⟨f28, e29, hm30, hf31⟩
 obtain ⟨a32, n33, c34, rfl⟩ := hm30.form
 refine q_ (.slice a32 n33 c34) ?_
 refine s_nil (k20 _ _ ?_)
 refine w_ret ?_
 refine b_ret (fn := Tryz.f37) (vs := [.slice a32 n33 c34]) (aRes_tmp (by kernel_rfl) (rfl)) ?_
 obtain rfl := Option.some.inj r25
 exact ⟨(.slice a32 n33 c34), f28, rfl, (FrS.step wf (FrS.step wf (FrS.refl (W := fp_l) wf) e12 Inn.nil) e29 Inn.refl'), hm30, (Inn.trans Inn.refl' e12.next hf31)⟩

theorem c_overlay_Overlay_Remove {H : AH} {b_o : Nat} {hd_o_ : Value} {fp_o_ : Fp} {o_ : List (Bool × List (Int × Int × Int) × List (Int × Int × Int))} {o_2 : Int} {o_3 : Int} {v_ : Int} {r : Er × List (Bool × List (Int × Int × Int) × List (Int × Int × Int)) × Int × Int}
    (wf : WF H) (h_o_ : Nd enc_i64_u64_i64 3 H hd_o_ o_ fp_o_ []) (h_o : Row H b_o [hd_o_, i_ o_2, i_ o_3]) (dj_fp_o__b_o : Dj fp_o_ [b_o]) (hr : z_overlay_Overlay_Remove o_ o_2 o_3 v_ = some r) :
    ACalls Tryz.prog 18 #[pt_ b_o 0, i_ v_] H fun v H' => ∃ (v3 : Value) (f4 : Fp) (f7 : Fp), v = v3 ∧ FrS ([b_o] ++ fp_o_) H H' ∧ Ev 72 77 H' v3 r.1 f4 ∧ Nd enc_i64_u64_i64 3 H' hd_o_ r.2.1 f7 [] ∧ Row H' b_o [hd_o_, i_ r.2.2.1, i_ r.2.2.2] ∧ Inn [] H f4 ∧ Inn fp_o_ H f7 ∧ Dj f4 f7 := by
 refine acalls_of_body mixed Tryz.func18 rfl (Nat.le_of_ble_eq_true rfl) ?_
 unfold z_overlay_Overlay_Remove at hr
 refine w_seqk fun _ k13 => ?_
 refine g_' ?_
 refine q_ (.nilIface) ?_
 refine s_nil (k13 _ _ ?_)
 refine w_seqk fun _ k14 => ?_
 refine w_seqk fun _ k15 => ?_
 refine g_' ?_
 refine q_ (pt_ b_o 0) ?_
 refine q_ (.bool false) ?_
 refine s_nil (k15 _ _ ?_)
 refine w_cond false (by kernel_rfl) rfl (fun h => by cases h) (fun _ => ?_)
 refine w_skip ?_
 refine k14 _ _ ?_
 refine w_seqk fun _ k16 => ?_
 refine w_seqk fun _ k17 => ?_
 refine g_' ?_
 refine q_ (pt_ b_o 0) ?_
 refine q_ (i_ v_) ?_
 obtain ⟨y18, hy19, r20⟩ := bind_some hr
 refine s_ck 20 #[pt_ b_o 0, i_ v_] (by kernel_rfl) (c_overlay_Overlay_Alive wf h_o_ h_o hy19) ?_
 rintro _ _ ⟨rfl, rfl⟩
 refine q_ (.bool (!y18)) ?_
 refine s_nil (k17 _ _ ?_)
 refine w_cond ((!y18)) (by kernel_rfl) rfl (fun h23 => ?_) (fun h23 => ?_)
 ·have r24 := ite_t h23 r20
  refine w_seqk fun _ k25 => ?_
  refine g_' ?_
  refine q_ (.iface 72 (i_ 7)) ?_
  refine q_ (.iface 72 (i_ 7)) ?_
  refine s_nil (k25 _ _ ?_)
  refine w_ret (th_ret ?_)
  refine b_ret (fn := Tryz.f18) (vs := [.iface 72 (i_ 7)]) (aRes_tmp (by kernel_rfl) (rfl)) ?_
  obtain rfl := Option.some.inj r24
  exact ⟨(.iface 72 (i_ 7)), [], fp_o_, rfl, (FrS.refl (W := ([b_o] ++ fp_o_)) wf), Ev.no, h_o_, h_o, Inn.nil, Inn.refl', Dj.nil_l⟩
 have r26 := ite_bf h23 r20
 refine w_skip ?_
 refine k16 _ _ ?_
 refine w_seqk fun _ k27 => ?_
 refine g_' ?_
 refine q_ (pt_ b_o 0) ?_
 refine q_ (pt_ b_o 0) ?_
 refine q_ (pt_ b_o 0) ?_
 refine l_' (hd_o_) (aLoad Tryz.prog 65 (pt_ b_o 0) H) (h_o.ld (by kernel_rfl)) ?_
 refine q_ (i_ v_) ?_
 obtain ⟨g28, r29⟩ := G_some r26
 refine l_' (elp hd_o_ 3 v_.toNat 0) (aIndexAddr Tryz.prog 65 hd_o_ (i_ v_)) (h_o_.idxb (by kernel_rfl) g28.1 g28.2) ?_
 obtain ⟨u30, u31, f32, g33, g34, hl35, hm36, ho37, ho38, d39, d40, d41, hs42, hs43, hs44⟩ := Nd.open2 h_o_ g28.1 g28.2
 have w45 := Inn.sub' (H := H) hs42
 have w46 := Inn.sub' (H := H) hs43
 have w47 := Inn.sub' (H := H) hs44
 obtain ⟨a48, n49, c50, rfl⟩ := ho37.form
 obtain ⟨a51, n52, c53, rfl⟩ := ho38.form
 refine l_' (.agg #[.bool ((gt o_ v_).1), .slice a48 n49 c50, .slice a51 n52 c53]) (aLoad Tryz.prog 69 (elp hd_o_ 3 v_.toNat 0) H) (hl35 _ _ _ (by kernel_rfl)) ?_
 refine s_rwk wf [.bool false, .slice none 0 0, .slice none 0 0] (by kernel_rfl) fun b56 H57 e58 hb59 r60 => ?_
 have u66 := (ho38.ext e58)
 have u67 := (ho37.ext e58)
 obtain ⟨H62, q63, e64, r65⟩ := Row.store (P := Tryz.prog) (t := 69) (p := 0) e58.wf r60 (.agg #[.bool ((gt o_ v_).1), .slice a48 n49 c50, .slice a51 n52 c53]) [.bool ((gt o_ v_).1), .slice a48 n49 c50, .slice a51 n52 c53] (by kernel_rfl) (by kernel_rfl) (one_cons (rfl) (one_cons (u67.one1) (one_cons (u66.one1) (one_nil)))) (Nat.le_of_ble_eq_true (by kernel_rfl)) [.bool ((gt o_ v_).1), .slice a48 n49 c50, .slice a51 n52 c53] (by kernel_rfl)
 refine s_ek (undef) (by kernel_rfl) (map_ok q63) ?_
 refine s_nil (k27 _ _ ?_)
 refine w_seqk fun _ k68 => ?_
 refine w_seqk fun _ k69 => ?_
 refine g_' ?_
 refine q_ (pt_ b56 1) ?_
 refine l_' (.slice a48 n49 c50) (aLoad Tryz.prog 49 (pt_ b56 1) H62) (r65.ld (by kernel_rfl)) ?_
 have u70 := (u67.fr e64 (hb59.djn ho37.lt))
 refine l_' (i_ (((gt o_ v_).2.1).length : Int)) (aLen Tryz.prog 49 (.slice a48 n49 c50) H62) (u70.sq.lenb (by kernel_rfl)) ?_
 refine q_ (i_ 0) ?_
 refine s_nil (k69 _ _ ?_)
 obtain ⟨o71, hx72, r73⟩ := bind_some r29
 refine w_mid (fun α H74 => ∃ (f78 : Fp), Has α [(0, pt_ b_o 0), (1, i_ v_), (5, pt_ b56 0)] ∧ FrS f32 H62 H74 ∧ Nd enc_i64_u64_i64 3 H74 hd_o_ o71 f78 [(v_.toNat, true), (v_.toNat, false)] ∧ Inn f32 H62 f78) (fun _ k80 => ?_) (fun α H74 hM => ?_)
 ·refine w_block ?_
  obtain ⟨n82, hn83⟩ := loopO_iff.1 hx72
  have u96 := ((hm36.ext e58).fr e64 (hb59.djn hm36.lt))
  refine w_loopn (fun n α H84 => ∃ (o0 : List (Bool × List (Int × Int × Int) × List (Int × Int × Int))), ∃ (i1 : Int), ∃ (f88 : Fp), iterO (fun zz_ => z_overlay_Overlay_Remove_l0 o_ v_ zz_.1 zz_.2) n (o0, i1) = some o71 ∧ Has α [(0, pt_ b_o 0), (1, i_ v_), (5, pt_ b56 0), (26, .slice a48 n49 c50), (27, i_ (((gt o_ v_).2.1).length : Int)), (28, i_ i1)] ∧ FrS f32 H62 H84 ∧ Nd enc_i64_u64_i64 3 H84 hd_o_ o0 f88 [(v_.toNat, true), (v_.toNat, false)] ∧ Inn f32 H62 f88) n82 ⟨o_, 0, f32, hn83, ha_, (FrS.refl (W := f32) e64.wf), u96, Inn.refl'⟩ ?_
  rintro n82 α H84 ⟨o0, i1, f88, hi91, hh90, e85, m87, i89⟩ K97 k97
  obtain ⟨n92, z93, rfl, hz94, hn95⟩ := iter_succ hi91
  obtain ⟨β, rfl⟩ := has_ex hh90
  clear hh90
  replace hz94 : z_overlay_Overlay_Remove_l0 o_ v_ o0 i1 = some z93 := hz94
  unfold z_overlay_Overlay_Remove_l0 at hz94
  refine w_seqk fun _ k98 => ?_
  refine g_' ?_
  refine q_ (.bool (decide (i1 < (((gt o_ v_).2.1).length : Int)))) ?_
  refine s_nil (k98 _ _ ?_)
  refine w_seqk fun _ k99 => ?_
  refine w_condp (i1 < (((gt o_ v_).2.1).length : Int)) (by kernel_rfl) rfl (fun h100 => ?_) (fun h100 => ?_)
  ·have r101 := ite_t h100 hz94
   refine w_skip ?_
   refine k99 _ _ ?_
   refine w_seqk fun _ k102 => ?_
   refine w_block ?_
   refine w_seqk fun _ k103 => ?_
   refine g_' ?_
   obtain ⟨g104, r105⟩ := G_some r101
   have u106 := (u70.fr e85 d39)
   refine l_' (elp (.slice a48 n49 c50) 3 i1.toNat 0) (aIndexAddr Tryz.prog 49 (.slice a48 n49 c50) (i_ i1)) (u106.sq.idxb (by kernel_rfl) g104 h100) ?_
   refine l_' (.agg #[i_ ((gt ((gt o_ v_).2.1) i1).1), .int .u64 ((gt ((gt o_ v_).2.1) i1).2.1), i_ ((gt ((gt o_ v_).2.1) i1).2.2)]) (aLoad Tryz.prog 70 (elp (.slice a48 n49 c50) 3 i1.toNat 0) H84) (u106.sq.ld g104 h100 (by kernel_rfl)) ?_
   refine s_rwk e85.wf [i_ 0, .int .u64 0, i_ 0] (by kernel_rfl) fun b107 H108 e109 hb110 r111 => ?_
   obtain ⟨H113, q114, e115, r116⟩ := Row.store (P := Tryz.prog) (t := 70) (p := 0) e109.wf r111 (.agg #[i_ ((gt ((gt o_ v_).2.1) i1).1), .int .u64 ((gt ((gt o_ v_).2.1) i1).2.1), i_ ((gt ((gt o_ v_).2.1) i1).2.2)]) [i_ ((gt ((gt o_ v_).2.1) i1).1), .int .u64 ((gt ((gt o_ v_).2.1) i1).2.1), i_ ((gt ((gt o_ v_).2.1) i1).2.2)] (by kernel_rfl) (by kernel_rfl) (one_cons (rfl) (one_cons (rfl) (one_cons (rfl) (one_nil)))) (Nat.le_of_ble_eq_true (by kernel_rfl)) [i_ ((gt ((gt o_ v_).2.1) i1).1), .int .u64 ((gt ((gt o_ v_).2.1) i1).2.1), i_ ((gt ((gt o_ v_).2.1) i1).2.2)] (by kernel_rfl)
   refine s_ek (undef) (by kernel_rfl) (map_ok q114) ?_
   refine s_nil (k103 _ _ ?_)
   refine w_draw [0, 1, 2, 3, 4, 5, 6, 7, 8, 9, 10, 11, 12, 13, 14, 15, 16, 17, 18, 19] (by kernel_rfl) ?_
   refine e_' (pt_ b_o 0) ?_
   refine e_' (pt_ b_o 0) ?_
   refine e_' (pt_ b_o 0) ?_
   have u117 := (((((h_o.ext e58).frS e64 (hb59.djn h_o.ltF)).frS e85 (w45.dj dj_fp_o__b_o h_o.ltF)).ext e109).frS e115 (hb110.djn (h_o.ltF.le (ntr (ntr e58.next e64.next) e85.next))))
   refine d_fl (hd_o_) (x := aLoad Tryz.prog 65 (pt_ b_o 0) H113) (by kernel_rfl) (u117.ld (by kernel_rfl)) ?_
   refine e_' (pt_ b107 0) ?_
   refine d_fl (i_ ((gt ((gt o_ v_).2.1) i1).1)) (x := aLoad Tryz.prog 3 (pt_ b107 0) H113) (by kernel_rfl) (r116.ld (by kernel_rfl)) ?_
   refine e_' (pt_ b_o 0) ?_
   refine e_' (pt_ b_o 0) ?_
   refine e_' (pt_ b_o 0) ?_
   refine m_' (hd_o_) (aLoad Tryz.prog 65 (pt_ b_o 0) H113) (u117.ld (by kernel_rfl)) ?_
   refine e_' (pt_ b107 0) ?_
   refine m_' (i_ ((gt ((gt o_ v_).2.1) i1).1)) (aLoad Tryz.prog 3 (pt_ b107 0) H113) (r116.ld (by kernel_rfl)) ?_
   obtain ⟨g118, r119⟩ := G_some r105
   have u120 := ((m87.ext e109).fr e115 (hb110.djn m87.lt))
   refine m_' (elp hd_o_ 3 ((gt ((gt o_ v_).2.1) i1).1).toNat 0) (aIndexAddr Tryz.prog 65 hd_o_ (i_ ((gt ((gt o_ v_).2.1) i1).1))) (u120.idxb (by kernel_rfl) g118.1 g118.2) ?_
   refine m_' (elp hd_o_ 3 ((gt ((gt o_ v_).2.1) i1).1).toNat 2) (aFieldAddr Tryz.prog 69 (elp hd_o_ 3 ((gt ((gt o_ v_).2.1) i1).1).toNat 0) 2) (Nd.fldq (d := 2) u120 g118.1 g118.2 (by kernel_rfl)) ?_
   obtain ⟨g125, r126⟩ := G_some r119
   obtain ⟨u121, u122, hl123, hk124⟩ := Nd.at u120 g118.1 g118.2
   have kd127 : KdS enc_i64_u64_i64 3 H113 u122 ((gt o0 ((gt ((gt o_ v_).2.1) i1).1)).2.2) f88 hd_o_ 3 ((gt ((gt o_ v_).2.1) i1).1).toNat 2 := hk124 true (by have := g125; have := g118.1; have := g28.1; simp; omega)
   obtain ⟨a128, n129, c130, rfl⟩ := kd127.sq.form
   refine m_' (.slice a128 n129 c130) (aLoad Tryz.prog 49 (elp hd_o_ 3 ((gt ((gt o_ v_).2.1) i1).1).toNat 2) H113) (hl123 _ _ _ _ (by kernel_rfl)) ?_
   refine e_' (i_ v_) ?_
   obtain ⟨f132, f133, hh134, ho135, d136, hs137, hs138⟩ := Nd.borrow true u120 g118.1 g118.2 (by have := g125; have := g118.1; have := g28.1; simp; omega) kd127 rfl
   have w139 := Inn.sub' (H := H113) hs137
   have w140 := Inn.sub' (H := H113) hs138
   have hh134 : Nd enc_i64_u64_i64 3 H113 hd_o_ o0 f132 [(((gt ((gt o_ v_).2.1) i1).1).toNat, true), (v_.toNat, true), (v_.toNat, false)] := hh134
   obtain ⟨y141, hy142, r143⟩ := bind_some r126
   refine d_ck 37 #[.slice a128 n129 c130, i_ v_] (by kernel_rfl) (c_overlay_without e115.wf ho135 hy142) ?_
   rintro s144 H146 ⟨_, f145, rfl, e147, m148, i149⟩
   obtain ⟨a151, n152, c153, rfl⟩ := m148.form
   have u154 := (u117.frS e147 (w140.dj (i89.dj (w45.dj dj_fp_o__b_o h_o.ltF) (h_o.ltF.le (ntr e58.next e64.next))) (h_o.ltF.le (ntr (ntr (ntr (ntr e58.next e64.next) e85.next) e109.next) e115.next))))
   have u155 := (r116.frS e147 (w140.dj (Dj.symm (hb110.djn m87.lt)) (r111.ltF.le e115.next)))
   refine ⟨st_ql (y := aLoad Tryz.prog 3 (pt_ b107 0) H146) (by kernel_rfl) (u155.ld (by kernel_rfl)) (st_ql (y := aLoad Tryz.prog 65 (pt_ b_o 0) H146) (by kernel_rfl) (u154.ld (by kernel_rfl)) (st_nil)), ?_⟩
   have u156 := (hh134.fr e147 (Dj.symm d136))
   refine m_' (elp hd_o_ 3 ((gt ((gt o_ v_).2.1) i1).1).toNat 0) (aIndexAddr Tryz.prog 65 hd_o_ (i_ ((gt ((gt o_ v_).2.1) i1).1))) (u156.idxb (by kernel_rfl) g118.1 g118.2) ?_
   refine m_' (elp hd_o_ 3 ((gt ((gt o_ v_).2.1) i1).1).toNat 2) (aFieldAddr Tryz.prog 69 (elp hd_o_ 3 ((gt ((gt o_ v_).2.1) i1).1).toNat 0) 2) (Nd.fldq (d := 2) u156 g118.1 g118.2 (by kernel_rfl)) ?_
   obtain ⟨H157, f158, q159, e160, hm161, hf162⟩ := Nd.close (P := Tryz.prog) (t := 49) true e147.wf u156 m148 (Dj.symm (i149.dj (Dj.symm d136) hh134.lt)) g118.1 g118.2 (by kernel_rfl) (by kernel_rfl) (by kernel_rfl)
   have hm161 : Nd enc_i64_u64_i64 3 H157 hd_o_ (o0.set ((gt ((gt o_ v_).2.1) i1).1).toNat ((gt o0 ((gt ((gt o_ v_).2.1) i1).1)).1, (gt o0 ((gt ((gt o_ v_).2.1) i1).1)).2.1, y141)) f158 [(v_.toNat, true), (v_.toNat, false)] := hm161
   have w163 := hf162.grow3 (Inn.trans Inn.refl' (Nat.le_refl _) w139) (Inn.trans (Inn.trans Inn.refl' (Nat.le_refl _) w140) (Nat.le_refl _) i149) e147.next
   refine d_ek (undef) (by kernel_rfl) (map_ok q159) (st_anc (by kernel_rfl) (st_anc (by kernel_rfl) (st_nil))) ?_
   refine d_nil ?_
   refine k102 _ _ ?_
   refine g_' ?_
   obtain ⟨g164, r165⟩ := G_some r143
   refine s_w ((i1 + 1)) (k := .i64) (x := (i1 + 1)) (by kernel_rfl) (wrap64 (by have := g164; omega)) ?_
   refine q_ (i_ (i1 + 1)) ?_
   refine s_nil ?_
   obtain rfl := Option.some.inj r165
   exact k97 n92 _ _ (Nat.lt_succ_self _) ⟨(o0.set ((gt ((gt o_ v_).2.1) i1).1).toNat ((gt o0 ((gt ((gt o_ v_).2.1) i1).1)).1, (gt o0 ((gt ((gt o_ v_).2.1) i1).1)).2.1, y141)), (i1 + 1), f158, hn95, ha_, (FrS.step e64.wf (FrS.step e64.wf (FrS.step e64.wf ((FrS.step e64.wf (FrS.refl (W := f32) e64.wf) e85 Inn.refl').extR e109) e115 (hb110.fresh e85.next)) e147 (Inn.trans (Inn.trans Inn.refl' (Nat.le_refl _) i89) (ntr (ntr e85.next e109.next) e115.next) w140)) e160 (Inn.trans (Inn.trans Inn.refl' (Nat.le_refl _) i89) (ntr (ntr e85.next e109.next) e115.next) w139)), hm161, (Inn.trans (Inn.trans Inn.refl' (Nat.le_refl _) i89) (ntr (ntr e85.next e109.next) e115.next) w163)⟩
  have r166 := ite_f h100 hz94
  refine w_exit (th_exit (th_exit (bl_eq ?_)))
  obtain rfl := Option.some.inj r166
  obtain rfl := it_inr hn95
  exact k80 _ _ ⟨f88, ha_, (FrS.step e64.wf (FrS.refl (W := f32) e64.wf) e85 Inn.refl'), m87, (Inn.trans Inn.refl' (Nat.le_refl _) i89)⟩
 obtain ⟨f78, hh81, e75, m77, i79⟩ := hM
 obtain ⟨β, rfl⟩ := has_ex hh81
 clear hh81
 refine k68 _ _ ?_
 refine w_seqk fun _ k167 => ?_
 refine w_seqk fun _ k168 => ?_
 refine g_' ?_
 refine q_ (pt_ b56 2) ?_
 have u169 := (r65.frS e75 (Dj.symm (hb59.djn hm36.lt)))
 refine l_' (.slice a51 n52 c53) (aLoad Tryz.prog 49 (pt_ b56 2) H74) (u169.ld (by kernel_rfl)) ?_
 have u170 := ((u66.fr e64 (hb59.djn ho38.lt)).fr e75 d40)
 refine l_' (i_ (((gt o_ v_).2.2).length : Int)) (aLen Tryz.prog 49 (.slice a51 n52 c53) H74) (u170.sq.lenb (by kernel_rfl)) ?_
 refine q_ (i_ 0) ?_
 refine s_nil (k168 _ _ ?_)
 obtain ⟨o171, hx172, r173⟩ := bind_some r73
 refine w_mid (fun α H174 => ∃ (f178 : Fp), Has α [(0, pt_ b_o 0), (1, i_ v_), (5, pt_ b56 0)] ∧ FrS f78 H74 H174 ∧ Nd enc_i64_u64_i64 3 H174 hd_o_ o171 f178 [(v_.toNat, true), (v_.toNat, false)] ∧ Inn f78 H74 f178) (fun _ k180 => ?_) (fun α H174 hM => ?_)
 ·refine w_block ?_
  obtain ⟨n182, hn183⟩ := loopO_iff.1 hx172
  refine w_loopn (fun n α H184 => ∃ (o2 : List (Bool × List (Int × Int × Int) × List (Int × Int × Int))), ∃ (i3 : Int), ∃ (f188 : Fp), iterO (fun zz_ => z_overlay_Overlay_Remove_l1 o_ v_ zz_.1 zz_.2) n (o2, i3) = some o171 ∧ Has α [(0, pt_ b_o 0), (1, i_ v_), (5, pt_ b56 0), (53, .slice a51 n52 c53), (54, i_ (((gt o_ v_).2.2).length : Int)), (55, i_ i3)] ∧ FrS f78 H74 H184 ∧ Nd enc_i64_u64_i64 3 H184 hd_o_ o2 f188 [(v_.toNat, true), (v_.toNat, false)] ∧ Inn f78 H74 f188) n182 ⟨o71, 0, f78, hn183, ha_, (FrS.refl (W := f78) e75.wf), m77, Inn.refl'⟩ ?_
  rintro n182 α H184 ⟨o2, i3, f188, hi191, hh190, e185, m187, i189⟩ K196 k196
  obtain ⟨n192, z193, rfl, hz194, hn195⟩ := iter_succ hi191
  obtain ⟨β, rfl⟩ := has_ex hh190
  clear hh190
  replace hz194 : z_overlay_Overlay_Remove_l1 o_ v_ o2 i3 = some z193 := hz194
  unfold z_overlay_Overlay_Remove_l1 at hz194
  refine w_seqk fun _ k197 => ?_
  refine g_' ?_
  refine q_ (.bool (decide (i3 < (((gt o_ v_).2.2).length : Int)))) ?_
  refine s_nil (k197 _ _ ?_)
  refine w_seqk fun _ k198 => ?_
  refine w_condp (i3 < (((gt o_ v_).2.2).length : Int)) (by kernel_rfl) rfl (fun h199 => ?_) (fun h199 => ?_)
  ·have r200 := ite_t h199 hz194
   refine w_skip ?_
   refine k198 _ _ ?_
   refine w_seqk fun _ k201 => ?_
   refine w_block ?_
   refine w_seqk fun _ k202 => ?_
   refine g_' ?_
   obtain ⟨g203, r204⟩ := G_some r200
   have u205 := (u170.fr e185 (i79.dj d40 (ho38.lt.le (ntr e58.next e64.next))))
   refine l_' (elp (.slice a51 n52 c53) 3 i3.toNat 0) (aIndexAddr Tryz.prog 49 (.slice a51 n52 c53) (i_ i3)) (u205.sq.idxb (by kernel_rfl) g203 h199) ?_
   refine l_' (.agg #[i_ ((gt ((gt o_ v_).2.2) i3).1), .int .u64 ((gt ((gt o_ v_).2.2) i3).2.1), i_ ((gt ((gt o_ v_).2.2) i3).2.2)]) (aLoad Tryz.prog 70 (elp (.slice a51 n52 c53) 3 i3.toNat 0) H184) (u205.sq.ld g203 h199 (by kernel_rfl)) ?_
   refine s_rwk e185.wf [i_ 0, .int .u64 0, i_ 0] (by kernel_rfl) fun b206 H207 e208 hb209 r210 => ?_
   obtain ⟨H212, q213, e214, r215⟩ := Row.store (P := Tryz.prog) (t := 70) (p := 0) e208.wf r210 (.agg #[i_ ((gt ((gt o_ v_).2.2) i3).1), .int .u64 ((gt ((gt o_ v_).2.2) i3).2.1), i_ ((gt ((gt o_ v_).2.2) i3).2.2)]) [i_ ((gt ((gt o_ v_).2.2) i3).1), .int .u64 ((gt ((gt o_ v_).2.2) i3).2.1), i_ ((gt ((gt o_ v_).2.2) i3).2.2)] (by kernel_rfl) (by kernel_rfl) (one_cons (rfl) (one_cons (rfl) (one_cons (rfl) (one_nil)))) (Nat.le_of_ble_eq_true (by kernel_rfl)) [i_ ((gt ((gt o_ v_).2.2) i3).1), .int .u64 ((gt ((gt o_ v_).2.2) i3).2.1), i_ ((gt ((gt o_ v_).2.2) i3).2.2)] (by kernel_rfl)
   refine s_ek (undef) (by kernel_rfl) (map_ok q213) ?_
   refine s_nil (k202 _ _ ?_)
   refine w_draw [0, 1, 2, 3, 4, 5, 6, 7, 8, 9, 10, 11, 12, 13, 14, 15, 16, 17, 18, 19] (by kernel_rfl) ?_
   refine e_' (pt_ b_o 0) ?_
   refine e_' (pt_ b_o 0) ?_
   refine e_' (pt_ b_o 0) ?_
   have u216 := ((((((h_o.ext e58).frS e64 (hb59.djn h_o.ltF)).frS e75 (w45.dj dj_fp_o__b_o h_o.ltF)).frS e185 (i79.dj (w45.dj dj_fp_o__b_o h_o.ltF) (h_o.ltF.le (ntr e58.next e64.next)))).ext e208).frS e214 (hb209.djn (h_o.ltF.le (ntr (ntr (ntr e58.next e64.next) e75.next) e185.next))))
   refine d_fl (hd_o_) (x := aLoad Tryz.prog 65 (pt_ b_o 0) H212) (by kernel_rfl) (u216.ld (by kernel_rfl)) ?_
   refine e_' (pt_ b206 0) ?_
   refine d_fl (i_ ((gt ((gt o_ v_).2.2) i3).1)) (x := aLoad Tryz.prog 3 (pt_ b206 0) H212) (by kernel_rfl) (r215.ld (by kernel_rfl)) ?_
   refine e_' (pt_ b_o 0) ?_
   refine e_' (pt_ b_o 0) ?_
   refine e_' (pt_ b_o 0) ?_
   refine m_' (hd_o_) (aLoad Tryz.prog 65 (pt_ b_o 0) H212) (u216.ld (by kernel_rfl)) ?_
   refine e_' (pt_ b206 0) ?_
   refine m_' (i_ ((gt ((gt o_ v_).2.2) i3).1)) (aLoad Tryz.prog 3 (pt_ b206 0) H212) (r215.ld (by kernel_rfl)) ?_
   obtain ⟨g217, r218⟩ := G_some r204
   have u219 := ((m187.ext e208).fr e214 (hb209.djn m187.lt))
   refine m_' (elp hd_o_ 3 ((gt ((gt o_ v_).2.2) i3).1).toNat 0) (aIndexAddr Tryz.prog 65 hd_o_ (i_ ((gt ((gt o_ v_).2.2) i3).1))) (u219.idxb (by kernel_rfl) g217.1 g217.2) ?_
   refine m_' (elp hd_o_ 3 ((gt ((gt o_ v_).2.2) i3).1).toNat 1) (aFieldAddr Tryz.prog 69 (elp hd_o_ 3 ((gt ((gt o_ v_).2.2) i3).1).toNat 0) 1) (Nd.fldq (d := 1) u219 g217.1 g217.2 (by kernel_rfl)) ?_
   obtain ⟨g224, r225⟩ := G_some r218
   obtain ⟨u220, u221, hl222, hk223⟩ := Nd.at u219 g217.1 g217.2
   have kd226 : KdS enc_i64_u64_i64 3 H212 u220 ((gt o2 ((gt ((gt o_ v_).2.2) i3).1)).2.1) f188 hd_o_ 3 ((gt ((gt o_ v_).2.2) i3).1).toNat 1 := hk223 false (by have := g224; have := g217.1; have := g28.1; simp; omega)
   obtain ⟨a227, n228, c229, rfl⟩ := kd226.sq.form
   refine m_' (.slice a227 n228 c229) (aLoad Tryz.prog 49 (elp hd_o_ 3 ((gt ((gt o_ v_).2.2) i3).1).toNat 1) H212) (hl222 _ _ _ _ (by kernel_rfl)) ?_
   refine e_' (i_ v_) ?_
   obtain ⟨f231, f232, hh233, ho234, d235, hs236, hs237⟩ := Nd.borrow false u219 g217.1 g217.2 (by have := g224; have := g217.1; have := g28.1; simp; omega) kd226 rfl
   have w238 := Inn.sub' (H := H212) hs236
   have w239 := Inn.sub' (H := H212) hs237
   have hh233 : Nd enc_i64_u64_i64 3 H212 hd_o_ o2 f231 [(((gt ((gt o_ v_).2.2) i3).1).toNat, false), (v_.toNat, true), (v_.toNat, false)] := hh233
   obtain ⟨y240, hy241, r242⟩ := bind_some r225
   refine d_ck 37 #[.slice a227 n228 c229, i_ v_] (by kernel_rfl) (c_overlay_without e214.wf ho234 hy241) ?_
   rintro s243 H245 ⟨_, f244, rfl, e246, m247, i248⟩
   obtain ⟨a250, n251, c252, rfl⟩ := m247.form
   have u253 := (u216.frS e246 (w239.dj (i189.dj (i79.dj (w45.dj dj_fp_o__b_o h_o.ltF) (h_o.ltF.le (ntr e58.next e64.next))) (h_o.ltF.le (ntr (ntr e58.next e64.next) e75.next))) (h_o.ltF.le (ntr (ntr (ntr (ntr (ntr e58.next e64.next) e75.next) e185.next) e208.next) e214.next))))
   have u254 := (r215.frS e246 (w239.dj (Dj.symm (hb209.djn m187.lt)) (r210.ltF.le e214.next)))
   refine ⟨st_ql (y := aLoad Tryz.prog 3 (pt_ b206 0) H245) (by kernel_rfl) (u254.ld (by kernel_rfl)) (st_ql (y := aLoad Tryz.prog 65 (pt_ b_o 0) H245) (by kernel_rfl) (u253.ld (by kernel_rfl)) (st_nil)), ?_⟩
   have u255 := (hh233.fr e246 (Dj.symm d235))
   refine m_' (elp hd_o_ 3 ((gt ((gt o_ v_).2.2) i3).1).toNat 0) (aIndexAddr Tryz.prog 65 hd_o_ (i_ ((gt ((gt o_ v_).2.2) i3).1))) (u255.idxb (by kernel_rfl) g217.1 g217.2) ?_
   refine m_' (elp hd_o_ 3 ((gt ((gt o_ v_).2.2) i3).1).toNat 1) (aFieldAddr Tryz.prog 69 (elp hd_o_ 3 ((gt ((gt o_ v_).2.2) i3).1).toNat 0) 1) (Nd.fldq (d := 1) u255 g217.1 g217.2 (by kernel_rfl)) ?_
   obtain ⟨H256, f257, q258, e259, hm260, hf261⟩ := Nd.close (P := Tryz.prog) (t := 49) false e246.wf u255 m247 (Dj.symm (i248.dj (Dj.symm d235) hh233.lt)) g217.1 g217.2 (by kernel_rfl) (by kernel_rfl) (by kernel_rfl)
   have hm260 : Nd enc_i64_u64_i64 3 H256 hd_o_ (o2.set ((gt ((gt o_ v_).2.2) i3).1).toNat ((gt o2 ((gt ((gt o_ v_).2.2) i3).1)).1, y240, (gt o2 ((gt ((gt o_ v_).2.2) i3).1)).2.2)) f257 [(v_.toNat, true), (v_.toNat, false)] := hm260
   have w262 := hf261.grow3 (Inn.trans Inn.refl' (Nat.le_refl _) w238) (Inn.trans (Inn.trans Inn.refl' (Nat.le_refl _) w239) (Nat.le_refl _) i248) e246.next
   refine d_ek (undef) (by kernel_rfl) (map_ok q258) (st_anc (by kernel_rfl) (st_anc (by kernel_rfl) (st_nil))) ?_
   refine d_nil ?_
   refine k201 _ _ ?_
   refine g_' ?_
   obtain ⟨g263, r264⟩ := G_some r242
   refine s_w ((i3 + 1)) (k := .i64) (x := (i3 + 1)) (by kernel_rfl) (wrap64 (by have := g263; omega)) ?_
   refine q_ (i_ (i3 + 1)) ?_
   refine s_nil ?_
   obtain rfl := Option.some.inj r264
   exact k196 n192 _ _ (Nat.lt_succ_self _) ⟨(o2.set ((gt ((gt o_ v_).2.2) i3).1).toNat ((gt o2 ((gt ((gt o_ v_).2.2) i3).1)).1, y240, (gt o2 ((gt ((gt o_ v_).2.2) i3).1)).2.2)), (i3 + 1), f257, hn195, ha_, (FrS.step e75.wf (FrS.step e75.wf (FrS.step e75.wf ((FrS.step e75.wf (FrS.refl (W := f78) e75.wf) e185 Inn.refl').extR e208) e214 (hb209.fresh e185.next)) e246 (Inn.trans (Inn.trans Inn.refl' (Nat.le_refl _) i189) (ntr (ntr e185.next e208.next) e214.next) w239)) e259 (Inn.trans (Inn.trans Inn.refl' (Nat.le_refl _) i189) (ntr (ntr e185.next e208.next) e214.next) w238)), hm260, (Inn.trans (Inn.trans Inn.refl' (Nat.le_refl _) i189) (ntr (ntr e185.next e208.next) e214.next) w262)⟩
  have r265 := ite_f h199 hz194
  refine w_exit (th_exit (th_exit (bl_eq ?_)))
  obtain rfl := Option.some.inj r265
  obtain rfl := it_inr hn195
  exact k180 _ _ ⟨f188, ha_, (FrS.step e75.wf (FrS.refl (W := f78) e75.wf) e185 Inn.refl'), m187, (Inn.trans Inn.refl' (Nat.le_refl _) i189)⟩
 obtain ⟨f178, hh181, e175, m177, i179⟩ := hM
 obtain ⟨β, rfl⟩ := has_ex hh181
 clear hh181
 refine k167 _ _ ?_
 refine w_seqk fun _ k266 => ?_
 refine w_draw [0, 1, 2, 3, 4, 5, 6, 7, 8, 9, 10, 11, 12, 13, 14] (by kernel_rfl) ?_
 refine e_' (pt_ b_o 0) ?_
 refine e_' (pt_ b_o 0) ?_
 refine e_' (pt_ b_o 2) ?_
 have u267 := ((((h_o.ext e58).frS e64 (hb59.djn h_o.ltF)).frS e75 (w45.dj dj_fp_o__b_o h_o.ltF)).frS e175 (i79.dj (w45.dj dj_fp_o__b_o h_o.ltF) (h_o.ltF.le (ntr e58.next e64.next))))
 refine m_' (i_ o_3) (aLoad Tryz.prog 3 (pt_ b_o 2) H174) (u267.ld (by kernel_rfl)) ?_
 refine e_' (pt_ b56 1) ?_
 have u268 := (u169.frS e175 (i79.dj (Dj.symm (hb59.djn hm36.lt)) (r60.ltF.le e64.next)))
 refine m_' (.slice a48 n49 c50) (aLoad Tryz.prog 49 (pt_ b56 1) H174) (u268.ld (by kernel_rfl)) ?_
 have u269 := ((u70.fr e75 d39).fr e175 (i79.dj d39 (ho37.lt.le (ntr e58.next e64.next))))
 refine m_' (i_ (((gt o_ v_).2.1).length : Int)) (aLen Tryz.prog 49 (.slice a48 n49 c50) H174) (u269.sq.lenb (by kernel_rfl)) ?_
 refine e_' (pt_ b56 2) ?_
 refine m_' (.slice a51 n52 c53) (aLoad Tryz.prog 49 (pt_ b56 2) H174) (u268.ld (by kernel_rfl)) ?_
 have u270 := (u170.fr e175 (i79.dj d40 (ho38.lt.le (ntr e58.next e64.next))))
 refine m_' (i_ (((gt o_ v_).2.2).length : Int)) (aLen Tryz.prog 49 (.slice a51 n52 c53) H174) (u270.sq.lenb (by kernel_rfl)) ?_
 obtain ⟨g271, r272⟩ := G_some r173
 refine d_w (((((gt o_ v_).2.1).length : Int) + (((gt o_ v_).2.2).length : Int))) (k := .i64) (x := ((((gt o_ v_).2.1).length : Int) + (((gt o_ v_).2.2).length : Int))) (by kernel_rfl) (wrap64 g271) ?_
 obtain ⟨g273, r274⟩ := G_some r272
 refine d_w ((o_3 - ((((gt o_ v_).2.1).length : Int) + (((gt o_ v_).2.2).length : Int)))) (k := .i64) (x := (o_3 - ((((gt o_ v_).2.1).length : Int) + (((gt o_ v_).2.2).length : Int)))) (by kernel_rfl) (wrap64 g273) ?_
 refine e_' (pt_ b_o 0) ?_
 refine e_' (pt_ b_o 2) ?_
 obtain ⟨H275, q276, e277, r278⟩ := Row.store (P := Tryz.prog) (t := 3) (p := 2) e175.wf u267 (i_ (o_3 - ((((gt o_ v_).2.1).length : Int) + (((gt o_ v_).2.2).length : Int)))) [i_ (o_3 - ((((gt o_ v_).2.1).length : Int) + (((gt o_ v_).2.2).length : Int)))] (by kernel_rfl) (by kernel_rfl) (one_cons (rfl) (one_nil)) (Nat.le_of_ble_eq_true (by kernel_rfl)) [hd_o_, i_ o_2, i_ (o_3 - ((((gt o_ v_).2.1).length : Int) + (((gt o_ v_).2.2).length : Int)))] (by kernel_rfl)
 refine d_ek (undef) (by kernel_rfl) (map_ok q276) (st_nil) ?_
 refine d_nil ?_
 refine k266 _ _ ?_
 refine w_seqk fun _ k279 => ?_
 refine g_' ?_
 refine q_ (pt_ b_o 0) ?_
 refine q_ (pt_ b_o 0) ?_
 refine q_ (pt_ b_o 1) ?_
 refine l_' (i_ o_2) (aLoad Tryz.prog 3 (pt_ b_o 1) H275) (r278.ld (by kernel_rfl)) ?_
 obtain ⟨g280, r281⟩ := G_some r274
 refine s_w ((o_2 - 1)) (k := .i64) (x := (o_2 - 1)) (by kernel_rfl) (wrap64 g280) ?_
 refine q_ (pt_ b_o 0) ?_
 refine q_ (pt_ b_o 1) ?_
 obtain ⟨H282, q283, e284, r285⟩ := Row.store (P := Tryz.prog) (t := 3) (p := 1) e277.wf r278 (i_ (o_2 - 1)) [i_ (o_2 - 1)] (by kernel_rfl) (by kernel_rfl) (one_cons (rfl) (one_nil)) (Nat.le_of_ble_eq_true (by kernel_rfl)) [hd_o_, i_ (o_2 - 1), i_ (o_3 - ((((gt o_ v_).2.1).length : Int) + (((gt o_ v_).2.2).length : Int)))] (by kernel_rfl)
 refine s_ek (undef) (by kernel_rfl) (map_ok q283) ?_
 refine s_nil (k279 _ _ ?_)
 refine w_seqk fun _ k286 => ?_
 refine g_' ?_
 refine q_ (pt_ b_o 0) ?_
 refine q_ (pt_ b_o 0) ?_
 refine q_ (pt_ b_o 0) ?_
 refine l_' (hd_o_) (aLoad Tryz.prog 65 (pt_ b_o 0) H282) (r285.ld (by kernel_rfl)) ?_
 refine q_ (i_ v_) ?_
 refine q_ (.agg #[.bool true, .slice none 0 0, .slice none 0 0]) ?_
 obtain ⟨g287, r288⟩ := G_some r281
 have u289 := ((m177.fr e277 (Dj.symm (i179.dj (i79.dj (w45.dj dj_fp_o__b_o h_o.ltF) (h_o.ltF.le (ntr e58.next e64.next))) (h_o.ltF.le (ntr (ntr e58.next e64.next) e75.next))))).fr e284 (Dj.symm (i179.dj (i79.dj (w45.dj dj_fp_o__b_o h_o.ltF) (h_o.ltF.le (ntr e58.next e64.next))) (h_o.ltF.le (ntr (ntr e58.next e64.next) e75.next)))))
 refine l_' (elp hd_o_ 3 v_.toNat 0) (aIndexAddr Tryz.prog 65 hd_o_ (i_ v_)) (u289.idxb (by kernel_rfl) g28.1 g287) ?_
 obtain ⟨H290, q291, e292, hm293⟩ := Nd.clearAt (P := Tryz.prog) (t := 69) (v := .agg #[.bool true, .slice none 0 0, .slice none 0 0]) (b0 := true) (hol' := []) e284.wf u289 (by decide) g28.1 g287 (by kernel_rfl) (by kernel_rfl) (by simp)
 refine s_ek (undef) (by kernel_rfl) (map_ok q291) ?_
 refine s_nil (k286 _ _ ?_)
 refine w_seqk fun _ k294 => ?_
 refine g_' ?_
 refine q_ (.nilIface) ?_
 refine s_nil (k294 _ _ ?_)
 refine w_ret ?_
 refine b_ret (fn := Tryz.f18) (vs := [.nilIface]) (aRes_tmp (by kernel_rfl) (rfl)) ?_
 have u295 := (r285.frS e292 (i179.dj (i79.dj (w45.dj dj_fp_o__b_o h_o.ltF) (h_o.ltF.le (ntr e58.next e64.next))) (h_o.ltF.le (ntr (ntr e58.next e64.next) e75.next))))
 obtain rfl := Option.some.inj r288
 exact ⟨(.nilIface), [], f178, rfl, (FrS.step wf (FrS.step wf (FrS.step wf (FrS.step wf (FrS.step wf (FrS.step wf ((FrS.refl (W := ([b_o] ++ fp_o_)) wf).extR e58) e64 (hb59.fresh (Nat.le_refl _))) e75 (Inn.trans (Inn.right Inn.refl') (Nat.le_refl _) w45)) e175 (Inn.trans (Inn.trans (Inn.right Inn.refl') (Nat.le_refl _) w45) (ntr e58.next e64.next) i79)) e277 Inn.left) e284 Inn.left) e292 (Inn.trans (Inn.trans (Inn.trans (Inn.right Inn.refl') (Nat.le_refl _) w45) (ntr e58.next e64.next) i79) (ntr (ntr e58.next e64.next) e75.next) i179)), Ev.nil, hm293, u295, Inn.nil, (Inn.trans (Inn.trans (Inn.trans Inn.refl' (Nat.le_refl _) w45) (ntr e58.next e64.next) i79) (ntr (ntr e58.next e64.next) e75.next) i179), Dj.nil_l⟩

theorem c_overlay_Overlay_Weight {H : AH} {b_o : Nat} {hd_o_ : Value} {fp_o_ : Fp} {o_ : List (Bool × List (Int × Int × Int) × List (Int × Int × Int))} {o_2 : Int} {o_3 : Int} {u : Int} {w : Int} {r : Int × Bool}
    (wf : WF H) (h_o_ : Nd enc_i64_u64_i64 3 H hd_o_ o_ fp_o_ []) (h_o : Row H b_o [hd_o_, i_ o_2, i_ o_3]) (hr : z_overlay_Overlay_Weight o_ o_2 o_3 u w = some r) :
    ACalls Tryz.prog 32 #[pt_ b_o 0, i_ u, i_ w] H fun v H' => v = .tuple #[.int .u64 r.1, .bool r.2] ∧ FrS [] H H' := by
 refine acalls_of_body mixed Tryz.func32 rfl (Nat.le_of_ble_eq_true rfl) ?_
 unfold z_overlay_Overlay_Weight at hr
 refine w_seqk fun _ k1 => ?_
 refine g_' ?_
 refine q_ (.int .u64 0) ?_
 refine q_ (.bool false) ?_
 refine s_nil (k1 _ _ ?_)
 refine w_seqk fun _ k2 => ?_
 refine w_seqk fun _ k3 => ?_
 refine g_' ?_
 refine q_ (pt_ b_o 0) ?_
 refine q_ (i_ u) ?_
 obtain ⟨y4, hy5, r6⟩ := bind_some hr
 refine s_ck 20 #[pt_ b_o 0, i_ u] (by kernel_rfl) (c_overlay_Overlay_Alive wf h_o_ h_o hy5) ?_
 rintro _ _ ⟨rfl, rfl⟩
 refine q_ (.bool (!y4)) ?_
 refine s_nil (k3 _ _ ?_)
 refine w_cond ((!y4)) (by kernel_rfl) rfl (fun h9 => ?_) (fun h9 => ?_)
 ·have r10 := ite_t h9 r6
  refine w_seqk fun _ k11 => ?_
  refine g_' ?_
  refine q_ (.int .u64 0) ?_
  refine q_ (.bool false) ?_
  refine s_nil (k11 _ _ ?_)
  refine w_ret (th_ret ?_)
  refine b_ret (fn := Tryz.f32) (vs := [.int .u64 0, .bool false]) (aRes_tmp (by kernel_rfl) (aRes_tmp (by kernel_rfl) (rfl))) ?_
  obtain rfl := Option.some.inj r10
  exact ⟨rfl, (FrS.refl (W := []) wf)⟩
 have r12 := ite_bf h9 r6
 refine w_skip ?_
 refine k2 _ _ ?_
 refine w_seqk fun _ k13 => ?_
 refine g_' ?_
 refine q_ (pt_ b_o 0) ?_
 refine q_ (pt_ b_o 0) ?_
 refine q_ (pt_ b_o 0) ?_
 refine l_' (hd_o_) (aLoad Tryz.prog 65 (pt_ b_o 0) H) (h_o.ld (by kernel_rfl)) ?_
 refine q_ (i_ u) ?_
 obtain ⟨g14, r15⟩ := G_some r12
 refine l_' (elp hd_o_ 3 u.toNat 0) (aIndexAddr Tryz.prog 65 hd_o_ (i_ u)) (h_o_.idxb (by kernel_rfl) g14.1 g14.2) ?_
 refine l_' (elp hd_o_ 3 u.toNat 1) (aFieldAddr Tryz.prog 69 (elp hd_o_ 3 u.toNat 0) 1) (Nd.fldq (d := 1) h_o_ g14.1 g14.2 (by kernel_rfl)) ?_
 obtain ⟨u16, u17, hl18, hk19⟩ := Nd.at h_o_ g14.1 g14.2
 have kd20 : KdS enc_i64_u64_i64 3 H u16 ((gt o_ u).2.1) fp_o_ hd_o_ 3 u.toNat 1 := hk19 false (by simp)
 obtain ⟨a21, n22, c23, rfl⟩ := kd20.sq.form
 refine l_' (.slice a21 n22 c23) (aLoad Tryz.prog 49 (elp hd_o_ 3 u.toNat 1) H) (hl18 _ _ _ _ (by kernel_rfl)) ?_
 refine q_ (i_ w) ?_
 obtain ⟨y25, hy26, r27⟩ := bind_some r15
 refine s_ck 51 #[.slice a21 n22 c23, i_ w] (by kernel_rfl) (c_overlay_find wf kd20.sq hy26) ?_
 rintro _ H28 ⟨rfl, e29⟩
 refine q_ (.tuple #[i_ y25.1, .bool y25.2]) ?_
 refine q_ (i_ y25.1) ?_
 refine q_ (.bool y25.2) ?_
 refine q_ (i_ y25.1) ?_
 refine q_ (.bool y25.2) ?_
 refine s_nil (k13 _ _ ?_)
 refine w_seqk fun _ k30 => ?_
 refine w_seqk fun _ k31 => ?_
 refine g_' ?_
 refine q_ (.bool y25.2) ?_
 refine q_ (.bool (!y25.2)) ?_
 refine s_nil (k31 _ _ ?_)
 refine w_cond ((!y25.2)) (by kernel_rfl) rfl (fun h32 => ?_) (fun h32 => ?_)
 ·have r33 := ite_t h32 r27
  refine w_seqk fun _ k34 => ?_
  refine g_' ?_
  refine q_ (.int .u64 0) ?_
  refine q_ (.bool false) ?_
  refine s_nil (k34 _ _ ?_)
  refine w_ret (th_ret ?_)
  refine b_ret (fn := Tryz.f32) (vs := [.int .u64 0, .bool false]) (aRes_tmp (by kernel_rfl) (aRes_tmp (by kernel_rfl) (rfl))) ?_
  obtain rfl := Option.some.inj r33
  exact ⟨rfl, (FrS.step wf (FrS.refl (W := []) wf) e29 Inn.nil)⟩
 have r35 := ite_bf h32 r27
 refine w_skip ?_
 refine k30 _ _ ?_
 refine w_seqk fun _ k36 => ?_
 refine g_' ?_
 refine q_ (pt_ b_o 0) ?_
 refine q_ (pt_ b_o 0) ?_
 refine q_ (pt_ b_o 0) ?_
 have u37 := (h_o.frS e29 Dj.nil_l)
 refine l_' (hd_o_) (aLoad Tryz.prog 65 (pt_ b_o 0) H28) (u37.ld (by kernel_rfl)) ?_
 refine q_ (i_ u) ?_
 have u38 := (h_o_.fr e29 Dj.nil_l)
 refine l_' (elp hd_o_ 3 u.toNat 0) (aIndexAddr Tryz.prog 65 hd_o_ (i_ u)) (u38.idxb (by kernel_rfl) g14.1 g14.2) ?_
 refine l_' (elp hd_o_ 3 u.toNat 1) (aFieldAddr Tryz.prog 69 (elp hd_o_ 3 u.toNat 0) 1) (Nd.fldq (d := 1) u38 g14.1 g14.2 (by kernel_rfl)) ?_
 obtain ⟨u39, u40, hl41, hk42⟩ := Nd.at u38 g14.1 g14.2
 have kd43 : KdS enc_i64_u64_i64 3 H28 u39 ((gt o_ u).2.1) fp_o_ hd_o_ 3 u.toNat 1 := hk42 false (by simp)
 obtain ⟨a44, n45, c46, rfl⟩ := kd43.sq.form
 refine l_' (.slice a44 n45 c46) (aLoad Tryz.prog 49 (elp hd_o_ 3 u.toNat 1) H28) (hl41 _ _ _ _ (by kernel_rfl)) ?_
 refine q_ (i_ y25.1) ?_
 obtain ⟨g48, r49⟩ := G_some r35
 refine l_' (elp (.slice a44 n45 c46) 3 y25.1.toNat 0) (aIndexAddr Tryz.prog 49 (.slice a44 n45 c46) (i_ y25.1)) (kd43.sq.idxb (by kernel_rfl) g48.1 g48.2) ?_
 refine l_' (elp (.slice a44 n45 c46) 3 y25.1.toNat 1) (aFieldAddr Tryz.prog 70 (elp (.slice a44 n45 c46) 3 y25.1.toNat 0) 1) (Sq.fldq (d := 1) kd43.sq g48.1 g48.2 (by kernel_rfl)) ?_
 refine l_' (.int .u64 ((gt ((gt o_ u).2.1) y25.1).2.1)) (aLoad Tryz.prog 43 (elp (.slice a44 n45 c46) 3 y25.1.toNat 1) H28) (kd43.sq.ld g48.1 g48.2 (by kernel_rfl)) ?_
 refine q_ (.int .u64 ((gt ((gt o_ u).2.1) y25.1).2.1)) ?_
 refine q_ (.bool true) ?_
 refine s_nil (k36 _ _ ?_)
 refine w_ret ?_
 refine b_ret (fn := Tryz.f32) (vs := [.int .u64 ((gt ((gt o_ u).2.1) y25.1).2.1), .bool true]) (aRes_tmp (by kernel_rfl) (aRes_tmp (by kernel_rfl) (rfl))) ?_
 obtain rfl := Option.some.inj r49
 exact ⟨rfl, (FrS.step wf (FrS.refl (W := []) wf) e29 Inn.nil)⟩


end Go.Vd

/-! (KOp2) -/

set_option maxRecDepth 100000
set_option maxHeartbeats 4000000
set_option linter.unusedVariables false
namespace Go.Vd
open Go.Proofs
attribute [local irreducible] wpSeq wpOrd aWp
theorem c_overlay_laid {H : AH} {hd_l : Value} {fp_l : Fp} {l : List (Int × Int × Int)} {Node : Int} {Weight : Int} {Via : Int} {r : List (Int × Int × Int)}
    (wf : WF H) (h_l : Ow enc_i64_u64_i64 3 H hd_l l fp_l) (hr : z_overlay_laid l Node Weight Via = some r) :
    ACalls Tryz.prog 38 #[hd_l, .agg #[i_ Node, .int .u64 Weight, i_ Via]] H fun v H' => ∃ (s3 : Value) (f4 : Fp), v = s3 ∧ FrS fp_l H H' ∧ Ow enc_i64_u64_i64 3 H' s3 r f4 ∧ Inn fp_l H f4 := by
 refine acalls_of_body mixed Tryz.func38 rfl (Nat.le_of_ble_eq_true rfl) ?_
 unfold z_overlay_laid at hr
 refine w_seqk fun _ k6 => ?_
 refine g_' ?_
 refine s_rwl wf [i_ Node, .int .u64 Weight, i_ Via] (one_cons (rfl) (one_cons (rfl) (one_cons (rfl) (one_nil)))) (by kernel_rfl) fun b7 H8 e9 hb10 r11 => ?_
 refine q_ (.slice none 0 0) ?_
 refine s_nil (k6 _ _ ?_)
 refine w_seqk fun _ k13 => ?_
 refine g_' ?_
 refine q_ (hd_l) ?_
 refine q_ (pt_ b7 0) ?_
 refine l_' (i_ Node) (aLoad Tryz.prog 3 (pt_ b7 0) H8) (r11.ld (by kernel_rfl)) ?_
 have u14 := (h_l.ext e9)
 obtain ⟨y15, hy16, r17⟩ := bind_some hr
 refine s_ck 51 #[hd_l, i_ Node] (by kernel_rfl) (c_overlay_find e9.wf u14.sq hy16) ?_
 rintro _ H18 ⟨rfl, e19⟩
 refine q_ (.tuple #[i_ y15.1, .bool y15.2]) ?_
 refine q_ (i_ y15.1) ?_
 refine q_ (.bool y15.2) ?_
 refine q_ (i_ y15.1) ?_
 refine q_ (.bool y15.2) ?_
 refine s_nil (k13 _ _ ?_)
 refine w_seqk fun _ k20 => ?_
 refine w_seqk fun _ k21 => ?_
 refine g_' ?_
 refine q_ (.bool y15.2) ?_
 refine s_nil (k21 _ _ ?_)
 refine w_cond (y15.2) (by kernel_rfl) rfl (fun h22 => ?_) (fun h22 => ?_)
 ·have r23 := ite_t h22 r17
  refine w_seqk fun _ k24 => ?_
  refine g_' ?_
  refine q_ (hd_l) ?_
  refine q_ (i_ y15.1) ?_
  have u25 := (r11.frS e19 Dj.nil_l)
  refine l_' (.agg #[i_ Node, .int .u64 Weight, i_ Via]) (aLoad Tryz.prog 70 (pt_ b7 0) H18) (u25.ld (by kernel_rfl)) ?_
  obtain ⟨g26, r27⟩ := G_some r23
  have u28 := (u14.fr e19 Dj.nil_l)
  refine l_' (elp hd_l 3 y15.1.toNat 0) (aIndexAddr Tryz.prog 49 hd_l (i_ y15.1)) (u28.sq.idxb (by kernel_rfl) g26.1 g26.2) ?_
  obtain ⟨H29, q30, e31, hm32⟩ := Ow.store (P := Tryz.prog) (t := 70) (off := 0) e19.wf u28 g26.1 g26.2 (.agg #[i_ Node, .int .u64 Weight, i_ Via]) [i_ Node, .int .u64 Weight, i_ Via] (by kernel_rfl) (by kernel_rfl) rfl (Node, Weight, Via) (Nat.le_of_ble_eq_true rfl) (by kernel_rfl)
  refine s_ek (undef) (by kernel_rfl) (map_ok q30) ?_
  refine s_nil (k24 _ _ ?_)
  refine w_seqk fun _ k33 => ?_
  refine g_' ?_
  refine q_ (hd_l) ?_
  refine q_ (hd_l) ?_
  refine s_nil (k33 _ _ ?_)
  refine w_ret (th_ret ?_)
  refine b_ret (fn := Tryz.f38) (vs := [hd_l]) (aRes_tmp (by kernel_rfl) (rfl)) ?_
  obtain rfl := Option.some.inj r27
  exact ⟨(hd_l), fp_l, rfl, (FrS.step wf (FrS.step wf ((FrS.refl (W := fp_l) wf).extR e9) e19 Inn.nil) e31 Inn.refl'), hm32, Inn.refl'⟩
 have r34 := ite_bf h22 r17
 refine w_skip ?_
 refine k20 _ _ ?_
 refine w_seqk fun _ k35 => ?_
 refine g_' ?_
 refine q_ (hd_l) ?_
 refine q_ (i_ y15.1) ?_
 have u36 := (r11.frS e19 Dj.nil_l)
 refine l_' (.agg #[i_ Node, .int .u64 Weight, i_ Via]) (aLoad Tryz.prog 70 (pt_ b7 0) H18) (u36.ld (by kernel_rfl)) ?_
 refine s_owk (enc := enc_i64_u64_i64) (sz := 3) e19.wf [(Node, Weight, Via)] 1 (by decide) (fun _ _ => rfl) (fun _ _ => rfl) rfl (by kernel_rfl) fun s37 f38 H39 e40 hf41 hm42 => ?_
 obtain ⟨a43, n44, c45, rfl⟩ := hm42.form
 have u47 := ((u14.fr e19 Dj.nil_l).ext e40)
 obtain ⟨g48, r49⟩ := G_some r34
 refine s_ck 53 #[hd_l, i_ y15.1, .slice a43 n44 c45] (by kernel_rfl) (a_Insert e40.wf u47 hm42 (Dj.symm (hf41.djn (h_l.lt.le (ntr e9.next e19.next)))) g48) ?_
 rintro s50 H51 ⟨f52, e53, hm54, hf55⟩
 obtain ⟨a56, n57, c58, rfl⟩ := hm54.form
 refine q_ (.slice a56 n57 c58) ?_
 refine s_nil (k35 _ _ ?_)
 refine w_ret ?_
 refine b_ret (fn := Tryz.f38) (vs := [.slice a56 n57 c58]) (aRes_tmp (by kernel_rfl) (rfl)) ?_
 obtain rfl := Option.some.inj r49
 exact ⟨(.slice a56 n57 c58), f52, rfl, (FrS.step wf ((FrS.step wf ((FrS.refl (W := fp_l) wf).extR e9) e19 Inn.nil).extR e40) e53 Inn.refl'), hm54, (Inn.trans Inn.refl' (ntr (ntr e9.next e19.next) e40.next) hf55)⟩

theorem c_overlay_Overlay_Put {H : AH} {b_o : Nat} {hd_o_ : Value} {fp_o_ : Fp} {o_ : List (Bool × List (Int × Int × Int) × List (Int × Int × Int))} {o_2 : Int} {o_3 : Int} {u : Int} {w : Int} {weight : Int} {via : Int} {r : Bool × Er × List (Bool × List (Int × Int × Int) × List (Int × Int × Int)) × Int}
    (wf : WF H) (h_o_ : Nd enc_i64_u64_i64 3 H hd_o_ o_ fp_o_ []) (h_o : Row H b_o [hd_o_, i_ o_2, i_ o_3]) (dj_b_o_fp_o_ : Dj [b_o] fp_o_) (hr : z_overlay_Overlay_Put o_ o_2 o_3 u w weight via = some r) :
    ACalls Tryz.prog 19 #[pt_ b_o 0, i_ u, i_ w, .int .u64 weight, i_ via] H fun v H' => ∃ (v3 : Value) (f4 : Fp) (f7 : Fp), v = .tuple #[.bool r.1, v3] ∧ FrS ([b_o] ++ fp_o_) H H' ∧ Ev 72 77 H' v3 r.2.1 f4 ∧ Nd enc_i64_u64_i64 3 H' hd_o_ r.2.2.1 f7 [] ∧ Row H' b_o [hd_o_, i_ o_2, i_ r.2.2.2] ∧ Inn [] H f4 ∧ Inn fp_o_ H f7 ∧ Dj f4 f7 := by
 refine acalls_of_body mixed Tryz.func19 rfl (Nat.le_of_ble_eq_true rfl) ?_
 unfold z_overlay_Overlay_Put at hr
 refine w_seqk fun _ k13 => ?_
 refine g_' ?_
 refine q_ (.bool false) ?_
 refine q_ (.nilIface) ?_
 refine s_nil (k13 _ _ ?_)
 refine w_seqk fun _ k14 => ?_
 refine w_block ?_
 refine w_seqk fun _ k15 => ?_
 refine g_' ?_
 refine q_ (pt_ b_o 0) ?_
 refine q_ (.bool false) ?_
 refine q_ (.bool false) ?_
 refine s_nil (k15 _ _ ?_)
 refine w_cond false (by kernel_rfl) rfl (fun h => by cases h) (fun _ => ?_)
 refine w_seqk fun _ k16 => ?_
 obtain ⟨o17, hx18, r19⟩ := bind_some hr
 refine w_mid (fun α H20 => Has α [(0, pt_ b_o 0), (1, i_ u), (2, i_ w), (3, .int .u64 weight), (4, i_ via), (18, .bool o17)] ∧ H = H20) (fun _ k22 => ?_) (fun α H20 hM => ?_)
 ·refine g_' ?_
  refine q_ (pt_ b_o 0) ?_
  refine q_ (i_ u) ?_
  obtain ⟨y24, hy25, r26⟩ := bind_some hx18
  refine s_ck 20 #[pt_ b_o 0, i_ u] (by kernel_rfl) (c_overlay_Overlay_Alive wf h_o_ h_o hy25) ?_
  rintro _ _ ⟨rfl, rfl⟩
  by_cases h29 : y24 = true
  ·have r30 := ite_t h29 r26
   rw [h29]
   refine q_ (.bool false) ?_
   refine q_ (.bool false) ?_
   refine q_ (pt_ b_o 0) ?_
   refine q_ (i_ w) ?_
   obtain ⟨y32, hy33, r34⟩ := bind_some r30
   refine s_ck 20 #[pt_ b_o 0, i_ w] (by kernel_rfl) (c_overlay_Overlay_Alive wf h_o_ h_o hy33) ?_
   rintro _ _ ⟨rfl, rfl⟩
   refine q_ (.bool (!y32)) ?_
   refine q_ (.bool (!y32)) ?_
   refine q_ (.bool (!y32)) ?_
   refine s_nil ?_
   obtain rfl := Option.some.inj r34
   exact k22 _ _ ⟨ha_, rfl⟩
  have r37 := ite_f h29 r26
  rw [nb h29]
  refine q_ (.bool true) ?_
  refine q_ (.bool true) ?_
  refine n_' ?_
  refine n_' ?_
  refine n_' ?_
  refine n_' ?_
  refine q_ (.bool true) ?_
  refine q_ (.bool true) ?_
  refine s_nil ?_
  obtain rfl := Option.some.inj r37
  exact k22 _ _ ⟨ha_, rfl⟩
 obtain ⟨hh23, rfl⟩ := hM
 obtain ⟨β, rfl⟩ := has_ex hh23
 clear hh23
 refine k16 _ _ ?_
 refine w_cond (o17) (by kernel_rfl) rfl (fun h39 => ?_) (fun h39 => ?_)
 ·have r40 := ite_t h39 r19
  refine w_seqk fun _ k41 => ?_
  refine g_' ?_
  refine q_ (.iface 72 (i_ 7)) ?_
  refine q_ (.bool false) ?_
  refine q_ (.iface 72 (i_ 7)) ?_
  refine s_nil (k41 _ _ ?_)
  refine w_ret (bl_ret (th_ret ?_))
  refine b_ret (fn := Tryz.f19) (vs := [.bool false, .iface 72 (i_ 7)]) (aRes_tmp (by kernel_rfl) (aRes_tmp (by kernel_rfl) (rfl))) ?_
  obtain rfl := Option.some.inj r40
  exact ⟨(.iface 72 (i_ 7)), [], fp_o_, rfl, (FrS.refl (W := ([b_o] ++ fp_o_)) wf), Ev.no, h_o_, h_o, Inn.nil, Inn.refl', Dj.nil_l⟩
 have r42 := ite_bf h39 r19
 refine w_seqk fun _ k43 => ?_
 refine g_' ?_
 refine q_ (i_ u) ?_
 refine q_ (i_ w) ?_
 refine q_ (.bool (decide (u = w))) ?_
 refine q_ (.bool (decide (u = w))) ?_
 refine s_nil (k43 _ _ ?_)
 refine w_condp (u = w) (by kernel_rfl) rfl (fun h44 => ?_) (fun h44 => ?_)
 ·have r45 := ite_t h44 r42
  refine w_seqk fun _ k46 => ?_
  refine g_' ?_
  refine q_ (.iface 72 (i_ 1)) ?_
  refine q_ (.bool false) ?_
  refine q_ (.iface 72 (i_ 1)) ?_
  refine s_nil (k46 _ _ ?_)
  refine w_ret (bl_ret (th_ret ?_))
  refine b_ret (fn := Tryz.f19) (vs := [.bool false, .iface 72 (i_ 1)]) (aRes_tmp (by kernel_rfl) (aRes_tmp (by kernel_rfl) (rfl))) ?_
  obtain rfl := Option.some.inj r45
  exact ⟨(.iface 72 (i_ 1)), [], fp_o_, rfl, (FrS.refl (W := ([b_o] ++ fp_o_)) wf), Ev.no, h_o_, h_o, Inn.nil, Inn.refl', Dj.nil_l⟩
 have r47 := ite_f h44 r42
 refine w_seqk fun _ k48 => ?_
 refine g_' ?_
 refine q_ (.int .u64 weight) ?_
 refine q_ (.bool (decide (weight > 140737488355328))) ?_
 refine q_ (.bool (decide (weight > 140737488355328))) ?_
 refine s_nil (k48 _ _ ?_)
 refine w_condp (weight > 140737488355328) (by kernel_rfl) rfl (fun h49 => ?_) (fun h49 => ?_)
 ·have r50 := ite_t h49 r47
  refine w_seqk fun _ k51 => ?_
  refine g_' ?_
  refine q_ (.iface 72 (i_ 8)) ?_
  refine q_ (.bool false) ?_
  refine q_ (.iface 72 (i_ 8)) ?_
  refine s_nil (k51 _ _ ?_)
  refine w_ret (bl_ret (th_ret ?_))
  refine b_ret (fn := Tryz.f19) (vs := [.bool false, .iface 72 (i_ 8)]) (aRes_tmp (by kernel_rfl) (aRes_tmp (by kernel_rfl) (rfl))) ?_
  obtain rfl := Option.some.inj r50
  exact ⟨(.iface 72 (i_ 8)), [], fp_o_, rfl, (FrS.refl (W := ([b_o] ++ fp_o_)) wf), Ev.no, h_o_, h_o, Inn.nil, Inn.refl', Dj.nil_l⟩
 have r52 := ite_f h49 r47
 refine w_seqk fun _ k53 => ?_
 obtain ⟨o54, hx55, r56⟩ := bind_some r52
 refine w_mid (fun α H57 => Has α [(0, pt_ b_o 0), (1, i_ u), (2, i_ w), (3, .int .u64 weight), (4, i_ via), (39, .bool o54)] ∧ H = H57) (fun _ k59 => ?_) (fun α H57 hM => ?_)
 ·refine g_' ?_
  refine q_ (i_ via) ?_
  refine s_b (via < (-1)) (by kernel_rfl) (fun h61 => ?_) (fun h61 => ?_)
  ·have r62 := ite_t h61 hx55
   refine q_ (.bool true) ?_
   refine n_' ?_
   refine n_' ?_
   refine n_' ?_
   refine n_' ?_
   refine n_' ?_
   refine n_' ?_
   refine n_' ?_
   refine q_ (.bool true) ?_
   refine q_ (.bool true) ?_
   refine n_' ?_
   refine n_' ?_
   refine n_' ?_
   refine n_' ?_
   refine n_' ?_
   refine n_' ?_
   refine n_' ?_
   refine n_' ?_
   refine n_' ?_
   refine n_' ?_
   refine n_' ?_
   refine n_' ?_
   refine n_' ?_
   refine q_ (.bool true) ?_
   refine q_ (.bool true) ?_
   refine s_nil ?_
   obtain rfl := Option.some.inj r62
   exact k59 _ _ ⟨ha_, rfl⟩
  have r63 := ite_f h61 hx55
  refine q_ (.bool false) ?_
  refine q_ (i_ via) ?_
  refine q_ (pt_ b_o 0) ?_
  refine q_ (pt_ b_o 0) ?_
  refine q_ (pt_ b_o 0) ?_
  refine l_' (hd_o_) (aLoad Tryz.prog 65 (pt_ b_o 0) H) (h_o.ld (by kernel_rfl)) ?_
  refine l_' (i_ (o_.length : Int)) (aLen Tryz.prog 65 hd_o_ H) (h_o_.lenb (by kernel_rfl)) ?_
  refine s_b (via ≥ (o_.length : Int)) (by kernel_rfl) (fun h64 => ?_) (fun h64 => ?_)
  ·have r65 := ite_t h64 r63
   refine q_ (.bool true) ?_
   refine q_ (.bool true) ?_
   refine n_' ?_
   refine n_' ?_
   refine n_' ?_
   refine n_' ?_
   refine n_' ?_
   refine n_' ?_
   refine n_' ?_
   refine n_' ?_
   refine n_' ?_
   refine n_' ?_
   refine n_' ?_
   refine n_' ?_
   refine n_' ?_
   refine q_ (.bool true) ?_
   refine q_ (.bool true) ?_
   refine s_nil ?_
   obtain rfl := Option.some.inj r65
   exact k59 _ _ ⟨ha_, rfl⟩
  have r66 := ite_f h64 r63
  refine q_ (.bool false) ?_
  refine q_ (.bool false) ?_
  refine q_ (i_ via) ?_
  refine s_b (via ≥ 0) (by kernel_rfl) (fun h67 => ?_) (fun h67 => ?_)
  ·have r68 := ite_t h67 r66
   refine q_ (.bool true) ?_
   refine q_ (pt_ b_o 0) ?_
   refine q_ (pt_ b_o 0) ?_
   refine q_ (pt_ b_o 0) ?_
   refine l_' (hd_o_) (aLoad Tryz.prog 65 (pt_ b_o 0) H) (h_o.ld (by kernel_rfl)) ?_
   refine q_ (i_ via) ?_
   obtain ⟨g69, r70⟩ := G_some r68
   refine l_' (elp hd_o_ 3 via.toNat 0) (aIndexAddr Tryz.prog 65 hd_o_ (i_ via)) (h_o_.idxb (by kernel_rfl) g69.1 g69.2) ?_
   refine l_' (elp hd_o_ 3 via.toNat 0) (aFieldAddr Tryz.prog 69 (elp hd_o_ 3 via.toNat 0) 0) (Nd.fldq (d := 0) h_o_ g69.1 g69.2 (by kernel_rfl)) ?_
   obtain ⟨u71, u72, hl73, hk74⟩ := Nd.at h_o_ g69.1 g69.2
   refine l_' (.bool ((gt o_ via).1)) (aLoad Tryz.prog 4 (elp hd_o_ 3 via.toNat 0) H) (hl73 _ _ _ _ (by kernel_rfl)) ?_
   refine q_ (.bool (!(gt o_ via).1)) ?_
   refine q_ (.bool (!(gt o_ via).1)) ?_
   refine q_ (.bool (!(gt o_ via).1)) ?_
   refine q_ (.bool (!(gt o_ via).1)) ?_
   refine s_nil ?_
   obtain rfl := Option.some.inj r70
   exact k59 _ _ ⟨ha_, rfl⟩
  have r75 := ite_f h67 r66
  refine q_ (.bool false) ?_
  refine n_' ?_
  refine n_' ?_
  refine n_' ?_
  refine n_' ?_
  refine n_' ?_
  refine n_' ?_
  refine n_' ?_
  refine n_' ?_
  refine n_' ?_
  refine q_ (.bool false) ?_
  refine q_ (.bool false) ?_
  refine q_ (.bool false) ?_
  refine s_nil ?_
  obtain rfl := Option.some.inj r75
  exact k59 _ _ ⟨ha_, rfl⟩
 obtain ⟨hh60, rfl⟩ := hM
 obtain ⟨β, rfl⟩ := has_ex hh60
 clear hh60
 refine k53 _ _ ?_
 refine w_cond (o54) (by kernel_rfl) rfl (fun h76 => ?_) (fun h76 => ?_)
 ·have r77 := ite_t h76 r56
  refine w_seqk fun _ k78 => ?_
  refine g_' ?_
  refine q_ (.iface 72 (i_ 1)) ?_
  refine q_ (.bool false) ?_
  refine q_ (.iface 72 (i_ 1)) ?_
  refine s_nil (k78 _ _ ?_)
  refine w_ret (bl_ret (th_ret ?_))
  refine b_ret (fn := Tryz.f19) (vs := [.bool false, .iface 72 (i_ 1)]) (aRes_tmp (by kernel_rfl) (aRes_tmp (by kernel_rfl) (rfl))) ?_
  obtain rfl := Option.some.inj r77
  exact ⟨(.iface 72 (i_ 1)), [], fp_o_, rfl, (FrS.refl (W := ([b_o] ++ fp_o_)) wf), Ev.no, h_o_, h_o, Inn.nil, Inn.refl', Dj.nil_l⟩
 have r79 := ite_bf h76 r56
 refine w_skip ?_
 refine k14 _ _ ?_
 refine w_seqk fun _ k80 => ?_
 refine g_' ?_
 refine q_ (pt_ b_o 0) ?_
 refine q_ (i_ u) ?_
 refine q_ (i_ w) ?_
 obtain ⟨y81, hy82, r83⟩ := bind_some r79
 refine s_ck 32 #[pt_ b_o 0, i_ u, i_ w] (by kernel_rfl) (c_overlay_Overlay_Weight wf h_o_ h_o hy82) ?_
 rintro _ H84 ⟨rfl, e85⟩
 refine q_ (.tuple #[.int .u64 y81.1, .bool y81.2]) ?_
 refine q_ (.int .u64 y81.1) ?_
 refine q_ (.bool y81.2) ?_
 refine q_ (.int .u64 y81.1) ?_
 refine q_ (.bool y81.2) ?_
 refine s_nil (k80 _ _ ?_)
 refine w_seqk fun _ k86 => ?_
 refine w_seqk fun _ k87 => ?_
 obtain ⟨o88, hx89, r90⟩ := bind_some r83
 refine w_mid (fun α H91 => Has α [(0, pt_ b_o 0), (1, i_ u), (2, i_ w), (3, .int .u64 weight), (4, i_ via), (13, .bool o88.1), (79, .bool o88.2)] ∧ H84 = H91) (fun _ k93 => ?_) (fun α H91 hM => ?_)
 ·refine g_' ?_
  refine q_ (.bool y81.2) ?_
  refine q_ (.bool y81.2) ?_
  by_cases h95 : y81.2 = true
  ·have r96 := ite_t h95 hx89
   rw [h95]
   refine q_ (.int .u64 y81.1) ?_
   refine q_ (.int .u64 weight) ?_
   refine q_ (.bool (decide (y81.1 ≤ weight))) ?_
   refine q_ (.bool (decide (y81.1 ≤ weight))) ?_
   refine s_nil ?_
   obtain rfl := Option.some.inj r96
   exact k93 _ _ ⟨ha_, rfl⟩
  have r97 := ite_f h95 hx89
  rw [nb h95]
  refine n_' ?_
  refine n_' ?_
  refine n_' ?_
  refine q_ (.bool false) ?_
  refine s_nil ?_
  obtain rfl := Option.some.inj r97
  exact k93 _ _ ⟨ha_, rfl⟩
 obtain ⟨hh94, rfl⟩ := hM
 obtain ⟨β, rfl⟩ := has_ex hh94
 clear hh94
 refine k87 _ _ ?_
 refine w_cond (o88.2) (by kernel_rfl) rfl (fun h98 => ?_) (fun h98 => ?_)
 ·have r99 := ite_t h98 r90
  refine w_seqk fun _ k100 => ?_
  refine g_' ?_
  refine q_ (.bool false) ?_
  refine q_ (.nilIface) ?_
  refine s_nil (k100 _ _ ?_)
  refine w_ret (th_ret ?_)
  refine b_ret (fn := Tryz.f19) (vs := [.bool false, .nilIface]) (aRes_tmp (by kernel_rfl) (aRes_tmp (by kernel_rfl) (rfl))) ?_
  have u101 := (h_o_.fr e85 Dj.nil_l)
  have u102 := (h_o.frS e85 Dj.nil_l)
  obtain rfl := Option.some.inj r99
  exact ⟨(.nilIface), [], fp_o_, rfl, (FrS.step wf (FrS.refl (W := ([b_o] ++ fp_o_)) wf) e85 Inn.nil), Ev.nil, u101, u102, Inn.nil, Inn.refl', Dj.nil_l⟩
 have r103 := ite_bf h98 r90
 refine w_skip ?_
 refine k86 _ _ ?_
 refine w_seqk fun _ k104 => ?_
 refine w_seqk fun _ k105 => ?_
 refine g_' ?_
 refine q_ (.bool o88.1) ?_
 refine q_ (.bool (!o88.1)) ?_
 refine s_nil (k105 _ _ ?_)
 obtain ⟨o106, hx107, r108⟩ := bind_some r103
 refine w_mid (fun α H109 => Has α [(0, pt_ b_o 0), (1, i_ u), (2, i_ w), (3, .int .u64 weight), (4, i_ via)] ∧ FrS [b_o] H84 H109 ∧ Row H109 b_o [hd_o_, i_ o_2, i_ o106]) (fun _ k113 => ?_) (fun α H109 hM => ?_)
 ·refine w_cond ((!o88.1)) (by kernel_rfl) rfl (fun h115 => ?_) (fun h115 => ?_)
  ·have r116 := ite_t h115 hx107
   refine g_' ?_
   refine q_ (pt_ b_o 0) ?_
   refine q_ (pt_ b_o 0) ?_
   refine q_ (pt_ b_o 2) ?_
   have u117 := (h_o.frS e85 Dj.nil_l)
   refine l_' (i_ o_3) (aLoad Tryz.prog 3 (pt_ b_o 2) H84) (u117.ld (by kernel_rfl)) ?_
   obtain ⟨g118, r119⟩ := G_some r116
   refine s_w ((o_3 + 1)) (k := .i64) (x := (o_3 + 1)) (by kernel_rfl) (wrap64 g118) ?_
   refine q_ (pt_ b_o 0) ?_
   refine q_ (pt_ b_o 2) ?_
   obtain ⟨H120, q121, e122, r123⟩ := Row.store (P := Tryz.prog) (t := 3) (p := 2) e85.wf u117 (i_ (o_3 + 1)) [i_ (o_3 + 1)] (by kernel_rfl) (by kernel_rfl) (one_cons (rfl) (one_nil)) (Nat.le_of_ble_eq_true (by kernel_rfl)) [hd_o_, i_ o_2, i_ (o_3 + 1)] (by kernel_rfl)
   refine s_ek (undef) (by kernel_rfl) (map_ok q121) ?_
   refine s_nil ?_
   obtain rfl := Option.some.inj r119
   exact k113 _ _ ⟨ha_, (FrS.step e85.wf (FrS.refl (W := [b_o]) e85.wf) e122 Inn.refl'), r123⟩
  have r124 := ite_bf h115 hx107
  refine w_skip ?_
  have u125 := (h_o.frS e85 Dj.nil_l)
  obtain rfl := Option.some.inj r124
  exact k113 _ _ ⟨ha_, (FrS.refl (W := [b_o]) e85.wf), u125⟩
 obtain ⟨hh114, e110, m112⟩ := hM
 obtain ⟨β, rfl⟩ := has_ex hh114
 clear hh114
 refine k104 _ _ ?_
 refine w_seqk fun _ k126 => ?_
 refine w_draw [0, 1, 2, 3, 4, 5, 6, 7, 8, 9, 10, 11, 12, 13, 14, 15, 16, 17, 18, 19, 20] (by kernel_rfl) ?_
 refine e_' (pt_ b_o 0) ?_
 refine e_' (pt_ b_o 0) ?_
 refine e_' (pt_ b_o 0) ?_
 refine d_fl (hd_o_) (x := aLoad Tryz.prog 65 (pt_ b_o 0) H109) (by kernel_rfl) (m112.ld (by kernel_rfl)) ?_
 refine e_' (i_ u) ?_
 refine e_' (pt_ b_o 0) ?_
 refine e_' (pt_ b_o 0) ?_
 refine e_' (pt_ b_o 0) ?_
 refine m_' (hd_o_) (aLoad Tryz.prog 65 (pt_ b_o 0) H109) (m112.ld (by kernel_rfl)) ?_
 refine e_' (i_ u) ?_
 obtain ⟨g127, r128⟩ := G_some r108
 have u129 := ((h_o_.fr e85 Dj.nil_l).fr e110 dj_b_o_fp_o_)
 refine m_' (elp hd_o_ 3 u.toNat 0) (aIndexAddr Tryz.prog 65 hd_o_ (i_ u)) (u129.idxb (by kernel_rfl) g127.1 g127.2) ?_
 refine m_' (elp hd_o_ 3 u.toNat 1) (aFieldAddr Tryz.prog 69 (elp hd_o_ 3 u.toNat 0) 1) (Nd.fldq (d := 1) u129 g127.1 g127.2 (by kernel_rfl)) ?_
 obtain ⟨u130, u131, hl132, hk133⟩ := Nd.at u129 g127.1 g127.2
 have kd134 : KdS enc_i64_u64_i64 3 H109 u130 ((gt o_ u).2.1) fp_o_ hd_o_ 3 u.toNat 1 := hk133 false (by simp)
 obtain ⟨a135, n136, c137, rfl⟩ := kd134.sq.form
 refine m_' (.slice a135 n136 c137) (aLoad Tryz.prog 49 (elp hd_o_ 3 u.toNat 1) H109) (hl132 _ _ _ _ (by kernel_rfl)) ?_
 refine e_' (i_ w) ?_
 refine e_' (.int .u64 weight) ?_
 refine e_' (i_ via) ?_
 refine e_' (.agg #[i_ w, .int .u64 weight, i_ via]) ?_
 obtain ⟨f139, f140, hh141, ho142, d143, hs144, hs145⟩ := Nd.borrow false u129 g127.1 g127.2 (by simp) kd134 rfl
 have w146 := Inn.sub' (H := H109) hs144
 have w147 := Inn.sub' (H := H109) hs145
 have hh141 : Nd enc_i64_u64_i64 3 H109 hd_o_ o_ f139 [(u.toNat, false)] := hh141
 obtain ⟨y148, hy149, r150⟩ := bind_some r128
 refine d_ck 38 #[.slice a135 n136 c137, .agg #[i_ w, .int .u64 weight, i_ via]] (by kernel_rfl) (c_overlay_laid e110.wf ho142 hy149) ?_
 rintro s151 H153 ⟨_, f152, rfl, e154, m155, i156⟩
 obtain ⟨a158, n159, c160, rfl⟩ := m155.form
 have u161 := (m112.frS e154 (w147.dj (Dj.symm dj_b_o_fp_o_) (h_o.ltF.le (ntr e85.next e110.next))))
 refine ⟨st_ql (y := aLoad Tryz.prog 65 (pt_ b_o 0) H153) (by kernel_rfl) (u161.ld (by kernel_rfl)) (st_nil), ?_⟩
 have u162 := (hh141.fr e154 (Dj.symm d143))
 refine m_' (elp hd_o_ 3 u.toNat 0) (aIndexAddr Tryz.prog 65 hd_o_ (i_ u)) (u162.idxb (by kernel_rfl) g127.1 g127.2) ?_
 refine m_' (elp hd_o_ 3 u.toNat 1) (aFieldAddr Tryz.prog 69 (elp hd_o_ 3 u.toNat 0) 1) (Nd.fldq (d := 1) u162 g127.1 g127.2 (by kernel_rfl)) ?_
 obtain ⟨H163, f164, q165, e166, hm167, hf168⟩ := Nd.close (P := Tryz.prog) (t := 49) false e154.wf u162 m155 (Dj.symm (i156.dj (Dj.symm d143) hh141.lt)) g127.1 g127.2 (by kernel_rfl) (by kernel_rfl) (by kernel_rfl)
 have hm167 : Nd enc_i64_u64_i64 3 H163 hd_o_ (o_.set u.toNat ((gt o_ u).1, y148, (gt o_ u).2.2)) f164 [] := hm167
 have w169 := hf168.grow3 (Inn.trans Inn.refl' (Nat.le_refl _) w146) (Inn.trans (Inn.trans Inn.refl' (Nat.le_refl _) w147) (Nat.le_refl _) i156) e154.next
 refine d_ek (undef) (by kernel_rfl) (map_ok q165) (st_anc (by kernel_rfl) (st_nil)) ?_
 refine d_nil ?_
 refine k126 _ _ ?_
 refine w_seqk fun _ k170 => ?_
 refine w_draw [0, 1, 2, 3, 4, 5, 6, 7, 8, 9, 10, 11, 12, 13, 14, 15, 16, 17, 18, 19, 20] (by kernel_rfl) ?_
 refine e_' (pt_ b_o 0) ?_
 refine e_' (pt_ b_o 0) ?_
 refine e_' (pt_ b_o 0) ?_
 have u171 := (u161.frS e166 (w146.dj (Dj.symm dj_b_o_fp_o_) (h_o.ltF.le (ntr e85.next e110.next))))
 refine d_fl (hd_o_) (x := aLoad Tryz.prog 65 (pt_ b_o 0) H163) (by kernel_rfl) (u171.ld (by kernel_rfl)) ?_
 refine e_' (i_ w) ?_
 refine e_' (pt_ b_o 0) ?_
 refine e_' (pt_ b_o 0) ?_
 refine e_' (pt_ b_o 0) ?_
 refine m_' (hd_o_) (aLoad Tryz.prog 65 (pt_ b_o 0) H163) (u171.ld (by kernel_rfl)) ?_
 refine e_' (i_ w) ?_
 obtain ⟨g172, r173⟩ := G_some r150
 refine m_' (elp hd_o_ 3 w.toNat 0) (aIndexAddr Tryz.prog 65 hd_o_ (i_ w)) (hm167.idxb (by kernel_rfl) g172.1 g172.2) ?_
 refine m_' (elp hd_o_ 3 w.toNat 2) (aFieldAddr Tryz.prog 69 (elp hd_o_ 3 w.toNat 0) 2) (Nd.fldq (d := 2) hm167 g172.1 g172.2 (by kernel_rfl)) ?_
 obtain ⟨u174, u175, hl176, hk177⟩ := Nd.at hm167 g172.1 g172.2
 have kd178 : KdS enc_i64_u64_i64 3 H163 u175 ((gt (o_.set u.toNat ((gt o_ u).1, y148, (gt o_ u).2.2)) w).2.2) f164 hd_o_ 3 w.toNat 2 := hk177 true (by simp)
 obtain ⟨a179, n180, c181, rfl⟩ := kd178.sq.form
 refine m_' (.slice a179 n180 c181) (aLoad Tryz.prog 49 (elp hd_o_ 3 w.toNat 2) H163) (hl176 _ _ _ _ (by kernel_rfl)) ?_
 refine e_' (i_ u) ?_
 refine e_' (.int .u64 weight) ?_
 refine e_' (i_ via) ?_
 refine e_' (.agg #[i_ u, .int .u64 weight, i_ via]) ?_
 obtain ⟨f183, f184, hh185, ho186, d187, hs188, hs189⟩ := Nd.borrow true hm167 g172.1 g172.2 (by simp) kd178 rfl
 have w190 := Inn.sub' (H := H163) hs188
 have w191 := Inn.sub' (H := H163) hs189
 have hh185 : Nd enc_i64_u64_i64 3 H163 hd_o_ (o_.set u.toNat ((gt o_ u).1, y148, (gt o_ u).2.2)) f183 [(w.toNat, true)] := hh185
 obtain ⟨y192, hy193, r194⟩ := bind_some r173
 refine d_ck 38 #[.slice a179 n180 c181, .agg #[i_ u, .int .u64 weight, i_ via]] (by kernel_rfl) (c_overlay_laid e166.wf ho186 hy193) ?_
 rintro s195 H197 ⟨_, f196, rfl, e198, m199, i200⟩
 obtain ⟨a202, n203, c204, rfl⟩ := m199.form
 have u205 := (u171.frS e198 (w191.dj (w169.dj (Dj.symm dj_b_o_fp_o_) (h_o.ltF.le (ntr e85.next e110.next))) (h_o.ltF.le (ntr (ntr (ntr e85.next e110.next) e154.next) e166.next))))
 refine ⟨st_ql (y := aLoad Tryz.prog 65 (pt_ b_o 0) H197) (by kernel_rfl) (u205.ld (by kernel_rfl)) (st_nil), ?_⟩
 have u206 := (hh185.fr e198 (Dj.symm d187))
 refine m_' (elp hd_o_ 3 w.toNat 0) (aIndexAddr Tryz.prog 65 hd_o_ (i_ w)) (u206.idxb (by kernel_rfl) g172.1 g172.2) ?_
 refine m_' (elp hd_o_ 3 w.toNat 2) (aFieldAddr Tryz.prog 69 (elp hd_o_ 3 w.toNat 0) 2) (Nd.fldq (d := 2) u206 g172.1 g172.2 (by kernel_rfl)) ?_
 obtain ⟨H207, f208, q209, e210, hm211, hf212⟩ := Nd.close (P := Tryz.prog) (t := 49) true e198.wf u206 m199 (Dj.symm (i200.dj (Dj.symm d187) hh185.lt)) g172.1 g172.2 (by kernel_rfl) (by kernel_rfl) (by kernel_rfl)
 have hm211 : Nd enc_i64_u64_i64 3 H207 hd_o_ ((o_.set u.toNat ((gt o_ u).1, y148, (gt o_ u).2.2)).set w.toNat ((gt (o_.set u.toNat ((gt o_ u).1, y148, (gt o_ u).2.2)) w).1, (gt (o_.set u.toNat ((gt o_ u).1, y148, (gt o_ u).2.2)) w).2.1, y192)) f208 [] := hm211
 have w213 := hf212.grow3 (Inn.trans Inn.refl' (Nat.le_refl _) w190) (Inn.trans (Inn.trans Inn.refl' (Nat.le_refl _) w191) (Nat.le_refl _) i200) e198.next
 refine d_ek (undef) (by kernel_rfl) (map_ok q209) (st_anc (by kernel_rfl) (st_nil)) ?_
 refine d_nil ?_
 refine k170 _ _ ?_
 refine w_seqk fun _ k214 => ?_
 refine g_' ?_
 refine q_ (.bool true) ?_
 refine q_ (.nilIface) ?_
 refine s_nil (k214 _ _ ?_)
 refine w_ret ?_
 refine b_ret (fn := Tryz.f19) (vs := [.bool true, .nilIface]) (aRes_tmp (by kernel_rfl) (aRes_tmp (by kernel_rfl) (rfl))) ?_
 have u215 := (u205.frS e210 (w190.dj (w169.dj (Dj.symm dj_b_o_fp_o_) (h_o.ltF.le (ntr e85.next e110.next))) (h_o.ltF.le (ntr (ntr (ntr e85.next e110.next) e154.next) e166.next))))
 obtain rfl := Option.some.inj r194
 exact ⟨(.nilIface), [], f208, rfl, (FrS.step wf (FrS.step wf (FrS.step wf (FrS.step wf (FrS.step wf (FrS.step wf (FrS.refl (W := ([b_o] ++ fp_o_)) wf) e85 Inn.nil) e110 Inn.left) e154 (Inn.trans (Inn.right Inn.refl') (ntr e85.next e110.next) w147)) e166 (Inn.trans (Inn.right Inn.refl') (ntr e85.next e110.next) w146)) e198 (Inn.trans (Inn.trans (Inn.right Inn.refl') (ntr e85.next e110.next) w169) (ntr (ntr (ntr e85.next e110.next) e154.next) e166.next) w191)) e210 (Inn.trans (Inn.trans (Inn.right Inn.refl') (ntr e85.next e110.next) w169) (ntr (ntr (ntr e85.next e110.next) e154.next) e166.next) w190)), Ev.nil, hm211, u215, Inn.nil, (Inn.trans (Inn.trans Inn.refl' (ntr e85.next e110.next) w169) (ntr (ntr (ntr e85.next e110.next) e154.next) e166.next) w213), Dj.nil_l⟩

theorem c_slices_Clone {H : AH} {hd_s : Value} {fp_s : Fp} {s : List (Int × Int × Int)} {r : List (Int × Int × Int)}
    (wf : WF H) (h_s : Sq enc_i64_u64_i64 3 H hd_s s fp_s) (hr : z_slices_Clone s = some r) :
    ACalls Tryz.prog 35 #[hd_s] H fun v H' => ∃ (s3 : Value) (f4 : Fp), v = s3 ∧ FrS [] H H' ∧ Ow enc_i64_u64_i64 3 H' s3 r f4 ∧ Inn [] H f4 := by
 refine acalls_of_body mixed Tryz.func35 rfl (Nat.le_of_ble_eq_true rfl) ?_
 unfold z_slices_Clone at hr
 refine w_seqk fun _ k6 => ?_
 refine g_' ?_
 refine q_ (.slice none 0 0) ?_
 refine s_nil (k6 _ _ ?_)
 refine w_seqk fun _ k7 => ?_
 refine w_seqk fun _ k8 => ?_
 refine g_' ?_
 refine q_ (hd_s) ?_
 rcases Sq.nilOr h_s with ⟨rfl, rfl⟩ | ⟨a9, n10, c11, rfl⟩
 ·refine q_ (.bool true) ?_
  refine s_nil (k8 _ _ ?_)
  refine w_cond true (by kernel_rfl) rfl (fun _ => ?_) (fun h => by cases h)
  refine w_seqk fun _ k12 => ?_
  refine g_' ?_
  refine q_ (.slice none 0 0) ?_
  refine s_nil (k12 _ _ ?_)
  refine w_ret (th_ret ?_)
  refine b_ret (fn := Tryz.f35) (vs := [.slice none 0 0]) (aRes_tmp (by kernel_rfl) (rfl)) ?_
  have hn_ : some ([] : List (Int × Int × Int)) = some r := by simpa [G] using hr
  obtain rfl := Option.some.inj hn_
  exact ⟨(.slice none 0 0), [], rfl, (FrS.refl (W := []) wf), (Ow.nil (by decide)), Inn.nil⟩
 refine q_ (.bool false) ?_
 refine s_nil (k8 _ _ ?_)
 refine w_cond false (by kernel_rfl) rfl (fun h => by cases h) (fun _ => ?_)
 refine w_skip ?_
 refine k7 _ _ ?_
 refine w_seqk fun _ k13 => ?_
 refine g_' ?_
 refine s_owk (enc := enc_i64_u64_i64) (sz := 3) wf ([] : List (Int × Int × Int)) 0 (by decide) (fun _ _ => rfl) (fun _ _ => rfl) rfl (by kernel_rfl) fun s14 f15 H16 e17 hf18 hm19 => ?_
 obtain ⟨a20, n21, c22, rfl⟩ := hm19.form
 refine q_ (.slice (some a9) n10 c11) ?_
 obtain ⟨g24, r25⟩ := G_some hr
 have u33 := (h_s.ext e17)
 obtain ⟨s26, H27, f28, q32, e29, hm30, hf31⟩ := Ow.append (P := Tryz.prog) 24 e17.wf hm19 u33 (fun _ _ => rfl) (at_ := #[49, 49]) rfl rfl (by kernel_rfl) (by kernel_rfl) (by decide) (by have := g24; first | omega | (simp only [List.length_cons, List.length_nil] at this ⊢; omega) | (simp at this ⊢; omega))
 obtain ⟨a34, n35, c36, rfl⟩ := hm30.form
 refine s_ek (.slice a34 n35 c36) (by kernel_rfl) (q32) ?_
 refine q_ (.slice a34 n35 c36) ?_
 refine s_nil (k13 _ _ ?_)
 refine w_ret ?_
 refine b_ret (fn := Tryz.f35) (vs := [.slice a34 n35 c36]) (aRes_tmp (by kernel_rfl) (rfl)) ?_
 obtain rfl := Option.some.inj r25
 exact ⟨(.slice a34 n35 c36), f28, rfl, (FrS.step wf ((FrS.refl (W := []) wf).extR e17) e29 (hf18.fresh (Nat.le_refl _))), hm30, (Inn.trans (hf18.fresh (Nat.le_refl _)) e17.next hf31)⟩

theorem c_overlay_Overlay_Out {H : AH} {b_o : Nat} {hd_o_ : Value} {fp_o_ : Fp} {o_ : List (Bool × List (Int × Int × Int) × List (Int × Int × Int))} {o_2 : Int} {o_3 : Int} {v_ : Int} {r : List (Int × Int × Int)}
    (wf : WF H) (h_o_ : Nd enc_i64_u64_i64 3 H hd_o_ o_ fp_o_ []) (h_o : Row H b_o [hd_o_, i_ o_2, i_ o_3]) (hr : z_overlay_Overlay_Out o_ o_2 o_3 v_ = some r) :
    ACalls Tryz.prog 12 #[pt_ b_o 0, i_ v_] H fun v H' => ∃ (s3 : Value) (f4 : Fp), v = s3 ∧ FrS [] H H' ∧ Ow enc_i64_u64_i64 3 H' s3 r f4 ∧ Inn [] H f4 := by
 refine acalls_of_body mixed Tryz.func12 rfl (Nat.le_of_ble_eq_true rfl) ?_
 unfold z_overlay_Overlay_Out at hr
 refine w_seqk fun _ k6 => ?_
 refine g_' ?_
 refine q_ (.slice none 0 0) ?_
 refine s_nil (k6 _ _ ?_)
 refine w_seqk fun _ k7 => ?_
 refine w_seqk fun _ k8 => ?_
 refine g_' ?_
 refine q_ (pt_ b_o 0) ?_
 refine q_ (i_ v_) ?_
 obtain ⟨y9, hy10, r11⟩ := bind_some hr
 refine s_ck 20 #[pt_ b_o 0, i_ v_] (by kernel_rfl) (c_overlay_Overlay_Alive wf h_o_ h_o hy10) ?_
 rintro _ _ ⟨rfl, rfl⟩
 refine q_ (.bool (!y9)) ?_
 refine s_nil (k8 _ _ ?_)
 refine w_cond ((!y9)) (by kernel_rfl) rfl (fun h14 => ?_) (fun h14 => ?_)
 ·have r15 := ite_t h14 r11
  refine w_seqk fun _ k16 => ?_
  refine g_' ?_
  refine q_ (.slice none 0 0) ?_
  refine s_nil (k16 _ _ ?_)
  refine w_ret (th_ret ?_)
  refine b_ret (fn := Tryz.f12) (vs := [.slice none 0 0]) (aRes_tmp (by kernel_rfl) (rfl)) ?_
  obtain rfl := Option.some.inj r15
  exact ⟨(.slice none 0 0), [], rfl, (FrS.refl (W := []) wf), (Ow.nil (by decide)), Inn.nil⟩
 have r17 := ite_bf h14 r11
 refine w_skip ?_
 refine k7 _ _ ?_
 refine w_seqk fun _ k18 => ?_
 refine g_' ?_
 refine q_ (pt_ b_o 0) ?_
 refine q_ (pt_ b_o 0) ?_
 refine q_ (pt_ b_o 0) ?_
 refine l_' (hd_o_) (aLoad Tryz.prog 65 (pt_ b_o 0) H) (h_o.ld (by kernel_rfl)) ?_
 refine q_ (i_ v_) ?_
 obtain ⟨g19, r20⟩ := G_some r17
 refine l_' (elp hd_o_ 3 v_.toNat 0) (aIndexAddr Tryz.prog 65 hd_o_ (i_ v_)) (h_o_.idxb (by kernel_rfl) g19.1 g19.2) ?_
 refine l_' (elp hd_o_ 3 v_.toNat 1) (aFieldAddr Tryz.prog 69 (elp hd_o_ 3 v_.toNat 0) 1) (Nd.fldq (d := 1) h_o_ g19.1 g19.2 (by kernel_rfl)) ?_
 obtain ⟨u21, u22, hl23, hk24⟩ := Nd.at h_o_ g19.1 g19.2
 have kd25 : KdS enc_i64_u64_i64 3 H u21 ((gt o_ v_).2.1) fp_o_ hd_o_ 3 v_.toNat 1 := hk24 false (by simp)
 obtain ⟨a26, n27, c28, rfl⟩ := kd25.sq.form
 refine l_' (.slice a26 n27 c28) (aLoad Tryz.prog 49 (elp hd_o_ 3 v_.toNat 1) H) (hl23 _ _ _ _ (by kernel_rfl)) ?_
 obtain ⟨y30, hy31, r32⟩ := bind_some r20
 refine s_ck 35 #[.slice a26 n27 c28] (by kernel_rfl) (c_slices_Clone wf kd25.sq hy31) ?_
 rintro s33 H35 ⟨_, f34, rfl, e36, m37, i38⟩
 obtain ⟨a40, n41, c42, rfl⟩ := m37.form
 refine q_ (.slice a40 n41 c42) ?_
 refine s_nil (k18 _ _ ?_)
 refine w_ret ?_
 refine b_ret (fn := Tryz.f12) (vs := [.slice a40 n41 c42]) (aRes_tmp (by kernel_rfl) (rfl)) ?_
 obtain rfl := Option.some.inj r32
 exact ⟨(.slice a40 n41 c42), f34, rfl, (FrS.step wf (FrS.refl (W := []) wf) e36 Inn.nil), m37, (i38.fresh (Nat.le_refl _))⟩

theorem c_viaductlaw11_same {H : AH} {hd_a : Value} {fp_a : Fp} {hd_b : Value} {fp_b : Fp} {a : List (Int × Int × Int)} {b : List (Int × Int × Int)} {r : Bool}
    (wf : WF H) (h_a : Sq enc_i64_u64_i64 3 H hd_a a fp_a) (h_b : Sq enc_i64_u64_i64 3 H hd_b b fp_b) (hr : z_viaductlaw11_same a b = some r) :
    ACalls Tryz.prog 11 #[hd_a, hd_b] H fun v H' => v = .bool r ∧ H = H' := by
 refine acalls_of_body mixed Tryz.func11 rfl (Nat.le_of_ble_eq_true rfl) ?_
 unfold z_viaductlaw11_same at hr
 refine w_seqk fun _ k1 => ?_
 refine g_' ?_
 refine q_ (.bool false) ?_
 refine s_nil (k1 _ _ ?_)
 refine w_seqk fun _ k2 => ?_
 refine w_seqk fun _ k3 => ?_
 refine g_' ?_
 refine q_ (hd_a) ?_
 refine l_' (i_ (a.length : Int)) (aLen Tryz.prog 49 hd_a H) (h_a.lenb (by kernel_rfl)) ?_
 refine q_ (hd_b) ?_
 refine l_' (i_ (b.length : Int)) (aLen Tryz.prog 51 hd_b H) (h_b.lenb (by kernel_rfl)) ?_
 refine q_ (.bool (!decide ((a.length : Int) = (b.length : Int)))) ?_
 refine s_nil (k3 _ _ ?_)
 refine w_condn ((a.length : Int) = (b.length : Int)) (by kernel_rfl) rfl (fun h4 => ?_) (fun h4 => ?_)
 ·have r5 := ite_f h4 hr
  refine w_seqk fun _ k6 => ?_
  refine g_' ?_
  refine q_ (.bool false) ?_
  refine s_nil (k6 _ _ ?_)
  refine w_ret (th_ret ?_)
  refine b_ret (fn := Tryz.f11) (vs := [.bool false]) (aRes_tmp (by kernel_rfl) (rfl)) ?_
  obtain rfl := Option.some.inj r5
  exact ⟨rfl, rfl⟩
 have r7 := ite_t h4 hr
 refine w_skip ?_
 refine k2 _ _ ?_
 refine w_seqk fun _ k8 => ?_
 refine w_seqk fun _ k9 => ?_
 refine g_' ?_
 refine q_ (hd_a) ?_
 refine l_' (i_ (a.length : Int)) (aLen Tryz.prog 49 hd_a H) (h_a.lenb (by kernel_rfl)) ?_
 refine q_ (i_ 0) ?_
 refine s_nil (k9 _ _ ?_)
 obtain ⟨z13, hx11, r12⟩ := bind_some r7
 refine w_mid (fun α H14 => ∃ o10, z13 = Sum.inr o10 ∧ Has α [] ∧ H = H14) (fun _ k16 => ?_) (fun α H14 hM => ?_)
 ·refine w_block ?_
  obtain ⟨n18, hn19⟩ := loopO_iff.1 hx11
  refine w_loopn (fun n α H20 => ∃ (i0 : Int), iterO (fun zz_ => z_viaductlaw11_same_l0 a b zz_) n i0 = some z13 ∧ Has α [(0, hd_a), (1, hd_b), (12, i_ (a.length : Int)), (13, i_ i0)] ∧ H = H20) n18 ⟨0, hn19, ha_, rfl⟩ ?_
  rintro n18 α H20 ⟨i0, hi23, hh22, rfl⟩ K28 k28
  obtain ⟨n24, z25, rfl, hz26, hn27⟩ := iter_succ hi23
  obtain ⟨β, rfl⟩ := has_ex hh22
  clear hh22
  replace hz26 : z_viaductlaw11_same_l0 a b i0 = some z25 := hz26
  unfold z_viaductlaw11_same_l0 at hz26
  refine w_seqk fun _ k29 => ?_
  refine g_' ?_
  refine q_ (.bool (decide (i0 < (a.length : Int)))) ?_
  refine s_nil (k29 _ _ ?_)
  refine w_seqk fun _ k30 => ?_
  refine w_condp (i0 < (a.length : Int)) (by kernel_rfl) rfl (fun h31 => ?_) (fun h31 => ?_)
  ·have r32 := ite_t h31 hz26
   refine w_skip ?_
   refine k30 _ _ ?_
   refine w_seqk fun _ k33 => ?_
   refine w_block ?_
   refine w_seqk fun _ k34 => ?_
   refine g_' ?_
   refine q_ (i_ i0) ?_
   refine q_ (i_ i0) ?_
   refine s_nil (k34 _ _ ?_)
   refine w_seqk fun _ k35 => ?_
   refine w_draw [0, 1, 2, 3, 4, 5, 6, 7, 8, 9, 10, 11, 12, 13, 14, 15, 16, 17, 18, 19, 20, 21, 22, 23, 24, 25, 26, 27, 28, 29, 30, 31, 32, 33, 34, 35, 36] (by kernel_rfl) ?_
   refine e_' (hd_a) ?_
   refine e_' (i_ i0) ?_
   obtain ⟨g36, r37⟩ := G_some r32
   refine m_' (elp hd_a 3 i0.toNat 0) (aIndexAddr Tryz.prog 49 hd_a (i_ i0)) (h_a.idxb (by kernel_rfl) g36 h31) ?_
   refine m_' (elp hd_a 3 i0.toNat 0) (aFieldAddr Tryz.prog 70 (elp hd_a 3 i0.toNat 0) 0) (Sq.fldq (d := 0) h_a g36 h31 (by kernel_rfl)) ?_
   refine m_' (i_ ((gt a i0).1)) (aLoad Tryz.prog 3 (elp hd_a 3 i0.toNat 0) H) (h_a.ld g36 h31 (by kernel_rfl)) ?_
   refine e_' (hd_b) ?_
   refine e_' (i_ i0) ?_
   obtain ⟨g38, r39⟩ := G_some r37
   refine m_' (elp hd_b 3 i0.toNat 0) (aIndexAddr Tryz.prog 51 hd_b (i_ i0)) (h_b.idxb (by kernel_rfl) g36 g38) ?_
   refine m_' (elp hd_b 3 i0.toNat 0) (aFieldAddr Tryz.prog 61 (elp hd_b 3 i0.toNat 0) 0) (Sq.fldq (d := 0) h_b g36 g38 (by kernel_rfl)) ?_
   refine m_' (i_ ((gt b i0).1)) (aLoad Tryz.prog 3 (elp hd_b 3 i0.toNat 0) H) (h_b.ld g36 g38 (by kernel_rfl)) ?_
   refine d_bn (((gt a i0).1) = ((gt b i0).1)) (by kernel_rfl) (fun h40 => ?_) (fun h40 => ?_)
   ·have r41 := ite_t h40 r39
    refine e_' (.bool false) ?_
    refine e_' (hd_a) ?_
    refine e_' (i_ i0) ?_
    refine m_' (elp hd_a 3 i0.toNat 0) (aIndexAddr Tryz.prog 49 hd_a (i_ i0)) (h_a.idxb (by kernel_rfl) g36 h31) ?_
    refine m_' (elp hd_a 3 i0.toNat 1) (aFieldAddr Tryz.prog 70 (elp hd_a 3 i0.toNat 0) 1) (Sq.fldq (d := 1) h_a g36 h31 (by kernel_rfl)) ?_
    refine m_' (.int .u64 ((gt a i0).2.1)) (aLoad Tryz.prog 43 (elp hd_a 3 i0.toNat 1) H) (h_a.ld g36 h31 (by kernel_rfl)) ?_
    refine e_' (hd_b) ?_
    refine e_' (i_ i0) ?_
    refine m_' (elp hd_b 3 i0.toNat 0) (aIndexAddr Tryz.prog 51 hd_b (i_ i0)) (h_b.idxb (by kernel_rfl) g36 g38) ?_
    refine m_' (elp hd_b 3 i0.toNat 1) (aFieldAddr Tryz.prog 61 (elp hd_b 3 i0.toNat 0) 1) (Sq.fldq (d := 1) h_b g36 g38 (by kernel_rfl)) ?_
    refine m_' (.int .u64 ((gt b i0).2.1)) (aLoad Tryz.prog 43 (elp hd_b 3 i0.toNat 1) H) (h_b.ld g36 g38 (by kernel_rfl)) ?_
    refine d_bn (((gt a i0).2.1) = ((gt b i0).2.1)) (by kernel_rfl) (fun h42 => ?_) (fun h42 => ?_)
    ·have r43 := ite_t h42 r41
     refine e_' (.bool false) ?_
     refine e_' (.bool false) ?_
     refine e_' (hd_a) ?_
     refine e_' (i_ i0) ?_
     refine m_' (elp hd_a 3 i0.toNat 0) (aIndexAddr Tryz.prog 49 hd_a (i_ i0)) (h_a.idxb (by kernel_rfl) g36 h31) ?_
     refine m_' (elp hd_a 3 i0.toNat 2) (aFieldAddr Tryz.prog 70 (elp hd_a 3 i0.toNat 0) 2) (Sq.fldq (d := 2) h_a g36 h31 (by kernel_rfl)) ?_
     refine m_' (i_ ((gt a i0).2.2)) (aLoad Tryz.prog 3 (elp hd_a 3 i0.toNat 2) H) (h_a.ld g36 h31 (by kernel_rfl)) ?_
     refine e_' (hd_b) ?_
     refine e_' (i_ i0) ?_
     refine m_' (elp hd_b 3 i0.toNat 0) (aIndexAddr Tryz.prog 51 hd_b (i_ i0)) (h_b.idxb (by kernel_rfl) g36 g38) ?_
     refine m_' (elp hd_b 3 i0.toNat 2) (aFieldAddr Tryz.prog 61 (elp hd_b 3 i0.toNat 0) 2) (Sq.fldq (d := 2) h_b g36 g38 (by kernel_rfl)) ?_
     refine m_' (i_ ((gt b i0).2.2)) (aLoad Tryz.prog 3 (elp hd_b 3 i0.toNat 2) H) (h_b.ld g36 g38 (by kernel_rfl)) ?_
     refine e_' (.bool (!decide (((gt a i0).2.2) = ((gt b i0).2.2)))) ?_
     refine e_' (.bool (!decide (((gt a i0).2.2) = ((gt b i0).2.2)))) ?_
     refine d_nil ?_
     refine k35 _ _ ?_
     refine w_condn (((gt a i0).2.2) = ((gt b i0).2.2)) (by kernel_rfl) rfl (fun h44 => ?_) (fun h44 => ?_)
     ·have r45 := ite_f h44 r43
      refine w_seqk fun _ k46 => ?_
      refine g_' ?_
      refine q_ (.bool false) ?_
      refine s_nil (k46 _ _ ?_)
      refine w_ret (bl_ret (th_ret (th_ret (bl_ret (th_ret (th_ret ?_))))))
      obtain ⟨v47, hv48, hz49⟩ := map_some r45
      subst hz49
      obtain rfl := it_inr hn27
      have hq50 := elim_inl r12
      rw [hq50] at hv48
      refine b_ret (fn := Tryz.f11) (vs := [.bool false]) (aRes_tmp (by kernel_rfl) (rfl)) ?_
      obtain rfl := Option.some.inj hv48
      exact ⟨rfl, rfl⟩
     have r51 := ite_t h44 r43
     refine w_skip ?_
     refine k33 _ _ ?_
     refine g_' ?_
     obtain ⟨g52, r53⟩ := G_some r51
     refine s_w ((i0 + 1)) (k := .i64) (x := (i0 + 1)) (by kernel_rfl) (wrap64 (by have := g52; omega)) ?_
     refine q_ (i_ (i0 + 1)) ?_
     refine s_nil ?_
     obtain rfl := Option.some.inj r53
     exact k28 n24 _ _ (Nat.lt_succ_self _) ⟨(i0 + 1), hn27, ha_, rfl⟩
    have r54 := ite_f h42 r41
    refine e_' (.bool true) ?_
    refine e_' (.bool true) ?_
    refine j_' ?_
    refine j_' ?_
    refine j_' ?_
    refine j_' ?_
    refine j_' ?_
    refine j_' ?_
    refine j_' ?_
    refine j_' ?_
    refine j_' ?_
    refine j_' ?_
    refine j_' ?_
    refine e_' (.bool true) ?_
    refine d_nil ?_
    refine k35 _ _ ?_
    refine w_cond true (by kernel_rfl) rfl (fun _ => ?_) (fun h => by cases h)
    refine w_seqk fun _ k55 => ?_
    refine g_' ?_
    refine q_ (.bool false) ?_
    refine s_nil (k55 _ _ ?_)
    refine w_ret (bl_ret (th_ret (th_ret (bl_ret (th_ret (th_ret ?_))))))
    obtain ⟨v56, hv57, hz58⟩ := map_some r54
    subst hz58
    obtain rfl := it_inr hn27
    have hq59 := elim_inl r12
    rw [hq59] at hv57
    refine b_ret (fn := Tryz.f11) (vs := [.bool false]) (aRes_tmp (by kernel_rfl) (rfl)) ?_
    obtain rfl := Option.some.inj hv57
    exact ⟨rfl, rfl⟩
   have r60 := ite_f h40 r39
   refine e_' (.bool true) ?_
   refine j_' ?_
   refine j_' ?_
   refine j_' ?_
   refine j_' ?_
   refine j_' ?_
   refine j_' ?_
   refine j_' ?_
   refine j_' ?_
   refine j_' ?_
   refine j_' ?_
   refine j_' ?_
   refine e_' (.bool true) ?_
   refine e_' (.bool true) ?_
   refine j_' ?_
   refine j_' ?_
   refine j_' ?_
   refine j_' ?_
   refine j_' ?_
   refine j_' ?_
   refine j_' ?_
   refine j_' ?_
   refine j_' ?_
   refine j_' ?_
   refine j_' ?_
   refine e_' (.bool true) ?_
   refine d_nil ?_
   refine k35 _ _ ?_
   refine w_cond true (by kernel_rfl) rfl (fun _ => ?_) (fun h => by cases h)
   refine w_seqk fun _ k61 => ?_
   refine g_' ?_
   refine q_ (.bool false) ?_
   refine s_nil (k61 _ _ ?_)
   refine w_ret (bl_ret (th_ret (th_ret (bl_ret (th_ret (th_ret ?_))))))
   obtain ⟨v62, hv63, hz64⟩ := map_some r60
   subst hz64
   obtain rfl := it_inr hn27
   have hq65 := elim_inl r12
   rw [hq65] at hv63
   refine b_ret (fn := Tryz.f11) (vs := [.bool false]) (aRes_tmp (by kernel_rfl) (rfl)) ?_
   obtain rfl := Option.some.inj hv63
   exact ⟨rfl, rfl⟩
  have r66 := ite_f h31 hz26
  refine w_exit (th_exit (th_exit (bl_eq ?_)))
  obtain rfl := Option.some.inj r66
  obtain rfl := it_inr hn27
  exact k16 _ _ ⟨_, rfl, trivial, rfl⟩
 obtain ⟨o10, rfl, hh17, rfl⟩ := hM
 have r67 := elim_inr r12
 obtain ⟨β, rfl⟩ := has_ex hh17
 clear hh17
 refine k8 _ _ ?_
 refine w_seqk fun _ k68 => ?_
 refine g_' ?_
 refine q_ (.bool true) ?_
 refine s_nil (k68 _ _ ?_)
 refine w_ret ?_
 refine b_ret (fn := Tryz.f11) (vs := [.bool true]) (aRes_tmp (by kernel_rfl) (rfl)) ?_
 obtain rfl := Option.some.inj r67
 exact ⟨rfl, rfl⟩

theorem c_overlay_Overlay_In {H : AH} {b_o : Nat} {hd_o_ : Value} {fp_o_ : Fp} {o_ : List (Bool × List (Int × Int × Int) × List (Int × Int × Int))} {o_2 : Int} {o_3 : Int} {v_ : Int} {r : List (Int × Int × Int)}
    (wf : WF H) (h_o_ : Nd enc_i64_u64_i64 3 H hd_o_ o_ fp_o_ []) (h_o : Row H b_o [hd_o_, i_ o_2, i_ o_3]) (hr : z_overlay_Overlay_In o_ o_2 o_3 v_ = some r) :
    ACalls Tryz.prog 14 #[pt_ b_o 0, i_ v_] H fun v H' => ∃ (s3 : Value) (f4 : Fp), v = s3 ∧ FrS [] H H' ∧ Ow enc_i64_u64_i64 3 H' s3 r f4 ∧ Inn [] H f4 := by
 refine acalls_of_body mixed Tryz.func14 rfl (Nat.le_of_ble_eq_true rfl) ?_
 unfold z_overlay_Overlay_In at hr
 refine w_seqk fun _ k6 => ?_
 refine g_' ?_
 refine q_ (.slice none 0 0) ?_
 refine s_nil (k6 _ _ ?_)
 refine w_seqk fun _ k7 => ?_
 refine w_seqk fun _ k8 => ?_
 refine g_' ?_
 refine q_ (pt_ b_o 0) ?_
 refine q_ (i_ v_) ?_
 obtain ⟨y9, hy10, r11⟩ := bind_some hr
 refine s_ck 20 #[pt_ b_o 0, i_ v_] (by kernel_rfl) (c_overlay_Overlay_Alive wf h_o_ h_o hy10) ?_
 rintro _ _ ⟨rfl, rfl⟩
 refine q_ (.bool (!y9)) ?_
 refine s_nil (k8 _ _ ?_)
 refine w_cond ((!y9)) (by kernel_rfl) rfl (fun h14 => ?_) (fun h14 => ?_)
 ·have r15 := ite_t h14 r11
  refine w_seqk fun _ k16 => ?_
  refine g_' ?_
  refine q_ (.slice none 0 0) ?_
  refine s_nil (k16 _ _ ?_)
  refine w_ret (th_ret ?_)
  refine b_ret (fn := Tryz.f14) (vs := [.slice none 0 0]) (aRes_tmp (by kernel_rfl) (rfl)) ?_
  obtain rfl := Option.some.inj r15
  exact ⟨(.slice none 0 0), [], rfl, (FrS.refl (W := []) wf), (Ow.nil (by decide)), Inn.nil⟩
 have r17 := ite_bf h14 r11
 refine w_skip ?_
 refine k7 _ _ ?_
 refine w_seqk fun _ k18 => ?_
 refine g_' ?_
 refine q_ (pt_ b_o 0) ?_
 refine q_ (pt_ b_o 0) ?_
 refine q_ (pt_ b_o 0) ?_
 refine l_' (hd_o_) (aLoad Tryz.prog 65 (pt_ b_o 0) H) (h_o.ld (by kernel_rfl)) ?_
 refine q_ (i_ v_) ?_
 obtain ⟨g19, r20⟩ := G_some r17
 refine l_' (elp hd_o_ 3 v_.toNat 0) (aIndexAddr Tryz.prog 65 hd_o_ (i_ v_)) (h_o_.idxb (by kernel_rfl) g19.1 g19.2) ?_
 refine l_' (elp hd_o_ 3 v_.toNat 2) (aFieldAddr Tryz.prog 69 (elp hd_o_ 3 v_.toNat 0) 2) (Nd.fldq (d := 2) h_o_ g19.1 g19.2 (by kernel_rfl)) ?_
 obtain ⟨u21, u22, hl23, hk24⟩ := Nd.at h_o_ g19.1 g19.2
 have kd25 : KdS enc_i64_u64_i64 3 H u22 ((gt o_ v_).2.2) fp_o_ hd_o_ 3 v_.toNat 2 := hk24 true (by simp)
 obtain ⟨a26, n27, c28, rfl⟩ := kd25.sq.form
 refine l_' (.slice a26 n27 c28) (aLoad Tryz.prog 49 (elp hd_o_ 3 v_.toNat 2) H) (hl23 _ _ _ _ (by kernel_rfl)) ?_
 obtain ⟨y30, hy31, r32⟩ := bind_some r20
 refine s_ck 35 #[.slice a26 n27 c28] (by kernel_rfl) (c_slices_Clone wf kd25.sq hy31) ?_
 rintro s33 H35 ⟨_, f34, rfl, e36, m37, i38⟩
 obtain ⟨a40, n41, c42, rfl⟩ := m37.form
 refine q_ (.slice a40 n41 c42) ?_
 refine s_nil (k18 _ _ ?_)
 refine w_ret ?_
 refine b_ret (fn := Tryz.f14) (vs := [.slice a40 n41 c42]) (aRes_tmp (by kernel_rfl) (rfl)) ?_
 obtain rfl := Option.some.inj r32
 exact ⟨(.slice a40 n41 c42), f34, rfl, (FrS.step wf (FrS.refl (W := []) wf) e36 Inn.nil), m37, (i38.fresh (Nat.le_refl _))⟩

theorem c_viaductlaw11_awake {H : AH} {r : Bool}
    (wf : WF H) (hr : z_viaductlaw11_awake = some r) :
    ACalls Tryz.prog 4 #[] H fun v H' => v = .bool r ∧ FrS [] H H' := by
 refine acalls_of_body mixed Tryz.func4 rfl (Nat.le_of_ble_eq_true rfl) ?_
 unfold z_viaductlaw11_awake at hr
 refine w_seqk fun _ k1 => ?_
 refine g_' ?_
 refine q_ (.bool false) ?_
 refine s_nil (k1 _ _ ?_)
 refine w_seqk fun _ k2 => ?_
 refine g_' ?_
 refine q_ (.agg #[i_ 0, i_ 1, i_ 3]) ?_
 refine q_ (.agg #[i_ 1, i_ 2, i_ 1]) ?_
 refine s_owk (enc := enc_i64_i64_i64) (sz := 3) wf [(0, 1, 3), (1, 2, 1)] 2 (by decide) (fun _ _ => rfl) (fun _ _ => rfl) rfl (by kernel_rfl) fun s3 f4 H5 e6 hf7 hm8 => ?_
 obtain ⟨a9, n10, c11, rfl⟩ := hm8.form
 refine q_ (.agg #[i_ 3, .slice a9 n10 c11]) ?_
 obtain ⟨y13, hy14, r15⟩ := bind_some hr
 rcases y13 with y16 | y17
 ·have r18 := elim_l r15
  refine s_ck 5 #[.agg #[i_ 3, .slice a9 n10 c11]] (by kernel_rfl) (c_overlay_New e6.wf hm8.sq hy14) ?_
  rintro _ H21 ⟨v19, f20, rfl, e22, m23, i24⟩
  refine q_ (.tuple #[.pointer none, v19]) ?_
  refine q_ (.pointer none) ?_
  refine q_ (v19) ?_
  refine q_ (.pointer none) ?_
  refine q_ (v19) ?_
  refine s_nil (k2 _ _ ?_)
  refine w_seqk fun _ k26 => ?_
  refine w_seqk fun _ k27 => ?_
  obtain ⟨o28, hx29, r30⟩ := bind_some r18
  refine w_mid (fun α H31 => Has α [(1, .pointer none), (32, .bool true)] ∧ H21 = H31) (fun _ k33 => ?_) (fun α H31 hM => ?_)
  ·refine g_' ?_
   refine q_ (v19) ?_
   rcases (m23).cases with ⟨h35, rfl⟩ | ⟨h35, t36, x37, rfl⟩
   ·have r38 := ite_t h35 hx29
    refine q_ (.bool false) ?_
    refine q_ (.bool false) ?_
    refine q_ (.pointer none) ?_
    refine q_ (.bool true) ?_
    refine q_ (.bool true) ?_
    refine q_ (.bool true) ?_
    refine n_' ?_
    refine n_' ?_
    refine n_' ?_
    refine q_ (.bool true) ?_
    refine q_ (.bool true) ?_
    refine n_' ?_
    refine n_' ?_
    refine n_' ?_
    refine q_ (.bool true) ?_
    refine q_ (.bool true) ?_
    refine n_' ?_
    refine n_' ?_
    refine n_' ?_
    refine q_ (.bool true) ?_
    refine s_nil ?_
    obtain rfl := Option.some.inj r38
    exact k33 _ _ ⟨ha_, rfl⟩
   have r39 := ite_f h35 hx29
   refine l_' (.bool true) (aBin Tryz.prog .neq 29 (.tmp 12) (.const .nilIface) (.iface t36 x37) .nilIface) (aBin_nnil (by kernel_rfl)) ?_
   refine q_ (.bool true) ?_
   refine n_' ?_
   refine n_' ?_
   refine q_ (.bool true) ?_
   refine q_ (.bool true) ?_
   refine n_' ?_
   refine n_' ?_
   refine n_' ?_
   refine q_ (.bool true) ?_
   refine q_ (.bool true) ?_
   refine n_' ?_
   refine n_' ?_
   refine n_' ?_
   refine q_ (.bool true) ?_
   refine q_ (.bool true) ?_
   refine n_' ?_
   refine n_' ?_
   refine n_' ?_
   refine q_ (.bool true) ?_
   refine s_nil ?_
   obtain rfl := Option.some.inj r39
   exact k33 _ _ ⟨ha_, rfl⟩
  obtain ⟨hh34, rfl⟩ := hM
  obtain ⟨β, rfl⟩ := has_ex hh34
  clear hh34
  refine k27 _ _ ?_
  refine w_cond true (by kernel_rfl) rfl (fun _ => ?_) (fun h => by cases h)
  refine w_seqk fun _ k40 => ?_
  refine g_' ?_
  refine q_ (.bool false) ?_
  refine s_nil (k40 _ _ ?_)
  refine w_ret (th_ret ?_)
  refine b_ret (fn := Tryz.f4) (vs := [.bool false]) (aRes_tmp (by kernel_rfl) (rfl)) ?_
  obtain rfl := Option.some.inj r30
  exact ⟨rfl, (FrS.step wf ((FrS.refl (W := []) wf).extR e6) e22 Inn.nil)⟩
 have r41 := elim_r r15
 refine s_ck 5 #[.agg #[i_ 3, .slice a9 n10 c11]] (by kernel_rfl) (c_overlay_New e6.wf hm8.sq hy14) ?_
 rintro _ H45 ⟨s42, f43, b44, rfl, e46, m47, m48, i49, i50, d51⟩
 obtain ⟨a54, n55, c56, rfl⟩ := m47.form
 refine q_ (.tuple #[pt_ b44 0, .nilIface]) ?_
 refine q_ (pt_ b44 0) ?_
 refine q_ (.nilIface) ?_
 refine q_ (pt_ b44 0) ?_
 refine q_ (.nilIface) ?_
 refine s_nil (k2 _ _ ?_)
 refine w_seqk fun _ k57 => ?_
 refine w_seqk fun _ k58 => ?_
 obtain ⟨o59, hx60, r61⟩ := bind_some r41
 refine w_mid (fun α H62 => ∃ (f66 : Fp), Has α [(1, pt_ b44 0), (32, .bool o59.2.2.2)] ∧ FrS ([b44] ++ f43) H45 H62 ∧ Nd enc_i64_u64_i64 3 H62 (.slice a54 n55 c56) o59.1 f66 [] ∧ Row H62 b44 [.slice a54 n55 c56, i_ o59.2.1, i_ o59.2.2.1] ∧ Inn f43 H45 f66) (fun _ k70 => ?_) (fun α H62 hM => ?_)
 ·refine g_' ?_
  refine q_ (.nilIface) ?_
  refine q_ (.bool false) ?_
  refine q_ (.bool false) ?_
  refine q_ (pt_ b44 0) ?_
  refine q_ (.bool false) ?_
  refine q_ (.bool false) ?_
  refine q_ (.bool false) ?_
  refine q_ (pt_ b44 0) ?_
  obtain ⟨y72, hy73, r74⟩ := bind_some hx60
  refine s_ck 16 #[pt_ b44 0] (by kernel_rfl) (c_overlay_Overlay_Len e46.wf m47 m48 hy73) ?_
  rintro _ _ ⟨rfl, rfl⟩
  refine s_bn (y72 = 3) (by kernel_rfl) (fun h77 => ?_) (fun h77 => ?_)
  ·have r78 := ite_t h77 r74
   refine q_ (.bool false) ?_
   refine q_ (.bool false) ?_
   refine q_ (pt_ b44 0) ?_
   obtain ⟨y79, hy80, r81⟩ := bind_some r78
   refine s_ck 17 #[pt_ b44 0] (by kernel_rfl) (c_overlay_Overlay_Arcs e46.wf m47 m48 hy80) ?_
   rintro _ _ ⟨rfl, rfl⟩
   refine s_bn (y79 = 2) (by kernel_rfl) (fun h84 => ?_) (fun h84 => ?_)
   ·have r85 := ite_t h84 r81
    refine q_ (.bool false) ?_
    refine q_ (.bool false) ?_
    refine q_ (pt_ b44 0) ?_
    obtain ⟨y86, hy87, r88⟩ := bind_some r85
    refine s_ck 18 #[pt_ b44 0, i_ 1] (by kernel_rfl) (c_overlay_Overlay_Remove e46.wf m47 m48 d51 hy87) ?_
    rintro v89 H92 ⟨_, f90, f91, rfl, e93, m94, m95, m96, i97, i98, d99⟩
    rcases (m94).cases with ⟨h101, rfl⟩ | ⟨h101, t102, x103, rfl⟩
    ·have r104 := ite_t h101 r88
     refine q_ (.bool false) ?_
     refine q_ (.bool false) ?_
     refine s_nil ?_
     obtain rfl := Option.some.inj r104
     exact k70 _ _ ⟨f91, ha_, (FrS.step e46.wf (FrS.refl (W := ([b44] ++ f43)) e46.wf) e93 (Inn.app Inn.left (Inn.right Inn.refl'))), m95, m96, (Inn.trans Inn.refl' (Nat.le_refl _) i98)⟩
    have r105 := ite_f h101 r88
    refine l_' (.bool true) (aBin Tryz.prog .neq 29 (.tmp 30) (.const .nilIface) (.iface t102 x103) .nilIface) (aBin_nnil (by kernel_rfl)) ?_
    refine q_ (.bool true) ?_
    refine s_nil ?_
    obtain rfl := Option.some.inj r105
    exact k70 _ _ ⟨f91, ha_, (FrS.step e46.wf (FrS.refl (W := ([b44] ++ f43)) e46.wf) e93 (Inn.app Inn.left (Inn.right Inn.refl'))), m95, m96, (Inn.trans Inn.refl' (Nat.le_refl _) i98)⟩
   have r106 := ite_f h84 r81
   refine q_ (.bool true) ?_
   refine q_ (.bool true) ?_
   refine n_' ?_
   refine n_' ?_
   refine n_' ?_
   refine q_ (.bool true) ?_
   refine s_nil ?_
   obtain rfl := Option.some.inj r106
   exact k70 _ _ ⟨f43, ha_, (FrS.refl (W := ([b44] ++ f43)) e46.wf), m47, m48, Inn.refl'⟩
  have r107 := ite_f h77 r74
  refine q_ (.bool true) ?_
  refine q_ (.bool true) ?_
  refine n_' ?_
  refine n_' ?_
  refine n_' ?_
  refine q_ (.bool true) ?_
  refine q_ (.bool true) ?_
  refine n_' ?_
  refine n_' ?_
  refine n_' ?_
  refine q_ (.bool true) ?_
  refine s_nil ?_
  obtain rfl := Option.some.inj r107
  exact k70 _ _ ⟨f43, ha_, (FrS.refl (W := ([b44] ++ f43)) e46.wf), m47, m48, Inn.refl'⟩
 obtain ⟨f66, hh71, e63, m65, m68, i69⟩ := hM
 obtain ⟨β, rfl⟩ := has_ex hh71
 clear hh71
 refine k58 _ _ ?_
 refine w_cond (o59.2.2.2) (by kernel_rfl) rfl (fun h108 => ?_) (fun h108 => ?_)
 ·have r109 := ite_t h108 r61
  refine w_seqk fun _ k110 => ?_
  refine g_' ?_
  refine q_ (.bool false) ?_
  refine s_nil (k110 _ _ ?_)
  refine w_ret (th_ret ?_)
  refine b_ret (fn := Tryz.f4) (vs := [.bool false]) (aRes_tmp (by kernel_rfl) (rfl)) ?_
  obtain rfl := Option.some.inj r109
  exact ⟨rfl, (FrS.step wf (FrS.step wf ((FrS.refl (W := []) wf).extR e6) e46 Inn.nil) e63 (Inn.app (i50.fresh e6.next) (i49.fresh e6.next)))⟩
 have r111 := ite_bf h108 r61
 refine w_skip ?_
 refine k57 _ _ ?_
 refine w_seqk fun _ k112 => ?_
 refine g_' ?_
 refine q_ (pt_ b44 0) ?_
 obtain ⟨y113, hy114, r115⟩ := bind_some r111
 refine s_ck 19 #[pt_ b44 0, i_ 0, i_ 2, .int .u64 4, i_ 1] (by kernel_rfl) (c_overlay_Overlay_Put e63.wf m65 m68 (Dj.symm (i69.dj d51 m48.ltF)) hy114) ?_
 rintro _ H119 ⟨v116, f117, f118, rfl, e120, m121, m122, m123, i124, i125, d126⟩
 refine q_ (.tuple #[.bool y113.1, v116]) ?_
 refine q_ (.bool y113.1) ?_
 refine q_ (v116) ?_
 refine q_ (.bool y113.1) ?_
 refine q_ (v116) ?_
 refine s_nil (k112 _ _ ?_)
 refine w_seqk fun _ k128 => ?_
 refine g_' ?_
 refine q_ (v116) ?_
 rcases (m121).cases with ⟨h129, rfl⟩ | ⟨h129, t130, x131, rfl⟩
 ·have r132 := ite_t h129 r115
  refine q_ (.bool true) ?_
  refine q_ (.bool true) ?_
  refine q_ (.bool y113.1) ?_
  refine q_ (.bool y113.1) ?_
  refine q_ (.bool y113.1) ?_
  by_cases h133 : y113.1 = true
  ·have r134 := ite_t h133 r132
   rw [h133]
   refine q_ (pt_ b44 0) ?_
   obtain ⟨y135, hy136, r137⟩ := bind_some r134
   refine s_ck 12 #[pt_ b44 0, i_ 0] (by kernel_rfl) (c_overlay_Overlay_Out e120.wf m122 m123 hy136) ?_
   rintro s138 H140 ⟨_, f139, rfl, e141, m142, i143⟩
   obtain ⟨a145, n146, c147, rfl⟩ := m142.form
   refine q_ (.agg #[i_ 2, .int .u64 4, i_ 1]) ?_
   refine s_owk (enc := enc_i64_u64_i64) (sz := 3) e141.wf [(2, 4, 1)] 1 (by decide) (fun _ _ => rfl) (fun _ _ => rfl) rfl (by kernel_rfl) fun s148 f149 H150 e151 hf152 hm153 => ?_
   obtain ⟨a154, n155, c156, rfl⟩ := hm153.form
   have u158 := (m142.ext e151)
   obtain ⟨y159, hy160, r161⟩ := bind_some r137
   refine s_ck 11 #[.slice a145 n146 c147, .slice a154 n155 c156] (by kernel_rfl) (c_viaductlaw11_same e151.wf u158.sq hm153.sq hy160) ?_
   rintro _ _ ⟨rfl, rfl⟩
   by_cases h164 : y159 = true
   ·have r165 := ite_t h164 r161
    rw [h164]
    refine q_ (.bool true) ?_
    refine q_ (.bool true) ?_
    refine q_ (pt_ b44 0) ?_
    have u167 := ((m122.fr e141 Dj.nil_l).ext e151)
    have u168 := ((m123.frS e141 Dj.nil_l).ext e151)
    obtain ⟨y169, hy170, r171⟩ := bind_some r165
    refine s_ck 14 #[pt_ b44 0, i_ 2] (by kernel_rfl) (c_overlay_Overlay_In e151.wf u167 u168 hy170) ?_
    rintro s172 H174 ⟨_, f173, rfl, e175, m176, i177⟩
    obtain ⟨a179, n180, c181, rfl⟩ := m176.form
    refine q_ (.agg #[i_ 0, .int .u64 4, i_ 1]) ?_
    refine s_owk (enc := enc_i64_u64_i64) (sz := 3) e175.wf [(0, 4, 1)] 1 (by decide) (fun _ _ => rfl) (fun _ _ => rfl) rfl (by kernel_rfl) fun s182 f183 H184 e185 hf186 hm187 => ?_
    obtain ⟨a188, n189, c190, rfl⟩ := hm187.form
    have u192 := (m176.ext e185)
    obtain ⟨y193, hy194, r195⟩ := bind_some r171
    refine s_ck 11 #[.slice a179 n180 c181, .slice a188 n189 c190] (by kernel_rfl) (c_viaductlaw11_same e185.wf u192.sq hm187.sq hy194) ?_
    rintro _ _ ⟨rfl, rfl⟩
    by_cases h198 : y193 = true
    ·have r199 := ite_t h198 r195
     rw [h198]
     refine q_ (.bool true) ?_
     refine q_ (.bool true) ?_
     refine q_ (pt_ b44 0) ?_
     have u201 := ((u167.fr e175 Dj.nil_l).ext e185)
     have u202 := ((u168.frS e175 Dj.nil_l).ext e185)
     obtain ⟨y203, hy204, r205⟩ := bind_some r199
     refine s_ck 20 #[pt_ b44 0, i_ 1] (by kernel_rfl) (c_overlay_Overlay_Alive e185.wf u201 u202 hy204) ?_
     rintro _ _ ⟨rfl, rfl⟩
     refine q_ (.bool (!y203)) ?_
     refine q_ (.bool (!y203)) ?_
     refine q_ (.bool (!y203)) ?_
     refine s_nil (k128 _ _ ?_)
     refine w_ret ?_
     refine b_ret (fn := Tryz.f4) (vs := [.bool (!y203)]) (aRes_tmp (by kernel_rfl) (rfl)) ?_
     obtain rfl := Option.some.inj r205
     exact ⟨rfl, ((FrS.step wf ((FrS.step wf (FrS.step wf (FrS.step wf (FrS.step wf ((FrS.refl (W := []) wf).extR e6) e46 Inn.nil) e63 (Inn.app (i50.fresh e6.next) (i49.fresh e6.next))) e120 (Inn.app (i50.fresh e6.next) (Inn.trans (i49.fresh e6.next) (ntr e6.next e46.next) i69))) e141 Inn.nil).extR e151) e175 Inn.nil).extR e185)⟩
    have r208 := ite_f h198 r195
    rw [nb h198]
    refine q_ (.bool false) ?_
    refine q_ (.bool false) ?_
    refine n_' ?_
    refine n_' ?_
    refine n_' ?_
    refine q_ (.bool false) ?_
    refine q_ (.bool false) ?_
    refine s_nil (k128 _ _ ?_)
    refine w_ret ?_
    refine b_ret (fn := Tryz.f4) (vs := [.bool false]) (aRes_tmp (by kernel_rfl) (rfl)) ?_
    obtain rfl := Option.some.inj r208
    exact ⟨rfl, ((FrS.step wf ((FrS.step wf (FrS.step wf (FrS.step wf (FrS.step wf ((FrS.refl (W := []) wf).extR e6) e46 Inn.nil) e63 (Inn.app (i50.fresh e6.next) (i49.fresh e6.next))) e120 (Inn.app (i50.fresh e6.next) (Inn.trans (i49.fresh e6.next) (ntr e6.next e46.next) i69))) e141 Inn.nil).extR e151) e175 Inn.nil).extR e185)⟩
   have r210 := ite_f h164 r161
   rw [nb h164]
   refine q_ (.bool false) ?_
   refine q_ (.bool false) ?_
   refine n_' ?_
   refine n_' ?_
   refine n_' ?_
   refine n_' ?_
   refine n_' ?_
   refine q_ (.bool false) ?_
   refine q_ (.bool false) ?_
   refine n_' ?_
   refine n_' ?_
   refine n_' ?_
   refine q_ (.bool false) ?_
   refine q_ (.bool false) ?_
   refine s_nil (k128 _ _ ?_)
   refine w_ret ?_
   refine b_ret (fn := Tryz.f4) (vs := [.bool false]) (aRes_tmp (by kernel_rfl) (rfl)) ?_
   obtain rfl := Option.some.inj r210
   exact ⟨rfl, ((FrS.step wf (FrS.step wf (FrS.step wf (FrS.step wf ((FrS.refl (W := []) wf).extR e6) e46 Inn.nil) e63 (Inn.app (i50.fresh e6.next) (i49.fresh e6.next))) e120 (Inn.app (i50.fresh e6.next) (Inn.trans (i49.fresh e6.next) (ntr e6.next e46.next) i69))) e141 Inn.nil).extR e151)⟩
  have r212 := ite_f h133 r132
  rw [nb h133]
  refine n_' ?_
  refine n_' ?_
  refine n_' ?_
  refine n_' ?_
  refine n_' ?_
  refine q_ (.bool false) ?_
  refine q_ (.bool false) ?_
  refine n_' ?_
  refine n_' ?_
  refine n_' ?_
  refine n_' ?_
  refine n_' ?_
  refine q_ (.bool false) ?_
  refine q_ (.bool false) ?_
  refine n_' ?_
  refine n_' ?_
  refine n_' ?_
  refine q_ (.bool false) ?_
  refine q_ (.bool false) ?_
  refine s_nil (k128 _ _ ?_)
  refine w_ret ?_
  refine b_ret (fn := Tryz.f4) (vs := [.bool false]) (aRes_tmp (by kernel_rfl) (rfl)) ?_
  obtain rfl := Option.some.inj r212
  exact ⟨rfl, (FrS.step wf (FrS.step wf (FrS.step wf ((FrS.refl (W := []) wf).extR e6) e46 Inn.nil) e63 (Inn.app (i50.fresh e6.next) (i49.fresh e6.next))) e120 (Inn.app (i50.fresh e6.next) (Inn.trans (i49.fresh e6.next) (ntr e6.next e46.next) i69)))⟩
 have r213 := ite_f h129 r115
 refine l_' (.bool false) (aBin Tryz.prog .eql 29 (.tmp 38) (.const .nilIface) (.iface t130 x131) .nilIface) (aBin_nil (by kernel_rfl)) ?_
 refine q_ (.bool false) ?_
 refine n_' ?_
 refine q_ (.bool false) ?_
 refine q_ (.bool false) ?_
 refine n_' ?_
 refine n_' ?_
 refine n_' ?_
 refine n_' ?_
 refine n_' ?_
 refine q_ (.bool false) ?_
 refine q_ (.bool false) ?_
 refine n_' ?_
 refine n_' ?_
 refine n_' ?_
 refine n_' ?_
 refine n_' ?_
 refine q_ (.bool false) ?_
 refine q_ (.bool false) ?_
 refine n_' ?_
 refine n_' ?_
 refine n_' ?_
 refine q_ (.bool false) ?_
 refine q_ (.bool false) ?_
 refine s_nil (k128 _ _ ?_)
 refine w_ret ?_
 refine b_ret (fn := Tryz.f4) (vs := [.bool false]) (aRes_tmp (by kernel_rfl) (rfl)) ?_
 obtain rfl := Option.some.inj r213
 exact ⟨rfl, (FrS.step wf (FrS.step wf (FrS.step wf ((FrS.refl (W := []) wf).extR e6) e46 Inn.nil) e63 (Inn.app (i50.fresh e6.next) (i49.fresh e6.next))) e120 (Inn.app (i50.fresh e6.next) (Inn.trans (i49.fresh e6.next) (ntr e6.next e46.next) i69)))⟩

theorem c_viaductref01_E {H : AH} {n_ : Int} {r : Int}
    (wf : WF H) (hr : z_viaductref01_E n_ = some r) :
    ACalls Tryz.prog 22 #[i_ n_] H fun v H' => v = .agg #[i_ r, .slice none 0 0] ∧ FrS [] H H' := by
 refine acalls_of_body mixed Tryz.func22 rfl (Nat.le_of_ble_eq_true rfl) ?_
 unfold z_viaductref01_E at hr
 refine w_seqk fun _ k1 => ?_
 refine g_' ?_
 refine s_rwk wf [i_ 0, .slice none 0 0] (by kernel_rfl) fun b2 H3 e4 hb5 r6 => ?_
 refine s_nil (k1 _ _ ?_)
 refine w_seqk fun _ k8 => ?_
 refine g_' ?_
 refine q_ (i_ n_) ?_
 refine q_ (.agg #[i_ n_, .slice none 0 0]) ?_
 obtain ⟨H9, q10, e11, r12⟩ := Row.store (P := Tryz.prog) (t := 34) (p := 0) e4.wf r6 (.agg #[i_ n_, .slice none 0 0]) [i_ n_, .slice none 0 0] (by kernel_rfl) (by kernel_rfl) (one_cons (rfl) (one_cons (rfl) (one_nil))) (Nat.le_of_ble_eq_true (by kernel_rfl)) [i_ n_, .slice none 0 0] (by kernel_rfl)
 refine s_ek (undef) (by kernel_rfl) (map_ok q10) ?_
 refine s_nil (k8 _ _ ?_)
 refine w_ret ?_
 refine b_ret (fn := Tryz.f22) (vs := [.agg #[i_ n_, .slice none 0 0]]) (aRes_cell (Eq.trans (b := aLoad Tryz.prog 34 (pt_ b2 0) H9) (by kernel_rfl) (r12.ld (by kernel_rfl))) (rfl)) ?_
 obtain rfl := Option.some.inj hr
 exact ⟨rfl, (FrS.step wf ((FrS.refl (W := []) wf).extR e4) e11 (hb5.fresh (Nat.le_refl _)))⟩

theorem c_viaductref01_At {H : AH} {hd_Places : Value} {fp_Places : Fp} {kind : Int} {at_ : Int} {Code : Int} {Places : List (Int × Int)} {r : Int × List (Int × Int)}
    (wf : WF H) (h_Places : Sq enc_i64_i64 2 H hd_Places Places fp_Places) (hr : z_viaductref01_At kind at_ Code Places = some r) :
    ACalls Tryz.prog 23 #[i_ kind, i_ at_, .agg #[i_ Code, hd_Places]] H fun v H' => ∃ (s3 : Value) (f4 : Fp), v = .agg #[i_ r.1, s3] ∧ FrS [] H H' ∧ Ow enc_i64_i64 2 H' s3 r.2 f4 ∧ Inn [] H f4 := by
 refine acalls_of_body mixed Tryz.func23 rfl (Nat.le_of_ble_eq_true rfl) ?_
 unfold z_viaductref01_At at hr
 refine w_seqk fun _ k6 => ?_
 refine g_' ?_
 refine s_rwl wf [i_ Code, hd_Places] (one_cons (rfl) (one_cons (h_Places.one1) (one_nil))) (by kernel_rfl) fun b7 H8 e9 hb10 r11 => ?_
 refine s_rwk e9.wf [i_ 0, .slice none 0 0] (by kernel_rfl) fun b13 H14 e15 hb16 r17 => ?_
 refine s_nil (k6 _ _ ?_)
 refine w_seqk fun _ k19 => ?_
 refine g_' ?_
 refine q_ (i_ kind) ?_
 refine q_ (i_ at_) ?_
 refine q_ (.agg #[i_ kind, i_ at_]) ?_
 refine s_owk (enc := enc_i64_i64) (sz := 2) e15.wf [(kind, at_)] 1 (by decide) (fun _ _ => rfl) (fun _ _ => rfl) rfl (by kernel_rfl) fun s20 f21 H22 e23 hf24 hm25 => ?_
 obtain ⟨a26, n27, c28, rfl⟩ := hm25.form
 refine q_ (.slice a26 n27 c28) ?_
 refine s_nil (k19 _ _ ?_)
 refine w_seqk fun _ k30 => ?_
 refine g_' ?_
 refine q_ (.slice a26 n27 c28) ?_
 refine q_ (pt_ b7 1) ?_
 have u31 := ((r11.ext e15).ext e23)
 refine l_' (hd_Places) (aLoad Tryz.prog 32 (pt_ b7 1) H22) (u31.ld (by kernel_rfl)) ?_
 obtain ⟨g32, r33⟩ := G_some hr
 have u41 := (((h_Places.ext e9).ext e15).ext e23)
 obtain ⟨s34, H35, f36, q40, e37, hm38, hf39⟩ := Ow.append (P := Tryz.prog) 16 e23.wf hm25 u41 (fun _ _ => rfl) (at_ := #[32, 32]) rfl rfl (by kernel_rfl) (by kernel_rfl) (by decide) (by have := g32; first | omega | (simp only [List.length_cons, List.length_nil] at this ⊢; omega) | (simp at this ⊢; omega))
 obtain ⟨a42, n43, c44, rfl⟩ := hm38.form
 refine s_ek (.slice a42 n43 c44) (by kernel_rfl) (q40) ?_
 refine q_ (.slice a42 n43 c44) ?_
 refine s_nil (k30 _ _ ?_)
 refine w_seqk fun _ k46 => ?_
 refine g_' ?_
 refine q_ (pt_ b7 0) ?_
 have u47 := (u31.frS e37 (hf24.djn (r11.ltF.le e15.next)))
 refine l_' (i_ Code) (aLoad Tryz.prog 3 (pt_ b7 0) H35) (u47.ld (by kernel_rfl)) ?_
 refine q_ (.slice a42 n43 c44) ?_
 refine q_ (.agg #[i_ Code, .slice a42 n43 c44]) ?_
 have u52 := ((r17.ext e23).frS e37 (hf24.djn r17.ltF))
 obtain ⟨H48, q49, e50, r51⟩ := Row.store (P := Tryz.prog) (t := 34) (p := 0) e37.wf u52 (.agg #[i_ Code, .slice a42 n43 c44]) [i_ Code, .slice a42 n43 c44] (by kernel_rfl) (by kernel_rfl) (one_cons (rfl) (one_cons (hm38.one1) (one_nil))) (Nat.le_of_ble_eq_true (by kernel_rfl)) [i_ Code, .slice a42 n43 c44] (by kernel_rfl)
 refine s_ek (undef) (by kernel_rfl) (map_ok q49) ?_
 refine s_nil (k46 _ _ ?_)
 refine w_ret ?_
 refine b_ret (fn := Tryz.f23) (vs := [.agg #[i_ Code, .slice a42 n43 c44]]) (aRes_cell (Eq.trans (b := aLoad Tryz.prog 34 (pt_ b13 0) H48) (by kernel_rfl) (r51.ld (by kernel_rfl))) (rfl)) ?_
 have u53 := (hm38.fr e50 (Dj.symm (hf39.dj (hf24.djn r17.ltF) (r17.ltF.le e23.next))))
 obtain rfl := Option.some.inj r33
 exact ⟨(.slice a42 n43 c44), f36, rfl, (FrS.step wf (FrS.step wf ((((FrS.refl (W := []) wf).extR e9).extR e15).extR e23) e37 (hf24.fresh (ntr e9.next e15.next))) e50 (hb16.fresh e9.next)), u53, (Inn.trans (hf24.fresh (ntr e9.next e15.next)) (ntr (ntr e9.next e15.next) e23.next) hf39)⟩


end Go.Vd

/-! (KOp3) -/

set_option maxRecDepth 100000
set_option maxHeartbeats 4000000
set_option linter.unusedVariables false
namespace Go.Vd
open Go.Proofs
attribute [local irreducible] wpSeq wpOrd aWp
theorem c_viaductref03_DocCheck {H : AH} {hd_Arcs : Value} {fp_Arcs : Fp} {N_ : Int} {Arcs : List (Int × Int × Int)} {r : Int × List (Int × Int)}
    (wf : WF H) (h_Arcs : Sq enc_i64_i64_i64 3 H hd_Arcs Arcs fp_Arcs) (hr : z_viaductref03_DocCheck N_ Arcs = some r) :
    ACalls Tryz.prog 6 #[.agg #[i_ N_, hd_Arcs]] H fun v H' => ∃ (s3 : Value) (f4 : Fp), v = .agg #[i_ r.1, s3] ∧ FrS [] H H' ∧ Ow enc_i64_i64 2 H' s3 r.2 f4 ∧ Inn [] H f4 := by
 refine acalls_of_body mixed Tryz.func6 rfl (Nat.le_of_ble_eq_true rfl) ?_
 unfold z_viaductref03_DocCheck at hr
 refine w_seqk fun _ k6 => ?_
 refine g_' ?_
 refine s_rwl wf [i_ N_, hd_Arcs] (one_cons (rfl) (one_cons (h_Arcs.one1) (one_nil))) (by kernel_rfl) fun b7 H8 e9 hb10 r11 => ?_
 refine s_rwk e9.wf [i_ 0, .slice none 0 0] (by kernel_rfl) fun b13 H14 e15 hb16 r17 => ?_
 refine s_nil (k6 _ _ ?_)
 refine w_seqk fun _ k19 => ?_
 refine w_seqk fun _ k20 => ?_
 obtain ⟨o21, hx22, r23⟩ := bind_some hr
 refine w_mid (fun α H24 => Has α [(1, pt_ b7 0), (2, pt_ b13 0), (18, .bool o21)] ∧ H14 = H24) (fun _ k26 => ?_) (fun α H24 hM => ?_)
 ·refine g_' ?_
  refine q_ (pt_ b7 0) ?_
  have u28 := (r11.ext e15)
  refine l_' (i_ N_) (aLoad Tryz.prog 3 (pt_ b7 0) H14) (u28.ld (by kernel_rfl)) ?_
  refine s_b (N_ < 0) (by kernel_rfl) (fun h29 => ?_) (fun h29 => ?_)
  ·have r30 := ite_t h29 hx22
   refine q_ (.bool true) ?_
   refine n_' ?_
   refine n_' ?_
   refine n_' ?_
   refine q_ (.bool true) ?_
   refine q_ (.bool true) ?_
   refine n_' ?_
   refine n_' ?_
   refine n_' ?_
   refine n_' ?_
   refine q_ (.bool true) ?_
   refine s_nil ?_
   obtain rfl := Option.some.inj r30
   exact k26 _ _ ⟨ha_, rfl⟩
  have r31 := ite_f h29 hx22
  refine q_ (.bool false) ?_
  refine q_ (pt_ b7 0) ?_
  refine l_' (i_ N_) (aLoad Tryz.prog 3 (pt_ b7 0) H14) (u28.ld (by kernel_rfl)) ?_
  refine s_b (N_ > 65536) (by kernel_rfl) (fun h32 => ?_) (fun h32 => ?_)
  ·have r33 := ite_t h32 r31
   refine q_ (.bool true) ?_
   refine q_ (.bool true) ?_
   refine n_' ?_
   refine n_' ?_
   refine n_' ?_
   refine n_' ?_
   refine q_ (.bool true) ?_
   refine s_nil ?_
   obtain rfl := Option.some.inj r33
   exact k26 _ _ ⟨ha_, rfl⟩
  have r34 := ite_f h32 r31
  refine q_ (.bool false) ?_
  refine q_ (.bool false) ?_
  refine q_ (pt_ b7 1) ?_
  refine l_' (hd_Arcs) (aLoad Tryz.prog 22 (pt_ b7 1) H14) (u28.ld (by kernel_rfl)) ?_
  have u35 := ((h_Arcs.ext e9).ext e15)
  refine l_' (i_ (Arcs.length : Int)) (aLen Tryz.prog 22 hd_Arcs H14) (u35.lenb (by kernel_rfl)) ?_
  refine q_ (.bool (decide ((Arcs.length : Int) > 262144))) ?_
  refine q_ (.bool (decide ((Arcs.length : Int) > 262144))) ?_
  refine s_nil ?_
  obtain rfl := Option.some.inj r34
  exact k26 _ _ ⟨ha_, rfl⟩
 obtain ⟨hh27, rfl⟩ := hM
 obtain ⟨β, rfl⟩ := has_ex hh27
 clear hh27
 refine k20 _ _ ?_
 refine w_cond (o21) (by kernel_rfl) rfl (fun h36 => ?_) (fun h36 => ?_)
 ·have r37 := ite_t h36 r23
  refine w_seqk fun _ k38 => ?_
  refine g_' ?_
  obtain ⟨y39, hy40, r41⟩ := bind_some r37
  refine s_ck 22 #[i_ 9] (by kernel_rfl) (c_viaductref01_E e15.wf hy40) ?_
  rintro _ H42 ⟨rfl, e43⟩
  have u48 := (r17.frS e43 Dj.nil_l)
  obtain ⟨H44, q45, e46, r47⟩ := Row.store (P := Tryz.prog) (t := 34) (p := 0) e43.wf u48 (.agg #[i_ y39, .slice none 0 0]) [i_ y39, .slice none 0 0] (by kernel_rfl) (by kernel_rfl) (one_cons (rfl) (one_cons (rfl) (one_nil))) (Nat.le_of_ble_eq_true (by kernel_rfl)) [i_ y39, .slice none 0 0] (by kernel_rfl)
  refine s_ek (undef) (by kernel_rfl) (map_ok q45) ?_
  refine s_nil (k38 _ _ ?_)
  refine w_ret (th_ret ?_)
  refine b_ret (fn := Tryz.f6) (vs := [.agg #[i_ y39, .slice none 0 0]]) (aRes_cell (Eq.trans (b := aLoad Tryz.prog 34 (pt_ b13 0) H44) (by kernel_rfl) (r47.ld (by kernel_rfl))) (rfl)) ?_
  obtain rfl := Option.some.inj r41
  exact ⟨(.slice none 0 0), [], rfl, (FrS.step wf (FrS.step wf (((FrS.refl (W := []) wf).extR e9).extR e15) e43 Inn.nil) e46 (hb16.fresh e9.next)), (Ow.nil (by decide)), Inn.nil⟩
 have r49 := ite_bf h36 r23
 refine w_skip ?_
 refine k19 _ _ ?_
 refine w_seqk fun _ k50 => ?_
 refine w_seqk fun _ k51 => ?_
 refine g_' ?_
 refine q_ (pt_ b7 1) ?_
 have u52 := (r11.ext e15)
 refine l_' (hd_Arcs) (aLoad Tryz.prog 22 (pt_ b7 1) H14) (u52.ld (by kernel_rfl)) ?_
 have u53 := ((h_Arcs.ext e9).ext e15)
 refine l_' (i_ (Arcs.length : Int)) (aLen Tryz.prog 22 hd_Arcs H14) (u53.lenb (by kernel_rfl)) ?_
 refine q_ (i_ 0) ?_
 refine s_nil (k51 _ _ ?_)
 obtain ⟨z57, hx55, r56⟩ := bind_some r49
 refine w_mid (fun α H58 => ∃ o54, z57 = Sum.inr o54 ∧ Has α [(2, pt_ b13 0)] ∧ FrS [] H14 H58) (fun _ k60 => ?_) (fun α H58 hM => ?_)
 ·refine w_block ?_
  obtain ⟨n62, hn63⟩ := loopO_iff.1 hx55
  refine w_loopn (fun n α H64 => ∃ (i0 : Int), iterO (fun zz_ => z_viaductref03_DocCheck_l0 N_ Arcs zz_) n i0 = some z57 ∧ Has α [(1, pt_ b7 0), (2, pt_ b13 0), (21, hd_Arcs), (22, i_ (Arcs.length : Int)), (23, i_ i0)] ∧ FrS [] H14 H64) n62 ⟨0, hn63, ha_, (FrS.refl (W := []) e15.wf)⟩ ?_
  rintro n62 α H64 ⟨i0, hi67, hh66, e65⟩ K72 k72
  obtain ⟨n68, z69, rfl, hz70, hn71⟩ := iter_succ hi67
  obtain ⟨β, rfl⟩ := has_ex hh66
  clear hh66
  replace hz70 : z_viaductref03_DocCheck_l0 N_ Arcs i0 = some z69 := hz70
  unfold z_viaductref03_DocCheck_l0 at hz70
  refine w_seqk fun _ k73 => ?_
  refine g_' ?_
  refine q_ (.bool (decide (i0 < (Arcs.length : Int)))) ?_
  refine s_nil (k73 _ _ ?_)
  refine w_seqk fun _ k74 => ?_
  refine w_condp (i0 < (Arcs.length : Int)) (by kernel_rfl) rfl (fun h75 => ?_) (fun h75 => ?_)
  ·have r76 := ite_t h75 hz70
   refine w_skip ?_
   refine k74 _ _ ?_
   refine w_seqk fun _ k77 => ?_
   refine w_block ?_
   refine w_seqk fun _ k78 => ?_
   refine g_' ?_
   refine q_ (i_ i0) ?_
   obtain ⟨g79, r80⟩ := G_some r76
   have u81 := (u53.fr e65 Dj.nil_l)
   refine l_' (elp hd_Arcs 3 i0.toNat 0) (aIndexAddr Tryz.prog 22 hd_Arcs (i_ i0)) (u81.idxb (by kernel_rfl) g79 h75) ?_
   refine l_' (.agg #[i_ ((gt Arcs i0).1), i_ ((gt Arcs i0).2.1), i_ ((gt Arcs i0).2.2)]) (aLoad Tryz.prog 55 (elp hd_Arcs 3 i0.toNat 0) H64) (u81.ld g79 h75 (by kernel_rfl)) ?_
   refine s_rwk e65.wf [i_ 0, i_ 0, i_ 0] (by kernel_rfl) fun b82 H83 e84 hb85 r86 => ?_
   refine q_ (i_ i0) ?_
   obtain ⟨H88, q89, e90, r91⟩ := Row.store (P := Tryz.prog) (t := 55) (p := 0) e84.wf r86 (.agg #[i_ ((gt Arcs i0).1), i_ ((gt Arcs i0).2.1), i_ ((gt Arcs i0).2.2)]) [i_ ((gt Arcs i0).1), i_ ((gt Arcs i0).2.1), i_ ((gt Arcs i0).2.2)] (by kernel_rfl) (by kernel_rfl) (one_cons (rfl) (one_cons (rfl) (one_cons (rfl) (one_nil)))) (Nat.le_of_ble_eq_true (by kernel_rfl)) [i_ ((gt Arcs i0).1), i_ ((gt Arcs i0).2.1), i_ ((gt Arcs i0).2.2)] (by kernel_rfl)
   refine s_ek (undef) (by kernel_rfl) (map_ok q89) ?_
   refine s_nil (k78 _ _ ?_)
   refine w_seqk fun _ k92 => ?_
   refine w_seqk fun _ k93 => ?_
   obtain ⟨o94, hx95, r96⟩ := bind_some r80
   refine w_mid (fun α H97 => Has α [(1, pt_ b7 0), (2, pt_ b13 0), (3, i_ i0), (4, pt_ b82 0), (21, hd_Arcs), (22, i_ (Arcs.length : Int)), (23, i_ i0), (49, .bool o94)] ∧ H88 = H97) (fun _ k99 => ?_) (fun α H97 hM => ?_)
   ·refine g_' ?_
    refine q_ (pt_ b82 0) ?_
    refine l_' (i_ ((gt Arcs i0).1)) (aLoad Tryz.prog 3 (pt_ b82 0) H88) (r91.ld (by kernel_rfl)) ?_
    refine s_b (((gt Arcs i0).1) < 0) (by kernel_rfl) (fun h101 => ?_) (fun h101 => ?_)
    ·have r102 := ite_t h101 hx95
     refine q_ (.bool true) ?_
     refine n_' ?_
     refine n_' ?_
     refine n_' ?_
     refine n_' ?_
     refine n_' ?_
     refine q_ (.bool true) ?_
     refine q_ (.bool true) ?_
     refine n_' ?_
     refine n_' ?_
     refine n_' ?_
     refine q_ (.bool true) ?_
     refine q_ (.bool true) ?_
     refine n_' ?_
     refine n_' ?_
     refine n_' ?_
     refine n_' ?_
     refine n_' ?_
     refine q_ (.bool true) ?_
     refine s_nil ?_
     obtain rfl := Option.some.inj r102
     exact k99 _ _ ⟨ha_, rfl⟩
    have r103 := ite_f h101 hx95
    refine q_ (.bool false) ?_
    refine q_ (pt_ b82 0) ?_
    refine l_' (i_ ((gt Arcs i0).1)) (aLoad Tryz.prog 3 (pt_ b82 0) H88) (r91.ld (by kernel_rfl)) ?_
    refine q_ (pt_ b7 0) ?_
    have u104 := (((u52.frS e65 Dj.nil_l).ext e84).frS e90 (hb85.djn (r11.ltF.le (ntr e15.next e65.next))))
    refine l_' (i_ N_) (aLoad Tryz.prog 3 (pt_ b7 0) H88) (u104.ld (by kernel_rfl)) ?_
    refine s_b (((gt Arcs i0).1) ≥ N_) (by kernel_rfl) (fun h105 => ?_) (fun h105 => ?_)
    ·have r106 := ite_t h105 r103
     refine q_ (.bool true) ?_
     refine q_ (.bool true) ?_
     refine n_' ?_
     refine n_' ?_
     refine n_' ?_
     refine q_ (.bool true) ?_
     refine q_ (.bool true) ?_
     refine n_' ?_
     refine n_' ?_
     refine n_' ?_
     refine n_' ?_
     refine n_' ?_
     refine q_ (.bool true) ?_
     refine s_nil ?_
     obtain rfl := Option.some.inj r106
     exact k99 _ _ ⟨ha_, rfl⟩
    have r107 := ite_f h105 r103
    refine q_ (.bool false) ?_
    refine q_ (.bool false) ?_
    refine q_ (pt_ b82 1) ?_
    refine l_' (i_ ((gt Arcs i0).2.1)) (aLoad Tryz.prog 3 (pt_ b82 1) H88) (r91.ld (by kernel_rfl)) ?_
    refine s_b (((gt Arcs i0).2.1) < 0) (by kernel_rfl) (fun h108 => ?_) (fun h108 => ?_)
    ·have r109 := ite_t h108 r107
     refine q_ (.bool true) ?_
     refine q_ (.bool true) ?_
     refine n_' ?_
     refine n_' ?_
     refine n_' ?_
     refine n_' ?_
     refine n_' ?_
     refine q_ (.bool true) ?_
     refine s_nil ?_
     obtain rfl := Option.some.inj r109
     exact k99 _ _ ⟨ha_, rfl⟩
    have r110 := ite_f h108 r107
    refine q_ (.bool false) ?_
    refine q_ (.bool false) ?_
    refine q_ (pt_ b82 1) ?_
    refine l_' (i_ ((gt Arcs i0).2.1)) (aLoad Tryz.prog 3 (pt_ b82 1) H88) (r91.ld (by kernel_rfl)) ?_
    refine q_ (pt_ b7 0) ?_
    refine l_' (i_ N_) (aLoad Tryz.prog 3 (pt_ b7 0) H88) (u104.ld (by kernel_rfl)) ?_
    refine q_ (.bool (decide (((gt Arcs i0).2.1) ≥ N_))) ?_
    refine q_ (.bool (decide (((gt Arcs i0).2.1) ≥ N_))) ?_
    refine s_nil ?_
    obtain rfl := Option.some.inj r110
    exact k99 _ _ ⟨ha_, rfl⟩
   obtain ⟨hh100, rfl⟩ := hM
   obtain ⟨β, rfl⟩ := has_ex hh100
   clear hh100
   refine k93 _ _ ?_
   refine w_cond (o94) (by kernel_rfl) rfl (fun h111 => ?_) (fun h111 => ?_)
   ·have r112 := ite_t h111 r96
    refine w_seqk fun _ k113 => ?_
    refine g_' ?_
    refine q_ (i_ i0) ?_
    obtain ⟨y114, hy115, r116⟩ := bind_some r112
    refine s_ck 22 #[i_ 7] (by kernel_rfl) (c_viaductref01_E e90.wf hy115) ?_
    rintro _ H117 ⟨rfl, e118⟩
    obtain ⟨y119, hy120, r121⟩ := bind_some r116
    refine s_ck 23 #[i_ 4, i_ i0, .agg #[i_ y114, .slice none 0 0]] (by kernel_rfl) (c_viaductref01_At e118.wf (Sq.nil (enc := enc_i64_i64) (sz := 2) (by decide)) hy120) ?_
    rintro _ H124 ⟨s122, f123, rfl, e125, m126, i127⟩
    obtain ⟨a129, n130, c131, rfl⟩ := m126.form
    have u136 := (((((r17.frS e65 Dj.nil_l).ext e84).frS e90 (hb85.djn (r17.ltF.le e65.next))).frS e118 Dj.nil_l).frS e125 Dj.nil_l)
    obtain ⟨H132, q133, e134, r135⟩ := Row.store (P := Tryz.prog) (t := 34) (p := 0) e125.wf u136 (.agg #[i_ y119.1, .slice a129 n130 c131]) [i_ y119.1, .slice a129 n130 c131] (by kernel_rfl) (by kernel_rfl) (one_cons (rfl) (one_cons (m126.one1) (one_nil))) (Nat.le_of_ble_eq_true (by kernel_rfl)) [i_ y119.1, .slice a129 n130 c131] (by kernel_rfl)
    refine s_ek (undef) (by kernel_rfl) (map_ok q133) ?_
    refine s_nil (k113 _ _ ?_)
    refine w_ret (th_ret (bl_ret (th_ret (th_ret (bl_ret (th_ret (th_ret ?_)))))))
    obtain ⟨v137, hv138, hz139⟩ := map_some r121
    subst hz139
    obtain rfl := it_inr hn71
    have hq140 := elim_inl r56
    rw [hq140] at hv138
    refine b_ret (fn := Tryz.f6) (vs := [.agg #[i_ y119.1, .slice a129 n130 c131]]) (aRes_cell (Eq.trans (b := aLoad Tryz.prog 34 (pt_ b13 0) H132) (by kernel_rfl) (r135.ld (by kernel_rfl))) (rfl)) ?_
    have u141 := (m126.fr e134 (Dj.symm (i127.djn (r17.ltF.le (ntr (ntr (ntr e65.next e84.next) e90.next) e118.next)))))
    obtain rfl := Option.some.inj hv138
    exact ⟨(.slice a129 n130 c131), f123, rfl, (FrS.step wf (FrS.step wf (FrS.step wf (FrS.step wf ((FrS.step wf (((FrS.refl (W := []) wf).extR e9).extR e15) e65 Inn.nil).extR e84) e90 (hb85.fresh (ntr (ntr e9.next e15.next) e65.next))) e118 Inn.nil) e125 Inn.nil) e134 (hb16.fresh e9.next)), u141, (i127.fresh (ntr (ntr (ntr (ntr (ntr e9.next e15.next) e65.next) e84.next) e90.next) e118.next))⟩
   have r142 := ite_bf h111 r96
   refine w_skip ?_
   refine k92 _ _ ?_
   refine w_seqk fun _ k143 => ?_
   obtain ⟨o144, hx145, r146⟩ := bind_some r142
   refine w_mid (fun α H147 => Has α [(1, pt_ b7 0), (2, pt_ b13 0), (3, i_ i0), (21, hd_Arcs), (22, i_ (Arcs.length : Int)), (23, i_ i0), (60, .bool o144)] ∧ H88 = H147) (fun _ k149 => ?_) (fun α H147 hM => ?_)
   ·refine g_' ?_
    refine q_ (pt_ b82 2) ?_
    refine l_' (i_ ((gt Arcs i0).2.2)) (aLoad Tryz.prog 3 (pt_ b82 2) H88) (r91.ld (by kernel_rfl)) ?_
    refine s_b (((gt Arcs i0).2.2) < 0) (by kernel_rfl) (fun h151 => ?_) (fun h151 => ?_)
    ·have r152 := ite_t h151 hx145
     refine q_ (.bool true) ?_
     refine n_' ?_
     refine n_' ?_
     refine n_' ?_
     refine q_ (.bool true) ?_
     refine s_nil ?_
     obtain rfl := Option.some.inj r152
     exact k149 _ _ ⟨ha_, rfl⟩
    have r153 := ite_f h151 hx145
    refine q_ (.bool false) ?_
    refine q_ (pt_ b82 2) ?_
    refine l_' (i_ ((gt Arcs i0).2.2)) (aLoad Tryz.prog 3 (pt_ b82 2) H88) (r91.ld (by kernel_rfl)) ?_
    refine q_ (.bool (decide (((gt Arcs i0).2.2) > 2147483647))) ?_
    refine q_ (.bool (decide (((gt Arcs i0).2.2) > 2147483647))) ?_
    refine s_nil ?_
    obtain rfl := Option.some.inj r153
    exact k149 _ _ ⟨ha_, rfl⟩
   obtain ⟨hh150, rfl⟩ := hM
   obtain ⟨β, rfl⟩ := has_ex hh150
   clear hh150
   refine k143 _ _ ?_
   refine w_cond (o144) (by kernel_rfl) rfl (fun h154 => ?_) (fun h154 => ?_)
   ·have r155 := ite_t h154 r146
    refine w_seqk fun _ k156 => ?_
    refine g_' ?_
    refine q_ (i_ i0) ?_
    obtain ⟨y157, hy158, r159⟩ := bind_some r155
    refine s_ck 22 #[i_ 8] (by kernel_rfl) (c_viaductref01_E e90.wf hy158) ?_
    rintro _ H160 ⟨rfl, e161⟩
    obtain ⟨y162, hy163, r164⟩ := bind_some r159
    refine s_ck 23 #[i_ 4, i_ i0, .agg #[i_ y157, .slice none 0 0]] (by kernel_rfl) (c_viaductref01_At e161.wf (Sq.nil (enc := enc_i64_i64) (sz := 2) (by decide)) hy163) ?_
    rintro _ H167 ⟨s165, f166, rfl, e168, m169, i170⟩
    obtain ⟨a172, n173, c174, rfl⟩ := m169.form
    have u179 := (((((r17.frS e65 Dj.nil_l).ext e84).frS e90 (hb85.djn (r17.ltF.le e65.next))).frS e161 Dj.nil_l).frS e168 Dj.nil_l)
    obtain ⟨H175, q176, e177, r178⟩ := Row.store (P := Tryz.prog) (t := 34) (p := 0) e168.wf u179 (.agg #[i_ y162.1, .slice a172 n173 c174]) [i_ y162.1, .slice a172 n173 c174] (by kernel_rfl) (by kernel_rfl) (one_cons (rfl) (one_cons (m169.one1) (one_nil))) (Nat.le_of_ble_eq_true (by kernel_rfl)) [i_ y162.1, .slice a172 n173 c174] (by kernel_rfl)
    refine s_ek (undef) (by kernel_rfl) (map_ok q176) ?_
    refine s_nil (k156 _ _ ?_)
    refine w_ret (bl_ret (th_ret (th_ret (bl_ret (th_ret (th_ret ?_))))))
    obtain ⟨v180, hv181, hz182⟩ := map_some r164
    subst hz182
    obtain rfl := it_inr hn71
    have hq183 := elim_inl r56
    rw [hq183] at hv181
    refine b_ret (fn := Tryz.f6) (vs := [.agg #[i_ y162.1, .slice a172 n173 c174]]) (aRes_cell (Eq.trans (b := aLoad Tryz.prog 34 (pt_ b13 0) H175) (by kernel_rfl) (r178.ld (by kernel_rfl))) (rfl)) ?_
    have u184 := (m169.fr e177 (Dj.symm (i170.djn (r17.ltF.le (ntr (ntr (ntr e65.next e84.next) e90.next) e161.next)))))
    obtain rfl := Option.some.inj hv181
    exact ⟨(.slice a172 n173 c174), f166, rfl, (FrS.step wf (FrS.step wf (FrS.step wf (FrS.step wf ((FrS.step wf (((FrS.refl (W := []) wf).extR e9).extR e15) e65 Inn.nil).extR e84) e90 (hb85.fresh (ntr (ntr e9.next e15.next) e65.next))) e161 Inn.nil) e168 Inn.nil) e177 (hb16.fresh e9.next)), u184, (i170.fresh (ntr (ntr (ntr (ntr (ntr e9.next e15.next) e65.next) e84.next) e90.next) e161.next))⟩
   have r185 := ite_bf h154 r146
   refine w_skip ?_
   refine k77 _ _ ?_
   refine g_' ?_
   obtain ⟨g186, r187⟩ := G_some r185
   refine s_w ((i0 + 1)) (k := .i64) (x := (i0 + 1)) (by kernel_rfl) (wrap64 (by have := g186; omega)) ?_
   refine q_ (i_ (i0 + 1)) ?_
   refine s_nil ?_
   obtain rfl := Option.some.inj r187
   exact k72 n68 _ _ (Nat.lt_succ_self _) ⟨(i0 + 1), hn71, ha_, (FrS.step e15.wf ((FrS.step e15.wf (FrS.refl (W := []) e15.wf) e65 Inn.nil).extR e84) e90 (hb85.fresh e65.next))⟩
  have r188 := ite_f h75 hz70
  refine w_exit (th_exit (th_exit (bl_eq ?_)))
  obtain rfl := Option.some.inj r188
  obtain rfl := it_inr hn71
  exact k60 _ _ ⟨_, rfl, ha_, (FrS.step e15.wf (FrS.refl (W := []) e15.wf) e65 Inn.nil)⟩
 obtain ⟨o54, rfl, hh61, e59⟩ := hM
 have r189 := elim_inr r56
 obtain ⟨β, rfl⟩ := has_ex hh61
 clear hh61
 refine k50 _ _ ?_
 refine w_seqk fun _ k190 => ?_
 refine g_' ?_
 refine q_ (.agg #[i_ 0, .slice none 0 0]) ?_
 have u195 := (r17.frS e59 Dj.nil_l)
 obtain ⟨H191, q192, e193, r194⟩ := Row.store (P := Tryz.prog) (t := 34) (p := 0) e59.wf u195 (.agg #[i_ 0, .slice none 0 0]) [i_ 0, .slice none 0 0] (by kernel_rfl) (by kernel_rfl) (one_cons (rfl) (one_cons (rfl) (one_nil))) (Nat.le_of_ble_eq_true (by kernel_rfl)) [i_ 0, .slice none 0 0] (by kernel_rfl)
 refine s_ek (undef) (by kernel_rfl) (map_ok q192) ?_
 refine s_nil (k190 _ _ ?_)
 refine w_ret ?_
 refine b_ret (fn := Tryz.f6) (vs := [.agg #[i_ 0, .slice none 0 0]]) (aRes_cell (Eq.trans (b := aLoad Tryz.prog 34 (pt_ b13 0) H191) (by kernel_rfl) (r194.ld (by kernel_rfl))) (rfl)) ?_
 obtain rfl := Option.some.inj r189
 exact ⟨(.slice none 0 0), [], rfl, (FrS.step wf (FrS.step wf (((FrS.refl (W := []) wf).extR e9).extR e15) e59 Inn.nil) e193 (hb16.fresh e9.next)), (Ow.nil (by decide)), Inn.nil⟩

theorem c_viaductref01_Err_Bad {H : AH} {hd_Places : Value} {fp_Places : Fp} {Code : Int} {Places : List (Int × Int)} {r : Bool}
    (wf : WF H) (h_Places : Sq enc_i64_i64 2 H hd_Places Places fp_Places) (hr : z_viaductref01_Err_Bad Code Places = some r) :
    ACalls Tryz.prog 7 #[.agg #[i_ Code, hd_Places]] H fun v H' => v = .bool r ∧ FrS [] H H' := by
 refine acalls_of_body mixed Tryz.func7 rfl (Nat.le_of_ble_eq_true rfl) ?_
 unfold z_viaductref01_Err_Bad at hr
 refine w_seqk fun _ k1 => ?_
 refine g_' ?_
 refine s_rwl wf [i_ Code, hd_Places] (one_cons (rfl) (one_cons (h_Places.one1) (one_nil))) (by kernel_rfl) fun b2 H3 e4 hb5 r6 => ?_
 refine q_ (.bool false) ?_
 refine s_nil (k1 _ _ ?_)
 refine w_seqk fun _ k8 => ?_
 refine g_' ?_
 refine q_ (pt_ b2 0) ?_
 refine l_' (i_ Code) (aLoad Tryz.prog 3 (pt_ b2 0) H3) (r6.ld (by kernel_rfl)) ?_
 refine s_bn (Code = 0) (by kernel_rfl) (fun h9 => ?_) (fun h9 => ?_)
 ·have r10 := ite_t h9 hr
  refine q_ (.bool false) ?_
  refine q_ (pt_ b2 1) ?_
  refine l_' (hd_Places) (aLoad Tryz.prog 32 (pt_ b2 1) H3) (r6.ld (by kernel_rfl)) ?_
  have u11 := (h_Places.ext e4)
  refine l_' (i_ (Places.length : Int)) (aLen Tryz.prog 32 hd_Places H3) (u11.lenb (by kernel_rfl)) ?_
  refine q_ (.bool (decide ((Places.length : Int) > 0))) ?_
  refine q_ (.bool (decide ((Places.length : Int) > 0))) ?_
  refine q_ (.bool (decide ((Places.length : Int) > 0))) ?_
  refine s_nil (k8 _ _ ?_)
  refine w_ret ?_
  refine b_ret (fn := Tryz.f7) (vs := [.bool (decide ((Places.length : Int) > 0))]) (aRes_tmp (by kernel_rfl) (rfl)) ?_
  obtain rfl := Option.some.inj r10
  exact ⟨rfl, ((FrS.refl (W := []) wf).extR e4)⟩
 have r12 := ite_f h9 hr
 refine q_ (.bool true) ?_
 refine n_' ?_
 refine n_' ?_
 refine n_' ?_
 refine n_' ?_
 refine q_ (.bool true) ?_
 refine q_ (.bool true) ?_
 refine s_nil (k8 _ _ ?_)
 refine w_ret ?_
 refine b_ret (fn := Tryz.f7) (vs := [.bool true]) (aRes_tmp (by kernel_rfl) (rfl)) ?_
 obtain rfl := Option.some.inj r12
 exact ⟨rfl, ((FrS.refl (W := []) wf).extR e4)⟩

theorem c_viaductseen_Same {H : AH} {ev_err : Value} {fp_err : Fp} {hd_Places : Value} {fp_Places : Fp} {err : Er} {Code : Int} {Places : List (Int × Int)} {r : Bool}
    (wf : WF H) (h_err : Ev 72 77 H ev_err err fp_err) (h_Places : Sq enc_i64_i64 2 H hd_Places Places fp_Places) (hr : z_viaductseen_Same err Code Places = some r) :
    ACalls Tryz.prog 8 #[ev_err, .agg #[i_ Code, hd_Places]] H fun v H' => v = .bool r ∧ FrS [] H H' := by
 refine acalls_of_body mixed Tryz.func8 rfl (Nat.le_of_ble_eq_true rfl) ?_
 unfold z_viaductseen_Same at hr
 refine w_seqk fun _ k1 => ?_
 refine g_' ?_
 refine s_rwl wf [i_ Code, hd_Places] (one_cons (rfl) (one_cons (h_Places.one1) (one_nil))) (by kernel_rfl) fun b2 H3 e4 hb5 r6 => ?_
 refine q_ (.bool false) ?_
 refine s_nil (k1 _ _ ?_)
 refine w_seqk fun _ k8 => ?_
 refine w_seqk fun _ k9 => ?_
 refine g_' ?_
 refine l_' (.agg #[i_ Code, hd_Places]) (aLoad Tryz.prog 34 (pt_ b2 0) H3) (r6.ld (by kernel_rfl)) ?_
 have u10 := (h_Places.ext e4)
 obtain ⟨y11, hy12, r13⟩ := bind_some hr
 refine s_ck 7 #[.agg #[i_ Code, hd_Places]] (by kernel_rfl) (c_viaductref01_Err_Bad e4.wf u10 hy12) ?_
 rintro _ H14 ⟨rfl, e15⟩
 refine q_ (.bool (!y11)) ?_
 refine s_nil (k9 _ _ ?_)
 refine w_cond ((!y11)) (by kernel_rfl) rfl (fun h16 => ?_) (fun h16 => ?_)
 ·have r17 := ite_t h16 r13
  refine w_seqk fun _ k18 => ?_
  refine g_' ?_
  refine q_ (ev_err) ?_
  have u22 := ((h_err.ext e4).fr e15 Dj.nil_l)
  rcases (u22).cases with ⟨h19, rfl⟩ | ⟨h19, t20, x21, rfl⟩
  ·have r23 := ite_t h19 r17
   refine q_ (.bool true) ?_
   refine q_ (.bool true) ?_
   refine s_nil (k18 _ _ ?_)
   refine w_ret (th_ret ?_)
   refine b_ret (fn := Tryz.f8) (vs := [.bool true]) (aRes_tmp (by kernel_rfl) (rfl)) ?_
   obtain rfl := Option.some.inj r23
   exact ⟨rfl, (FrS.step wf ((FrS.refl (W := []) wf).extR e4) e15 Inn.nil)⟩
  have r24 := ite_f h19 r17
  refine l_' (.bool false) (aBin Tryz.prog .eql 29 (.tmp 15) (.const .nilIface) (.iface t20 x21) .nilIface) (aBin_nil (by kernel_rfl)) ?_
  refine q_ (.bool false) ?_
  refine s_nil (k18 _ _ ?_)
  refine w_ret (th_ret ?_)
  refine b_ret (fn := Tryz.f8) (vs := [.bool false]) (aRes_tmp (by kernel_rfl) (rfl)) ?_
  obtain rfl := Option.some.inj r24
  exact ⟨rfl, (FrS.step wf ((FrS.refl (W := []) wf).extR e4) e15 Inn.nil)⟩
 have r25 := ite_bf h16 r13
 refine w_skip ?_
 refine k8 _ _ ?_
 refine w_seqk fun _ k26 => ?_
 refine w_seqk fun _ k27 => ?_
 refine g_' ?_
 refine q_ (ev_err) ?_
 have u31 := ((h_err.ext e4).fr e15 Dj.nil_l)
 rcases (u31).cases with ⟨h28, rfl⟩ | ⟨h28, t29, x30, rfl⟩
 ·have r32 := ite_t h28 r25
  refine q_ (.bool true) ?_
  refine s_nil (k27 _ _ ?_)
  refine w_cond true (by kernel_rfl) rfl (fun _ => ?_) (fun h => by cases h)
  refine w_seqk fun _ k33 => ?_
  refine g_' ?_
  refine q_ (.bool false) ?_
  refine s_nil (k33 _ _ ?_)
  refine w_ret (th_ret ?_)
  refine b_ret (fn := Tryz.f8) (vs := [.bool false]) (aRes_tmp (by kernel_rfl) (rfl)) ?_
  obtain rfl := Option.some.inj r32
  exact ⟨rfl, (FrS.step wf ((FrS.refl (W := []) wf).extR e4) e15 Inn.nil)⟩
 have r34 := ite_f h28 r25
 refine l_' (.bool false) (aBin Tryz.prog .eql 29 (.tmp 17) (.const .nilIface) (.iface t29 x30) .nilIface) (aBin_nil (by kernel_rfl)) ?_
 refine s_nil (k27 _ _ ?_)
 refine w_cond false (by kernel_rfl) rfl (fun h => by cases h) (fun _ => ?_)
 refine w_skip ?_
 refine k26 _ _ ?_
 refine w_seqk fun _ k35 => ?_
 refine g_' ?_
 refine q_ (.iface t29 x30) ?_
 refine q_ (.iface t29 x30) ?_
 refine s_nil (k35 _ _ ?_)
 refine w_seqk fun _ k36 => ?_
 refine w_seqk fun _ k37 => ?_
 refine g_' ?_
 refine q_ (pt_ b2 1) ?_
 have u38 := (r6.frS e15 Dj.nil_l)
 refine l_' (hd_Places) (aLoad Tryz.prog 32 (pt_ b2 1) H14) (u38.ld (by kernel_rfl)) ?_
 have u39 := (u10.fr e15 Dj.nil_l)
 refine l_' (i_ (Places.length : Int)) (aLen Tryz.prog 32 hd_Places H14) (u39.lenb (by kernel_rfl)) ?_
 refine q_ (i_ 0) ?_
 refine s_nil (k37 _ _ ?_)
 obtain ⟨z43, hx41, r42⟩ := bind_some r34
 refine w_mid (fun α H44 => ∃ o40, z43 = Sum.inr o40 ∧ ∃ (v48 : Value), Has α [(0, .iface t29 x30), (3, pt_ b2 0), (5, v48)] ∧ FrS [] H14 H44 ∧ Ev 72 77 H44 v48 o40 fp_err) (fun _ k49 => ?_) (fun α H44 hM => ?_)
 ·refine w_block ?_
  obtain ⟨n51, hn52⟩ := loopO_iff.1 hx41
  refine w_loopn (fun n α H53 => ∃ (i0 : Int), ∃ (e1 : Er), ∃ (v57 : Value), iterO (fun zz_ => z_viaductseen_Same_l0 Places zz_.1 zz_.2) n (i0, e1) = some z43 ∧ Has α [(0, .iface t29 x30), (3, pt_ b2 0), (5, v57), (21, hd_Places), (22, i_ (Places.length : Int)), (23, i_ i0)] ∧ FrS [] H14 H53 ∧ Ev 72 77 H53 v57 e1 fp_err) n51 ⟨0, err, (.iface t29 x30), hn52, ha_, (FrS.refl (W := []) e15.wf), u31⟩ ?_
  rintro n51 α H53 ⟨i0, e1, v57, hi59, hh58, e54, m56⟩ K64 k64
  obtain ⟨n60, z61, rfl, hz62, hn63⟩ := iter_succ hi59
  obtain ⟨β, rfl⟩ := has_ex hh58
  clear hh58
  replace hz62 : z_viaductseen_Same_l0 Places i0 e1 = some z61 := hz62
  unfold z_viaductseen_Same_l0 at hz62
  refine w_seqk fun _ k65 => ?_
  refine g_' ?_
  refine q_ (.bool (decide (i0 < (Places.length : Int)))) ?_
  refine s_nil (k65 _ _ ?_)
  refine w_seqk fun _ k66 => ?_
  refine w_condp (i0 < (Places.length : Int)) (by kernel_rfl) rfl (fun h67 => ?_) (fun h67 => ?_)
  ·have r68 := ite_t h67 hz62
   refine w_skip ?_
   refine k66 _ _ ?_
   refine w_seqk fun _ k69 => ?_
   refine w_block ?_
   refine w_seqk fun _ k70 => ?_
   refine g_' ?_
   obtain ⟨g71, r72⟩ := G_some r68
   have u73 := (u39.fr e54 Dj.nil_l)
   refine l_' (elp hd_Places 2 i0.toNat 0) (aIndexAddr Tryz.prog 32 hd_Places (i_ i0)) (u73.idxb (by kernel_rfl) g71 h67) ?_
   refine l_' (.agg #[i_ ((gt Places i0).1), i_ ((gt Places i0).2)]) (aLoad Tryz.prog 76 (elp hd_Places 2 i0.toNat 0) H53) (u73.ld g71 h67 (by kernel_rfl)) ?_
   refine s_rwk e54.wf [i_ 0, i_ 0] (by kernel_rfl) fun b74 H75 e76 hb77 r78 => ?_
   obtain ⟨H80, q81, e82, r83⟩ := Row.store (P := Tryz.prog) (t := 76) (p := 0) e76.wf r78 (.agg #[i_ ((gt Places i0).1), i_ ((gt Places i0).2)]) [i_ ((gt Places i0).1), i_ ((gt Places i0).2)] (by kernel_rfl) (by kernel_rfl) (one_cons (rfl) (one_cons (rfl) (one_nil))) (Nat.le_of_ble_eq_true (by kernel_rfl)) [i_ ((gt Places i0).1), i_ ((gt Places i0).2)] (by kernel_rfl)
   refine s_ek (undef) (by kernel_rfl) (map_ok q81) ?_
   refine s_nil (k70 _ _ ?_)
   refine w_seqk fun _ k84 => ?_
   refine g_' ?_
   refine s_rwk e82.wf [.pointer none] (by kernel_rfl) fun b85 H86 e87 hb88 r89 => ?_
   refine s_nil (k84 _ _ ?_)
   refine w_seqk fun _ k91 => ?_
   refine w_seqk fun _ k92 => ?_
   refine w_draw [0, 1, 2, 3, 4, 5, 6, 7, 8, 9, 10, 11, 12, 13, 14, 15] (by kernel_rfl) ?_
   refine e_' (v57) ?_
   refine e_' (.iface 79 (pt_ b85 0)) ?_
   by_cases h93 : Er.isAt e1 = true
   ·have r94 := ite_t h93 r72
    have u103 := (((m56.ext e76).fr e82 (hb77.djn (h_err.lt.le (ntr (ntr e4.next e15.next) e54.next)))).ext e87)
    refine d_ck 24 #[v57, .iface 79 (pt_ b85 0)] (by kernel_rfl) (a_asF_at e87.wf r89 (hb88.djn (h_err.lt.le (ntr (ntr (ntr (ntr e4.next e15.next) e54.next) e76.next) e82.next))) u103 h93) ?_
    rintro _ H95 ⟨rfl, e96, b98, u99, -, i100, r97, r101, v102⟩
    refine ⟨st_nil, ?_⟩
    refine e_' (.bool false) ?_
    refine e_' (.bool false) ?_
    refine m_' (pt_ b98 0) (aLoad Tryz.prog 77 (pt_ b85 0) H95) (r97.ld (by kernel_rfl)) ?_
    refine e_' (.bool false) ?_
    refine e_' (.bool false) ?_
    refine e_' (.bool false) ?_
    refine m_' (pt_ b98 0) (aLoad Tryz.prog 77 (pt_ b85 0) H95) (r97.ld (by kernel_rfl)) ?_
    refine e_' (pt_ b98 0) ?_
    refine e_' (pt_ b98 0) ?_
    refine m_' (.agg #[i_ (Er.fk e1), i_ (Er.fi e1)]) (aLoad Tryz.prog 76 (pt_ b98 0) H95) (r101.ld (by kernel_rfl)) ?_
    have u106 := ((r83.ext e87).frS e96 (hb88.djn (r78.ltF.le e82.next)))
    refine m_' (.agg #[i_ ((gt Places i0).1), i_ ((gt Places i0).2)]) (aLoad Tryz.prog 76 (pt_ b74 0) H95) (u106.ld (by kernel_rfl)) ?_
    refine m_' (.bool (!decide ((Er.fk e1) = ((gt Places i0).1) ∧ (Er.fi e1) = ((gt Places i0).2)))) (aBin Tryz.prog .neq 76 (.tmp 39) (.tmp 40) (.agg #[i_ (Er.fk e1), i_ (Er.fi e1)]) (.agg #[i_ ((gt Places i0).1), i_ ((gt Places i0).2)])) (aBin_neq76 _ _ (Er.fk e1) (Er.fi e1) ((gt Places i0).1) ((gt Places i0).2)) ?_
    refine e_' (.bool (!decide ((Er.fk e1) = ((gt Places i0).1) ∧ (Er.fi e1) = ((gt Places i0).2)))) ?_
    refine d_nil ?_
    refine k92 _ _ ?_
    refine w_condn ((Er.fk e1) = ((gt Places i0).1) ∧ (Er.fi e1) = ((gt Places i0).2)) (by kernel_rfl) rfl (fun h107 => ?_) (fun h107 => ?_)
    ·have r108 := ite_f h107 r94
     refine w_seqk fun _ k109 => ?_
     refine g_' ?_
     refine q_ (.bool false) ?_
     refine s_nil (k109 _ _ ?_)
     refine w_ret (th_ret (bl_ret (th_ret (th_ret (bl_ret (th_ret (th_ret ?_)))))))
     obtain ⟨v110, hv111, hz112⟩ := map_some r108
     subst hz112
     obtain rfl := it_inr hn63
     have hq113 := elim_inl r42
     rw [hq113] at hv111
     refine b_ret (fn := Tryz.f8) (vs := [.bool false]) (aRes_tmp (by kernel_rfl) (rfl)) ?_
     obtain rfl := Option.some.inj hv111
     exact ⟨rfl, (FrS.step wf ((FrS.step wf ((FrS.step wf (FrS.step wf ((FrS.refl (W := []) wf).extR e4) e15 Inn.nil) e54 Inn.nil).extR e76) e82 (hb77.fresh (ntr (ntr e4.next e15.next) e54.next))).extR e87) e96 (hb88.fresh (ntr (ntr (ntr (ntr e4.next e15.next) e54.next) e76.next) e82.next)))⟩
    have r114 := ite_t h107 r94
    refine w_skip ?_
    refine k91 _ _ ?_
    refine g_' ?_
    refine l_' (pt_ b98 0) (aLoad Tryz.prog 77 (pt_ b85 0) H95) (r97.ld (by kernel_rfl)) ?_
    refine q_ (pt_ b98 0) ?_
    refine q_ (pt_ b98 2) ?_
    refine l_' (u99) (aLoad Tryz.prog 29 (pt_ b98 2) H95) (r101.ld (by kernel_rfl)) ?_
    refine q_ (u99) ?_
    refine s_nil (k69 _ _ ?_)
    refine g_' ?_
    obtain ⟨g115, r116⟩ := G_some r114
    refine s_w ((i0 + 1)) (k := .i64) (x := (i0 + 1)) (by kernel_rfl) (wrap64 (by have := g115; omega)) ?_
    refine q_ (i_ (i0 + 1)) ?_
    refine s_nil ?_
    obtain rfl := Option.some.inj r116
    exact k64 n60 _ _ (Nat.lt_succ_self _) ⟨(i0 + 1), (Er.fe e1), (u99), hn63, ha_, (FrS.step e15.wf ((FrS.step e15.wf ((FrS.step e15.wf (FrS.refl (W := []) e15.wf) e54 Inn.nil).extR e76) e82 (hb77.fresh e54.next)).extR e87) e96 (hb88.fresh (ntr (ntr e54.next e76.next) e82.next))), v102⟩
   have r117 := ite_f h93 r72
   have u118 := (((m56.ext e76).fr e82 (hb77.djn (h_err.lt.le (ntr (ntr e4.next e15.next) e54.next)))).ext e87)
   refine d_ck 24 #[v57, .iface 79 (pt_ b85 0)] (by kernel_rfl) (a_asF_no r89 u118 h93) ?_
   rintro _ _ ⟨rfl, rfl⟩
   refine ⟨st_nil, ?_⟩
   refine e_' (.bool true) ?_
   refine e_' (.bool true) ?_
   refine j_' ?_
   refine j_' ?_
   refine e_' (.bool true) ?_
   refine e_' (.bool true) ?_
   refine j_' ?_
   refine j_' ?_
   refine j_' ?_
   refine j_' ?_
   refine j_' ?_
   refine j_' ?_
   refine e_' (.bool true) ?_
   refine d_nil ?_
   refine k92 _ _ ?_
   refine w_cond true (by kernel_rfl) rfl (fun _ => ?_) (fun h => by cases h)
   refine w_seqk fun _ k119 => ?_
   refine g_' ?_
   refine q_ (.bool false) ?_
   refine s_nil (k119 _ _ ?_)
   refine w_ret (th_ret (bl_ret (th_ret (th_ret (bl_ret (th_ret (th_ret ?_)))))))
   obtain ⟨v120, hv121, hz122⟩ := map_some r117
   subst hz122
   obtain rfl := it_inr hn63
   have hq123 := elim_inl r42
   rw [hq123] at hv121
   refine b_ret (fn := Tryz.f8) (vs := [.bool false]) (aRes_tmp (by kernel_rfl) (rfl)) ?_
   obtain rfl := Option.some.inj hv121
   exact ⟨rfl, ((FrS.step wf ((FrS.step wf (FrS.step wf ((FrS.refl (W := []) wf).extR e4) e15 Inn.nil) e54 Inn.nil).extR e76) e82 (hb77.fresh (ntr (ntr e4.next e15.next) e54.next))).extR e87)⟩
  have r124 := ite_f h67 hz62
  refine w_exit (th_exit (th_exit (bl_eq ?_)))
  obtain rfl := Option.some.inj r124
  obtain rfl := it_inr hn63
  exact k49 _ _ ⟨_, rfl, (v57), ha_, (FrS.step e15.wf (FrS.refl (W := []) e15.wf) e54 Inn.nil), m56⟩
 obtain ⟨o40, rfl, v48, hh50, e45, m47⟩ := hM
 have r125 := elim_inr r42
 obtain ⟨β, rfl⟩ := has_ex hh50
 clear hh50
 refine k36 _ _ ?_
 refine w_seqk fun _ k126 => ?_
 refine g_' ?_
 refine s_rwk e45.wf [.pointer none] (by kernel_rfl) fun b127 H128 e129 hb130 r131 => ?_
 refine s_nil (k126 _ _ ?_)
 refine w_seqk fun _ k133 => ?_
 refine w_seqk fun _ k134 => ?_
 refine g_' ?_
 refine q_ (v48) ?_
 refine q_ (.iface 79 (pt_ b127 0)) ?_
 by_cases h135 : Er.isAt o40 = true
 ·have r136 := ite_t h135 r125
  have u145 := (m47.ext e129)
  refine s_ck 24 #[v48, .iface 79 (pt_ b127 0)] (by kernel_rfl) (a_asF_at e129.wf r131 (hb130.djn (h_err.lt.le (ntr (ntr e4.next e15.next) e45.next))) u145 h135) ?_
  rintro _ H137 ⟨rfl, e138, b140, u141, -, i142, r139, r143, v144⟩
  refine s_nil (k134 _ _ ?_)
  refine w_cond true (by kernel_rfl) rfl (fun _ => ?_) (fun h => by cases h)
  refine w_seqk fun _ k148 => ?_
  refine g_' ?_
  refine q_ (.bool false) ?_
  refine s_nil (k148 _ _ ?_)
  refine w_ret (th_ret ?_)
  refine b_ret (fn := Tryz.f8) (vs := [.bool false]) (aRes_tmp (by kernel_rfl) (rfl)) ?_
  obtain rfl := Option.some.inj r136
  exact ⟨rfl, (FrS.step wf ((FrS.step wf (FrS.step wf ((FrS.refl (W := []) wf).extR e4) e15 Inn.nil) e45 Inn.nil).extR e129) e138 (hb130.fresh (ntr (ntr e4.next e15.next) e45.next)))⟩
 have r149 := ite_f h135 r125
 have u150 := (m47.ext e129)
 refine s_ck 24 #[v48, .iface 79 (pt_ b127 0)] (by kernel_rfl) (a_asF_no r131 u150 h135) ?_
 rintro _ _ ⟨rfl, rfl⟩
 refine s_nil (k134 _ _ ?_)
 refine w_cond false (by kernel_rfl) rfl (fun h => by cases h) (fun _ => ?_)
 refine w_skip ?_
 refine k133 _ _ ?_
 refine w_seqk fun _ k151 => ?_
 refine g_' ?_
 refine s_rwk e129.wf [i_ 0] (by kernel_rfl) fun b152 H153 e154 hb155 r156 => ?_
 refine s_nil (k151 _ _ ?_)
 refine w_seqk fun _ k158 => ?_
 refine w_seqk fun _ k159 => ?_
 obtain ⟨o160, hx161, r162⟩ := bind_some r149
 refine w_mid (fun α H163 => Has α [(0, .iface t29 x30), (3, pt_ b2 0), (60, .bool o160)] ∧ FrS [b152] H153 H163) (fun _ k165 => ?_) (fun α H163 hM => ?_)
 ·refine g_' ?_
  refine q_ (.iface t29 x30) ?_
  refine q_ (.iface 82 (pt_ b152 0)) ?_
  by_cases h167 : (Er.num err).isSome = true
  ·have r168 := ite_t h167 hx161
   have u172 := (((u31.fr e45 Dj.nil_l).ext e129).ext e154)
   refine s_ck 24 #[.iface t29 x30, .iface 82 (pt_ b152 0)] (by kernel_rfl) (a_asN_y e154.wf r156 u172 h28 h167) ?_
   rintro _ H169 ⟨rfl, e170, r171⟩
   refine q_ (.bool false) ?_
   refine q_ (.bool false) ?_
   refine l_' (i_ ((Er.num err).getD 0)) (aLoad Tryz.prog 72 (pt_ b152 0) H169) (r171.ld (by kernel_rfl)) ?_
   refine q_ (pt_ b2 0) ?_
   have u173 := ((((u38.frS e45 Dj.nil_l).ext e129).ext e154).frS e170 (hb155.djn (r6.ltF.le (ntr (ntr e15.next e45.next) e129.next))))
   refine l_' (i_ Code) (aLoad Tryz.prog 3 (pt_ b2 0) H169) (u173.ld (by kernel_rfl)) ?_
   refine q_ (.bool (!decide (((Er.num err).getD 0) = Code))) ?_
   refine q_ (.bool (!decide (((Er.num err).getD 0) = Code))) ?_
   refine s_nil ?_
   obtain rfl := Option.some.inj r168
   exact k165 _ _ ⟨ha_, (FrS.step e154.wf (FrS.refl (W := [b152]) e154.wf) e170 Inn.refl')⟩
  have r174 := ite_f h167 hx161
  have u178 := (((u31.fr e45 Dj.nil_l).ext e129).ext e154)
  refine s_ck 24 #[.iface t29 x30, .iface 82 (pt_ b152 0)] (by kernel_rfl) (a_asN_n e154.wf r156 u178 h28 h167) ?_
  rintro _ H175 ⟨rfl, e176, r177⟩
  refine q_ (.bool true) ?_
  refine q_ (.bool true) ?_
  refine n_' ?_
  refine n_' ?_
  refine n_' ?_
  refine n_' ?_
  refine q_ (.bool true) ?_
  refine s_nil ?_
  obtain rfl := Option.some.inj r174
  exact k165 _ _ ⟨ha_, (FrS.step e154.wf (FrS.refl (W := [b152]) e154.wf) e176 Inn.refl')⟩
 obtain ⟨hh166, e164⟩ := hM
 obtain ⟨β, rfl⟩ := has_ex hh166
 clear hh166
 refine k159 _ _ ?_
 refine w_cond (o160) (by kernel_rfl) rfl (fun h179 => ?_) (fun h179 => ?_)
 ·have r180 := ite_t h179 r162
  refine w_seqk fun _ k181 => ?_
  refine g_' ?_
  refine q_ (.bool false) ?_
  refine s_nil (k181 _ _ ?_)
  refine w_ret (th_ret ?_)
  refine b_ret (fn := Tryz.f8) (vs := [.bool false]) (aRes_tmp (by kernel_rfl) (rfl)) ?_
  obtain rfl := Option.some.inj r180
  exact ⟨rfl, (FrS.step wf (((FrS.step wf (FrS.step wf ((FrS.refl (W := []) wf).extR e4) e15 Inn.nil) e45 Inn.nil).extR e129).extR e154) e164 (hb155.fresh (ntr (ntr (ntr e4.next e15.next) e45.next) e129.next)))⟩
 have r182 := ite_bf h179 r162
 refine w_skip ?_
 refine k158 _ _ ?_
 refine w_seqk fun _ k183 => ?_
 refine w_seqk fun _ k184 => ?_
 refine g_' ?_
 refine q_ (i_ 1) ?_
 refine s_nil (k184 _ _ ?_)
 obtain ⟨z188, hx186, r187⟩ := bind_some r182
 refine w_mid (fun α H189 => ∃ o185, z188 = Sum.inr o185 ∧ Has α [] ∧ H163 = H189) (fun _ k191 => ?_) (fun α H189 hM => ?_)
 ·refine w_block ?_
  obtain ⟨n193, hn194⟩ := loopO_iff.1 hx186
  refine w_loopn (fun n α H195 => ∃ (i2 : Int), iterO (fun zz_ => z_viaductseen_Same_l1 err Code zz_) n i2 = some z188 ∧ Has α [(0, .iface t29 x30), (3, pt_ b2 0), (11, i_ i2)] ∧ H163 = H195) n193 ⟨1, hn194, ha_, rfl⟩ ?_
  rintro n193 α H195 ⟨i2, hi198, hh197, rfl⟩ K203 k203
  obtain ⟨n199, z200, rfl, hz201, hn202⟩ := iter_succ hi198
  obtain ⟨β, rfl⟩ := has_ex hh197
  clear hh197
  replace hz201 : z_viaductseen_Same_l1 err Code i2 = some z200 := hz201
  unfold z_viaductseen_Same_l1 at hz201
  refine w_seqk fun _ k204 => ?_
  refine w_seqk fun _ k205 => ?_
  refine g_' ?_
  refine q_ (i_ i2) ?_
  refine q_ (.bool (decide (i2 ≤ 20))) ?_
  refine s_nil (k205 _ _ ?_)
  refine w_condp (i2 ≤ 20) (by kernel_rfl) rfl (fun h206 => ?_) (fun h206 => ?_)
  ·have r207 := ite_t h206 hz201
   refine w_skip ?_
   refine k204 _ _ ?_
   refine w_seqk fun _ k208 => ?_
   refine w_block ?_
   refine w_seqk fun _ k209 => ?_
   refine w_draw [0, 1, 2, 4, 5, 6, 7, 3, 8] (by kernel_rfl) ?_
   refine e_' (.iface t29 x30) ?_
   refine e_' (i_ i2) ?_
   refine e_' (.iface 72 (i_ i2)) ?_
   refine e_' (i_ i2) ?_
   refine e_' (pt_ b2 0) ?_
   have u210 := ((((u38.frS e45 Dj.nil_l).ext e129).ext e154).frS e164 (hb155.djn (r6.ltF.le (ntr (ntr e15.next e45.next) e129.next))))
   refine d_fl (i_ Code) (x := aLoad Tryz.prog 3 (pt_ b2 0) H163) (by kernel_rfl) (u210.ld (by kernel_rfl)) ?_
   refine e_' (.bool (decide (i2 = Code))) ?_
   have u211 := ((((u31.fr e45 Dj.nil_l).ext e129).ext e154).fr e164 (hb155.djn (h_err.lt.le (ntr (ntr (ntr e4.next e15.next) e45.next) e129.next))))
   refine d_ck 25 #[.iface t29 x30, .iface 72 (i_ i2)] (by kernel_rfl) (a_isN u211 h28) ?_
   rintro _ _ ⟨rfl, rfl⟩
   refine ⟨st_ql (y := aLoad Tryz.prog 3 (pt_ b2 0) H163) (by kernel_rfl) (u210.ld (by kernel_rfl)) (st_nil), ?_⟩
   refine e_' (.bool (!decide ((decide (Er.num err = some i2)) = (decide (i2 = Code))))) ?_
   refine d_nil ?_
   refine k209 _ _ ?_
   refine w_condn ((decide (Er.num err = some i2)) = (decide (i2 = Code))) (by kernel_rfl) rfl (fun h212 => ?_) (fun h212 => ?_)
   ·have r213 := ite_f h212 r207
    refine w_seqk fun _ k214 => ?_
    refine g_' ?_
    refine q_ (.bool false) ?_
    refine s_nil (k214 _ _ ?_)
    refine w_ret (bl_ret (th_ret (th_ret (bl_ret (th_ret (th_ret ?_))))))
    obtain ⟨v215, hv216, hz217⟩ := map_some r213
    subst hz217
    obtain rfl := it_inr hn202
    have hq218 := elim_inl r187
    rw [hq218] at hv216
    refine b_ret (fn := Tryz.f8) (vs := [.bool false]) (aRes_tmp (by kernel_rfl) (rfl)) ?_
    obtain rfl := Option.some.inj hv216
    exact ⟨rfl, (FrS.step wf (((FrS.step wf (FrS.step wf ((FrS.refl (W := []) wf).extR e4) e15 Inn.nil) e45 Inn.nil).extR e129).extR e154) e164 (hb155.fresh (ntr (ntr (ntr e4.next e15.next) e45.next) e129.next)))⟩
   have r219 := ite_t h212 r207
   refine w_skip ?_
   refine k208 _ _ ?_
   refine g_' ?_
   refine q_ (i_ i2) ?_
   obtain ⟨g220, r221⟩ := G_some r219
   refine s_w ((i2 + 1)) (k := .i64) (x := (i2 + 1)) (by kernel_rfl) (wrap64 g220) ?_
   refine q_ (i_ (i2 + 1)) ?_
   refine s_nil ?_
   obtain rfl := Option.some.inj r221
   exact k203 n199 _ _ (Nat.lt_succ_self _) ⟨(i2 + 1), hn202, ha_, rfl⟩
  have r222 := ite_f h206 hz201
  refine w_exit (th_exit (th_exit (bl_eq ?_)))
  obtain rfl := Option.some.inj r222
  obtain rfl := it_inr hn202
  exact k191 _ _ ⟨_, rfl, trivial, rfl⟩
 obtain ⟨o185, rfl, hh192, rfl⟩ := hM
 have r223 := elim_inr r187
 obtain ⟨β, rfl⟩ := has_ex hh192
 clear hh192
 refine k183 _ _ ?_
 refine w_seqk fun _ k224 => ?_
 refine g_' ?_
 refine q_ (.bool true) ?_
 refine s_nil (k224 _ _ ?_)
 refine w_ret ?_
 refine b_ret (fn := Tryz.f8) (vs := [.bool true]) (aRes_tmp (by kernel_rfl) (rfl)) ?_
 obtain rfl := Option.some.inj r223
 exact ⟨rfl, (FrS.step wf (((FrS.step wf (FrS.step wf ((FrS.refl (W := []) wf).extR e4) e15 Inn.nil) e45 Inn.nil).extR e129).extR e154) e164 (hb155.fresh (ntr (ntr (ntr e4.next e15.next) e45.next) e129.next)))⟩

theorem c_viaductref04_less {H : AH} {From : Int} {To : Int} {Weight : Int} {From_ : Int} {To_ : Int} {Weight_ : Int} {r : Bool}
    (wf : WF H) (hr : z_viaductref04_less From To Weight From_ To_ Weight_ = some r) :
    ACalls Tryz.prog 79 #[.agg #[i_ From, i_ To, i_ Weight], .agg #[i_ From_, i_ To_, i_ Weight_]] H fun v H' => v = .bool r ∧ FrS [] H H' := by
 refine acalls_of_body mixed Tryz.func79 rfl (Nat.le_of_ble_eq_true rfl) ?_
 unfold z_viaductref04_less at hr
 refine w_seqk fun _ k1 => ?_
 refine g_' ?_
 refine s_rwl wf [i_ From, i_ To, i_ Weight] (one_cons (rfl) (one_cons (rfl) (one_cons (rfl) (one_nil)))) (by kernel_rfl) fun b2 H3 e4 hb5 r6 => ?_
 refine s_rwl e4.wf [i_ From_, i_ To_, i_ Weight_] (one_cons (rfl) (one_cons (rfl) (one_cons (rfl) (one_nil)))) (by kernel_rfl) fun b8 H9 e10 hb11 r12 => ?_
 refine q_ (.bool false) ?_
 refine s_nil (k1 _ _ ?_)
 refine w_seqk fun _ k14 => ?_
 refine g_' ?_
 refine q_ (pt_ b2 0) ?_
 have u15 := (r6.ext e10)
 refine l_' (i_ From) (aLoad Tryz.prog 3 (pt_ b2 0) H9) (u15.ld (by kernel_rfl)) ?_
 refine q_ (pt_ b8 0) ?_
 refine l_' (i_ From_) (aLoad Tryz.prog 3 (pt_ b8 0) H9) (r12.ld (by kernel_rfl)) ?_
 refine s_b (From < From_) (by kernel_rfl) (fun h16 => ?_) (fun h16 => ?_)
 ·have r17 := ite_t h16 hr
  refine q_ (.bool true) ?_
  refine n_' ?_
  refine n_' ?_
  refine n_' ?_
  refine n_' ?_
  refine n_' ?_
  refine n_' ?_
  refine n_' ?_
  refine n_' ?_
  refine n_' ?_
  refine n_' ?_
  refine n_' ?_
  refine n_' ?_
  refine q_ (.bool true) ?_
  refine q_ (.bool true) ?_
  refine s_nil (k14 _ _ ?_)
  refine w_ret ?_
  refine b_ret (fn := Tryz.f79) (vs := [.bool true]) (aRes_tmp (by kernel_rfl) (rfl)) ?_
  obtain rfl := Option.some.inj r17
  exact ⟨rfl, (((FrS.refl (W := []) wf).extR e4).extR e10)⟩
 have r18 := ite_f h16 hr
 refine q_ (.bool false) ?_
 refine q_ (pt_ b2 0) ?_
 refine l_' (i_ From) (aLoad Tryz.prog 3 (pt_ b2 0) H9) (u15.ld (by kernel_rfl)) ?_
 refine q_ (pt_ b8 0) ?_
 refine l_' (i_ From_) (aLoad Tryz.prog 3 (pt_ b8 0) H9) (r12.ld (by kernel_rfl)) ?_
 refine s_b (From = From_) (by kernel_rfl) (fun h19 => ?_) (fun h19 => ?_)
 ·have r20 := ite_t h19 r18
  refine q_ (.bool true) ?_
  refine q_ (pt_ b2 1) ?_
  refine l_' (i_ To) (aLoad Tryz.prog 3 (pt_ b2 1) H9) (u15.ld (by kernel_rfl)) ?_
  refine q_ (pt_ b8 1) ?_
  refine l_' (i_ To_) (aLoad Tryz.prog 3 (pt_ b8 1) H9) (r12.ld (by kernel_rfl)) ?_
  refine q_ (.bool (decide (To < To_))) ?_
  refine q_ (.bool (decide (To < To_))) ?_
  refine q_ (.bool (decide (To < To_))) ?_
  refine q_ (.bool (decide (To < To_))) ?_
  refine s_nil (k14 _ _ ?_)
  refine w_ret ?_
  refine b_ret (fn := Tryz.f79) (vs := [.bool (decide (To < To_))]) (aRes_tmp (by kernel_rfl) (rfl)) ?_
  obtain rfl := Option.some.inj r20
  exact ⟨rfl, (((FrS.refl (W := []) wf).extR e4).extR e10)⟩
 have r21 := ite_f h19 r18
 refine q_ (.bool false) ?_
 refine n_' ?_
 refine n_' ?_
 refine n_' ?_
 refine n_' ?_
 refine n_' ?_
 refine q_ (.bool false) ?_
 refine q_ (.bool false) ?_
 refine q_ (.bool false) ?_
 refine s_nil (k14 _ _ ?_)
 refine w_ret ?_
 refine b_ret (fn := Tryz.f79) (vs := [.bool false]) (aRes_tmp (by kernel_rfl) (rfl)) ?_
 obtain rfl := Option.some.inj r21
 exact ⟨rfl, (((FrS.refl (W := []) wf).extR e4).extR e10)⟩

theorem c_viaductref04_Put {H : AH} {hd_l : Value} {fp_l : Fp} {l : List (Int × Int × Int)} {From : Int} {To : Int} {Weight : Int} {r : List (Int × Int × Int)}
    (wf : WF H) (h_l : Sq enc_i64_i64_i64 3 H hd_l l fp_l) (hr : z_viaductref04_Put l From To Weight = some r) :
    ACalls Tryz.prog 62 #[hd_l, .agg #[i_ From, i_ To, i_ Weight]] H fun v H' => ∃ (s3 : Value) (f4 : Fp), v = s3 ∧ FrS [] H H' ∧ Ow enc_i64_i64_i64 3 H' s3 r f4 ∧ Inn [] H f4 := by
 refine acalls_of_body mixed Tryz.func62 rfl (Nat.le_of_ble_eq_true rfl) ?_
 unfold z_viaductref04_Put at hr
 refine w_seqk fun _ k6 => ?_
 refine g_' ?_
 refine s_rwl wf [i_ From, i_ To, i_ Weight] (one_cons (rfl) (one_cons (rfl) (one_cons (rfl) (one_nil)))) (by kernel_rfl) fun b7 H8 e9 hb10 r11 => ?_
 refine q_ (.slice none 0 0) ?_
 refine s_nil (k6 _ _ ?_)
 refine w_seqk fun _ k13 => ?_
 refine g_' ?_
 refine q_ (i_ 0) ?_
 refine s_nil (k13 _ _ ?_)
 refine w_seqk fun _ k14 => ?_
 obtain ⟨o15, hx16, r17⟩ := bind_some hr
 refine w_mid (fun α H18 => Has α [(0, hd_l), (3, pt_ b7 0), (5, i_ o15)] ∧ FrS [] H8 H18) (fun _ k20 => ?_) (fun α H18 hM => ?_)
 ·refine w_block ?_
  obtain ⟨n22, hn23⟩ := loopO_iff.1 hx16
  refine w_loopn (fun n α H24 => ∃ (i0 : Int), iterO (fun zz_ => z_viaductref04_Put_l0 l From To Weight zz_) n i0 = some o15 ∧ Has α [(0, hd_l), (3, pt_ b7 0), (5, i_ i0)] ∧ FrS [] H8 H24) n22 ⟨0, hn23, ha_, (FrS.refl (W := []) e9.wf)⟩ ?_
  rintro n22 α H24 ⟨i0, hi27, hh26, e25⟩ K32 k32
  obtain ⟨n28, z29, rfl, hz30, hn31⟩ := iter_succ hi27
  obtain ⟨β, rfl⟩ := has_ex hh26
  clear hh26
  replace hz30 : z_viaductref04_Put_l0 l From To Weight i0 = some z29 := hz30
  unfold z_viaductref04_Put_l0 at hz30
  refine w_seqk fun _ k33 => ?_
  refine w_seqk fun _ k34 => ?_
  refine w_draw [0, 1, 2, 3, 4, 5, 6, 7, 8, 9, 10, 11] (by kernel_rfl) ?_
  refine e_' (i_ i0) ?_
  refine e_' (hd_l) ?_
  have u35 := ((h_l.ext e9).fr e25 Dj.nil_l)
  refine m_' (i_ (l.length : Int)) (aLen Tryz.prog 22 hd_l H24) (u35.lenb (by kernel_rfl)) ?_
  refine d_b (i0 < (l.length : Int)) (by kernel_rfl) (fun h36 => ?_) (fun h36 => ?_)
  ·have r37 := ite_t h36 hz30
   refine e_' (.bool true) ?_
   refine e_' (hd_l) ?_
   refine e_' (i_ i0) ?_
   obtain ⟨g38, r39⟩ := G_some r37
   refine m_' (elp hd_l 3 i0.toNat 0) (aIndexAddr Tryz.prog 22 hd_l (i_ i0)) (u35.idxb (by kernel_rfl) g38 h36) ?_
   refine m_' (.agg #[i_ ((gt l i0).1), i_ ((gt l i0).2.1), i_ ((gt l i0).2.2)]) (aLoad Tryz.prog 55 (elp hd_l 3 i0.toNat 0) H24) (u35.ld g38 h36 (by kernel_rfl)) ?_
   have u40 := (r11.frS e25 Dj.nil_l)
   refine m_' (.agg #[i_ From, i_ To, i_ Weight]) (aLoad Tryz.prog 55 (pt_ b7 0) H24) (u40.ld (by kernel_rfl)) ?_
   obtain ⟨y41, hy42, r43⟩ := bind_some r39
   refine d_ck 79 #[.agg #[i_ ((gt l i0).1), i_ ((gt l i0).2.1), i_ ((gt l i0).2.2)], .agg #[i_ From, i_ To, i_ Weight]] (by kernel_rfl) (c_viaductref04_less e25.wf hy42) ?_
   rintro _ H44 ⟨rfl, e45⟩
   refine ⟨st_nil, ?_⟩
   refine e_' (.bool y41) ?_
   refine d_nil ?_
   refine k34 _ _ ?_
   refine w_cond (y41) (by kernel_rfl) rfl (fun h46 => ?_) (fun h46 => ?_)
   ·have r47 := ite_t h46 r43
    refine w_skip ?_
    refine k33 _ _ ?_
    refine w_block ?_
    refine g_' ?_
    refine q_ (i_ i0) ?_
    obtain ⟨g48, r49⟩ := G_some r47
    refine s_w ((i0 + 1)) (k := .i64) (x := (i0 + 1)) (by kernel_rfl) (wrap64 (by have := g48; omega)) ?_
    refine q_ (i_ (i0 + 1)) ?_
    refine s_nil ?_
    obtain rfl := Option.some.inj r49
    exact k32 n28 _ _ (Nat.lt_succ_self _) ⟨(i0 + 1), hn31, ha_, (FrS.step e9.wf (FrS.step e9.wf (FrS.refl (W := []) e9.wf) e25 Inn.nil) e45 Inn.nil)⟩
   have r50 := ite_bf h46 r43
   refine w_exit (th_exit (th_exit (bl_eq ?_)))
   obtain rfl := Option.some.inj r50
   obtain rfl := it_inr hn31
   exact k20 _ _ ⟨ha_, (FrS.step e9.wf (FrS.step e9.wf (FrS.refl (W := []) e9.wf) e25 Inn.nil) e45 Inn.nil)⟩
  have r51 := ite_f h36 hz30
  refine e_' (.bool false) ?_
  refine j_' ?_
  refine j_' ?_
  refine j_' ?_
  refine j_' ?_
  refine j_' ?_
  refine j_' ?_
  refine e_' (.bool false) ?_
  refine d_nil ?_
  refine k34 _ _ ?_
  refine w_cond false (by kernel_rfl) rfl (fun h => by cases h) (fun _ => ?_)
  refine w_exit (th_exit (th_exit (bl_eq ?_)))
  obtain rfl := Option.some.inj r51
  obtain rfl := it_inr hn31
  exact k20 _ _ ⟨ha_, (FrS.step e9.wf (FrS.refl (W := []) e9.wf) e25 Inn.nil)⟩
 obtain ⟨hh21, e19⟩ := hM
 obtain ⟨β, rfl⟩ := has_ex hh21
 clear hh21
 refine k14 _ _ ?_
 refine w_seqk fun _ k52 => ?_
 refine g_' ?_
 refine q_ (.slice none 0 0) ?_
 refine s_nil (k52 _ _ ?_)
 refine w_seqk fun _ k53 => ?_
 refine g_' ?_
 refine q_ (.slice none 0 0) ?_
 refine q_ (hd_l) ?_
 refine q_ (i_ o15) ?_
 obtain ⟨g54, r55⟩ := G_some r17
 have u59 := ((h_l.ext e9).fr e19 Dj.nil_l)
 obtain ⟨s56, q57, hs58⟩ := Sq.cut (P := Tryz.prog) u59 (t := 22) (by kernel_rfl) (lo := none) (hi := (some (i_ o15))) (l := 0) (r := o15.toNat) (rfl) (aBound_int _ (by have := g54; omega)) (by have := g54; omega) (by have := g54; omega)
 obtain ⟨a60, n61, c62, rfl⟩ := hs58.form
 refine s_ql (.slice a60 n61 c62) (by kernel_rfl) q57 ?_
 obtain ⟨g64, r65⟩ := G_some r55
 obtain ⟨s66, H67, f68, q72, e69, hm70, hf71⟩ := Ow.append (P := Tryz.prog) 24 e19.wf (Ow.nil (enc := enc_i64_i64_i64) (sz := 3) (by decide)) hs58 (fun _ _ => rfl) (at_ := #[22, 22]) rfl rfl (by kernel_rfl) (by kernel_rfl) (by decide) (by have := g64; first | omega | (simp only [List.length_cons, List.length_nil] at this ⊢; omega) | (simp at this ⊢; omega))
 obtain ⟨a73, n74, c75, rfl⟩ := hm70.form
 refine s_ek (.slice a73 n74 c75) (by kernel_rfl) (q72) ?_
 refine q_ (.slice a73 n74 c75) ?_
 refine s_nil (k53 _ _ ?_)
 refine w_seqk fun _ k77 => ?_
 refine w_seqk fun _ k78 => ?_
 obtain ⟨o79, hx80, r81⟩ := bind_some r65
 refine w_mid (fun α H82 => Has α [(0, hd_l), (3, pt_ b7 0), (5, i_ o15), (6, .slice a73 n74 c75), (49, .bool o79)] ∧ H67 = H82) (fun _ k84 => ?_) (fun α H82 hM => ?_)
 ·refine w_draw [0, 1, 2, 3, 4, 5, 6, 7, 8, 9, 10, 11, 12, 13, 14, 15, 16, 17, 18, 19, 20, 21, 22, 23] (by kernel_rfl) ?_
  refine e_' (i_ o15) ?_
  refine e_' (hd_l) ?_
  have u86 := (u59.fr e69 Dj.nil_l)
  refine m_' (i_ (l.length : Int)) (aLen Tryz.prog 22 hd_l H67) (u86.lenb (by kernel_rfl)) ?_
  refine d_b (o15 < (l.length : Int)) (by kernel_rfl) (fun h87 => ?_) (fun h87 => ?_)
  ·have r88 := ite_t h87 hx80
   refine e_' (.bool true) ?_
   refine e_' (hd_l) ?_
   refine e_' (i_ o15) ?_
   obtain ⟨g89, r90⟩ := G_some r88
   refine m_' (elp hd_l 3 o15.toNat 0) (aIndexAddr Tryz.prog 22 hd_l (i_ o15)) (u86.idxb (by kernel_rfl) g89 h87) ?_
   refine m_' (elp hd_l 3 o15.toNat 0) (aFieldAddr Tryz.prog 55 (elp hd_l 3 o15.toNat 0) 0) (Sq.fldq (d := 0) u86 g89 h87 (by kernel_rfl)) ?_
   refine m_' (i_ ((gt l o15).1)) (aLoad Tryz.prog 3 (elp hd_l 3 o15.toNat 0) H67) (u86.ld g89 h87 (by kernel_rfl)) ?_
   refine e_' (pt_ b7 0) ?_
   have u91 := ((r11.frS e19 Dj.nil_l).frS e69 Dj.nil_l)
   refine m_' (i_ From) (aLoad Tryz.prog 3 (pt_ b7 0) H67) (u91.ld (by kernel_rfl)) ?_
   refine d_b (((gt l o15).1) = From) (by kernel_rfl) (fun h92 => ?_) (fun h92 => ?_)
   ·have r93 := ite_t h92 r90
    refine e_' (.bool true) ?_
    refine e_' (.bool true) ?_
    refine e_' (hd_l) ?_
    refine e_' (i_ o15) ?_
    refine m_' (elp hd_l 3 o15.toNat 0) (aIndexAddr Tryz.prog 22 hd_l (i_ o15)) (u86.idxb (by kernel_rfl) g89 h87) ?_
    refine m_' (elp hd_l 3 o15.toNat 1) (aFieldAddr Tryz.prog 55 (elp hd_l 3 o15.toNat 0) 1) (Sq.fldq (d := 1) u86 g89 h87 (by kernel_rfl)) ?_
    refine m_' (i_ ((gt l o15).2.1)) (aLoad Tryz.prog 3 (elp hd_l 3 o15.toNat 1) H67) (u86.ld g89 h87 (by kernel_rfl)) ?_
    refine e_' (pt_ b7 1) ?_
    refine m_' (i_ To) (aLoad Tryz.prog 3 (pt_ b7 1) H67) (u91.ld (by kernel_rfl)) ?_
    refine e_' (.bool (decide (((gt l o15).2.1) = To))) ?_
    refine e_' (.bool (decide (((gt l o15).2.1) = To))) ?_
    refine d_nil ?_
    obtain rfl := Option.some.inj r93
    exact k84 _ _ ⟨ha_, rfl⟩
   have r94 := ite_f h92 r90
   refine e_' (.bool false) ?_
   refine e_' (.bool false) ?_
   refine j_' ?_
   refine j_' ?_
   refine j_' ?_
   refine j_' ?_
   refine j_' ?_
   refine j_' ?_
   refine j_' ?_
   refine j_' ?_
   refine e_' (.bool false) ?_
   refine d_nil ?_
   obtain rfl := Option.some.inj r94
   exact k84 _ _ ⟨ha_, rfl⟩
  have r95 := ite_f h87 hx80
  refine e_' (.bool false) ?_
  refine j_' ?_
  refine j_' ?_
  refine j_' ?_
  refine j_' ?_
  refine j_' ?_
  refine j_' ?_
  refine j_' ?_
  refine j_' ?_
  refine e_' (.bool false) ?_
  refine e_' (.bool false) ?_
  refine j_' ?_
  refine j_' ?_
  refine j_' ?_
  refine j_' ?_
  refine j_' ?_
  refine j_' ?_
  refine j_' ?_
  refine j_' ?_
  refine e_' (.bool false) ?_
  refine d_nil ?_
  obtain rfl := Option.some.inj r95
  exact k84 _ _ ⟨ha_, rfl⟩
 obtain ⟨hh85, rfl⟩ := hM
 obtain ⟨β, rfl⟩ := has_ex hh85
 clear hh85
 refine k78 _ _ ?_
 refine w_cond (o79) (by kernel_rfl) rfl (fun h96 => ?_) (fun h96 => ?_)
 ·have r97 := ite_t h96 r81
  refine w_seqk fun _ k98 => ?_
  refine w_draw [0, 1, 2, 3, 4, 5, 6, 7, 8, 9] (by kernel_rfl) ?_
  refine e_' (pt_ b7 2) ?_
  have u99 := ((r11.frS e19 Dj.nil_l).frS e69 Dj.nil_l)
  refine m_' (i_ Weight) (aLoad Tryz.prog 3 (pt_ b7 2) H67) (u99.ld (by kernel_rfl)) ?_
  refine e_' (hd_l) ?_
  refine e_' (i_ o15) ?_
  obtain ⟨g100, r101⟩ := G_some r97
  have u102 := (u59.fr e69 Dj.nil_l)
  refine m_' (elp hd_l 3 o15.toNat 0) (aIndexAddr Tryz.prog 22 hd_l (i_ o15)) (u102.idxb (by kernel_rfl) g100.1 g100.2) ?_
  refine m_' (elp hd_l 3 o15.toNat 2) (aFieldAddr Tryz.prog 55 (elp hd_l 3 o15.toNat 0) 2) (Sq.fldq (d := 2) u102 g100.1 g100.2 (by kernel_rfl)) ?_
  refine m_' (i_ ((gt l o15).2.2)) (aLoad Tryz.prog 3 (elp hd_l 3 o15.toNat 2) H67) (u102.ld g100.1 g100.2 (by kernel_rfl)) ?_
  refine m_' (i_ (min Weight ((gt l o15).2.2))) (aMin Tryz.prog [i_ Weight, i_ ((gt l o15).2.2)]) (aMin_two _ _) ?_
  refine e_' (pt_ b7 2) ?_
  obtain ⟨H103, q104, e105, r106⟩ := Row.store (P := Tryz.prog) (t := 3) (p := 2) e69.wf u99 (i_ (min Weight ((gt l o15).2.2))) [i_ (min Weight ((gt l o15).2.2))] (by kernel_rfl) (by kernel_rfl) (one_cons (rfl) (one_nil)) (Nat.le_of_ble_eq_true (by kernel_rfl)) [i_ From, i_ To, i_ (min Weight ((gt l o15).2.2))] (by kernel_rfl)
  refine d_ek (undef) (by kernel_rfl) (map_ok q104) (st_nil) ?_
  refine d_nil ?_
  refine k98 _ _ ?_
  refine w_seqk fun _ k107 => ?_
  refine g_' ?_
  refine q_ (.slice a73 n74 c75) ?_
  refine l_' (.agg #[i_ From, i_ To, i_ (min Weight ((gt l o15).2.2))]) (aLoad Tryz.prog 55 (pt_ b7 0) H103) (r106.ld (by kernel_rfl)) ?_
  refine s_owk (enc := enc_i64_i64_i64) (sz := 3) e105.wf [(From, To, (min Weight ((gt l o15).2.2)))] 1 (by decide) (fun _ _ => rfl) (fun _ _ => rfl) rfl (by kernel_rfl) fun s108 f109 H110 e111 hf112 hm113 => ?_
  obtain ⟨a114, n115, c116, rfl⟩ := hm113.form
  have u118 := ((hm70.fr e105 (Dj.symm (hf71.djn (r11.ltF.le e19.next)))).ext e111)
  obtain ⟨g119, r120⟩ := G_some r101
  obtain ⟨s121, H122, f123, q127, e124, hm125, hf126⟩ := Ow.append (P := Tryz.prog) 24 e111.wf u118 hm113.sq (fun _ _ => rfl) (at_ := #[22, 22]) rfl rfl (by kernel_rfl) (by kernel_rfl) (by decide) (by have := g119; first | omega | (simp only [List.length_cons, List.length_nil] at this ⊢; omega) | (simp at this ⊢; omega))
  obtain ⟨a128, n129, c130, rfl⟩ := hm125.form
  refine s_ek (.slice a128 n129 c130) (by kernel_rfl) (q127) ?_
  refine q_ (.slice a128 n129 c130) ?_
  refine s_nil (k107 _ _ ?_)
  refine w_seqk fun _ k132 => ?_
  refine g_' ?_
  refine q_ (.slice a128 n129 c130) ?_
  refine q_ (hd_l) ?_
  refine q_ (i_ o15) ?_
  obtain ⟨g133, r134⟩ := G_some r120
  refine s_w ((o15 + 1)) (k := .i64) (x := (o15 + 1)) (by kernel_rfl) (wrap64 (by have := g133; omega)) ?_
  obtain ⟨g135, r136⟩ := G_some r134
  have u140 := (((u102.fr e105 (hb10.djn h_l.lt)).ext e111).fr e124 (hf71.djn (h_l.lt.le (ntr e9.next e19.next))))
  obtain ⟨s137, q138, hs139⟩ := Sq.cut (P := Tryz.prog) u140 (t := 22) (by kernel_rfl) (lo := (some (i_ (o15 + 1)))) (hi := none) (l := (o15 + 1).toNat) (r := l.length) (aBound_int _ (by have := g135; omega)) (rfl) (by have := g135; omega) (by have := g135; omega)
  obtain ⟨a141, n142, c143, rfl⟩ := hs139.form
  refine s_ql (.slice a141 n142 c143) (by kernel_rfl) q138 ?_
  obtain ⟨g145, r146⟩ := G_some r136
  obtain ⟨s147, H148, f149, q153, e150, hm151, hf152⟩ := Ow.append (P := Tryz.prog) 24 e124.wf hm125 hs139 (fun _ _ => rfl) (at_ := #[22, 22]) rfl rfl (by kernel_rfl) (by kernel_rfl) (by decide) (by have := g145; first | omega | (simp only [List.length_cons, List.length_nil] at this ⊢; omega) | (simp at this ⊢; omega))
  obtain ⟨a154, n155, c156, rfl⟩ := hm151.form
  refine s_ek (.slice a154 n155 c156) (by kernel_rfl) (q153) ?_
  refine q_ (.slice a154 n155 c156) ?_
  refine s_nil (k132 _ _ ?_)
  refine w_ret (th_ret ?_)
  refine b_ret (fn := Tryz.f62) (vs := [.slice a154 n155 c156]) (aRes_tmp (by kernel_rfl) (rfl)) ?_
  obtain rfl := Option.some.inj r146
  exact ⟨(.slice a154 n155 c156), f149, rfl, (FrS.step wf (FrS.step wf ((FrS.step wf (FrS.step wf (FrS.step wf ((FrS.refl (W := []) wf).extR e9) e19 Inn.nil) e69 Inn.nil) e105 (hb10.fresh (Nat.le_refl _))).extR e111) e124 (hf71.fresh (ntr e9.next e19.next))) e150 (Inn.trans (hf71.fresh (ntr e9.next e19.next)) (ntr (ntr (ntr (ntr e9.next e19.next) e69.next) e105.next) e111.next) hf126)), hm151, (Inn.trans (Inn.trans (hf71.fresh (ntr e9.next e19.next)) (ntr (ntr (ntr (ntr e9.next e19.next) e69.next) e105.next) e111.next) hf126) (ntr (ntr (ntr (ntr (ntr e9.next e19.next) e69.next) e105.next) e111.next) e124.next) hf152)⟩
 have r158 := ite_bf h96 r81
 refine w_skip ?_
 refine k77 _ _ ?_
 refine w_seqk fun _ k159 => ?_
 refine g_' ?_
 refine q_ (.slice a73 n74 c75) ?_
 have u160 := ((r11.frS e19 Dj.nil_l).frS e69 Dj.nil_l)
 refine l_' (.agg #[i_ From, i_ To, i_ Weight]) (aLoad Tryz.prog 55 (pt_ b7 0) H67) (u160.ld (by kernel_rfl)) ?_
 refine s_owk (enc := enc_i64_i64_i64) (sz := 3) e69.wf [(From, To, Weight)] 1 (by decide) (fun _ _ => rfl) (fun _ _ => rfl) rfl (by kernel_rfl) fun s161 f162 H163 e164 hf165 hm166 => ?_
 obtain ⟨a167, n168, c169, rfl⟩ := hm166.form
 have u171 := (hm70.ext e164)
 obtain ⟨g172, r173⟩ := G_some r158
 obtain ⟨s174, H175, f176, q180, e177, hm178, hf179⟩ := Ow.append (P := Tryz.prog) 24 e164.wf u171 hm166.sq (fun _ _ => rfl) (at_ := #[22, 22]) rfl rfl (by kernel_rfl) (by kernel_rfl) (by decide) (by have := g172; first | omega | (simp only [List.length_cons, List.length_nil] at this ⊢; omega) | (simp at this ⊢; omega))
 obtain ⟨a181, n182, c183, rfl⟩ := hm178.form
 refine s_ek (.slice a181 n182 c183) (by kernel_rfl) (q180) ?_
 refine q_ (.slice a181 n182 c183) ?_
 refine s_nil (k159 _ _ ?_)
 refine w_seqk fun _ k185 => ?_
 refine g_' ?_
 refine q_ (.slice a181 n182 c183) ?_
 refine q_ (hd_l) ?_
 refine q_ (i_ o15) ?_
 have u189 := (((u59.fr e69 Dj.nil_l).ext e164).fr e177 (hf71.djn (h_l.lt.le (ntr e9.next e19.next))))
 obtain ⟨s186, q187, hs188⟩ := Sq.cut (P := Tryz.prog) u189 (t := 22) (by kernel_rfl) (lo := (some (i_ o15))) (hi := none) (l := o15.toNat) (r := l.length) (aBound_int _ (by have := g54; omega)) (rfl) (by have := g54; omega) (by have := g54; omega)
 obtain ⟨a190, n191, c192, rfl⟩ := hs188.form
 refine s_ql (.slice a190 n191 c192) (by kernel_rfl) q187 ?_
 obtain ⟨g194, r195⟩ := G_some r173
 obtain ⟨s196, H197, f198, q202, e199, hm200, hf201⟩ := Ow.append (P := Tryz.prog) 24 e177.wf hm178 hs188 (fun _ _ => rfl) (at_ := #[22, 22]) rfl rfl (by kernel_rfl) (by kernel_rfl) (by decide) (by have := g194; first | omega | (simp only [List.length_cons, List.length_nil] at this ⊢; omega) | (simp at this ⊢; omega))
 obtain ⟨a203, n204, c205, rfl⟩ := hm200.form
 refine s_ek (.slice a203 n204 c205) (by kernel_rfl) (q202) ?_
 refine q_ (.slice a203 n204 c205) ?_
 refine s_nil (k185 _ _ ?_)
 refine w_ret ?_
 refine b_ret (fn := Tryz.f62) (vs := [.slice a203 n204 c205]) (aRes_tmp (by kernel_rfl) (rfl)) ?_
 obtain rfl := Option.some.inj r195
 exact ⟨(.slice a203 n204 c205), f198, rfl, (FrS.step wf (FrS.step wf ((FrS.step wf (FrS.step wf ((FrS.refl (W := []) wf).extR e9) e19 Inn.nil) e69 Inn.nil).extR e164) e177 (hf71.fresh (ntr e9.next e19.next))) e199 (Inn.trans (hf71.fresh (ntr e9.next e19.next)) (ntr (ntr (ntr e9.next e19.next) e69.next) e164.next) hf179)), hm200, (Inn.trans (Inn.trans (hf71.fresh (ntr e9.next e19.next)) (ntr (ntr (ntr e9.next e19.next) e69.next) e164.next) hf179) (ntr (ntr (ntr (ntr e9.next e19.next) e69.next) e164.next) e177.next) hf201)⟩

theorem c_viaductref04_Of {H : AH} {hd_Arcs : Value} {fp_Arcs : Fp} {N_ : Int} {Arcs : List (Int × Int × Int)} {r : Int × List (Int × Int × Int)}
    (wf : WF H) (h_Arcs : Sq enc_i64_i64_i64 3 H hd_Arcs Arcs fp_Arcs) (hr : z_viaductref04_Of N_ Arcs = some r) :
    ACalls Tryz.prog 50 #[.agg #[i_ N_, hd_Arcs]] H fun v H' => ∃ (s3 : Value) (f4 : Fp), v = .agg #[i_ r.1, s3] ∧ FrS [] H H' ∧ Ow enc_i64_i64_i64 3 H' s3 r.2 f4 ∧ Inn [] H f4 := by
 refine acalls_of_body mixed Tryz.func50 rfl (Nat.le_of_ble_eq_true rfl) ?_
 unfold z_viaductref04_Of at hr
 refine w_seqk fun _ k6 => ?_
 refine g_' ?_
 refine s_rwl wf [i_ N_, hd_Arcs] (one_cons (rfl) (one_cons (h_Arcs.one1) (one_nil))) (by kernel_rfl) fun b7 H8 e9 hb10 r11 => ?_
 refine s_rwk e9.wf [i_ 0, .slice none 0 0] (by kernel_rfl) fun b13 H14 e15 hb16 r17 => ?_
 refine s_nil (k6 _ _ ?_)
 refine w_seqk fun _ k19 => ?_
 refine g_' ?_
 refine q_ (pt_ b7 0) ?_
 have u20 := (r11.ext e15)
 refine l_' (i_ N_) (aLoad Tryz.prog 3 (pt_ b7 0) H14) (u20.ld (by kernel_rfl)) ?_
 refine q_ (.agg #[i_ N_, .slice none 0 0]) ?_
 refine s_rwk e15.wf [i_ 0, .slice none 0 0] (by kernel_rfl) fun b21 H22 e23 hb24 r25 => ?_
 obtain ⟨H27, q28, e29, r30⟩ := Row.store (P := Tryz.prog) (t := 24) (p := 0) e23.wf r25 (.agg #[i_ N_, .slice none 0 0]) [i_ N_, .slice none 0 0] (by kernel_rfl) (by kernel_rfl) (one_cons (rfl) (one_cons (rfl) (one_nil))) (Nat.le_of_ble_eq_true (by kernel_rfl)) [i_ N_, .slice none 0 0] (by kernel_rfl)
 refine s_ek (undef) (by kernel_rfl) (map_ok q28) ?_
 refine s_nil (k19 _ _ ?_)
 refine w_seqk fun _ k31 => ?_
 refine w_seqk fun _ k32 => ?_
 refine g_' ?_
 refine q_ (pt_ b7 1) ?_
 have u33 := ((u20.ext e23).frS e29 (hb24.djn (r11.ltF.le e15.next)))
 refine l_' (hd_Arcs) (aLoad Tryz.prog 22 (pt_ b7 1) H27) (u33.ld (by kernel_rfl)) ?_
 have u34 := ((((h_Arcs.ext e9).ext e15).ext e23).fr e29 (hb24.djn (h_Arcs.lt.le (ntr e9.next e15.next))))
 refine l_' (i_ (Arcs.length : Int)) (aLen Tryz.prog 22 hd_Arcs H27) (u34.lenb (by kernel_rfl)) ?_
 refine q_ (i_ 0) ?_
 refine s_nil (k32 _ _ ?_)
 obtain ⟨o35, hx36, r37⟩ := bind_some hr
 refine w_mid (fun α H38 => ∃ (s42 : Value) (f43 : Fp), Has α [(2, pt_ b13 0), (3, pt_ b21 0)] ∧ FrS [b21] H27 H38 ∧ Ow enc_i64_i64_i64 3 H38 s42 o35 f43 ∧ Row H38 b21 [i_ N_, s42] ∧ Inn [] H27 f43) (fun _ k47 => ?_) (fun α H38 hM => ?_)
 ·refine w_block ?_
  obtain ⟨n49, hn50⟩ := loopO_iff.1 hx36
  refine w_loopn (fun n α H51 => ∃ (i0 : Int), ∃ (c1 : List (Int × Int × Int)), ∃ (s55 : Value), ∃ (f56 : Fp), iterO (fun zz_ => z_viaductref04_Of_l0 Arcs zz_.1 zz_.2) n (i0, c1) = some o35 ∧ Has α [(2, pt_ b13 0), (3, pt_ b21 0), (10, hd_Arcs), (11, i_ (Arcs.length : Int)), (12, i_ i0)] ∧ FrS [b21] H27 H51 ∧ Ow enc_i64_i64_i64 3 H51 s55 c1 f56 ∧ Row H51 b21 [i_ N_, s55] ∧ Inn [] H27 f56) n49 ⟨0, [], (.slice none 0 0), [], hn50, ha_, (FrS.refl (W := [b21]) e29.wf), (Ow.nil (by decide)), r30, Inn.nil⟩ ?_
  rintro n49 α H51 ⟨i0, c1, s55, f56, hi61, hh60, e52, m54, m58, i59⟩ K66 k66
  obtain ⟨n62, z63, rfl, hz64, hn65⟩ := iter_succ hi61
  obtain ⟨β, rfl⟩ := has_ex hh60
  clear hh60
  replace hz64 : z_viaductref04_Of_l0 Arcs i0 c1 = some z63 := hz64
  unfold z_viaductref04_Of_l0 at hz64
  obtain ⟨a67, n68, c69, rfl⟩ := m54.form
  refine w_seqk fun _ k70 => ?_
  refine g_' ?_
  refine q_ (.bool (decide (i0 < (Arcs.length : Int)))) ?_
  refine s_nil (k70 _ _ ?_)
  refine w_seqk fun _ k71 => ?_
  refine w_condp (i0 < (Arcs.length : Int)) (by kernel_rfl) rfl (fun h72 => ?_) (fun h72 => ?_)
  ·have r73 := ite_t h72 hz64
   refine w_skip ?_
   refine k71 _ _ ?_
   refine w_seqk fun _ k74 => ?_
   refine w_block ?_
   refine w_seqk fun _ k75 => ?_
   refine g_' ?_
   obtain ⟨g76, r77⟩ := G_some r73
   have u78 := (u34.fr e52 (hb24.djn (h_Arcs.lt.le (ntr e9.next e15.next))))
   refine l_' (elp hd_Arcs 3 i0.toNat 0) (aIndexAddr Tryz.prog 22 hd_Arcs (i_ i0)) (u78.idxb (by kernel_rfl) g76 h72) ?_
   refine l_' (.agg #[i_ ((gt Arcs i0).1), i_ ((gt Arcs i0).2.1), i_ ((gt Arcs i0).2.2)]) (aLoad Tryz.prog 55 (elp hd_Arcs 3 i0.toNat 0) H51) (u78.ld g76 h72 (by kernel_rfl)) ?_
   refine s_rwk e52.wf [i_ 0, i_ 0, i_ 0] (by kernel_rfl) fun b79 H80 e81 hb82 r83 => ?_
   obtain ⟨H85, q86, e87, r88⟩ := Row.store (P := Tryz.prog) (t := 55) (p := 0) e81.wf r83 (.agg #[i_ ((gt Arcs i0).1), i_ ((gt Arcs i0).2.1), i_ ((gt Arcs i0).2.2)]) [i_ ((gt Arcs i0).1), i_ ((gt Arcs i0).2.1), i_ ((gt Arcs i0).2.2)] (by kernel_rfl) (by kernel_rfl) (one_cons (rfl) (one_cons (rfl) (one_cons (rfl) (one_nil)))) (Nat.le_of_ble_eq_true (by kernel_rfl)) [i_ ((gt Arcs i0).1), i_ ((gt Arcs i0).2.1), i_ ((gt Arcs i0).2.2)] (by kernel_rfl)
   refine s_ek (undef) (by kernel_rfl) (map_ok q86) ?_
   refine s_nil (k75 _ _ ?_)
   refine w_seqk fun _ k89 => ?_
   refine g_' ?_
   refine q_ (pt_ b79 0) ?_
   refine l_' (i_ ((gt Arcs i0).1)) (aLoad Tryz.prog 3 (pt_ b79 0) H85) (r88.ld (by kernel_rfl)) ?_
   refine q_ (pt_ b79 1) ?_
   refine l_' (i_ ((gt Arcs i0).2.1)) (aLoad Tryz.prog 3 (pt_ b79 1) H85) (r88.ld (by kernel_rfl)) ?_
   refine q_ (.bool (!decide (((gt Arcs i0).1) = ((gt Arcs i0).2.1)))) ?_
   refine s_nil (k89 _ _ ?_)
   refine w_condn (((gt Arcs i0).1) = ((gt Arcs i0).2.1)) (by kernel_rfl) rfl (fun h90 => ?_) (fun h90 => ?_)
   ·have r91 := ite_f h90 r77
    refine g_' ?_
    refine q_ (pt_ b21 1) ?_
    have u92 := ((m58.ext e81).frS e87 (hb82.djn (r25.ltF.le (ntr e29.next e52.next))))
    refine l_' (.slice a67 n68 c69) (aLoad Tryz.prog 22 (pt_ b21 1) H85) (u92.ld (by kernel_rfl)) ?_
    refine l_' (.agg #[i_ ((gt Arcs i0).1), i_ ((gt Arcs i0).2.1), i_ ((gt Arcs i0).2.2)]) (aLoad Tryz.prog 55 (pt_ b79 0) H85) (r88.ld (by kernel_rfl)) ?_
    have u93 := ((m54.ext e81).fr e87 (hb82.djn m54.lt))
    obtain ⟨y94, hy95, r96⟩ := bind_some r91
    refine s_ck 62 #[.slice a67 n68 c69, .agg #[i_ ((gt Arcs i0).1), i_ ((gt Arcs i0).2.1), i_ ((gt Arcs i0).2.2)]] (by kernel_rfl) (c_viaductref04_Put e87.wf u93.sq hy95) ?_
    rintro s97 H99 ⟨_, f98, rfl, e100, m101, i102⟩
    obtain ⟨a104, n105, c106, rfl⟩ := m101.form
    refine q_ (pt_ b21 1) ?_
    have u111 := (u92.frS e100 Dj.nil_l)
    obtain ⟨H107, q108, e109, r110⟩ := Row.store (P := Tryz.prog) (t := 22) (p := 1) e100.wf u111 (.slice a104 n105 c106) [.slice a104 n105 c106] (by kernel_rfl) (by kernel_rfl) (one_cons (m101.one1) (one_nil)) (Nat.le_of_ble_eq_true (by kernel_rfl)) [i_ N_, .slice a104 n105 c106] (by kernel_rfl)
    refine s_ek (undef) (by kernel_rfl) (map_ok q108) ?_
    refine s_nil (k74 _ _ ?_)
    refine g_' ?_
    obtain ⟨g112, r113⟩ := G_some r96
    refine s_w ((i0 + 1)) (k := .i64) (x := (i0 + 1)) (by kernel_rfl) (wrap64 (by have := g112; omega)) ?_
    refine q_ (i_ (i0 + 1)) ?_
    refine s_nil ?_
    have u114 := (m101.fr e109 (Dj.symm (i102.djn (r25.ltF.le (ntr (ntr (ntr e29.next e52.next) e81.next) e87.next)))))
    obtain rfl := Option.some.inj r113
    exact k66 n62 _ _ (Nat.lt_succ_self _) ⟨(i0 + 1), y94, (.slice a104 n105 c106), f98, hn65, ha_, (FrS.step e29.wf (FrS.step e29.wf (FrS.step e29.wf ((FrS.step e29.wf (FrS.refl (W := [b21]) e29.wf) e52 Inn.refl').extR e81) e87 (hb82.fresh e52.next)) e100 Inn.nil) e109 Inn.refl'), u114, r110, (i102.fresh (ntr (ntr e52.next e81.next) e87.next))⟩
   have r115 := ite_t h90 r77
   refine w_skip ?_
   refine k74 _ _ ?_
   refine g_' ?_
   obtain ⟨g116, r117⟩ := G_some r115
   refine s_w ((i0 + 1)) (k := .i64) (x := (i0 + 1)) (by kernel_rfl) (wrap64 (by have := g116; omega)) ?_
   refine q_ (i_ (i0 + 1)) ?_
   refine s_nil ?_
   have u118 := ((m54.ext e81).fr e87 (hb82.djn m54.lt))
   have u119 := ((m58.ext e81).frS e87 (hb82.djn (r25.ltF.le (ntr e29.next e52.next))))
   obtain rfl := Option.some.inj r117
   exact k66 n62 _ _ (Nat.lt_succ_self _) ⟨(i0 + 1), c1, (.slice a67 n68 c69), f56, hn65, ha_, (FrS.step e29.wf ((FrS.step e29.wf (FrS.refl (W := [b21]) e29.wf) e52 Inn.refl').extR e81) e87 (hb82.fresh e52.next)), u118, u119, (i59.fresh (Nat.le_refl _))⟩
  have r120 := ite_f h72 hz64
  refine w_exit (th_exit (th_exit (bl_eq ?_)))
  obtain rfl := Option.some.inj r120
  obtain rfl := it_inr hn65
  exact k47 _ _ ⟨(.slice a67 n68 c69), f56, ha_, (FrS.step e29.wf (FrS.refl (W := [b21]) e29.wf) e52 Inn.refl'), m54, m58, (i59.fresh (Nat.le_refl _))⟩
 obtain ⟨s42, f43, hh48, e39, m41, m45, i46⟩ := hM
 obtain ⟨β, rfl⟩ := has_ex hh48
 clear hh48
 obtain ⟨a121, n122, c123, rfl⟩ := m41.form
 refine k31 _ _ ?_
 refine w_seqk fun _ k124 => ?_
 refine g_' ?_
 refine l_' (.agg #[i_ N_, .slice a121 n122 c123]) (aLoad Tryz.prog 24 (pt_ b21 0) H38) (m45.ld (by kernel_rfl)) ?_
 have u129 := (((r17.ext e23).frS e29 (hb24.djn r17.ltF)).frS e39 (hb24.djn r17.ltF))
 obtain ⟨H125, q126, e127, r128⟩ := Row.store (P := Tryz.prog) (t := 24) (p := 0) e39.wf u129 (.agg #[i_ N_, .slice a121 n122 c123]) [i_ N_, .slice a121 n122 c123] (by kernel_rfl) (by kernel_rfl) (one_cons (rfl) (one_cons (m41.one1) (one_nil))) (Nat.le_of_ble_eq_true (by kernel_rfl)) [i_ N_, .slice a121 n122 c123] (by kernel_rfl)
 refine s_ek (undef) (by kernel_rfl) (map_ok q126) ?_
 refine s_nil (k124 _ _ ?_)
 refine w_ret ?_
 refine b_ret (fn := Tryz.f50) (vs := [.agg #[i_ N_, .slice a121 n122 c123]]) (aRes_cell (Eq.trans (b := aLoad Tryz.prog 24 (pt_ b13 0) H125) (by kernel_rfl) (r128.ld (by kernel_rfl))) (rfl)) ?_
 have u130 := (m41.fr e127 (Dj.symm (i46.djn (r17.ltF.le (ntr e23.next e29.next)))))
 obtain rfl := Option.some.inj r37
 exact ⟨(.slice a121 n122 c123), f43, rfl, (FrS.step wf (FrS.step wf (FrS.step wf ((((FrS.refl (W := []) wf).extR e9).extR e15).extR e23) e29 (hb24.fresh (ntr e9.next e15.next))) e39 (hb24.fresh (ntr e9.next e15.next))) e127 (hb16.fresh e9.next)), u130, (i46.fresh (ntr (ntr (ntr e9.next e15.next) e23.next) e29.next))⟩


end Go.Vd
