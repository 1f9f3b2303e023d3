/- The walks of the functions (printed by a program of ours). -/
import Derived.Test.YtlohhdkkhedejaaGreatDoorPst0
import Derived.Test.YtlohhdkkhedejaaGreatDoorPstDrG
import Derived.Test.YtlohhdkkhedejaaGreatDoorPstISt
import Derived.Test.YtlohhdkkhedejaaGreatDoorPstVeN
import Derived.Test.YtlohhdkkhedejaaGreatDoorPstSoA
import Derived.Test.YtlohhdkkhedejaaGreatDoorPstVeV
set_option linter.unusedVariables false
set_option linter.unusedSimpArgs false
set_option linter.unusedSectionVars false
namespace Go.Vd
/-! Steps under short names: what is reckoned is reckoned by itself. -/
section
set_option linter.unusedSectionVars false
variable [Pins] {P : Program} {ops : Array Oper} {K : AAct → AH → Prop} {α : AAct} {H : AH} {o : Oper} {rest : List Oper} {tbl : List (List Nat)} {i : Nat} {rs : List Nat} {fl : List (Nat × AAct × Value)}
theorem q_ (v : Value) (k : wpSeq P ops K rest (α.put o.dst v) H) (h : stepQ P ops o α H = some v := by kernel_rfl) : wpSeq P ops K (o :: rest) α H := s_qk v h k
theorem l_' (v : Value) (x : Option Value) (h : x = some v) (k : wpSeq P ops K rest (α.put o.dst v) H) (h1 : stepQ P ops o α H = x := by kernel_rfl) : wpSeq P ops K (o :: rest) α H := s_ql v h1 h k
theorem e_' (v : Value) (k : wpOrd P ops tbl K rs fl (α.put (dstOf ops i) v) H) (h : stepD P ops tbl i rs α H = some v := by kernel_rfl) : wpOrd P ops tbl K (i :: rs) fl α H := d_qk v h k
theorem m_' (v : Value) (x : Option Value) (h : x = some v) (k : wpOrd P ops tbl K rs fl (α.put (dstOf ops i) v) H) (h1 : stepD P ops tbl i rs α H = x := by kernel_rfl) : wpOrd P ops tbl K (i :: rs) fl α H := d_ql v h1 h k
theorem has_of : ∀ {l : List (Nat × Value)}, (l.map fun p => α p.1) = l.map (·.2) → Has α l
  | [], _ => trivial
  | (_, _) :: _, h => ⟨(List.cons.inj h).1, has_of (List.cons.inj h).2⟩
theorem ha_ {l : List (Nat × Value)} (h : (l.map fun p => α p.1) = l.map (·.2) := by kernel_rfl) : Has α l := has_of h
theorem n_' (k : wpSeq P ops K rest (α.put o.dst undef) H) (hg : Region.wanted o (aYield ops α) = false := by kernel_rfl) : wpSeq P ops K (o :: rest) α H := s_no hg k
theorem j_' (k : wpOrd P ops tbl K rs fl (α.put (dstOf ops i) undef) H) (h : idle ops i α = true := by kernel_rfl) : wpOrd P ops tbl K (i :: rs) fl α H := d_idle h k
theorem g_' {N id : Nat} {l : List Oper} {Q : Exit → AAct → AH → Prop} (h : wpSeq P l.toArray (Q .normal) l α H) (hok : opsOk N l = true := by kernel_rfl) : aWp P N (.region id l.toArray false) Q α H := w_reg hok h
theorem w_' (x : Int) (hw : IntKind.i64.wrap x = x) (kk : wpSeq P ops K rest (α.put o.dst (.int .i64 x)) H) (h : stepQ P ops o α H = some (.int .i64 (IntKind.i64.wrap x)) := by kernel_rfl) : wpSeq P ops K (o :: rest) α H := s_w x h hw kk
end
abbrev i_ (n : Int) : Value := .int .i64 n
abbrev pt_ (b o : Nat) : Value := .pointer (some ⟨b, o, none⟩)
end Go.Vd

/-! (KSt0) -/

set_option maxRecDepth 100000
set_option maxHeartbeats 4000000
set_option linter.unusedVariables false
namespace Go.Vd
open Go.Proofs
attribute [local irreducible] wpSeq wpOrd aWp
set_option linter.unusedSimpArgs false
theorem e_pure {α : Type} (P : Program) (a : α) : pr P (pure a : Sem α) = some a := rfl
theorem e_prog {P : Program} : pr P (program : Sem Program) = some P := rfl
theorem e_und {P : Program} {t : TypeId} {d : TypeDesc} (h : P.underlying t = some d) : pr P (underlying t) = some d := by
  simp only [underlying, pr_bind]
  show ((pr P (program : Sem Program)).bind _) = _
  simp [show pr P (program : Sem Program) = some P from rfl, h]
  rfl
theorem e_int {P : Program} (d : Nat) (t : TypeId) (k : IntKind) (h : P.underlying t = some (.int k)) (a c : Int) : pr P (Op.equalIn (d+1) t (.int k a) (.int k c)) = some (a == c) := by
  simp only [Op.equalIn, pr_bind, e_und h]
  simp [e_pure]
theorem e_bool {P : Program} (d : Nat) (t : TypeId) (h : P.underlying t = some .bool) (a c : Bool) : pr P (Op.equalIn (d+1) t (.bool a) (.bool c)) = some (a == c) := by
  simp only [Op.equalIn, pr_bind, e_und h]
  simp [e_pure]
theorem e80_p0 (a0 : Int) (a1 : Int) : pr Tryz.prog (part 78 #[i_ a0, i_ a1] 0) = some (i_ a0) := by kernel_rfl
theorem e80_q0 (a c : Int) : pr Tryz.prog (Op.equalIn 9999 78 (i_ a) (i_ c)) = some (a == c) := e_int 9998 78 .i64 Go.Proofs.Tryz.underlying78 a c
theorem e80_p1 (a0 : Int) (a1 : Int) : pr Tryz.prog (part 3 #[i_ a0, i_ a1] 1) = some (i_ a1) := by kernel_rfl
theorem e80_q1 (a c : Int) : pr Tryz.prog (Op.equalIn 9999 3 (i_ a) (i_ c)) = some (a == c) := e_int 9998 3 .i64 Go.Proofs.Tryz.underlying3 a c
theorem e80_stood : Tryz.prog.stoodInHeld 80 = false := by kernel_rfl
theorem e80_eq (a0 : Int) (a1 : Int) (c0 : Int) (c1 : Int) : pr Tryz.prog (Op.equalIn Op.maxDepth 80 (.agg #[i_ a0, i_ a1]) (.agg #[i_ c0, i_ c1])) = some (a0 == c0 && a1 == c1) := by
  rw [show Op.maxDepth = 9998 + 1 + 1 from rfl, Op.equalIn]
  rw [pr_bind, e_und Go.Proofs.Tryz.underlying80]
  simp only [Option.bind_some, pr_bind, e_prog, e80_stood, Bool.false_eq_true, if_false]
  simp [pr_bind, e80_p0, e80_p1, e80_q0, e80_q1]
  by_cases h0 : a0 = c0
  · subst h0
    by_cases h1 : a1 = c1
    · subst h1
      simp [e_pure, pr_bind, e80_p0, e80_p1, e80_q0, e80_q1]
    · simp [e_pure, pr_bind, e80_p0, e80_p1, e80_q0, e80_q1, h1]
  · simp [e_pure, pr_bind, e80_p0, e80_p1, e80_q0, e80_q1, h0]
theorem e80_gneq (x y : Operand) (a0 : Int) (a1 : Int) (c0 : Int) (c1 : Int) : pr Tryz.prog (eqGuard .neq 80 x y (.agg #[i_ a0, i_ a1]) (.agg #[i_ c0, i_ c1])) = some () := by kernel_rfl
theorem aBin_neq80 (x y : Operand) (a0 : Int) (a1 : Int) (c0 : Int) (c1 : Int) : aBin Tryz.prog .neq 80 x y (.agg #[i_ a0, i_ a1]) (.agg #[i_ c0, i_ c1]) = some (.bool (!decide (a0 = c0 ∧ a1 = c1))) := by
  unfold aBin
  rw [if_pos (show (plain (.agg #[i_ a0, i_ a1]) && plain (.agg #[i_ c0, i_ c1])) = true from rfl), pr_bind, e80_gneq]
  have : pr Tryz.prog (binOp .neq 80 (.agg #[i_ a0, i_ a1]) (.agg #[i_ c0, i_ c1])) = some (.bool (!decide (a0 = c0 ∧ a1 = c1))) := by
    simp only [binOp, Op.equal, pr_bind, e80_eq]
    by_cases g0 : a0 = c0 <;> by_cases g1 : a1 = c1 <;> simp [e_pure, g0, g1]
  simp only [Option.bind_some, this]
  rfl
theorem e80_geql (x y : Operand) (a0 : Int) (a1 : Int) (c0 : Int) (c1 : Int) : pr Tryz.prog (eqGuard .eql 80 x y (.agg #[i_ a0, i_ a1]) (.agg #[i_ c0, i_ c1])) = some () := by kernel_rfl
theorem aBin_eql80 (x y : Operand) (a0 : Int) (a1 : Int) (c0 : Int) (c1 : Int) : aBin Tryz.prog .eql 80 x y (.agg #[i_ a0, i_ a1]) (.agg #[i_ c0, i_ c1]) = some (.bool (decide (a0 = c0 ∧ a1 = c1))) := by
  unfold aBin
  rw [if_pos (show (plain (.agg #[i_ a0, i_ a1]) && plain (.agg #[i_ c0, i_ c1])) = true from rfl), pr_bind, e80_geql]
  have : pr Tryz.prog (binOp .eql 80 (.agg #[i_ a0, i_ a1]) (.agg #[i_ c0, i_ c1])) = some (.bool (decide (a0 = c0 ∧ a1 = c1))) := by
    simp only [binOp, Op.equal, pr_bind, e80_eq]
    by_cases g0 : a0 = c0 <;> by_cases g1 : a1 = c1 <;> simp [e_pure, g0, g1]
  simp only [Option.bind_some, this]
  rfl
theorem c_viaductlaw08_awake_ev : evB Tryz.prog 100000 5 #[] = some true := by kernel_rfl
theorem c_viaductlaw08_awake {H : AH} : ACalls Tryz.prog 5 #[] H fun v H' => H = H' ∧ v = .bool true :=
  (acalls_evB mixed c_viaductlaw08_awake_ev rfl H).mono fun _ _ ⟨a, b⟩ => ⟨b.symm, a⟩
theorem c_viaductref01_E {H : AH} {n_ : Int} {r : Int}
    (wf : WF H) (hr : z_viaductref01_E n_ = some r) :
    ACalls Tryz.prog 12 #[i_ n_] H fun v H' => v = .agg #[i_ r, .slice none 0 0] ∧ FrS [] H H' := by
 refine acalls_of_body mixed Tryz.func12 rfl (Nat.le_of_ble_eq_true rfl) ?_
 unfold z_viaductref01_E at hr
 refine w_seqk fun _ k1 => g_' ?_
 refine s_rwk wf [i_ 0, .slice none 0 0] (by kernel_rfl) fun b2 H3 e4 hb5 r6 => ?_
 refine s_nil (k1 _ _ (w_seqk fun _ k8 => g_' (q_ (i_ n_) (q_ (.agg #[i_ n_, .slice none 0 0]) ?_))))
 obtain ⟨H9, q10, e11, r12⟩ := Row.store (P := Tryz.prog) (t := 41) (p := 0) e4.wf r6 (.agg #[i_ n_, .slice none 0 0]) [i_ n_, .slice none 0 0] (by kernel_rfl) (by kernel_rfl) (one_cons (rfl) (one_cons (rfl) (one_nil))) (Nat.le_of_ble_eq_true (by kernel_rfl)) [i_ n_, .slice none 0 0] (by kernel_rfl)
 refine s_ek (undef) (by kernel_rfl) (map_ok q10) ?_
 refine s_nil (k8 _ _ ?_)
 refine w_ret ?_
 refine b_ret (fn := Tryz.f12) (vs := [.agg #[i_ n_, .slice none 0 0]]) (aRes_cell (Eq.trans (b := aLoad Tryz.prog 41 (pt_ b2 0) H9) (by kernel_rfl) (r12.ld (by kernel_rfl))) (rfl)) ?_
 obtain rfl := Option.some.inj hr
 exact ⟨rfl, (FrS.step wf ((FrS.refl (W := []) wf).extR e4) e11 (hb5.fresh (Nat.le_refl _)))⟩
theorem c_viaductref01_At {H : AH} {hd_Places : Value} {fp_Places : Fp} {kind : Int} {at_ : Int} {Code : Int} {Places : List (Int × Int)} {r : Int × List (Int × Int)}
    (wf : WF H) (h_Places : Sq enc_i64_i64 2 H hd_Places Places fp_Places) (hr : z_viaductref01_At kind at_ Code Places = some r) :
    ACalls Tryz.prog 61 #[i_ kind, i_ at_, .agg #[i_ Code, hd_Places]] H fun v H' => ∃ (s3 : Value) (f4 : Fp), v = .agg #[i_ r.1, s3] ∧ FrS [] H H' ∧ Ow enc_i64_i64 2 H' s3 r.2 f4 ∧ Inn [] H f4 := by
 refine acalls_of_body mixed Tryz.func61 rfl (Nat.le_of_ble_eq_true rfl) ?_
 unfold z_viaductref01_At at hr
 refine w_seqk fun _ k6 => g_' ?_
 refine s_rwl wf [i_ Code, hd_Places] (one_cons (rfl) (one_cons (h_Places.one1) (one_nil))) (by kernel_rfl) fun b7 H8 e9 hb10 r11 => ?_
 refine s_rwk e9.wf [i_ 0, .slice none 0 0] (by kernel_rfl) fun b13 H14 e15 hb16 r17 => ?_
 refine s_nil (k6 _ _ (w_seqk fun _ k19 => g_' (q_ (i_ kind) (q_ (i_ at_) (q_ (.agg #[i_ kind, i_ at_]) ?_)))))
 refine s_owk (enc := enc_i64_i64) (sz := 2) e15.wf [(kind, at_)] 1 (by decide) (fun _ _ => rfl) (fun _ _ => rfl) rfl (by kernel_rfl) fun s20 f21 H22 e23 hf24 hm25 => ?_
 obtain ⟨a26, n27, c28, rfl⟩ := hm25.form
 refine q_ (.slice a26 n27 c28) (s_nil (k19 _ _ (w_seqk fun _ k30 => g_' (q_ (.slice a26 n27 c28) (q_ (pt_ b7 1) ?_)))))
 have u31 := ((r11.ext e15).ext e23)
 refine l_' (hd_Places) (aLoad Tryz.prog 39 (pt_ b7 1) H22) (u31.ld (by kernel_rfl)) ?_
 obtain ⟨g32, r33⟩ := G_some hr
 have u41 := (((h_Places.ext e9).ext e15).ext e23)
 obtain ⟨s34, H35, f36, q40, e37, hm38, hf39⟩ := Ow.append (P := Tryz.prog) 16 e23.wf hm25 u41 (fun _ _ => rfl) (at_ := #[39, 39]) rfl rfl (by kernel_rfl) (by kernel_rfl) (by decide) (by have := g32; first | omega | (simp only [List.length_cons, List.length_nil] at this ⊢; omega) | (simp at this ⊢; omega))
 obtain ⟨a42, n43, c44, rfl⟩ := hm38.form
 refine s_ek (.slice a42 n43 c44) (by kernel_rfl) (q40) ?_
 refine q_ (.slice a42 n43 c44) (s_nil (k30 _ _ (w_seqk fun _ k46 => g_' (q_ (pt_ b7 0) ?_))))
 have u47 := (u31.frS e37 (hf24.djn (r11.ltF.le e15.next)))
 refine l_' (i_ Code) (aLoad Tryz.prog 3 (pt_ b7 0) H35) (u47.ld (by kernel_rfl)) ?_
 refine q_ (.slice a42 n43 c44) (q_ (.agg #[i_ Code, .slice a42 n43 c44]) ?_)
 have u52 := ((r17.ext e23).frS e37 (hf24.djn r17.ltF))
 obtain ⟨H48, q49, e50, r51⟩ := Row.store (P := Tryz.prog) (t := 41) (p := 0) e37.wf u52 (.agg #[i_ Code, .slice a42 n43 c44]) [i_ Code, .slice a42 n43 c44] (by kernel_rfl) (by kernel_rfl) (one_cons (rfl) (one_cons (hm38.one1) (one_nil))) (Nat.le_of_ble_eq_true (by kernel_rfl)) [i_ Code, .slice a42 n43 c44] (by kernel_rfl)
 refine s_ek (undef) (by kernel_rfl) (map_ok q49) ?_
 refine s_nil (k46 _ _ ?_)
 refine w_ret ?_
 refine b_ret (fn := Tryz.f61) (vs := [.agg #[i_ Code, .slice a42 n43 c44]]) (aRes_cell (Eq.trans (b := aLoad Tryz.prog 41 (pt_ b13 0) H48) (by kernel_rfl) (r51.ld (by kernel_rfl))) (rfl)) ?_
 have u53 := (hm38.fr e50 (Dj.symm (hf39.dj (hf24.djn r17.ltF) (r17.ltF.le e23.next))))
 obtain rfl := Option.some.inj r33
 exact ⟨(.slice a42 n43 c44), f36, rfl, (FrS.step wf (FrS.step wf ((((FrS.refl (W := []) wf).extR e9).extR e15).extR e23) e37 (hf24.fresh (ntr e9.next e15.next))) e50 (hb16.fresh e9.next)), u53, (Inn.trans (hf24.fresh (ntr e9.next e15.next)) (ntr (ntr e9.next e15.next) e23.next) hf39)⟩
theorem c_viaductref03_DocCheck {H : AH} {hd_Arcs : Value} {fp_Arcs : Fp} {N_ : Int} {Arcs : List (Int × Int × Int)} {r : Int × List (Int × Int)}
    (wf : WF H) (h_Arcs : Sq enc_i64_i64_i64 3 H hd_Arcs Arcs fp_Arcs) (hr : z_viaductref03_DocCheck N_ Arcs = some r) :
    ACalls Tryz.prog 36 #[.agg #[i_ N_, hd_Arcs]] H fun v H' => ∃ (s3 : Value) (f4 : Fp), v = .agg #[i_ r.1, s3] ∧ FrS [] H H' ∧ Ow enc_i64_i64 2 H' s3 r.2 f4 ∧ Inn [] H f4 := by
 refine acalls_of_body mixed Tryz.func36 rfl (Nat.le_of_ble_eq_true rfl) ?_
 unfold z_viaductref03_DocCheck at hr
 refine w_seqk fun _ k6 => g_' ?_
 refine s_rwl wf [i_ N_, hd_Arcs] (one_cons (rfl) (one_cons (h_Arcs.one1) (one_nil))) (by kernel_rfl) fun b7 H8 e9 hb10 r11 => ?_
 refine s_rwk e9.wf [i_ 0, .slice none 0 0] (by kernel_rfl) fun b13 H14 e15 hb16 r17 => ?_
 refine s_nil (k6 _ _ (w_seqk fun _ k19 => w_seqk fun _ k20 => ?_))
 obtain ⟨o21, hx22, r23⟩ := bind_some hr
 refine w_mid (fun α H24 => Has α [(1, pt_ b7 0), (2, pt_ b13 0), (18, .bool o21)] ∧ H14 = H24) (fun _ k26 => ?_) (fun α H24 hM => ?_)
 ·refine g_' (q_ (pt_ b7 0) ?_)
  have u28 := (r11.ext e15)
  refine l_' (i_ N_) (aLoad Tryz.prog 3 (pt_ b7 0) H14) (u28.ld (by kernel_rfl)) ?_
  refine s_b (N_ < 0) (by kernel_rfl) (fun h29 => ?_) (fun h29 => ?_)
  ·have r30 := ite_t h29 hx22
   refine q_ (.bool true) (n_' (n_' (n_' (q_ (.bool true) (q_ (.bool true) (n_' (n_' (n_' (n_' (q_ (.bool true) (s_nil ?_)))))))))))
   obtain rfl := Option.some.inj r30
   exact k26 _ _ ⟨ha_, rfl⟩
  have r31 := ite_f h29 hx22
  refine q_ (.bool false) (q_ (pt_ b7 0) ?_)
  refine l_' (i_ N_) (aLoad Tryz.prog 3 (pt_ b7 0) H14) (u28.ld (by kernel_rfl)) ?_
  refine s_b (N_ > 65536) (by kernel_rfl) (fun h32 => ?_) (fun h32 => ?_)
  ·have r33 := ite_t h32 r31
   refine q_ (.bool true) (q_ (.bool true) (n_' (n_' (n_' (n_' (q_ (.bool true) (s_nil ?_)))))))
   obtain rfl := Option.some.inj r33
   exact k26 _ _ ⟨ha_, rfl⟩
  have r34 := ite_f h32 r31
  refine q_ (.bool false) (q_ (.bool false) (q_ (pt_ b7 1) ?_))
  refine l_' (hd_Arcs) (aLoad Tryz.prog 49 (pt_ b7 1) H14) (u28.ld (by kernel_rfl)) ?_
  have u35 := ((h_Arcs.ext e9).ext e15)
  refine l_' (i_ (Arcs.length : Int)) (aLen Tryz.prog 49 hd_Arcs H14) (u35.lenb (by kernel_rfl)) ?_
  refine q_ (.bool (decide ((Arcs.length : Int) > 262144))) (q_ (.bool (decide ((Arcs.length : Int) > 262144))) (s_nil ?_))
  obtain rfl := Option.some.inj r34
  exact k26 _ _ ⟨ha_, rfl⟩
 obtain ⟨hh27, rfl⟩ := hM
 obtain ⟨β, rfl⟩ := has_ex hh27
 clear hh27
 refine k20 _ _ ?_
 refine w_cond (o21) (by kernel_rfl) rfl (fun h36 => ?_) (fun h36 => ?_)
 ·have r37 := ite_t h36 r23
  refine w_seqk fun _ k38 => g_' ?_
  obtain ⟨y39, hy40, r41⟩ := bind_some r37
  refine s_ck 12 #[i_ 9] (by kernel_rfl) (c_viaductref01_E e15.wf hy40) ?_
  rintro _ H42 ⟨rfl, e43⟩
  have u48 := (r17.frS e43 Dj.nil_l)
  obtain ⟨H44, q45, e46, r47⟩ := Row.store (P := Tryz.prog) (t := 41) (p := 0) e43.wf u48 (.agg #[i_ y39, .slice none 0 0]) [i_ y39, .slice none 0 0] (by kernel_rfl) (by kernel_rfl) (one_cons (rfl) (one_cons (rfl) (one_nil))) (Nat.le_of_ble_eq_true (by kernel_rfl)) [i_ y39, .slice none 0 0] (by kernel_rfl)
  refine s_ek (undef) (by kernel_rfl) (map_ok q45) ?_
  refine s_nil (k38 _ _ ?_)
  refine w_ret (th_ret ?_)
  refine b_ret (fn := Tryz.f36) (vs := [.agg #[i_ y39, .slice none 0 0]]) (aRes_cell (Eq.trans (b := aLoad Tryz.prog 41 (pt_ b13 0) H44) (by kernel_rfl) (r47.ld (by kernel_rfl))) (rfl)) ?_
  obtain rfl := Option.some.inj r41
  exact ⟨(.slice none 0 0), [], rfl, (FrS.step wf (FrS.step wf (((FrS.refl (W := []) wf).extR e9).extR e15) e43 Inn.nil) e46 (hb16.fresh e9.next)), (Ow.nil (by decide)), Inn.nil⟩
 have r49 := ite_bf h36 r23
 refine w_skip (k19 _ _ (w_seqk fun _ k50 => w_seqk fun _ k51 => g_' (q_ (pt_ b7 1) ?_)))
 have u52 := (r11.ext e15)
 refine l_' (hd_Arcs) (aLoad Tryz.prog 49 (pt_ b7 1) H14) (u52.ld (by kernel_rfl)) ?_
 have u53 := ((h_Arcs.ext e9).ext e15)
 refine l_' (i_ (Arcs.length : Int)) (aLen Tryz.prog 49 hd_Arcs H14) (u53.lenb (by kernel_rfl)) ?_
 refine q_ (i_ 0) (s_nil (k51 _ _ ?_))
 obtain ⟨z57, hx55, r56⟩ := bind_some r49
 refine w_mid (fun α H58 => ∃ o54, z57 = Sum.inr o54 ∧ Has α [(2, pt_ b13 0)] ∧ FrS [] H14 H58) (fun _ k60 => ?_) (fun α H58 hM => ?_)
 ·refine w_block ?_
  obtain ⟨n62, hn63⟩ := loopO_iff.1 hx55
  refine w_loopn (fun n α H64 => ∃ (i0 : Int), iterO (fun zz_ => z_viaductref03_DocCheck_l0 N_ Arcs zz_) n i0 = some z57 ∧ Has α [(1, pt_ b7 0), (2, pt_ b13 0), (21, hd_Arcs), (22, i_ (Arcs.length : Int)), (23, i_ i0)] ∧ FrS [] H14 H64) n62 ⟨0, hn63, ha_, (FrS.refl (W := []) e15.wf)⟩ ?_
  rintro n62 α H64 ⟨i0, hi67, hh66, e65⟩ K72 k72
  obtain ⟨n68, z69, rfl, hz70, hn71⟩ := iter_succ hi67
  obtain ⟨β, rfl⟩ := has_ex hh66
  clear hh66
  replace hz70 : z_viaductref03_DocCheck_l0 N_ Arcs i0 = some z69 := hz70
  unfold z_viaductref03_DocCheck_l0 at hz70
  refine w_seqk fun _ k73 => g_' (q_ (.bool (decide (i0 < (Arcs.length : Int)))) (s_nil (k73 _ _ (w_seqk fun _ k74 => ?_))))
  refine w_condp (i0 < (Arcs.length : Int)) (by kernel_rfl) rfl (fun h75 => ?_) (fun h75 => ?_)
  ·have r76 := ite_t h75 hz70
   refine w_skip (k74 _ _ (w_seqk fun _ k77 => w_block (w_seqk fun _ k78 => g_' (q_ (i_ i0) ?_))))
   obtain ⟨g79, r80⟩ := G_some r76
   have u81 := (u53.fr e65 Dj.nil_l)
   refine l_' (elp hd_Arcs 3 i0.toNat 0) (aIndexAddr Tryz.prog 49 hd_Arcs (i_ i0)) (u81.idxb (by kernel_rfl) g79 h75) ?_
   refine l_' (.agg #[i_ ((gt Arcs i0).1), i_ ((gt Arcs i0).2.1), i_ ((gt Arcs i0).2.2)]) (aLoad Tryz.prog 53 (elp hd_Arcs 3 i0.toNat 0) H64) (u81.ld g79 h75 (by kernel_rfl)) ?_
   refine s_rwk e65.wf [i_ 0, i_ 0, i_ 0] (by kernel_rfl) fun b82 H83 e84 hb85 r86 => ?_
   refine q_ (i_ i0) ?_
   obtain ⟨H88, q89, e90, r91⟩ := Row.store (P := Tryz.prog) (t := 53) (p := 0) e84.wf r86 (.agg #[i_ ((gt Arcs i0).1), i_ ((gt Arcs i0).2.1), i_ ((gt Arcs i0).2.2)]) [i_ ((gt Arcs i0).1), i_ ((gt Arcs i0).2.1), i_ ((gt Arcs i0).2.2)] (by kernel_rfl) (by kernel_rfl) (one_cons (rfl) (one_cons (rfl) (one_cons (rfl) (one_nil)))) (Nat.le_of_ble_eq_true (by kernel_rfl)) [i_ ((gt Arcs i0).1), i_ ((gt Arcs i0).2.1), i_ ((gt Arcs i0).2.2)] (by kernel_rfl)
   refine s_ek (undef) (by kernel_rfl) (map_ok q89) ?_
   refine s_nil (k78 _ _ (w_seqk fun _ k92 => w_seqk fun _ k93 => ?_))
   obtain ⟨o94, hx95, r96⟩ := bind_some r80
   refine w_mid (fun α H97 => Has α [(1, pt_ b7 0), (2, pt_ b13 0), (3, i_ i0), (4, pt_ b82 0), (21, hd_Arcs), (22, i_ (Arcs.length : Int)), (23, i_ i0), (49, .bool o94)] ∧ H88 = H97) (fun _ k99 => ?_) (fun α H97 hM => ?_)
   ·refine g_' (q_ (pt_ b82 0) ?_)
    refine l_' (i_ ((gt Arcs i0).1)) (aLoad Tryz.prog 3 (pt_ b82 0) H88) (r91.ld (by kernel_rfl)) ?_
    refine s_b (((gt Arcs i0).1) < 0) (by kernel_rfl) (fun h101 => ?_) (fun h101 => ?_)
    ·have r102 := ite_t h101 hx95
     refine q_ (.bool true) (n_' (n_' (n_' (n_' (n_' (q_ (.bool true) (q_ (.bool true) (n_' (n_' (n_' (q_ (.bool true) (q_ (.bool true) (n_' (n_' (n_' (n_' (n_' (q_ (.bool true) (s_nil ?_)))))))))))))))))))
     obtain rfl := Option.some.inj r102
     exact k99 _ _ ⟨ha_, rfl⟩
    have r103 := ite_f h101 hx95
    refine q_ (.bool false) (q_ (pt_ b82 0) ?_)
    refine l_' (i_ ((gt Arcs i0).1)) (aLoad Tryz.prog 3 (pt_ b82 0) H88) (r91.ld (by kernel_rfl)) ?_
    refine q_ (pt_ b7 0) ?_
    have u104 := (((u52.frS e65 Dj.nil_l).ext e84).frS e90 (hb85.djn (r11.ltF.le (ntr e15.next e65.next))))
    refine l_' (i_ N_) (aLoad Tryz.prog 3 (pt_ b7 0) H88) (u104.ld (by kernel_rfl)) ?_
    refine s_b (((gt Arcs i0).1) ≥ N_) (by kernel_rfl) (fun h105 => ?_) (fun h105 => ?_)
    ·have r106 := ite_t h105 r103
     refine q_ (.bool true) (q_ (.bool true) (n_' (n_' (n_' (q_ (.bool true) (q_ (.bool true) (n_' (n_' (n_' (n_' (n_' (q_ (.bool true) (s_nil ?_)))))))))))))
     obtain rfl := Option.some.inj r106
     exact k99 _ _ ⟨ha_, rfl⟩
    have r107 := ite_f h105 r103
    refine q_ (.bool false) (q_ (.bool false) (q_ (pt_ b82 1) ?_))
    refine l_' (i_ ((gt Arcs i0).2.1)) (aLoad Tryz.prog 3 (pt_ b82 1) H88) (r91.ld (by kernel_rfl)) ?_
    refine s_b (((gt Arcs i0).2.1) < 0) (by kernel_rfl) (fun h108 => ?_) (fun h108 => ?_)
    ·have r109 := ite_t h108 r107
     refine q_ (.bool true) (q_ (.bool true) (n_' (n_' (n_' (n_' (n_' (q_ (.bool true) (s_nil ?_))))))))
     obtain rfl := Option.some.inj r109
     exact k99 _ _ ⟨ha_, rfl⟩
    have r110 := ite_f h108 r107
    refine q_ (.bool false) (q_ (.bool false) (q_ (pt_ b82 1) ?_))
    refine l_' (i_ ((gt Arcs i0).2.1)) (aLoad Tryz.prog 3 (pt_ b82 1) H88) (r91.ld (by kernel_rfl)) ?_
    refine q_ (pt_ b7 0) ?_
    refine l_' (i_ N_) (aLoad Tryz.prog 3 (pt_ b7 0) H88) (u104.ld (by kernel_rfl)) ?_
    refine q_ (.bool (decide (((gt Arcs i0).2.1) ≥ N_))) (q_ (.bool (decide (((gt Arcs i0).2.1) ≥ N_))) (s_nil ?_))
    obtain rfl := Option.some.inj r110
    exact k99 _ _ ⟨ha_, rfl⟩
   obtain ⟨hh100, rfl⟩ := hM
   obtain ⟨β, rfl⟩ := has_ex hh100
   clear hh100
   refine k93 _ _ ?_
   refine w_cond (o94) (by kernel_rfl) rfl (fun h111 => ?_) (fun h111 => ?_)
   ·have r112 := ite_t h111 r96
    refine w_seqk fun _ k113 => g_' (q_ (i_ i0) ?_)
    obtain ⟨y114, hy115, r116⟩ := bind_some r112
    refine s_ck 12 #[i_ 7] (by kernel_rfl) (c_viaductref01_E e90.wf hy115) ?_
    rintro _ H117 ⟨rfl, e118⟩
    obtain ⟨y119, hy120, r121⟩ := bind_some r116
    refine s_ck 61 #[i_ 4, i_ i0, .agg #[i_ y114, .slice none 0 0]] (by kernel_rfl) (c_viaductref01_At e118.wf (Sq.nil (enc := enc_i64_i64) (sz := 2) (by decide)) hy120) ?_
    rintro _ H124 ⟨s122, f123, rfl, e125, m126, i127⟩
    obtain ⟨a129, n130, c131, rfl⟩ := m126.form
    have u136 := (((((r17.frS e65 Dj.nil_l).ext e84).frS e90 (hb85.djn (r17.ltF.le e65.next))).frS e118 Dj.nil_l).frS e125 Dj.nil_l)
    obtain ⟨H132, q133, e134, r135⟩ := Row.store (P := Tryz.prog) (t := 41) (p := 0) e125.wf u136 (.agg #[i_ y119.1, .slice a129 n130 c131]) [i_ y119.1, .slice a129 n130 c131] (by kernel_rfl) (by kernel_rfl) (one_cons (rfl) (one_cons (m126.one1) (one_nil))) (Nat.le_of_ble_eq_true (by kernel_rfl)) [i_ y119.1, .slice a129 n130 c131] (by kernel_rfl)
    refine s_ek (undef) (by kernel_rfl) (map_ok q133) ?_
    refine s_nil (k113 _ _ ?_)
    refine w_ret (th_ret (bl_ret (th_ret (th_ret (bl_ret (th_ret (th_ret ?_)))))))
    obtain ⟨v137, hv138, hz139⟩ := map_some r121
    subst hz139
    obtain rfl := it_inr hn71
    have hq140 := elim_inl r56
    rw [hq140] at hv138
    refine b_ret (fn := Tryz.f36) (vs := [.agg #[i_ y119.1, .slice a129 n130 c131]]) (aRes_cell (Eq.trans (b := aLoad Tryz.prog 41 (pt_ b13 0) H132) (by kernel_rfl) (r135.ld (by kernel_rfl))) (rfl)) ?_
    have u141 := (m126.fr e134 (Dj.symm (i127.djn (r17.ltF.le (ntr (ntr (ntr e65.next e84.next) e90.next) e118.next)))))
    obtain rfl := Option.some.inj hv138
    exact ⟨(.slice a129 n130 c131), f123, rfl, (FrS.step wf (FrS.step wf (FrS.step wf (FrS.step wf ((FrS.step wf (((FrS.refl (W := []) wf).extR e9).extR e15) e65 Inn.nil).extR e84) e90 (hb85.fresh (ntr (ntr e9.next e15.next) e65.next))) e118 Inn.nil) e125 Inn.nil) e134 (hb16.fresh e9.next)), u141, (i127.fresh (ntr (ntr (ntr (ntr (ntr e9.next e15.next) e65.next) e84.next) e90.next) e118.next))⟩
   have r142 := ite_bf h111 r96
   refine w_skip (k92 _ _ (w_seqk fun _ k143 => ?_))
   obtain ⟨o144, hx145, r146⟩ := bind_some r142
   refine w_mid (fun α H147 => Has α [(1, pt_ b7 0), (2, pt_ b13 0), (3, i_ i0), (21, hd_Arcs), (22, i_ (Arcs.length : Int)), (23, i_ i0), (60, .bool o144)] ∧ H88 = H147) (fun _ k149 => ?_) (fun α H147 hM => ?_)
   ·refine g_' (q_ (pt_ b82 2) ?_)
    refine l_' (i_ ((gt Arcs i0).2.2)) (aLoad Tryz.prog 3 (pt_ b82 2) H88) (r91.ld (by kernel_rfl)) ?_
    refine s_b (((gt Arcs i0).2.2) < 0) (by kernel_rfl) (fun h151 => ?_) (fun h151 => ?_)
    ·have r152 := ite_t h151 hx145
     refine q_ (.bool true) (n_' (n_' (n_' (q_ (.bool true) (s_nil ?_)))))
     obtain rfl := Option.some.inj r152
     exact k149 _ _ ⟨ha_, rfl⟩
    have r153 := ite_f h151 hx145
    refine q_ (.bool false) (q_ (pt_ b82 2) ?_)
    refine l_' (i_ ((gt Arcs i0).2.2)) (aLoad Tryz.prog 3 (pt_ b82 2) H88) (r91.ld (by kernel_rfl)) ?_
    refine q_ (.bool (decide (((gt Arcs i0).2.2) > 2147483647))) (q_ (.bool (decide (((gt Arcs i0).2.2) > 2147483647))) (s_nil ?_))
    obtain rfl := Option.some.inj r153
    exact k149 _ _ ⟨ha_, rfl⟩
   obtain ⟨hh150, rfl⟩ := hM
   obtain ⟨β, rfl⟩ := has_ex hh150
   clear hh150
   refine k143 _ _ ?_
   refine w_cond (o144) (by kernel_rfl) rfl (fun h154 => ?_) (fun h154 => ?_)
   ·have r155 := ite_t h154 r146
    refine w_seqk fun _ k156 => g_' (q_ (i_ i0) ?_)
    obtain ⟨y157, hy158, r159⟩ := bind_some r155
    refine s_ck 12 #[i_ 8] (by kernel_rfl) (c_viaductref01_E e90.wf hy158) ?_
    rintro _ H160 ⟨rfl, e161⟩
    obtain ⟨y162, hy163, r164⟩ := bind_some r159
    refine s_ck 61 #[i_ 4, i_ i0, .agg #[i_ y157, .slice none 0 0]] (by kernel_rfl) (c_viaductref01_At e161.wf (Sq.nil (enc := enc_i64_i64) (sz := 2) (by decide)) hy163) ?_
    rintro _ H167 ⟨s165, f166, rfl, e168, m169, i170⟩
    obtain ⟨a172, n173, c174, rfl⟩ := m169.form
    have u179 := (((((r17.frS e65 Dj.nil_l).ext e84).frS e90 (hb85.djn (r17.ltF.le e65.next))).frS e161 Dj.nil_l).frS e168 Dj.nil_l)
    obtain ⟨H175, q176, e177, r178⟩ := Row.store (P := Tryz.prog) (t := 41) (p := 0) e168.wf u179 (.agg #[i_ y162.1, .slice a172 n173 c174]) [i_ y162.1, .slice a172 n173 c174] (by kernel_rfl) (by kernel_rfl) (one_cons (rfl) (one_cons (m169.one1) (one_nil))) (Nat.le_of_ble_eq_true (by kernel_rfl)) [i_ y162.1, .slice a172 n173 c174] (by kernel_rfl)
    refine s_ek (undef) (by kernel_rfl) (map_ok q176) ?_
    refine s_nil (k156 _ _ ?_)
    refine w_ret (bl_ret (th_ret (th_ret (bl_ret (th_ret (th_ret ?_))))))
    obtain ⟨v180, hv181, hz182⟩ := map_some r164
    subst hz182
    obtain rfl := it_inr hn71
    have hq183 := elim_inl r56
    rw [hq183] at hv181
    refine b_ret (fn := Tryz.f36) (vs := [.agg #[i_ y162.1, .slice a172 n173 c174]]) (aRes_cell (Eq.trans (b := aLoad Tryz.prog 41 (pt_ b13 0) H175) (by kernel_rfl) (r178.ld (by kernel_rfl))) (rfl)) ?_
    have u184 := (m169.fr e177 (Dj.symm (i170.djn (r17.ltF.le (ntr (ntr (ntr e65.next e84.next) e90.next) e161.next)))))
    obtain rfl := Option.some.inj hv181
    exact ⟨(.slice a172 n173 c174), f166, rfl, (FrS.step wf (FrS.step wf (FrS.step wf (FrS.step wf ((FrS.step wf (((FrS.refl (W := []) wf).extR e9).extR e15) e65 Inn.nil).extR e84) e90 (hb85.fresh (ntr (ntr e9.next e15.next) e65.next))) e161 Inn.nil) e168 Inn.nil) e177 (hb16.fresh e9.next)), u184, (i170.fresh (ntr (ntr (ntr (ntr (ntr e9.next e15.next) e65.next) e84.next) e90.next) e161.next))⟩
   have r185 := ite_bf h154 r146
   refine w_skip (k77 _ _ (g_' ?_))
   obtain ⟨g186, r187⟩ := G_some r185
   refine w_' (i0 + 1) (wrap64 (by have := g186; omega)) ?_
   refine q_ (i_ (i0 + 1)) (s_nil ?_)
   obtain rfl := Option.some.inj r187
   exact k72 n68 _ _ (Nat.lt_succ_self _) ⟨(i0 + 1), hn71, ha_, (FrS.step e15.wf ((FrS.step e15.wf (FrS.refl (W := []) e15.wf) e65 Inn.nil).extR e84) e90 (hb85.fresh e65.next))⟩
  have r188 := ite_f h75 hz70
  refine w_exit (th_exit (th_exit (bl_eq ?_)))
  obtain rfl := Option.some.inj r188
  obtain rfl := it_inr hn71
  exact k60 _ _ ⟨_, rfl, ha_, (FrS.step e15.wf (FrS.refl (W := []) e15.wf) e65 Inn.nil)⟩
 obtain ⟨o54, rfl, hh61, e59⟩ := hM
 have r189 := elim_inr r56
 obtain ⟨β, rfl⟩ := has_ex hh61
 clear hh61
 refine k50 _ _ (w_seqk fun _ k190 => g_' (q_ (.agg #[i_ 0, .slice none 0 0]) ?_))
 have u195 := (r17.frS e59 Dj.nil_l)
 obtain ⟨H191, q192, e193, r194⟩ := Row.store (P := Tryz.prog) (t := 41) (p := 0) e59.wf u195 (.agg #[i_ 0, .slice none 0 0]) [i_ 0, .slice none 0 0] (by kernel_rfl) (by kernel_rfl) (one_cons (rfl) (one_cons (rfl) (one_nil))) (Nat.le_of_ble_eq_true (by kernel_rfl)) [i_ 0, .slice none 0 0] (by kernel_rfl)
 refine s_ek (undef) (by kernel_rfl) (map_ok q192) ?_
 refine s_nil (k190 _ _ ?_)
 refine w_ret ?_
 refine b_ret (fn := Tryz.f36) (vs := [.agg #[i_ 0, .slice none 0 0]]) (aRes_cell (Eq.trans (b := aLoad Tryz.prog 41 (pt_ b13 0) H191) (by kernel_rfl) (r194.ld (by kernel_rfl))) (rfl)) ?_
 obtain rfl := Option.some.inj r189
 exact ⟨(.slice none 0 0), [], rfl, (FrS.step wf (FrS.step wf (((FrS.refl (W := []) wf).extR e9).extR e15) e59 Inn.nil) e193 (hb16.fresh e9.next)), (Ow.nil (by decide)), Inn.nil⟩
theorem c_viaductref01_Err_Bad {H : AH} {hd_Places : Value} {fp_Places : Fp} {Code : Int} {Places : List (Int × Int)} {r : Bool}
    (wf : WF H) (h_Places : Sq enc_i64_i64 2 H hd_Places Places fp_Places) (hr : z_viaductref01_Err_Bad Code Places = some r) :
    ACalls Tryz.prog 27 #[.agg #[i_ Code, hd_Places]] H fun v H' => v = .bool r ∧ FrS [] H H' := by
 refine acalls_of_body mixed Tryz.func27 rfl (Nat.le_of_ble_eq_true rfl) ?_
 unfold z_viaductref01_Err_Bad at hr
 refine w_seqk fun _ k1 => g_' ?_
 refine s_rwl wf [i_ Code, hd_Places] (one_cons (rfl) (one_cons (h_Places.one1) (one_nil))) (by kernel_rfl) fun b2 H3 e4 hb5 r6 => ?_
 refine q_ (.bool false) (s_nil (k1 _ _ (w_seqk fun _ k8 => g_' (q_ (pt_ b2 0) ?_))))
 refine l_' (i_ Code) (aLoad Tryz.prog 3 (pt_ b2 0) H3) (r6.ld (by kernel_rfl)) ?_
 refine s_bn (Code = 0) (by kernel_rfl) (fun h9 => ?_) (fun h9 => ?_)
 ·have r10 := ite_t h9 hr
  refine q_ (.bool false) (q_ (pt_ b2 1) ?_)
  refine l_' (hd_Places) (aLoad Tryz.prog 39 (pt_ b2 1) H3) (r6.ld (by kernel_rfl)) ?_
  have u11 := (h_Places.ext e4)
  refine l_' (i_ (Places.length : Int)) (aLen Tryz.prog 39 hd_Places H3) (u11.lenb (by kernel_rfl)) ?_
  refine q_ (.bool (decide ((Places.length : Int) > 0))) (q_ (.bool (decide ((Places.length : Int) > 0))) (q_ (.bool (decide ((Places.length : Int) > 0))) (s_nil (k8 _ _ ?_))))
  refine w_ret ?_
  refine b_ret (fn := Tryz.f27) (vs := [.bool (decide ((Places.length : Int) > 0))]) (aRes_tmp (by kernel_rfl) (rfl)) ?_
  obtain rfl := Option.some.inj r10
  exact ⟨rfl, ((FrS.refl (W := []) wf).extR e4)⟩
 have r12 := ite_f h9 hr
 refine q_ (.bool true) (n_' (n_' (n_' (n_' (q_ (.bool true) (q_ (.bool true) (s_nil (k8 _ _ ?_))))))))
 refine w_ret ?_
 refine b_ret (fn := Tryz.f27) (vs := [.bool true]) (aRes_tmp (by kernel_rfl) (rfl)) ?_
 obtain rfl := Option.some.inj r12
 exact ⟨rfl, ((FrS.refl (W := []) wf).extR e4)⟩
theorem c_viaductref04_Few {H : AH} {hd_Arcs : Value} {fp_Arcs : Fp} {N_ : Int} {Arcs : List (Int × Int × Int)} {most : Int} {r : Bool}
    (wf : WF H) (h_Arcs : Sq enc_i64_i64_i64 3 H hd_Arcs Arcs fp_Arcs) (hr : z_viaductref04_Few N_ Arcs most = some r) :
    ACalls Tryz.prog 16 #[.agg #[i_ N_, hd_Arcs], i_ most] H fun v H' => v = .bool r ∧ FrS [] H H' := by
 refine acalls_of_body mixed Tryz.func16 rfl (Nat.le_of_ble_eq_true rfl) ?_
 unfold z_viaductref04_Few at hr
 refine w_seqk fun _ k1 => g_' ?_
 refine s_rwl wf [i_ N_, hd_Arcs] (one_cons (rfl) (one_cons (h_Arcs.one1) (one_nil))) (by kernel_rfl) fun b2 H3 e4 hb5 r6 => ?_
 refine q_ (.bool false) (s_nil (k1 _ _ (w_seqk fun _ k8 => g_' ?_)))
 refine l_' (.agg #[i_ N_, hd_Arcs]) (aLoad Tryz.prog 51 (pt_ b2 0) H3) (r6.ld (by kernel_rfl)) ?_
 have u9 := (h_Arcs.ext e4)
 obtain ⟨y10, hy11, r12⟩ := bind_some hr
 refine s_ck 36 #[.agg #[i_ N_, hd_Arcs]] (by kernel_rfl) (c_viaductref03_DocCheck e4.wf u9 hy11) ?_
 rintro _ H15 ⟨s13, f14, rfl, e16, m17, i18⟩
 obtain ⟨a20, n21, c22, rfl⟩ := m17.form
 refine s_rwk e16.wf [i_ 0, .slice none 0 0] (by kernel_rfl) fun b23 H24 e25 hb26 r27 => ?_
 have u33 := (m17.ext e25)
 obtain ⟨H29, q30, e31, r32⟩ := Row.store (P := Tryz.prog) (t := 41) (p := 0) e25.wf r27 (.agg #[i_ y10.1, .slice a20 n21 c22]) [i_ y10.1, .slice a20 n21 c22] (by kernel_rfl) (by kernel_rfl) (one_cons (rfl) (one_cons (u33.one1) (one_nil))) (Nat.le_of_ble_eq_true (by kernel_rfl)) [i_ y10.1, .slice a20 n21 c22] (by kernel_rfl)
 refine s_ek (undef) (by kernel_rfl) (map_ok q30) ?_
 refine s_nil (k8 _ _ (w_seqk fun _ k34 => g_' ?_))
 refine l_' (.agg #[i_ y10.1, .slice a20 n21 c22]) (aLoad Tryz.prog 41 (pt_ b23 0) H29) (r32.ld (by kernel_rfl)) ?_
 have u35 := (u33.fr e31 (hb26.djn m17.lt))
 obtain ⟨y36, hy37, r38⟩ := bind_some r12
 refine s_ck 27 #[.agg #[i_ y10.1, .slice a20 n21 c22]] (by kernel_rfl) (c_viaductref01_Err_Bad e31.wf u35.sq hy37) ?_
 rintro _ H39 ⟨rfl, e40⟩
 by_cases h41 : y36 = true
 ·have r42 := ite_t h41 r38
  rw [h41]
  refine q_ (.bool false) (q_ (.bool false) (n_' (n_' (n_' (n_' (q_ (.bool false) (q_ (.bool false) (n_' (n_' (n_' (n_' (q_ (.bool false) (q_ (.bool false) (s_nil (k34 _ _ ?_)))))))))))))))
  refine w_ret ?_
  refine b_ret (fn := Tryz.f16) (vs := [.bool false]) (aRes_tmp (by kernel_rfl) (rfl)) ?_
  obtain rfl := Option.some.inj r42
  exact ⟨rfl, (FrS.step wf (FrS.step wf ((FrS.step wf ((FrS.refl (W := []) wf).extR e4) e16 Inn.nil).extR e25) e31 (hb26.fresh (ntr e4.next e16.next))) e40 Inn.nil)⟩
 have r44 := ite_f h41 r38
 rw [nb h41]
 refine q_ (.bool true) (q_ (.bool true) (q_ (pt_ b2 0) ?_))
 have u46 := ((((r6.frS e16 Dj.nil_l).ext e25).frS e31 (hb26.djn (r6.ltF.le e16.next))).frS e40 Dj.nil_l)
 refine l_' (i_ N_) (aLoad Tryz.prog 3 (pt_ b2 0) H39) (u46.ld (by kernel_rfl)) ?_
 refine q_ (i_ most) ?_
 refine s_b (N_ ≤ most) (by kernel_rfl) (fun h47 => ?_) (fun h47 => ?_)
 ·have r48 := ite_t h47 r44
  refine q_ (.bool true) (q_ (.bool true) (q_ (pt_ b2 1) ?_))
  refine l_' (hd_Arcs) (aLoad Tryz.prog 49 (pt_ b2 1) H39) (u46.ld (by kernel_rfl)) ?_
  have u49 := ((((u9.fr e16 Dj.nil_l).ext e25).fr e31 (hb26.djn (h_Arcs.lt.le (ntr e4.next e16.next)))).fr e40 Dj.nil_l)
  refine l_' (i_ (Arcs.length : Int)) (aLen Tryz.prog 49 hd_Arcs H39) (u49.lenb (by kernel_rfl)) ?_
  refine q_ (.bool (decide ((Arcs.length : Int) ≤ 2000))) (q_ (.bool (decide ((Arcs.length : Int) ≤ 2000))) (q_ (.bool (decide ((Arcs.length : Int) ≤ 2000))) (s_nil (k34 _ _ ?_))))
  refine w_ret ?_
  refine b_ret (fn := Tryz.f16) (vs := [.bool (decide ((Arcs.length : Int) ≤ 2000))]) (aRes_tmp (by kernel_rfl) (rfl)) ?_
  obtain rfl := Option.some.inj r48
  exact ⟨rfl, (FrS.step wf (FrS.step wf ((FrS.step wf ((FrS.refl (W := []) wf).extR e4) e16 Inn.nil).extR e25) e31 (hb26.fresh (ntr e4.next e16.next))) e40 Inn.nil)⟩
 have r50 := ite_f h47 r44
 refine q_ (.bool false) (q_ (.bool false) (n_' (n_' (n_' (n_' (q_ (.bool false) (q_ (.bool false) (s_nil (k34 _ _ ?_)))))))))
 refine w_ret ?_
 refine b_ret (fn := Tryz.f16) (vs := [.bool false]) (aRes_tmp (by kernel_rfl) (rfl)) ?_
 obtain rfl := Option.some.inj r50
 exact ⟨rfl, (FrS.step wf (FrS.step wf ((FrS.step wf ((FrS.refl (W := []) wf).extR e4) e16 Inn.nil).extR e25) e31 (hb26.fresh (ntr e4.next e16.next))) e40 Inn.nil)⟩
theorem c_gtext_within {H : AH} {x : Int} {n_ : Int} {r : Bool}
    (wf : WF H) (hr : z_gtext_within x n_ = some r) :
    ACalls Tryz.prog 80 #[i_ x, i_ n_] H fun v H' => v = .bool r ∧ H = H' := by
 refine acalls_of_body mixed Tryz.func80 rfl (Nat.le_of_ble_eq_true rfl) ?_
 unfold z_gtext_within at hr
 refine w_seqk fun _ k1 => g_' (q_ (.bool false) (s_nil (k1 _ _ (w_seqk fun _ k2 => g_' (q_ (i_ x) ?_)))))
 refine s_b (x ≥ 0) (by kernel_rfl) (fun h3 => ?_) (fun h3 => ?_)
 ·have r4 := ite_t h3 hr
  refine q_ (.bool true) (q_ (i_ x) (q_ (i_ n_) (q_ (.bool (decide (x < n_))) (q_ (.bool (decide (x < n_))) (q_ (.bool (decide (x < n_))) (s_nil (k2 _ _ ?_)))))))
  refine w_ret ?_
  refine b_ret (fn := Tryz.f80) (vs := [.bool (decide (x < n_))]) (aRes_tmp (by kernel_rfl) (rfl)) ?_
  obtain rfl := Option.some.inj r4
  exact ⟨rfl, rfl⟩
 have r5 := ite_f h3 hr
 refine q_ (.bool false) (n_' (n_' (n_' (q_ (.bool false) (q_ (.bool false) (s_nil (k2 _ _ ?_)))))))
 refine w_ret ?_
 refine b_ret (fn := Tryz.f80) (vs := [.bool false]) (aRes_tmp (by kernel_rfl) (rfl)) ?_
 obtain rfl := Option.some.inj r5
 exact ⟨rfl, rfl⟩
theorem c_gtext_arc {H : AH} {From : Int} {To : Int} {Weight : Int} {n_ : Int} {r : Er}
    (wf : WF H) (hr : z_gtext_arc From To Weight n_ = some r) :
    ACalls Tryz.prog 68 #[.agg #[i_ From, i_ To, i_ Weight], i_ n_] H fun v H' => ∃ (v3 : Value) (f4 : Fp), v = v3 ∧ FrS [] H H' ∧ Ev 43 81 H' v3 r f4 ∧ Inn [] H f4 := by
 refine acalls_of_body mixed Tryz.func68 rfl (Nat.le_of_ble_eq_true rfl) ?_
 unfold z_gtext_arc at hr
 refine w_seqk fun _ k6 => g_' ?_
 refine s_rwl wf [i_ From, i_ To, i_ Weight] (one_cons (rfl) (one_cons (rfl) (one_cons (rfl) (one_nil)))) (by kernel_rfl) fun b7 H8 e9 hb10 r11 => ?_
 refine q_ (.nilIface) (s_nil (k6 _ _ (w_seqk fun _ k13 => w_block (w_seqk fun _ k14 => ?_))))
 obtain ⟨o15, hx16, r17⟩ := bind_some hr
 refine w_mid (fun α H18 => Has α [(2, pt_ b7 0), (5, .bool o15)] ∧ H8 = H18) (fun _ k20 => ?_) (fun α H18 hM => ?_)
 ·refine g_' (q_ (pt_ b7 0) ?_)
  refine l_' (i_ From) (aLoad Tryz.prog 3 (pt_ b7 0) H8) (r11.ld (by kernel_rfl)) ?_
  refine q_ (i_ n_) ?_
  obtain ⟨y22, hy23, r24⟩ := bind_some hx16
  refine s_ck 80 #[i_ From, i_ n_] (by kernel_rfl) (c_gtext_within e9.wf hy23) ?_
  rintro _ _ ⟨rfl, rfl⟩
  by_cases h27 : y22 = true
  ·have r28 := ite_t h27 r24
   rw [h27]
   refine q_ (.bool false) (q_ (.bool false) (q_ (pt_ b7 1) ?_))
   refine l_' (i_ To) (aLoad Tryz.prog 3 (pt_ b7 1) H8) (r11.ld (by kernel_rfl)) ?_
   refine q_ (i_ n_) ?_
   obtain ⟨y30, hy31, r32⟩ := bind_some r28
   refine s_ck 80 #[i_ To, i_ n_] (by kernel_rfl) (c_gtext_within e9.wf hy31) ?_
   rintro _ _ ⟨rfl, rfl⟩
   refine q_ (.bool (!y30)) (q_ (.bool (!y30)) (q_ (.bool (!y30)) (s_nil ?_)))
   obtain rfl := Option.some.inj r32
   exact k20 _ _ ⟨ha_, rfl⟩
  have r35 := ite_f h27 r24
  rw [nb h27]
  refine q_ (.bool true) (q_ (.bool true) (n_' (n_' (n_' (n_' (n_' (q_ (.bool true) (q_ (.bool true) (s_nil ?_)))))))))
  obtain rfl := Option.some.inj r35
  exact k20 _ _ ⟨ha_, rfl⟩
 obtain ⟨hh21, rfl⟩ := hM
 obtain ⟨β, rfl⟩ := has_ex hh21
 clear hh21
 refine k14 _ _ ?_
 refine w_cond (o15) (by kernel_rfl) rfl (fun h37 => ?_) (fun h37 => ?_)
 ·have r38 := ite_t h37 r17
  refine w_seqk fun _ k39 => g_' (q_ (.iface 43 (i_ 7)) (q_ (.iface 43 (i_ 7)) (s_nil (k39 _ _ ?_))))
  refine w_ret (bl_ret (th_ret ?_))
  refine b_ret (fn := Tryz.f68) (vs := [.iface 43 (i_ 7)]) (aRes_tmp (by kernel_rfl) (rfl)) ?_
  obtain rfl := Option.some.inj r38
  exact ⟨(.iface 43 (i_ 7)), [], rfl, ((FrS.refl (W := []) wf).extR e9), Ev.no, Inn.nil⟩
 have r40 := ite_bf h37 r17
 refine w_seqk fun _ k41 => g_' (q_ (pt_ b7 2) ?_)
 refine l_' (i_ Weight) (aLoad Tryz.prog 3 (pt_ b7 2) H8) (r11.ld (by kernel_rfl)) ?_
 refine s_b (Weight < 0) (by kernel_rfl) (fun h42 => ?_) (fun h42 => ?_)
 ·have r43 := ite_t h42 r40
  refine q_ (.bool true) (n_' (n_' (n_' (q_ (.bool true) (q_ (.bool true) (s_nil (k41 _ _ ?_)))))))
  refine w_cond true (by kernel_rfl) rfl (fun _ => ?_) (fun h => by cases h)
  refine w_seqk fun _ k44 => g_' (q_ (.iface 43 (i_ 8)) (q_ (.iface 43 (i_ 8)) (s_nil (k44 _ _ ?_))))
  refine w_ret (bl_ret (th_ret ?_))
  refine b_ret (fn := Tryz.f68) (vs := [.iface 43 (i_ 8)]) (aRes_tmp (by kernel_rfl) (rfl)) ?_
  obtain rfl := Option.some.inj r43
  exact ⟨(.iface 43 (i_ 8)), [], rfl, ((FrS.refl (W := []) wf).extR e9), Ev.no, Inn.nil⟩
 have r45 := ite_f h42 r40
 refine q_ (.bool false) (q_ (pt_ b7 2) ?_)
 refine l_' (i_ Weight) (aLoad Tryz.prog 3 (pt_ b7 2) H8) (r11.ld (by kernel_rfl)) ?_
 refine q_ (.bool (decide (Weight > 2147483647))) (q_ (.bool (decide (Weight > 2147483647))) (q_ (.bool (decide (Weight > 2147483647))) (s_nil (k41 _ _ ?_))))
 refine w_condp (Weight > 2147483647) (by kernel_rfl) rfl (fun h46 => ?_) (fun h46 => ?_)
 ·have r47 := ite_t h46 r45
  refine w_seqk fun _ k48 => g_' (q_ (.iface 43 (i_ 8)) (q_ (.iface 43 (i_ 8)) (s_nil (k48 _ _ ?_))))
  refine w_ret (bl_ret (th_ret ?_))
  refine b_ret (fn := Tryz.f68) (vs := [.iface 43 (i_ 8)]) (aRes_tmp (by kernel_rfl) (rfl)) ?_
  obtain rfl := Option.some.inj r47
  exact ⟨(.iface 43 (i_ 8)), [], rfl, ((FrS.refl (W := []) wf).extR e9), Ev.no, Inn.nil⟩
 have r49 := ite_f h46 r45
 refine w_skip (k13 _ _ (w_seqk fun _ k50 => g_' (q_ (.nilIface) (s_nil (k50 _ _ ?_)))))
 refine w_ret ?_
 refine b_ret (fn := Tryz.f68) (vs := [.nilIface]) (aRes_tmp (by kernel_rfl) (rfl)) ?_
 obtain rfl := Option.some.inj r49
 exact ⟨(.nilIface), [], rfl, ((FrS.refl (W := []) wf).extR e9), Ev.nil, Inn.nil⟩
theorem c_fault_At {H : AH} {ev_err : Value} {fp_err : Fp} {kind : Int} {at_ : Int} {err : Er} {r : Er}
    (wf : WF H) (h_err : Ev 43 81 H ev_err err fp_err) (hr : z_fault_At kind at_ err = some r) :
    ACalls Tryz.prog 59 #[i_ kind, i_ at_, ev_err] H fun v H' => ∃ (v3 : Value) (f4 : Fp), v = v3 ∧ FrS [] H H' ∧ Ev 43 81 H' v3 r f4 ∧ Inn fp_err H f4 := by
 refine acalls_of_body mixed Tryz.func59 rfl (Nat.le_of_ble_eq_true rfl) ?_
 unfold z_fault_At at hr
 refine w_seqk fun _ k6 => g_' (q_ (.nilIface) (s_nil (k6 _ _ (w_seqk fun _ k7 => w_seqk fun _ k8 => g_' (q_ (ev_err) ?_)))))
 rcases (h_err).cases with ⟨h9, rfl⟩ | ⟨h9, t10, x11, rfl⟩
 ·have r12 := ite_t h9 hr
  refine q_ (.bool true) (s_nil (k8 _ _ ?_))
  refine w_cond true (by kernel_rfl) rfl (fun _ => ?_) (fun h => by cases h)
  refine w_seqk fun _ k13 => g_' (q_ (.nilIface) (s_nil (k13 _ _ ?_)))
  refine w_ret (th_ret ?_)
  refine b_ret (fn := Tryz.f59) (vs := [.nilIface]) (aRes_tmp (by kernel_rfl) (rfl)) ?_
  obtain rfl := Option.some.inj r12
  exact ⟨(.nilIface), [], rfl, (FrS.refl (W := []) wf), Ev.nil, Inn.nil⟩
 have r14 := ite_f h9 hr
 refine l_' (.bool false) (aBin Tryz.prog .eql 31 (.tmp 7) (.const .nilIface) (.iface t10 x11) .nilIface) (aBin_nil (by kernel_rfl)) ?_
 refine s_nil (k8 _ _ ?_)
 refine w_cond false (by kernel_rfl) rfl (fun h => by cases h) (fun _ => ?_)
 refine w_skip (k7 _ _ (w_seqk fun _ k15 => g_' (q_ (i_ kind) (q_ (i_ at_) (q_ (.agg #[i_ kind, i_ at_]) (q_ (.iface t10 x11) (q_ (.agg #[i_ kind, i_ at_, .iface t10 x11]) ?_)))))))
 refine s_rwl wf [i_ kind, i_ at_, .iface t10 x11] (one_cons (rfl) (one_cons (rfl) (one_cons (h_err.one1) (one_nil)))) (by kernel_rfl) fun b16 H17 e18 hb19 r20 => ?_
 have u22 := (h_err.ext e18)
 obtain ⟨fq23, he24, hi25⟩ := Ev.at r20 u22 hb19
 refine q_ (.iface 81 (pt_ b16 0)) (q_ (.iface 81 (pt_ b16 0)) (s_nil (k15 _ _ ?_)))
 refine w_ret ?_
 refine b_ret (fn := Tryz.f59) (vs := [.iface 81 (pt_ b16 0)]) (aRes_tmp (by kernel_rfl) (rfl)) ?_
 obtain rfl := Option.some.inj r14
 exact ⟨(.iface 81 (pt_ b16 0)), fq23, rfl, ((FrS.refl (W := []) wf).extR e18), he24, (Inn.trans Inn.refl' (Nat.le_refl _) hi25)⟩
theorem c_gtext_Check {H : AH} {hd_Arcs : Value} {fp_Arcs : Fp} {N_ : Int} {Arcs : List (Int × Int × Int)} {r : Er}
    (wf : WF H) (h_Arcs : Sq enc_i64_i64_i64 3 H hd_Arcs Arcs fp_Arcs) (hr : z_gtext_Check N_ Arcs = some r) :
    ACalls Tryz.prog 53 #[.agg #[i_ N_, hd_Arcs]] H fun v H' => ∃ (v3 : Value) (f4 : Fp), v = v3 ∧ FrS [] H H' ∧ Ev 43 81 H' v3 r f4 ∧ Inn [] H f4 := by
 refine acalls_of_body mixed Tryz.func53 rfl (Nat.le_of_ble_eq_true rfl) ?_
 unfold z_gtext_Check at hr
 refine w_seqk fun _ k6 => g_' ?_
 refine s_rwl wf [i_ N_, hd_Arcs] (one_cons (rfl) (one_cons (h_Arcs.one1) (one_nil))) (by kernel_rfl) fun b7 H8 e9 hb10 r11 => ?_
 refine q_ (.nilIface) (s_nil (k6 _ _ (w_seqk fun _ k13 => w_seqk fun _ k14 => ?_)))
 obtain ⟨o15, hx16, r17⟩ := bind_some hr
 refine w_mid (fun α H18 => Has α [(1, pt_ b7 0), (19, .bool o15)] ∧ H8 = H18) (fun _ k20 => ?_) (fun α H18 hM => ?_)
 ·refine g_' (q_ (pt_ b7 0) ?_)
  refine l_' (i_ N_) (aLoad Tryz.prog 3 (pt_ b7 0) H8) (r11.ld (by kernel_rfl)) ?_
  refine s_b (N_ < 0) (by kernel_rfl) (fun h22 => ?_) (fun h22 => ?_)
  ·have r23 := ite_t h22 hx16
   refine q_ (.bool true) (n_' (n_' (n_' (q_ (.bool true) (q_ (.bool true) (n_' (n_' (n_' (n_' (q_ (.bool true) (s_nil ?_)))))))))))
   obtain rfl := Option.some.inj r23
   exact k20 _ _ ⟨ha_, rfl⟩
  have r24 := ite_f h22 hx16
  refine q_ (.bool false) (q_ (pt_ b7 0) ?_)
  refine l_' (i_ N_) (aLoad Tryz.prog 3 (pt_ b7 0) H8) (r11.ld (by kernel_rfl)) ?_
  refine s_b (N_ > 65536) (by kernel_rfl) (fun h25 => ?_) (fun h25 => ?_)
  ·have r26 := ite_t h25 r24
   refine q_ (.bool true) (q_ (.bool true) (n_' (n_' (n_' (n_' (q_ (.bool true) (s_nil ?_)))))))
   obtain rfl := Option.some.inj r26
   exact k20 _ _ ⟨ha_, rfl⟩
  have r27 := ite_f h25 r24
  refine q_ (.bool false) (q_ (.bool false) (q_ (pt_ b7 1) ?_))
  refine l_' (hd_Arcs) (aLoad Tryz.prog 49 (pt_ b7 1) H8) (r11.ld (by kernel_rfl)) ?_
  have u28 := (h_Arcs.ext e9)
  refine l_' (i_ (Arcs.length : Int)) (aLen Tryz.prog 49 hd_Arcs H8) (u28.lenb (by kernel_rfl)) ?_
  refine q_ (.bool (decide ((Arcs.length : Int) > 262144))) (q_ (.bool (decide ((Arcs.length : Int) > 262144))) (s_nil ?_))
  obtain rfl := Option.some.inj r27
  exact k20 _ _ ⟨ha_, rfl⟩
 obtain ⟨hh21, rfl⟩ := hM
 obtain ⟨β, rfl⟩ := has_ex hh21
 clear hh21
 refine k14 _ _ ?_
 refine w_cond (o15) (by kernel_rfl) rfl (fun h29 => ?_) (fun h29 => ?_)
 ·have r30 := ite_t h29 r17
  refine w_seqk fun _ k31 => g_' (q_ (.iface 43 (i_ 9)) (q_ (.iface 43 (i_ 9)) (s_nil (k31 _ _ ?_))))
  refine w_ret (th_ret ?_)
  refine b_ret (fn := Tryz.f53) (vs := [.iface 43 (i_ 9)]) (aRes_tmp (by kernel_rfl) (rfl)) ?_
  obtain rfl := Option.some.inj r30
  exact ⟨(.iface 43 (i_ 9)), [], rfl, ((FrS.refl (W := []) wf).extR e9), Ev.no, Inn.nil⟩
 have r32 := ite_bf h29 r17
 refine w_skip (k13 _ _ (w_seqk fun _ k33 => w_seqk fun _ k34 => g_' (q_ (pt_ b7 1) ?_)))
 refine l_' (hd_Arcs) (aLoad Tryz.prog 49 (pt_ b7 1) H8) (r11.ld (by kernel_rfl)) ?_
 have u35 := (h_Arcs.ext e9)
 refine l_' (i_ (Arcs.length : Int)) (aLen Tryz.prog 49 hd_Arcs H8) (u35.lenb (by kernel_rfl)) ?_
 refine q_ (i_ 0) (s_nil (k34 _ _ ?_))
 obtain ⟨z39, hx37, r38⟩ := bind_some r32
 refine w_mid (fun α H40 => ∃ o36, z39 = Sum.inr o36 ∧ Has α [] ∧ FrS [] H8 H40) (fun _ k42 => ?_) (fun α H40 hM => ?_)
 ·refine w_block ?_
  obtain ⟨n44, hn45⟩ := loopO_iff.1 hx37
  refine w_loopn (fun n α H46 => ∃ (i0 : Int), iterO (fun zz_ => z_gtext_Check_l0 N_ Arcs zz_) n i0 = some z39 ∧ Has α [(1, pt_ b7 0), (22, hd_Arcs), (23, i_ (Arcs.length : Int)), (24, i_ i0)] ∧ FrS [] H8 H46) n44 ⟨0, hn45, ha_, (FrS.refl (W := []) e9.wf)⟩ ?_
  rintro n44 α H46 ⟨i0, hi49, hh48, e47⟩ K54 k54
  obtain ⟨n50, z51, rfl, hz52, hn53⟩ := iter_succ hi49
  obtain ⟨β, rfl⟩ := has_ex hh48
  clear hh48
  replace hz52 : z_gtext_Check_l0 N_ Arcs i0 = some z51 := hz52
  unfold z_gtext_Check_l0 at hz52
  refine w_seqk fun _ k55 => g_' (q_ (.bool (decide (i0 < (Arcs.length : Int)))) (s_nil (k55 _ _ (w_seqk fun _ k56 => ?_))))
  refine w_condp (i0 < (Arcs.length : Int)) (by kernel_rfl) rfl (fun h57 => ?_) (fun h57 => ?_)
  ·have r58 := ite_t h57 hz52
   refine w_skip (k56 _ _ (w_seqk fun _ k59 => w_block (w_seqk fun _ k60 => g_' (q_ (i_ i0) ?_))))
   obtain ⟨g61, r62⟩ := G_some r58
   have u63 := (u35.fr e47 Dj.nil_l)
   refine l_' (elp hd_Arcs 3 i0.toNat 0) (aIndexAddr Tryz.prog 49 hd_Arcs (i_ i0)) (u63.idxb (by kernel_rfl) g61 h57) ?_
   refine l_' (.agg #[i_ ((gt Arcs i0).1), i_ ((gt Arcs i0).2.1), i_ ((gt Arcs i0).2.2)]) (aLoad Tryz.prog 53 (elp hd_Arcs 3 i0.toNat 0) H46) (u63.ld g61 h57 (by kernel_rfl)) ?_
   refine s_rwk e47.wf [i_ 0, i_ 0, i_ 0] (by kernel_rfl) fun b64 H65 e66 hb67 r68 => ?_
   refine q_ (i_ i0) ?_
   obtain ⟨H70, q71, e72, r73⟩ := Row.store (P := Tryz.prog) (t := 53) (p := 0) e66.wf r68 (.agg #[i_ ((gt Arcs i0).1), i_ ((gt Arcs i0).2.1), i_ ((gt Arcs i0).2.2)]) [i_ ((gt Arcs i0).1), i_ ((gt Arcs i0).2.1), i_ ((gt Arcs i0).2.2)] (by kernel_rfl) (by kernel_rfl) (one_cons (rfl) (one_cons (rfl) (one_cons (rfl) (one_nil)))) (Nat.le_of_ble_eq_true (by kernel_rfl)) [i_ ((gt Arcs i0).1), i_ ((gt Arcs i0).2.1), i_ ((gt Arcs i0).2.2)] (by kernel_rfl)
   refine s_ek (undef) (by kernel_rfl) (map_ok q71) ?_
   refine s_nil (k60 _ _ (w_seqk fun _ k74 => g_' ?_))
   refine l_' (.agg #[i_ ((gt Arcs i0).1), i_ ((gt Arcs i0).2.1), i_ ((gt Arcs i0).2.2)]) (aLoad Tryz.prog 53 (pt_ b64 0) H70) (r73.ld (by kernel_rfl)) ?_
   refine q_ (pt_ b7 0) ?_
   have u75 := (((r11.frS e47 Dj.nil_l).ext e66).frS e72 (hb67.djn (r11.ltF.le e47.next)))
   refine l_' (i_ N_) (aLoad Tryz.prog 3 (pt_ b7 0) H70) (u75.ld (by kernel_rfl)) ?_
   obtain ⟨y76, hy77, r78⟩ := bind_some r62
   refine s_ck 68 #[.agg #[i_ ((gt Arcs i0).1), i_ ((gt Arcs i0).2.1), i_ ((gt Arcs i0).2.2)], i_ N_] (by kernel_rfl) (c_gtext_arc e72.wf hy77) ?_
   rintro v79 H81 ⟨_, f80, rfl, e82, m83, i84⟩
   refine q_ (v79) (s_nil (k74 _ _ (w_seqk fun _ k86 => g_' (q_ (v79) ?_))))
   rcases (m83).cases with ⟨h87, rfl⟩ | ⟨h87, t88, x89, rfl⟩
   ·have r90 := ite_t h87 r78
    refine q_ (.bool false) (s_nil (k86 _ _ ?_))
    refine w_cond false (by kernel_rfl) rfl (fun h => by cases h) (fun _ => ?_)
    refine w_skip (k59 _ _ (g_' ?_))
    obtain ⟨g91, r92⟩ := G_some r90
    refine w_' (i0 + 1) (wrap64 (by have := g91; omega)) ?_
    refine q_ (i_ (i0 + 1)) (s_nil ?_)
    obtain rfl := Option.some.inj r92
    exact k54 n50 _ _ (Nat.lt_succ_self _) ⟨(i0 + 1), hn53, ha_, (FrS.step e9.wf (FrS.step e9.wf ((FrS.step e9.wf (FrS.refl (W := []) e9.wf) e47 Inn.nil).extR e66) e72 (hb67.fresh e47.next)) e82 Inn.nil)⟩
   have r93 := ite_f h87 r78
   refine l_' (.bool true) (aBin Tryz.prog .neq 31 (.tmp 33) (.const .nilIface) (.iface t88 x89) .nilIface) (aBin_nnil (by kernel_rfl)) ?_
   refine s_nil (k86 _ _ ?_)
   refine w_cond true (by kernel_rfl) rfl (fun _ => ?_) (fun h => by cases h)
   refine w_seqk fun _ k94 => g_' (q_ (i_ i0) (q_ (.iface t88 x89) ?_))
   obtain ⟨y95, hy96, r97⟩ := bind_some r93
   refine s_ck 59 #[i_ 4, i_ i0, .iface t88 x89] (by kernel_rfl) (c_fault_At e82.wf m83 hy96) ?_
   rintro v98 H100 ⟨_, f99, rfl, e101, m102, i103⟩
   refine q_ (v98) (s_nil (k94 _ _ ?_))
   refine w_ret (bl_ret (th_ret (th_ret (bl_ret (th_ret (th_ret ?_))))))
   obtain ⟨v105, hv106, hz107⟩ := map_some r97
   subst hz107
   obtain rfl := it_inr hn53
   have hq108 := elim_inl r38
   rw [hq108] at hv106
   refine b_ret (fn := Tryz.f53) (vs := [v98]) (aRes_tmp (by kernel_rfl) (rfl)) ?_
   obtain rfl := Option.some.inj hv106
   exact ⟨(v98), f99, rfl, (FrS.step wf (FrS.step wf (FrS.step wf ((FrS.step wf ((FrS.refl (W := []) wf).extR e9) e47 Inn.nil).extR e66) e72 (hb67.fresh (ntr e9.next e47.next))) e82 Inn.nil) e101 Inn.nil), m102, (Inn.trans (i84.fresh (ntr (ntr (ntr e9.next e47.next) e66.next) e72.next)) (ntr (ntr (ntr (ntr e9.next e47.next) e66.next) e72.next) e82.next) i103)⟩
  have r109 := ite_f h57 hz52
  refine w_exit (th_exit (th_exit (bl_eq ?_)))
  obtain rfl := Option.some.inj r109
  obtain rfl := it_inr hn53
  exact k42 _ _ ⟨_, rfl, trivial, (FrS.step e9.wf (FrS.refl (W := []) e9.wf) e47 Inn.nil)⟩
 obtain ⟨o36, rfl, hh43, e41⟩ := hM
 have r110 := elim_inr r38
 obtain ⟨β, rfl⟩ := has_ex hh43
 clear hh43
 refine k33 _ _ (w_seqk fun _ k111 => g_' (q_ (.nilIface) (s_nil (k111 _ _ ?_))))
 refine w_ret ?_
 refine b_ret (fn := Tryz.f53) (vs := [.nilIface]) (aRes_tmp (by kernel_rfl) (rfl)) ?_
 obtain rfl := Option.some.inj r110
 exact ⟨(.nilIface), [], rfl, (FrS.step wf ((FrS.refl (W := []) wf).extR e9) e41 Inn.nil), Ev.nil, Inn.nil⟩
theorem c_cmp_isNaN {H : AH} {x : Int} {r : Bool}
    (wf : WF H) (hr : z_cmp_isNaN x = some r) :
    ACalls Tryz.prog 91 #[i_ x] H fun v H' => v = .bool r ∧ H = H' := by
 refine acalls_of_body mixed Tryz.func91 rfl (Nat.le_of_ble_eq_true rfl) ?_
 unfold z_cmp_isNaN at hr
 refine w_seqk fun _ k1 => g_' (q_ (.bool false) (s_nil (k1 _ _ (w_seqk fun _ k2 => g_' (q_ (i_ x) (q_ (i_ x) (q_ (.bool (!decide (x = x))) (q_ (.bool (!decide (x = x))) (s_nil (k2 _ _ ?_))))))))))
 refine w_ret ?_
 refine b_ret (fn := Tryz.f91) (vs := [.bool (!decide (x = x))]) (aRes_tmp (by kernel_rfl) (rfl)) ?_
 obtain rfl := Option.some.inj hr
 exact ⟨rfl, rfl⟩
theorem c_cmp_Compare {H : AH} {x : Int} {y : Int} {r : Int}
    (wf : WF H) (hr : z_cmp_Compare x y = some r) :
    ACalls Tryz.prog 72 #[i_ x, i_ y] H fun v H' => v = i_ r ∧ H = H' := by
 refine acalls_of_body mixed Tryz.func72 rfl (Nat.le_of_ble_eq_true rfl) ?_
 unfold z_cmp_Compare at hr
 refine w_seqk fun _ k1 => g_' (q_ (i_ 0) (s_nil (k1 _ _ (w_seqk fun _ k2 => g_' (q_ (i_ x) ?_)))))
 obtain ⟨y3, hy4, r5⟩ := bind_some hr
 refine s_ck 91 #[i_ x] (by kernel_rfl) (c_cmp_isNaN wf hy4) ?_
 rintro _ _ ⟨rfl, rfl⟩
 refine q_ (.bool y3) (s_nil (k2 _ _ (w_seqk fun _ k8 => g_' (q_ (i_ y) ?_))))
 obtain ⟨y9, hy10, r11⟩ := bind_some r5
 refine s_ck 91 #[i_ y] (by kernel_rfl) (c_cmp_isNaN wf hy10) ?_
 rintro _ _ ⟨rfl, rfl⟩
 refine q_ (.bool y9) (s_nil (k8 _ _ (w_seqk fun _ k14 => w_seqk fun _ k15 => g_' (q_ (.bool y3) (s_nil (k15 _ _ ?_))))))
 refine w_cond (y3) (by kernel_rfl) rfl (fun h16 => ?_) (fun h16 => ?_)
 ·have r17 := ite_t h16 r11
  refine w_seqk fun _ k18 => w_seqk fun _ k19 => g_' (q_ (.bool y9) (s_nil (k19 _ _ ?_)))
  refine w_cond (y9) (by kernel_rfl) rfl (fun h20 => ?_) (fun h20 => ?_)
  ·have r21 := ite_t h20 r17
   refine w_seqk fun _ k22 => g_' (q_ (i_ 0) (s_nil (k22 _ _ ?_)))
   refine w_ret (th_ret (th_ret ?_))
   refine b_ret (fn := Tryz.f72) (vs := [i_ 0]) (aRes_tmp (by kernel_rfl) (rfl)) ?_
   obtain rfl := Option.some.inj r21
   exact ⟨rfl, rfl⟩
  have r23 := ite_bf h20 r17
  refine w_skip (k18 _ _ (w_seqk fun _ k24 => g_' (q_ (i_ (-1)) (s_nil (k24 _ _ ?_)))))
  refine w_ret (th_ret ?_)
  refine b_ret (fn := Tryz.f72) (vs := [i_ (-1)]) (aRes_tmp (by kernel_rfl) (rfl)) ?_
  obtain rfl := Option.some.inj r23
  exact ⟨rfl, rfl⟩
 have r25 := ite_bf h16 r11
 refine w_skip (k14 _ _ (w_seqk fun _ k26 => w_seqk fun _ k27 => g_' (q_ (.bool y9) (s_nil (k27 _ _ ?_)))))
 refine w_cond (y9) (by kernel_rfl) rfl (fun h28 => ?_) (fun h28 => ?_)
 ·have r29 := ite_t h28 r25
  refine w_seqk fun _ k30 => g_' (q_ (i_ 1) (s_nil (k30 _ _ ?_)))
  refine w_ret (th_ret ?_)
  refine b_ret (fn := Tryz.f72) (vs := [i_ 1]) (aRes_tmp (by kernel_rfl) (rfl)) ?_
  obtain rfl := Option.some.inj r29
  exact ⟨rfl, rfl⟩
 have r31 := ite_bf h28 r25
 refine w_skip (k26 _ _ (w_seqk fun _ k32 => w_seqk fun _ k33 => g_' (q_ (i_ x) (q_ (i_ y) (q_ (.bool (decide (x < y))) (s_nil (k33 _ _ ?_)))))))
 refine w_condp (x < y) (by kernel_rfl) rfl (fun h34 => ?_) (fun h34 => ?_)
 ·have r35 := ite_t h34 r31
  refine w_seqk fun _ k36 => g_' (q_ (i_ (-1)) (s_nil (k36 _ _ ?_)))
  refine w_ret (th_ret ?_)
  refine b_ret (fn := Tryz.f72) (vs := [i_ (-1)]) (aRes_tmp (by kernel_rfl) (rfl)) ?_
  obtain rfl := Option.some.inj r35
  exact ⟨rfl, rfl⟩
 have r37 := ite_f h34 r31
 refine w_skip (k32 _ _ (w_seqk fun _ k38 => w_seqk fun _ k39 => g_' (q_ (i_ x) (q_ (i_ y) (q_ (.bool (decide (x > y))) (s_nil (k39 _ _ ?_)))))))
 refine w_condp (x > y) (by kernel_rfl) rfl (fun h40 => ?_) (fun h40 => ?_)
 ·have r41 := ite_t h40 r37
  refine w_seqk fun _ k42 => g_' (q_ (i_ 1) (s_nil (k42 _ _ ?_)))
  refine w_ret (th_ret ?_)
  refine b_ret (fn := Tryz.f72) (vs := [i_ 1]) (aRes_tmp (by kernel_rfl) (rfl)) ?_
  obtain rfl := Option.some.inj r41
  exact ⟨rfl, rfl⟩
 have r43 := ite_f h40 r37
 refine w_skip (k38 _ _ (w_seqk fun _ k44 => g_' (q_ (i_ 0) (s_nil (k44 _ _ ?_)))))
 refine w_ret ?_
 refine b_ret (fn := Tryz.f72) (vs := [i_ 0]) (aRes_tmp (by kernel_rfl) (rfl)) ?_
 obtain rfl := Option.some.inj r43
 exact ⟨rfl, rfl⟩
theorem c_cmp_Or {H : AH} {hd_vals : Value} {fp_vals : Fp} {vals : List (Int)} {r : Int}
    (wf : WF H) (h_vals : Sq (encI .i64) 1 H hd_vals vals fp_vals) (hr : z_cmp_Or vals = some r) :
    ACalls Tryz.prog 71 #[hd_vals] H fun v H' => v = i_ r ∧ H = H' := by
 refine acalls_of_body mixed Tryz.func71 rfl (Nat.le_of_ble_eq_true rfl) ?_
 unfold z_cmp_Or at hr
 refine w_seqk fun _ k1 => g_' (q_ (i_ 0) (s_nil (k1 _ _ (w_seqk fun _ k2 => g_' (q_ (i_ 0) (s_nil (k2 _ _ (w_seqk fun _ k3 => w_seqk fun _ k4 => g_' (q_ (hd_vals) ?_)))))))))
 refine l_' (i_ (vals.length : Int)) (aLen Tryz.prog 23 hd_vals H) (h_vals.lenb (by kernel_rfl)) ?_
 refine q_ (i_ 0) (s_nil (k4 _ _ ?_))
 obtain ⟨z8, hx6, r7⟩ := bind_some hr
 refine w_mid (fun α H9 => ∃ o5, z8 = Sum.inr o5 ∧ Has α [(3, i_ 0)] ∧ H = H9) (fun _ k11 => ?_) (fun α H9 hM => ?_)
 ·refine w_block ?_
  obtain ⟨n13, hn14⟩ := loopO_iff.1 hx6
  refine w_loopn (fun n α H15 => ∃ (i0 : Int), iterO (fun zz_ => z_cmp_Or_l0 vals zz_) n i0 = some z8 ∧ Has α [(3, i_ 0), (6, hd_vals), (7, i_ (vals.length : Int)), (8, i_ i0)] ∧ H = H15) n13 ⟨0, hn14, ha_, rfl⟩ ?_
  rintro n13 α H15 ⟨i0, hi18, hh17, rfl⟩ K23 k23
  obtain ⟨n19, z20, rfl, hz21, hn22⟩ := iter_succ hi18
  obtain ⟨β, rfl⟩ := has_ex hh17
  clear hh17
  replace hz21 : z_cmp_Or_l0 vals i0 = some z20 := hz21
  unfold z_cmp_Or_l0 at hz21
  refine w_seqk fun _ k24 => g_' (q_ (.bool (decide (i0 < (vals.length : Int)))) (s_nil (k24 _ _ (w_seqk fun _ k25 => ?_))))
  refine w_condp (i0 < (vals.length : Int)) (by kernel_rfl) rfl (fun h26 => ?_) (fun h26 => ?_)
  ·have r27 := ite_t h26 hz21
   refine w_skip (k25 _ _ (w_seqk fun _ k28 => w_block (w_seqk fun _ k29 => g_' ?_)))
   obtain ⟨g30, r31⟩ := G_some r27
   refine l_' (elp hd_vals 1 i0.toNat 0) (aIndexAddr Tryz.prog 23 hd_vals (i_ i0)) (h_vals.idxb (by kernel_rfl) g30 h26) ?_
   refine l_' (i_ (gt vals i0)) (aLoad Tryz.prog 3 (elp hd_vals 1 i0.toNat 0) H) (h_vals.ld g30 h26 (by kernel_rfl)) ?_
   refine q_ (i_ (gt vals i0)) (s_nil (k29 _ _ (w_seqk fun _ k32 => g_' (q_ (i_ (gt vals i0)) (q_ (i_ 0) (q_ (.bool (!decide ((gt vals i0) = 0))) (s_nil (k32 _ _ ?_))))))))
   refine w_condn ((gt vals i0) = 0) (by kernel_rfl) rfl (fun h33 => ?_) (fun h33 => ?_)
   ·have r34 := ite_f h33 r31
    refine w_seqk fun _ k35 => g_' (q_ (i_ (gt vals i0)) (q_ (i_ (gt vals i0)) (s_nil (k35 _ _ ?_))))
    refine w_ret (bl_ret (th_ret (th_ret (bl_ret (th_ret (th_ret ?_))))))
    obtain ⟨v36, hv37, hz38⟩ := map_some r34
    subst hz38
    obtain rfl := it_inr hn22
    have hq39 := elim_inl r7
    rw [hq39] at hv37
    refine b_ret (fn := Tryz.f71) (vs := [i_ (gt vals i0)]) (aRes_tmp (by kernel_rfl) (rfl)) ?_
    obtain rfl := Option.some.inj hv37
    exact ⟨rfl, rfl⟩
   have r40 := ite_t h33 r31
   refine w_skip (k28 _ _ (g_' ?_))
   obtain ⟨g41, r42⟩ := G_some r40
   refine w_' (i0 + 1) (wrap64 (by have := g41; omega)) ?_
   refine q_ (i_ (i0 + 1)) (s_nil ?_)
   obtain rfl := Option.some.inj r42
   exact k23 n19 _ _ (Nat.lt_succ_self _) ⟨(i0 + 1), hn22, ha_, rfl⟩
  have r43 := ite_f h26 hz21
  refine w_exit (th_exit (th_exit (bl_eq ?_)))
  obtain rfl := Option.some.inj r43
  obtain rfl := it_inr hn22
  exact k11 _ _ ⟨_, rfl, ha_, rfl⟩
 obtain ⟨o5, rfl, hh12, rfl⟩ := hM
 have r44 := elim_inr r7
 obtain ⟨β, rfl⟩ := has_ex hh12
 clear hh12
 refine k3 _ _ (w_seqk fun _ k45 => g_' (q_ (i_ 0) (q_ (i_ 0) (s_nil (k45 _ _ ?_)))))
 refine w_ret ?_
 refine b_ret (fn := Tryz.f71) (vs := [i_ 0]) (aRes_tmp (by kernel_rfl) (rfl)) ?_
 obtain rfl := Option.some.inj r44
 exact ⟨rfl, rfl⟩
theorem c_normal_order {H : AH} {From : Int} {To : Int} {Weight : Int} {From_ : Int} {To_ : Int} {Weight_ : Int} {r : Int}
    (wf : WF H) (hr : z_normal_order From To Weight From_ To_ Weight_ = some r) :
    ACalls Tryz.prog 55 #[.agg #[i_ From, i_ To, i_ Weight], .agg #[i_ From_, i_ To_, i_ Weight_]] H fun v H' => v = i_ r ∧ FrS [] H H' := by
 refine acalls_of_body mixed Tryz.func55 rfl (Nat.le_of_ble_eq_true rfl) ?_
 unfold z_normal_order at hr
 refine w_seqk fun _ k1 => g_' ?_
 refine s_rwl wf [i_ From, i_ To, i_ Weight] (one_cons (rfl) (one_cons (rfl) (one_cons (rfl) (one_nil)))) (by kernel_rfl) fun b2 H3 e4 hb5 r6 => ?_
 refine s_rwl e4.wf [i_ From_, i_ To_, i_ Weight_] (one_cons (rfl) (one_cons (rfl) (one_cons (rfl) (one_nil)))) (by kernel_rfl) fun b8 H9 e10 hb11 r12 => ?_
 refine q_ (i_ 0) (s_nil (k1 _ _ (w_seqk fun _ k14 => ?_)))
 refine w_draw [0, 1, 2, 3, 5, 6, 7, 8, 10, 11, 12, 13, 4, 9, 14, 15, 16, 17] (by kernel_rfl) ?_
 refine e_' (pt_ b2 0) ?_
 have u15 := (r6.ext e10)
 refine m_' (i_ From) (aLoad Tryz.prog 3 (pt_ b2 0) H9) (u15.ld (by kernel_rfl)) ?_
 refine e_' (pt_ b8 0) ?_
 refine m_' (i_ From_) (aLoad Tryz.prog 3 (pt_ b8 0) H9) (r12.ld (by kernel_rfl)) ?_
 refine e_' (pt_ b2 1) ?_
 refine d_fl (i_ To) (x := aLoad Tryz.prog 3 (pt_ b2 1) H9) (by kernel_rfl) (u15.ld (by kernel_rfl)) ?_
 refine e_' (pt_ b8 1) ?_
 refine d_fl (i_ To_) (x := aLoad Tryz.prog 3 (pt_ b8 1) H9) (by kernel_rfl) (r12.ld (by kernel_rfl)) ?_
 refine e_' (pt_ b2 2) ?_
 refine d_fl (i_ Weight) (x := aLoad Tryz.prog 3 (pt_ b2 2) H9) (by kernel_rfl) (u15.ld (by kernel_rfl)) ?_
 refine e_' (pt_ b8 2) ?_
 refine d_fl (i_ Weight_) (x := aLoad Tryz.prog 3 (pt_ b8 2) H9) (by kernel_rfl) (r12.ld (by kernel_rfl)) ?_
 obtain ⟨y16, hy17, r18⟩ := bind_some hr
 refine d_ck 72 #[i_ From, i_ From_] (by kernel_rfl) (c_cmp_Compare e10.wf hy17) ?_
 rintro _ _ ⟨rfl, rfl⟩
 refine ⟨st_ql (y := aLoad Tryz.prog 3 (pt_ b8 2) H9) (by kernel_rfl) (r12.ld (by kernel_rfl)) (st_ql (y := aLoad Tryz.prog 3 (pt_ b2 2) H9) (by kernel_rfl) (u15.ld (by kernel_rfl)) (st_ql (y := aLoad Tryz.prog 3 (pt_ b8 1) H9) (by kernel_rfl) (r12.ld (by kernel_rfl)) (st_ql (y := aLoad Tryz.prog 3 (pt_ b2 1) H9) (by kernel_rfl) (u15.ld (by kernel_rfl)) (st_nil)))), ?_⟩
 obtain ⟨y21, hy22, r23⟩ := bind_some r18
 refine d_ck 72 #[i_ To, i_ To_] (by kernel_rfl) (c_cmp_Compare e10.wf hy22) ?_
 rintro _ _ ⟨rfl, rfl⟩
 refine ⟨st_ql (y := aLoad Tryz.prog 3 (pt_ b8 2) H9) (by kernel_rfl) (r12.ld (by kernel_rfl)) (st_ql (y := aLoad Tryz.prog 3 (pt_ b2 2) H9) (by kernel_rfl) (u15.ld (by kernel_rfl)) (st_anc (by kernel_rfl) (st_anc (by kernel_rfl) (st_nil)))), ?_⟩
 obtain ⟨y26, hy27, r28⟩ := bind_some r23
 refine d_ck 72 #[i_ Weight, i_ Weight_] (by kernel_rfl) (c_cmp_Compare e10.wf hy27) ?_
 rintro _ _ ⟨rfl, rfl⟩
 refine ⟨st_anc (by kernel_rfl) (st_anc (by kernel_rfl) (st_anc (by kernel_rfl) (st_anc (by kernel_rfl) (st_nil)))), ?_⟩
 refine d_owk (enc := (encI .i64)) (sz := 1) e10.wf [y16, y21, y26] 3 (by decide) (fun _ _ => rfl) (fun _ _ => rfl) rfl (by kernel_rfl) fun s31 f32 H33 e34 hf35 hm36 => ?_
 obtain ⟨a37, n38, c39, rfl⟩ := hm36.form
 obtain ⟨y41, hy42, r43⟩ := bind_some r28
 refine d_ck 71 #[.slice a37 n38 c39] (by kernel_rfl) (c_cmp_Or e34.wf hm36.sq hy42) ?_
 rintro _ _ ⟨rfl, rfl⟩
 refine ⟨st_anc (by kernel_rfl) (st_anc (by kernel_rfl) (st_anc (by kernel_rfl) (st_anc (by kernel_rfl) (st_nil)))), ?_⟩
 refine e_' (i_ y41) ?_
 refine d_nil ?_
 refine k14 _ _ ?_
 refine w_ret ?_
 refine b_ret (fn := Tryz.f55) (vs := [i_ y41]) (aRes_tmp (by kernel_rfl) (rfl)) ?_
 obtain rfl := Option.some.inj r43
 exact ⟨rfl, ((((FrS.refl (W := []) wf).extR e4).extR e10).extR e34)⟩
theorem c_normal_Of_1 {H : AH} {From : Int} {To : Int} {Weight : Int} {From_ : Int} {To_ : Int} {Weight_ : Int} {r : Bool}
    (wf : WF H) (hr : z_normal_Of_1 From To Weight From_ To_ Weight_ = some r) :
    ACalls Tryz.prog 57 #[.agg #[i_ From, i_ To, i_ Weight], .agg #[i_ From_, i_ To_, i_ Weight_]] H fun v H' => v = .bool r ∧ FrS [] H H' := by
 refine acalls_of_body mixed Tryz.func57 rfl (Nat.le_of_ble_eq_true rfl) ?_
 unfold z_normal_Of_1 at hr
 refine w_seqk fun _ k1 => g_' ?_
 refine s_rwl wf [i_ From, i_ To, i_ Weight] (one_cons (rfl) (one_cons (rfl) (one_cons (rfl) (one_nil)))) (by kernel_rfl) fun b2 H3 e4 hb5 r6 => ?_
 refine s_rwl e4.wf [i_ From_, i_ To_, i_ Weight_] (one_cons (rfl) (one_cons (rfl) (one_cons (rfl) (one_nil)))) (by kernel_rfl) fun b8 H9 e10 hb11 r12 => ?_
 refine q_ (.bool false) (s_nil (k1 _ _ (w_seqk fun _ k14 => g_' (q_ (pt_ b2 0) ?_))))
 have u15 := (r6.ext e10)
 refine l_' (i_ From) (aLoad Tryz.prog 3 (pt_ b2 0) H9) (u15.ld (by kernel_rfl)) ?_
 refine q_ (pt_ b8 0) ?_
 refine l_' (i_ From_) (aLoad Tryz.prog 3 (pt_ b8 0) H9) (r12.ld (by kernel_rfl)) ?_
 refine s_b (From = From_) (by kernel_rfl) (fun h16 => ?_) (fun h16 => ?_)
 ·have r17 := ite_t h16 hr
  refine q_ (.bool true) (q_ (pt_ b2 1) ?_)
  refine l_' (i_ To) (aLoad Tryz.prog 3 (pt_ b2 1) H9) (u15.ld (by kernel_rfl)) ?_
  refine q_ (pt_ b8 1) ?_
  refine l_' (i_ To_) (aLoad Tryz.prog 3 (pt_ b8 1) H9) (r12.ld (by kernel_rfl)) ?_
  refine q_ (.bool (decide (To = To_))) (q_ (.bool (decide (To = To_))) (q_ (.bool (decide (To = To_))) (s_nil (k14 _ _ ?_))))
  refine w_ret ?_
  refine b_ret (fn := Tryz.f57) (vs := [.bool (decide (To = To_))]) (aRes_tmp (by kernel_rfl) (rfl)) ?_
  obtain rfl := Option.some.inj r17
  exact ⟨rfl, (((FrS.refl (W := []) wf).extR e4).extR e10)⟩
 have r18 := ite_f h16 hr
 refine q_ (.bool false) (n_' (n_' (n_' (n_' (n_' (q_ (.bool false) (q_ (.bool false) (s_nil (k14 _ _ ?_)))))))))
 refine w_ret ?_
 refine b_ret (fn := Tryz.f57) (vs := [.bool false]) (aRes_tmp (by kernel_rfl) (rfl)) ?_
 obtain rfl := Option.some.inj r18
 exact ⟨rfl, (((FrS.refl (W := []) wf).extR e4).extR e10)⟩
end Go.Vd

/-! (KSt1) -/

set_option maxRecDepth 100000
set_option maxHeartbeats 4000000
set_option linter.unusedVariables false
namespace Go.Vd
open Go.Proofs
attribute [local irreducible] wpSeq wpOrd aWp
theorem c_slices_CompactFunc {H : AH} {hd_s : Value} {fp_s : Fp} {s : List (Int × Int × Int)} {r : List (Int × Int × Int) × List (Int × Int × Int)}
    (wf : WF H) (h_s : Ow enc_i64_i64_i64 3 H hd_s s fp_s) (hr : z_slices_CompactFunc s = some r) :
    ACalls Tryz.prog 56 #[hd_s, .func (.func 57) #[] #[]] H fun v H' => ∃ (s3 : Value), v = s3 ∧ FrS fp_s H H' ∧ Ow enc_i64_i64_i64 3 H' s3 r.1 fp_s ∧ Ow enc_i64_i64_i64 3 H' hd_s r.2 fp_s := by
 refine acalls_of_body mixed Tryz.func56 rfl (Nat.le_of_ble_eq_true rfl) ?_
 unfold z_slices_CompactFunc at hr
 refine w_seqk fun _ k6 => g_' (q_ (.slice none 0 0) (s_nil (k6 _ _ (w_seqk fun _ k7 => w_seqk fun _ k8 => g_' (q_ (hd_s) ?_)))))
 refine l_' (i_ (s.length : Int)) (aLen Tryz.prog 49 hd_s H) (h_s.sq.lenb (by kernel_rfl)) ?_
 refine q_ (.bool (decide ((s.length : Int) < 2))) (s_nil (k8 _ _ ?_))
 refine w_condp ((s.length : Int) < 2) (by kernel_rfl) rfl (fun h9 => ?_) (fun h9 => ?_)
 ·have r10 := ite_t h9 hr
  refine w_seqk fun _ k11 => g_' (q_ (hd_s) (q_ (hd_s) (s_nil (k11 _ _ ?_))))
  refine w_ret (th_ret ?_)
  refine b_ret (fn := Tryz.f56) (vs := [hd_s]) (aRes_tmp (by kernel_rfl) (rfl)) ?_
  obtain rfl := Option.some.inj r10
  exact ⟨(hd_s), rfl, (FrS.refl (W := fp_s) wf), h_s, h_s⟩
 have r12 := ite_f h9 hr
 refine w_skip (k7 _ _ (w_seqk fun _ k13 => w_seqk fun _ k14 => g_' (q_ (i_ 1) (s_nil (k14 _ _ ?_)))))
 obtain ⟨z18, hx16, r17⟩ := bind_some r12
 refine w_mid (fun α H19 => ∃ o15, z18 = Sum.inr o15 ∧ Has α [(0, hd_s)] ∧ FrS [] H H19) (fun _ k21 => ?_) (fun α H19 hM => ?_)
 ·refine w_block ?_
  obtain ⟨n23, hn24⟩ := loopO_iff.1 hx16
  refine w_loopn (fun n α H25 => ∃ (k3 : Int), iterO (fun zz_ => z_slices_CompactFunc_l1 s zz_) n k3 = some z18 ∧ Has α [(0, hd_s), (1, .func (.func 57) #[] #[]), (5, i_ k3)] ∧ FrS [] H H25) n23 ⟨1, hn24, ha_, (FrS.refl (W := []) wf)⟩ ?_
  rintro n23 α H25 ⟨k3, hi28, hh27, e26⟩ K33 k33
  obtain ⟨n29, z30, rfl, hz31, hn32⟩ := iter_succ hi28
  obtain ⟨β, rfl⟩ := has_ex hh27
  clear hh27
  replace hz31 : z_slices_CompactFunc_l1 s k3 = some z30 := hz31
  unfold z_slices_CompactFunc_l1 at hz31
  refine w_seqk fun _ k34 => w_seqk fun _ k35 => g_' (q_ (i_ k3) (q_ (hd_s) ?_))
  have u36 := (h_s.fr e26 Dj.nil_l)
  refine l_' (i_ (s.length : Int)) (aLen Tryz.prog 49 hd_s H25) (u36.sq.lenb (by kernel_rfl)) ?_
  refine q_ (.bool (decide (k3 < (s.length : Int)))) (s_nil (k35 _ _ ?_))
  refine w_condp (k3 < (s.length : Int)) (by kernel_rfl) rfl (fun h37 => ?_) (fun h37 => ?_)
  ·have r38 := ite_t h37 hz31
   refine w_skip (k34 _ _ (w_seqk fun _ k39 => w_block (w_seqk fun _ k40 => ?_)))
   refine w_draw [0, 1, 2, 3, 4, 5, 6, 7, 8, 9, 10] (by kernel_rfl) ?_
   refine e_' (.func (.func 57) #[] #[]) (e_' (hd_s) (e_' (i_ k3) ?_))
   obtain ⟨g41, r42⟩ := G_some r38
   refine m_' (elp hd_s 3 k3.toNat 0) (aIndexAddr Tryz.prog 49 hd_s (i_ k3)) (u36.sq.idxb (by kernel_rfl) g41 h37) ?_
   refine m_' (.agg #[i_ ((gt s k3).1), i_ ((gt s k3).2.1), i_ ((gt s k3).2.2)]) (aLoad Tryz.prog 53 (elp hd_s 3 k3.toNat 0) H25) (u36.sq.ld g41 h37 (by kernel_rfl)) ?_
   refine e_' (hd_s) (e_' (i_ k3) ?_)
   obtain ⟨g43, r44⟩ := G_some r42
   refine d_w ((k3 - 1)) (k := .i64) (x := (k3 - 1)) (by kernel_rfl) (wrap64 g43) ?_
   obtain ⟨g45, r46⟩ := G_some r44
   refine m_' (elp hd_s 3 (k3 - 1).toNat 0) (aIndexAddr Tryz.prog 49 hd_s (i_ (k3 - 1))) (u36.sq.idxb (by kernel_rfl) g45.1 g45.2) ?_
   refine m_' (.agg #[i_ ((gt s (k3 - 1)).1), i_ ((gt s (k3 - 1)).2.1), i_ ((gt s (k3 - 1)).2.2)]) (aLoad Tryz.prog 53 (elp hd_s 3 (k3 - 1).toNat 0) H25) (u36.sq.ld g45.1 g45.2 (by kernel_rfl)) ?_
   obtain ⟨y47, hy48, r49⟩ := bind_some r46
   refine d_ck 57 #[.agg #[i_ ((gt s k3).1), i_ ((gt s k3).2.1), i_ ((gt s k3).2.2)], .agg #[i_ ((gt s (k3 - 1)).1), i_ ((gt s (k3 - 1)).2.1), i_ ((gt s (k3 - 1)).2.2)]] (by kernel_rfl) (c_normal_Of_1 e26.wf hy48) ?_
   rintro _ H50 ⟨rfl, e51⟩
   refine ⟨st_nil, ?_⟩
   refine d_nil ?_
   refine k40 _ _ ?_
   refine w_cond (y47) (by kernel_rfl) rfl (fun h52 => ?_) (fun h52 => ?_)
   ·have r53 := ite_t h52 r49
    refine w_seqk fun _ k54 => g_' (q_ (hd_s) (q_ (i_ k3) ?_))
    obtain ⟨g55, r56⟩ := G_some r53
    have u60 := (u36.fr e51 Dj.nil_l)
    obtain ⟨s57, q58, vw59⟩ := Ow.view (P := Tryz.prog) u60 (t := 49) (by kernel_rfl) (lo := some (i_ k3)) (l := k3.toNat) (aBound_int _ (by have := g55; omega)) (by have := g55; omega)
    obtain ⟨a61, n62, c63, rfl⟩ := vw59.form
    refine s_ql (.slice a61 n62 c63) (by kernel_rfl) q58 ?_
    refine q_ (.slice a61 n62 c63) (s_nil (k54 _ _ (w_seqk fun _ k64 => w_seqk fun _ k65 => g_' (q_ (i_ 1) (s_nil (k65 _ _ ?_))))))
    obtain ⟨o66, hx67, r68⟩ := bind_some r56
    refine w_mid (fun α H69 => Has α [(0, hd_s), (5, i_ o66.2)] ∧ FrS fp_s H50 H69 ∧ Ow enc_i64_i64_i64 3 H69 hd_s o66.1 fp_s) (fun _ k73 => ?_) (fun α H69 hM => ?_)
    ·refine w_block ?_
     obtain ⟨n75, hn76⟩ := loopO_iff.1 hx67
     refine w_loopn (fun n α H77 => ∃ (s0 : List (Int × Int × Int)), ∃ (k1 : Int), ∃ (k22 : Int), iterO (fun zz_ => z_slices_CompactFunc_l0 k3 zz_.1 zz_.2.1 zz_.2.2) n (s0, k1, k22) = some o66 ∧ Has α [(0, hd_s), (1, .func (.func 57) #[] #[]), (5, i_ k1), (6, .slice a61 n62 c63), (7, i_ k22)] ∧ FrS fp_s H50 H77 ∧ Ow enc_i64_i64_i64 3 H77 hd_s s0 fp_s) n75 ⟨s, k3, 1, hn76, ha_, (FrS.refl (W := fp_s) e51.wf), u60⟩ ?_
     rintro n75 α H77 ⟨s0, k1, k22, hi82, hh81, e78, m80⟩ K87 k87
     obtain ⟨n83, z84, rfl, hz85, hn86⟩ := iter_succ hi82
     obtain ⟨β, rfl⟩ := has_ex hh81
     clear hh81
     replace hz85 : z_slices_CompactFunc_l0 k3 s0 k1 k22 = some z84 := hz85
     unfold z_slices_CompactFunc_l0 at hz85
     refine w_seqk fun _ k88 => w_seqk fun _ k89 => g_' (q_ (i_ k22) (q_ (.slice a61 n62 c63) ?_))
     obtain ⟨hs90, hl91⟩ := vw59.sq m80
     refine l_' (i_ ((s0.drop k3.toNat).length : Int)) (aLen Tryz.prog 49 (.slice a61 n62 c63) H77) (hs90.lenb (by kernel_rfl)) ?_
     refine q_ (.bool (decide (k22 < ((s0.drop k3.toNat).length : Int)))) (s_nil (k89 _ _ ?_))
     refine w_condp (k22 < ((s0.drop k3.toNat).length : Int)) (by kernel_rfl) rfl (fun h93 => ?_) (fun h93 => ?_)
     ·have r94 := ite_t h93 hz85
      refine w_skip (k88 _ _ (w_seqk fun _ k95 => w_block (w_seqk fun _ k96 => ?_)))
      refine w_draw [0, 1, 2, 3, 4, 5, 6, 7, 8, 9, 10, 11] (by kernel_rfl) ?_
      refine e_' (.func (.func 57) #[] #[]) (e_' (.slice a61 n62 c63) (e_' (i_ k22) ?_))
      obtain ⟨hs97, hl98⟩ := vw59.sq m80
      obtain ⟨g100, r101⟩ := G_some r94
      refine m_' (elp (.slice a61 n62 c63) 3 k22.toNat 0) (aIndexAddr Tryz.prog 49 (.slice a61 n62 c63) (i_ k22)) (hs97.idxb (by kernel_rfl) g100 h93) ?_
      refine m_' (.agg #[i_ ((gt (s0.drop k3.toNat) k22).1), i_ ((gt (s0.drop k3.toNat) k22).2.1), i_ ((gt (s0.drop k3.toNat) k22).2.2)]) (aLoad Tryz.prog 53 (elp (.slice a61 n62 c63) 3 k22.toNat 0) H77) (hs97.ld g100 h93 (by kernel_rfl)) ?_
      refine e_' (.slice a61 n62 c63) (e_' (i_ k22) ?_)
      obtain ⟨g102, r103⟩ := G_some r101
      refine d_w ((k22 - 1)) (k := .i64) (x := (k22 - 1)) (by kernel_rfl) (wrap64 g102) ?_
      obtain ⟨hs104, hl105⟩ := vw59.sq m80
      obtain ⟨g107, r108⟩ := G_some r103
      refine m_' (elp (.slice a61 n62 c63) 3 (k22 - 1).toNat 0) (aIndexAddr Tryz.prog 49 (.slice a61 n62 c63) (i_ (k22 - 1))) (hs104.idxb (by kernel_rfl) g107.1 g107.2) ?_
      refine m_' (.agg #[i_ ((gt (s0.drop k3.toNat) (k22 - 1)).1), i_ ((gt (s0.drop k3.toNat) (k22 - 1)).2.1), i_ ((gt (s0.drop k3.toNat) (k22 - 1)).2.2)]) (aLoad Tryz.prog 53 (elp (.slice a61 n62 c63) 3 (k22 - 1).toNat 0) H77) (hs104.ld g107.1 g107.2 (by kernel_rfl)) ?_
      obtain ⟨y109, hy110, r111⟩ := bind_some r108
      refine d_ck 57 #[.agg #[i_ ((gt (s0.drop k3.toNat) k22).1), i_ ((gt (s0.drop k3.toNat) k22).2.1), i_ ((gt (s0.drop k3.toNat) k22).2.2)], .agg #[i_ ((gt (s0.drop k3.toNat) (k22 - 1)).1), i_ ((gt (s0.drop k3.toNat) (k22 - 1)).2.1), i_ ((gt (s0.drop k3.toNat) (k22 - 1)).2.2)]] (by kernel_rfl) (c_normal_Of_1 e78.wf hy110) ?_
      rintro _ H112 ⟨rfl, e113⟩
      refine ⟨st_nil, ?_⟩
      refine e_' (.bool (!y109)) ?_
      refine d_nil ?_
      refine k96 _ _ ?_
      refine w_cond ((!y109)) (by kernel_rfl) rfl (fun h114 => ?_) (fun h114 => ?_)
      ·have r115 := ite_t h114 r111
       refine w_seqk fun _ k116 => g_' (q_ (hd_s) (q_ (i_ k1) (q_ (.slice a61 n62 c63) (q_ (i_ k22) ?_))))
       have u119 := (m80.fr e113 Dj.nil_l)
       obtain ⟨hs117, hl118⟩ := vw59.sq u119
       refine l_' (elp (.slice a61 n62 c63) 3 k22.toNat 0) (aIndexAddr Tryz.prog 49 (.slice a61 n62 c63) (i_ k22)) (hs117.idxb (by kernel_rfl) g100 h93) ?_
       refine l_' (.agg #[i_ ((gt (s0.drop k3.toNat) k22).1), i_ ((gt (s0.drop k3.toNat) k22).2.1), i_ ((gt (s0.drop k3.toNat) k22).2.2)]) (aLoad Tryz.prog 53 (elp (.slice a61 n62 c63) 3 k22.toNat 0) H112) (hs117.ld g100 h93 (by kernel_rfl)) ?_
       obtain ⟨g121, r122⟩ := G_some r115
       refine l_' (elp hd_s 3 k1.toNat 0) (aIndexAddr Tryz.prog 49 hd_s (i_ k1)) (u119.sq.idxb (by kernel_rfl) g121.1 g121.2) ?_
       obtain ⟨H123, q124, e125, hm126⟩ := Ow.store (P := Tryz.prog) (t := 53) (off := 0) e113.wf u119 g121.1 g121.2 (.agg #[i_ ((gt (s0.drop k3.toNat) k22).1), i_ ((gt (s0.drop k3.toNat) k22).2.1), i_ ((gt (s0.drop k3.toNat) k22).2.2)]) [i_ ((gt (s0.drop k3.toNat) k22).1), i_ ((gt (s0.drop k3.toNat) k22).2.1), i_ ((gt (s0.drop k3.toNat) k22).2.2)] (by kernel_rfl) (by kernel_rfl) rfl ((gt (s0.drop k3.toNat) k22).1, (gt (s0.drop k3.toNat) k22).2.1, (gt (s0.drop k3.toNat) k22).2.2) (Nat.le_of_ble_eq_true rfl) (by kernel_rfl)
       refine s_ek (undef) (by kernel_rfl) (map_ok q124) ?_
       refine s_nil (k116 _ _ (g_' (q_ (i_ k1) ?_)))
       obtain ⟨g127, r128⟩ := G_some r122
       refine w_' (k1 + 1) (wrap64 (by have := g127; omega)) ?_
       refine q_ (i_ (k1 + 1)) (s_nil (k95 _ _ (g_' (q_ (i_ k22) ?_))))
       obtain ⟨g129, r130⟩ := G_some r128
       refine w_' (k22 + 1) (wrap64 (by have := g129; omega)) ?_
       refine q_ (i_ (k22 + 1)) (s_nil ?_)
       obtain rfl := Option.some.inj r130
       exact k87 n83 _ _ (Nat.lt_succ_self _) ⟨(s0.set k1.toNat ((gt (s0.drop k3.toNat) k22).1, (gt (s0.drop k3.toNat) k22).2.1, (gt (s0.drop k3.toNat) k22).2.2)), (k1 + 1), (k22 + 1), hn86, ha_, (FrS.step e51.wf (FrS.step e51.wf (FrS.step e51.wf (FrS.refl (W := fp_s) e51.wf) e78 Inn.refl') e113 Inn.nil) e125 Inn.refl'), hm126⟩
      have r131 := ite_bf h114 r111
      refine w_skip (k95 _ _ (g_' (q_ (i_ k22) ?_)))
      obtain ⟨g132, r133⟩ := G_some r131
      refine w_' (k22 + 1) (wrap64 (by have := g132; omega)) ?_
      refine q_ (i_ (k22 + 1)) (s_nil ?_)
      have u134 := (m80.fr e113 Dj.nil_l)
      obtain rfl := Option.some.inj r133
      exact k87 n83 _ _ (Nat.lt_succ_self _) ⟨s0, k1, (k22 + 1), hn86, ha_, (FrS.step e51.wf (FrS.step e51.wf (FrS.refl (W := fp_s) e51.wf) e78 Inn.refl') e113 Inn.nil), u134⟩
     have r135 := ite_f h93 hz85
     refine w_exit (th_exit (th_exit (bl_eq ?_)))
     obtain rfl := Option.some.inj r135
     obtain rfl := it_inr hn86
     exact k73 _ _ ⟨ha_, (FrS.step e51.wf (FrS.refl (W := fp_s) e51.wf) e78 Inn.refl'), m80⟩
    obtain ⟨hh74, e70, m72⟩ := hM
    obtain ⟨β, rfl⟩ := has_ex hh74
    clear hh74
    refine k64 _ _ (w_seqk fun _ k136 => g_' (q_ (hd_s) (q_ (i_ o66.2) ?_)))
    obtain ⟨g137, r138⟩ := G_some r68
    obtain ⟨s139, q140, vw141⟩ := Ow.view (P := Tryz.prog) m72 (t := 49) (by kernel_rfl) (lo := some (i_ o66.2)) (l := o66.2.toNat) (aBound_int _ (by have := g137; omega)) (by have := g137; omega)
    obtain ⟨a142, n143, c144, rfl⟩ := vw141.form
    refine s_ql (.slice a142 n143 c144) (by kernel_rfl) q140 ?_
    obtain ⟨g145, r146⟩ := G_some r138
    obtain ⟨H147, q148, e149, hm150⟩ := View.clear (P := Tryz.prog) (m := 24) (at_ := #[49]) vw141 ((0, 0, 0) : Int × Int × Int) e70.wf m72 g145 rfl (by kernel_rfl)
    refine s_ek (.tuple #[]) (by kernel_rfl) (map_ok q148) ?_
    refine s_nil (k136 _ _ (w_seqk fun _ k151 => g_' (q_ (hd_s) (q_ (i_ o66.2) ?_))))
    obtain ⟨g152, r153⟩ := G_some r146
    obtain ⟨s154, q155, hs156⟩ := Ow.head (P := Tryz.prog) hm150 (t := 49) (by kernel_rfl) (hi := (some (i_ o66.2))) (r := o66.2.toNat) (aBound_int _ (by have := g152; omega)) (by have := g152; omega)
    obtain ⟨a157, n158, c159, rfl⟩ := hs156.form
    refine s_ql (.slice a157 n158 c159) (by kernel_rfl) q155 ?_
    refine q_ (.slice a157 n158 c159) (s_nil (k151 _ _ ?_))
    refine w_ret (bl_ret (th_ret (th_ret (bl_ret (th_ret (th_ret ?_))))))
    obtain ⟨v161, hv162, hz163⟩ := map_some r153
    subst hz163
    obtain rfl := it_inr hn32
    have hq164 := elim_inl r17
    rw [hq164] at hv162
    refine b_ret (fn := Tryz.f56) (vs := [.slice a157 n158 c159]) (aRes_tmp (by kernel_rfl) (rfl)) ?_
    obtain rfl := Option.some.inj hv162
    exact ⟨(.slice a157 n158 c159), rfl, (FrS.step wf (FrS.step wf (FrS.step wf (FrS.step wf (FrS.refl (W := fp_s) wf) e26 Inn.nil) e51 Inn.nil) e70 Inn.refl') e149 Inn.refl'), hs156, hm150⟩
   have r165 := ite_bf h52 r49
   refine w_skip (k39 _ _ (g_' (q_ (i_ k3) ?_)))
   obtain ⟨g166, r167⟩ := G_some r165
   refine w_' (k3 + 1) (wrap64 (by have := g166; omega)) ?_
   refine q_ (i_ (k3 + 1)) (s_nil ?_)
   obtain rfl := Option.some.inj r167
   exact k33 n29 _ _ (Nat.lt_succ_self _) ⟨(k3 + 1), hn32, ha_, (FrS.step wf (FrS.step wf (FrS.refl (W := []) wf) e26 Inn.nil) e51 Inn.nil)⟩
  have r168 := ite_f h37 hz31
  refine w_exit (th_exit (th_exit (bl_eq ?_)))
  obtain rfl := Option.some.inj r168
  obtain rfl := it_inr hn32
  exact k21 _ _ ⟨_, rfl, ha_, (FrS.step wf (FrS.refl (W := []) wf) e26 Inn.nil)⟩
 obtain ⟨o15, rfl, hh22, e20⟩ := hM
 have r169 := elim_inr r17
 obtain ⟨β, rfl⟩ := has_ex hh22
 clear hh22
 refine k13 _ _ (w_seqk fun _ k170 => g_' (q_ (hd_s) (q_ (hd_s) (s_nil (k170 _ _ ?_)))))
 refine w_ret ?_
 refine b_ret (fn := Tryz.f56) (vs := [hd_s]) (aRes_tmp (by kernel_rfl) (rfl)) ?_
 have u171 := (h_s.fr e20 Dj.nil_l)
 obtain rfl := Option.some.inj r169
 exact ⟨(hd_s), rfl, (FrS.step wf (FrS.refl (W := fp_s) wf) e20 Inn.nil), u171, u171⟩
theorem c_normal_Of {H : AH} {hd_Arcs : Value} {fp_Arcs : Fp} {N_ : Int} {Arcs : List (Int × Int × Int)} {r : Int × List (Int × Int × Int) × Er}
    (wf : WF H) (h_Arcs : Sq enc_i64_i64_i64 3 H hd_Arcs Arcs fp_Arcs) (hr : z_normal_Of N_ Arcs = some r) :
    ACalls Tryz.prog 32 #[.agg #[i_ N_, hd_Arcs]] H fun v H' => ∃ (s3 : Value) (f4 : Fp) (v7 : Value) (f8 : Fp), v = .tuple #[.agg #[i_ r.1, s3], v7] ∧ FrS [] H H' ∧ Ow enc_i64_i64_i64 3 H' s3 r.2.1 f4 ∧ Ev 43 81 H' v7 r.2.2 f8 ∧ Inn [] H f4 ∧ Inn [] H f8 ∧ Dj f4 f8 := by
 refine acalls_of_body mixed Tryz.func32 rfl (Nat.le_of_ble_eq_true rfl) ?_
 unfold z_normal_Of at hr
 refine w_seqk fun _ k12 => g_' ?_
 refine s_rwl wf [i_ N_, hd_Arcs] (one_cons (rfl) (one_cons (h_Arcs.one1) (one_nil))) (by kernel_rfl) fun b13 H14 e15 hb16 r17 => ?_
 refine s_rwk e15.wf [i_ 0, .slice none 0 0] (by kernel_rfl) fun b19 H20 e21 hb22 r23 => ?_
 refine q_ (.nilIface) (s_nil (k12 _ _ (w_seqk fun _ k25 => w_seqk fun _ k26 => g_' ?_)))
 have u27 := (r17.ext e21)
 refine l_' (.agg #[i_ N_, hd_Arcs]) (aLoad Tryz.prog 51 (pt_ b13 0) H20) (u27.ld (by kernel_rfl)) ?_
 have u28 := ((h_Arcs.ext e15).ext e21)
 obtain ⟨y29, hy30, r31⟩ := bind_some hr
 refine s_ck 53 #[.agg #[i_ N_, hd_Arcs]] (by kernel_rfl) (c_gtext_Check e21.wf u28 hy30) ?_
 rintro v32 H34 ⟨_, f33, rfl, e35, m36, i37⟩
 refine q_ (v32) (s_nil (k26 _ _ (w_seqk fun _ k39 => g_' (q_ (v32) ?_))))
 rcases (m36).cases with ⟨h40, rfl⟩ | ⟨h40, t41, x42, rfl⟩
 ·have r43 := ite_t h40 r31
  refine q_ (.bool false) (s_nil (k39 _ _ ?_))
  refine w_cond false (by kernel_rfl) rfl (fun h => by cases h) (fun _ => ?_)
  refine w_skip (k25 _ _ (w_seqk fun _ k44 => g_' (q_ (pt_ b13 0) ?_)))
  have u45 := (u27.frS e35 Dj.nil_l)
  refine l_' (i_ N_) (aLoad Tryz.prog 3 (pt_ b13 0) H34) (u45.ld (by kernel_rfl)) ?_
  refine q_ (.agg #[i_ N_, .slice none 0 0]) ?_
  refine s_rwk e35.wf [i_ 0, .slice none 0 0] (by kernel_rfl) fun b46 H47 e48 hb49 r50 => ?_
  obtain ⟨H52, q53, e54, r55⟩ := Row.store (P := Tryz.prog) (t := 51) (p := 0) e48.wf r50 (.agg #[i_ N_, .slice none 0 0]) [i_ N_, .slice none 0 0] (by kernel_rfl) (by kernel_rfl) (one_cons (rfl) (one_cons (rfl) (one_nil))) (Nat.le_of_ble_eq_true (by kernel_rfl)) [i_ N_, .slice none 0 0] (by kernel_rfl)
  refine s_ek (undef) (by kernel_rfl) (map_ok q53) ?_
  refine s_nil (k44 _ _ (w_seqk fun _ k56 => w_seqk fun _ k57 => g_' (q_ (pt_ b13 1) ?_)))
  have u58 := ((u45.ext e48).frS e54 (hb49.djn (r17.ltF.le (ntr e21.next e35.next))))
  refine l_' (hd_Arcs) (aLoad Tryz.prog 49 (pt_ b13 1) H52) (u58.ld (by kernel_rfl)) ?_
  have u59 := (((u28.fr e35 Dj.nil_l).ext e48).fr e54 (hb49.djn (h_Arcs.lt.le (ntr (ntr e15.next e21.next) e35.next))))
  refine l_' (i_ (Arcs.length : Int)) (aLen Tryz.prog 49 hd_Arcs H52) (u59.lenb (by kernel_rfl)) ?_
  refine q_ (i_ 0) (s_nil (k57 _ _ ?_))
  obtain ⟨o60, hx61, r62⟩ := bind_some r43
  refine w_mid (fun α H63 => ∃ (s67 : Value) (f68 : Fp), Has α [(2, pt_ b19 0), (5, pt_ b46 0)] ∧ FrS [b46] H52 H63 ∧ Ow enc_i64_i64_i64 3 H63 s67 o60 f68 ∧ Row H63 b46 [i_ N_, s67] ∧ Inn [] H52 f68) (fun _ k72 => ?_) (fun α H63 hM => ?_)
  ·refine w_block ?_
   obtain ⟨n74, hn75⟩ := loopO_iff.1 hx61
   refine w_loopn (fun n α H76 => ∃ (i0 : Int), ∃ (c1 : List (Int × Int × Int)), ∃ (s80 : Value), ∃ (f81 : Fp), iterO (fun zz_ => z_normal_Of_l0 Arcs zz_.1 zz_.2) n (i0, c1) = some o60 ∧ Has α [(2, pt_ b19 0), (5, pt_ b46 0), (18, hd_Arcs), (19, i_ (Arcs.length : Int)), (20, i_ i0)] ∧ FrS [b46] H52 H76 ∧ Ow enc_i64_i64_i64 3 H76 s80 c1 f81 ∧ Row H76 b46 [i_ N_, s80] ∧ Inn [] H52 f81) n74 ⟨0, [], (.slice none 0 0), [], hn75, ha_, (FrS.refl (W := [b46]) e54.wf), (Ow.nil (by decide)), r55, Inn.nil⟩ ?_
   rintro n74 α H76 ⟨i0, c1, s80, f81, hi86, hh85, e77, m79, m83, i84⟩ K91 k91
   obtain ⟨n87, z88, rfl, hz89, hn90⟩ := iter_succ hi86
   obtain ⟨β, rfl⟩ := has_ex hh85
   clear hh85
   replace hz89 : z_normal_Of_l0 Arcs i0 c1 = some z88 := hz89
   unfold z_normal_Of_l0 at hz89
   obtain ⟨a92, n93, c94, rfl⟩ := m79.form
   refine w_seqk fun _ k95 => g_' (q_ (.bool (decide (i0 < (Arcs.length : Int)))) (s_nil (k95 _ _ (w_seqk fun _ k96 => ?_))))
   refine w_condp (i0 < (Arcs.length : Int)) (by kernel_rfl) rfl (fun h97 => ?_) (fun h97 => ?_)
   ·have r98 := ite_t h97 hz89
    refine w_skip (k96 _ _ (w_seqk fun _ k99 => w_block (w_seqk fun _ k100 => g_' ?_)))
    obtain ⟨g101, r102⟩ := G_some r98
    have u103 := (u59.fr e77 (hb49.djn (h_Arcs.lt.le (ntr (ntr e15.next e21.next) e35.next))))
    refine l_' (elp hd_Arcs 3 i0.toNat 0) (aIndexAddr Tryz.prog 49 hd_Arcs (i_ i0)) (u103.idxb (by kernel_rfl) g101 h97) ?_
    refine l_' (.agg #[i_ ((gt Arcs i0).1), i_ ((gt Arcs i0).2.1), i_ ((gt Arcs i0).2.2)]) (aLoad Tryz.prog 53 (elp hd_Arcs 3 i0.toNat 0) H76) (u103.ld g101 h97 (by kernel_rfl)) ?_
    refine s_rwk e77.wf [i_ 0, i_ 0, i_ 0] (by kernel_rfl) fun b104 H105 e106 hb107 r108 => ?_
    obtain ⟨H110, q111, e112, r113⟩ := Row.store (P := Tryz.prog) (t := 53) (p := 0) e106.wf r108 (.agg #[i_ ((gt Arcs i0).1), i_ ((gt Arcs i0).2.1), i_ ((gt Arcs i0).2.2)]) [i_ ((gt Arcs i0).1), i_ ((gt Arcs i0).2.1), i_ ((gt Arcs i0).2.2)] (by kernel_rfl) (by kernel_rfl) (one_cons (rfl) (one_cons (rfl) (one_cons (rfl) (one_nil)))) (Nat.le_of_ble_eq_true (by kernel_rfl)) [i_ ((gt Arcs i0).1), i_ ((gt Arcs i0).2.1), i_ ((gt Arcs i0).2.2)] (by kernel_rfl)
    refine s_ek (undef) (by kernel_rfl) (map_ok q111) ?_
    refine s_nil (k100 _ _ (w_seqk fun _ k114 => g_' (q_ (pt_ b104 0) ?_)))
    refine l_' (i_ ((gt Arcs i0).1)) (aLoad Tryz.prog 3 (pt_ b104 0) H110) (r113.ld (by kernel_rfl)) ?_
    refine q_ (pt_ b104 1) ?_
    refine l_' (i_ ((gt Arcs i0).2.1)) (aLoad Tryz.prog 3 (pt_ b104 1) H110) (r113.ld (by kernel_rfl)) ?_
    refine q_ (.bool (!decide (((gt Arcs i0).1) = ((gt Arcs i0).2.1)))) (s_nil (k114 _ _ ?_))
    refine w_condn (((gt Arcs i0).1) = ((gt Arcs i0).2.1)) (by kernel_rfl) rfl (fun h115 => ?_) (fun h115 => ?_)
    ·have r116 := ite_f h115 r102
     refine g_' (q_ (pt_ b46 1) ?_)
     have u117 := ((m83.ext e106).frS e112 (hb107.djn (r50.ltF.le (ntr e54.next e77.next))))
     refine l_' (.slice a92 n93 c94) (aLoad Tryz.prog 49 (pt_ b46 1) H110) (u117.ld (by kernel_rfl)) ?_
     refine l_' (.agg #[i_ ((gt Arcs i0).1), i_ ((gt Arcs i0).2.1), i_ ((gt Arcs i0).2.2)]) (aLoad Tryz.prog 53 (pt_ b104 0) H110) (r113.ld (by kernel_rfl)) ?_
     refine s_owk (enc := enc_i64_i64_i64) (sz := 3) e112.wf [((gt Arcs i0).1, (gt Arcs i0).2.1, (gt Arcs i0).2.2)] 1 (by decide) (fun _ _ => rfl) (fun _ _ => rfl) rfl (by kernel_rfl) fun s118 f119 H120 e121 hf122 hm123 => ?_
     obtain ⟨a124, n125, c126, rfl⟩ := hm123.form
     have u128 := (((m79.ext e106).fr e112 (hb107.djn m79.lt)).ext e121)
     obtain ⟨g129, r130⟩ := G_some r116
     obtain ⟨s131, H132, f133, q137, e134, hm135, hf136⟩ := Ow.append (P := Tryz.prog) 24 e121.wf u128 hm123.sq (fun _ _ => rfl) (at_ := #[49, 49]) rfl rfl (by kernel_rfl) (by kernel_rfl) (by decide) (by have := g129; first | omega | (simp only [List.length_cons, List.length_nil] at this ⊢; omega) | (simp at this ⊢; omega))
     obtain ⟨a138, n139, c140, rfl⟩ := hm135.form
     refine s_ek (.slice a138 n139 c140) (by kernel_rfl) (q137) ?_
     refine q_ (pt_ b46 1) ?_
     have u146 := ((u117.ext e121).frS e134 (i84.djn (r50.ltF.le e54.next)))
     obtain ⟨H142, q143, e144, r145⟩ := Row.store (P := Tryz.prog) (t := 49) (p := 1) e134.wf u146 (.slice a138 n139 c140) [.slice a138 n139 c140] (by kernel_rfl) (by kernel_rfl) (one_cons (hm135.one1) (one_nil)) (Nat.le_of_ble_eq_true (by kernel_rfl)) [i_ N_, .slice a138 n139 c140] (by kernel_rfl)
     refine s_ek (undef) (by kernel_rfl) (map_ok q143) ?_
     refine s_nil (k99 _ _ (g_' ?_))
     obtain ⟨g147, r148⟩ := G_some r130
     refine w_' (i0 + 1) (wrap64 (by have := g147; omega)) ?_
     refine q_ (i_ (i0 + 1)) (s_nil ?_)
     have u149 := (hm135.fr e144 (Dj.symm (hf136.dj (i84.djn (r50.ltF.le e54.next)) (r50.ltF.le (ntr (ntr (ntr (ntr e54.next e77.next) e106.next) e112.next) e121.next)))))
     obtain rfl := Option.some.inj r148
     exact k91 n87 _ _ (Nat.lt_succ_self _) ⟨(i0 + 1), (c1 ++ [((gt Arcs i0).1, (gt Arcs i0).2.1, (gt Arcs i0).2.2)]), (.slice a138 n139 c140), f133, hn90, ha_, (FrS.step e54.wf (FrS.step e54.wf ((FrS.step e54.wf ((FrS.step e54.wf (FrS.refl (W := [b46]) e54.wf) e77 Inn.refl').extR e106) e112 (hb107.fresh e77.next)).extR e121) e134 (i84.fresh (Nat.le_refl _))) e144 Inn.refl'), u149, r145, (Inn.trans (i84.fresh (Nat.le_refl _)) (ntr (ntr (ntr e77.next e106.next) e112.next) e121.next) hf136)⟩
    have r150 := ite_t h115 r102
    refine w_skip (k99 _ _ (g_' ?_))
    obtain ⟨g151, r152⟩ := G_some r150
    refine w_' (i0 + 1) (wrap64 (by have := g151; omega)) ?_
    refine q_ (i_ (i0 + 1)) (s_nil ?_)
    have u153 := ((m79.ext e106).fr e112 (hb107.djn m79.lt))
    have u154 := ((m83.ext e106).frS e112 (hb107.djn (r50.ltF.le (ntr e54.next e77.next))))
    obtain rfl := Option.some.inj r152
    exact k91 n87 _ _ (Nat.lt_succ_self _) ⟨(i0 + 1), c1, (.slice a92 n93 c94), f81, hn90, ha_, (FrS.step e54.wf ((FrS.step e54.wf (FrS.refl (W := [b46]) e54.wf) e77 Inn.refl').extR e106) e112 (hb107.fresh e77.next)), u153, u154, (i84.fresh (Nat.le_refl _))⟩
   have r155 := ite_f h97 hz89
   refine w_exit (th_exit (th_exit (bl_eq ?_)))
   obtain rfl := Option.some.inj r155
   obtain rfl := it_inr hn90
   exact k72 _ _ ⟨(.slice a92 n93 c94), f81, ha_, (FrS.step e54.wf (FrS.refl (W := [b46]) e54.wf) e77 Inn.refl'), m79, m83, (i84.fresh (Nat.le_refl _))⟩
  obtain ⟨s67, f68, hh73, e64, m66, m70, i71⟩ := hM
  obtain ⟨β, rfl⟩ := has_ex hh73
  clear hh73
  obtain ⟨a156, n157, c158, rfl⟩ := m66.form
  refine k56 _ _ (w_seqk fun _ k159 => g_' (q_ (pt_ b46 1) ?_))
  refine l_' (.slice a156 n157 c158) (aLoad Tryz.prog 49 (pt_ b46 1) H63) (m70.ld (by kernel_rfl)) ?_
  obtain ⟨g160, r161⟩ := G_some r62
  obtain ⟨y162, hy163, r164⟩ := bind_some r161
  refine s_ck 54 #[.slice a156 n157 c158, .func (.func 55) #[] #[]] (by kernel_rfl) (a_sortO (enc := enc_i64_i64_i64) (fun _ => rfl) (by intro x v hv; simp only [enc_i64_i64_i64, List.mem_cons, List.not_mem_nil, or_false] at hv; rcases hv with rfl | rfl | rfl <;> rfl) (by intro x v hv; simp only [enc_i64_i64_i64, List.mem_cons, List.not_mem_nil, or_false] at hv; rcases hv with rfl | rfl | rfl <;> rfl) (c := (fun (a_ b_ : Int × Int × Int) => z_normal_order a_.1 a_.2.1 a_.2.2 b_.1 b_.2.1 b_.2.2)) (Go.Proofs.enters_of Tryz.func55 (by kernel_rfl) rfl) (fun x y r hr => (c_normal_order aNil_wf hr).mono fun v H' h => h.1) e64.wf m66 g160 hy163) ?_
  rintro _ H165 ⟨rfl, e166, hm167⟩
  refine s_nil (k159 _ _ (w_seqk fun _ k168 => g_' (q_ (pt_ b46 1) ?_)))
  have u169 := (m70.frS e166 (i71.djn (r50.ltF.le e54.next)))
  refine l_' (.slice a156 n157 c158) (aLoad Tryz.prog 49 (pt_ b46 1) H165) (u169.ld (by kernel_rfl)) ?_
  obtain ⟨y170, hy171, r172⟩ := bind_some r164
  refine s_ck 56 #[.slice a156 n157 c158, .func (.func 57) #[] #[]] (by kernel_rfl) (c_slices_CompactFunc e166.wf hm167 hy171) ?_
  rintro s173 H174 ⟨_, rfl, e175, m176, m177⟩
  obtain ⟨a179, n180, c181, rfl⟩ := m176.form
  refine q_ (pt_ b46 1) ?_
  have u186 := (u169.frS e175 (i71.djn (r50.ltF.le e54.next)))
  obtain ⟨H182, q183, e184, r185⟩ := Row.store (P := Tryz.prog) (t := 49) (p := 1) e175.wf u186 (.slice a179 n180 c181) [.slice a179 n180 c181] (by kernel_rfl) (by kernel_rfl) (one_cons (m176.one1) (one_nil)) (Nat.le_of_ble_eq_true (by kernel_rfl)) [i_ N_, .slice a179 n180 c181] (by kernel_rfl)
  refine s_ek (undef) (by kernel_rfl) (map_ok q183) ?_
  refine s_nil (k168 _ _ (w_seqk fun _ k187 => g_' ?_))
  refine l_' (.agg #[i_ N_, .slice a179 n180 c181]) (aLoad Tryz.prog 51 (pt_ b46 0) H182) (r185.ld (by kernel_rfl)) ?_
  have u192 := (((((((r23.frS e35 Dj.nil_l).ext e48).frS e54 (hb49.djn (r23.ltF.le e35.next))).frS e64 (hb49.djn (r23.ltF.le e35.next))).frS e166 (i71.djn (r23.ltF.le (ntr (ntr e35.next e48.next) e54.next)))).frS e175 (i71.djn (r23.ltF.le (ntr (ntr e35.next e48.next) e54.next)))).frS e184 (hb49.djn (r23.ltF.le e35.next)))
  have u193 := (m176.fr e184 (Dj.symm (i71.djn (r50.ltF.le e54.next))))
  obtain ⟨H188, q189, e190, r191⟩ := Row.store (P := Tryz.prog) (t := 51) (p := 0) e184.wf u192 (.agg #[i_ N_, .slice a179 n180 c181]) [i_ N_, .slice a179 n180 c181] (by kernel_rfl) (by kernel_rfl) (one_cons (rfl) (one_cons (u193.one1) (one_nil))) (Nat.le_of_ble_eq_true (by kernel_rfl)) [i_ N_, .slice a179 n180 c181] (by kernel_rfl)
  refine s_ek (undef) (by kernel_rfl) (map_ok q189) ?_
  refine q_ (.nilIface) (s_nil (k187 _ _ ?_))
  refine w_ret ?_
  refine b_ret (fn := Tryz.f32) (vs := [.agg #[i_ N_, .slice a179 n180 c181], .nilIface]) (aRes_cell (Eq.trans (b := aLoad Tryz.prog 51 (pt_ b19 0) H188) (by kernel_rfl) (r191.ld (by kernel_rfl))) (aRes_tmp (by kernel_rfl) (rfl))) ?_
  have u194 := (u193.fr e190 (Dj.symm (i71.djn (r23.ltF.le (ntr (ntr e35.next e48.next) e54.next)))))
  obtain rfl := Option.some.inj r172
  exact ⟨(.slice a179 n180 c181), f68, (.nilIface), [], rfl, (FrS.step wf (FrS.step wf (FrS.step wf (FrS.step wf (FrS.step wf (FrS.step wf ((FrS.step wf (((FrS.refl (W := []) wf).extR e15).extR e21) e35 Inn.nil).extR e48) e54 (hb49.fresh (ntr (ntr e15.next e21.next) e35.next))) e64 (hb49.fresh (ntr (ntr e15.next e21.next) e35.next))) e166 (i71.fresh (ntr (ntr (ntr (ntr e15.next e21.next) e35.next) e48.next) e54.next))) e175 (i71.fresh (ntr (ntr (ntr (ntr e15.next e21.next) e35.next) e48.next) e54.next))) e184 (hb49.fresh (ntr (ntr e15.next e21.next) e35.next))) e190 (hb22.fresh e15.next)), u194, Ev.nil, (i71.fresh (ntr (ntr (ntr (ntr e15.next e21.next) e35.next) e48.next) e54.next)), Inn.nil, Dj.nil_r⟩
 have r195 := ite_f h40 r31
 refine l_' (.bool true) (aBin Tryz.prog .neq 31 (.tmp 10) (.const .nilIface) (.iface t41 x42) .nilIface) (aBin_nnil (by kernel_rfl)) ?_
 refine s_nil (k39 _ _ ?_)
 refine w_cond true (by kernel_rfl) rfl (fun _ => ?_) (fun h => by cases h)
 refine w_seqk fun _ k196 => g_' (q_ (.agg #[i_ 0, .slice none 0 0]) (q_ (.iface t41 x42) ?_))
 have u201 := (r23.frS e35 Dj.nil_l)
 obtain ⟨H197, q198, e199, r200⟩ := Row.store (P := Tryz.prog) (t := 51) (p := 0) e35.wf u201 (.agg #[i_ 0, .slice none 0 0]) [i_ 0, .slice none 0 0] (by kernel_rfl) (by kernel_rfl) (one_cons (rfl) (one_cons (rfl) (one_nil))) (Nat.le_of_ble_eq_true (by kernel_rfl)) [i_ 0, .slice none 0 0] (by kernel_rfl)
 refine s_ek (undef) (by kernel_rfl) (map_ok q198) ?_
 refine q_ (.iface t41 x42) (s_nil (k196 _ _ ?_))
 refine w_ret (th_ret ?_)
 refine b_ret (fn := Tryz.f32) (vs := [.agg #[i_ 0, .slice none 0 0], .iface t41 x42]) (aRes_cell (Eq.trans (b := aLoad Tryz.prog 51 (pt_ b19 0) H197) (by kernel_rfl) (r200.ld (by kernel_rfl))) (aRes_tmp (by kernel_rfl) (rfl))) ?_
 have u202 := (m36.fr e199 (Dj.symm (i37.djn r23.ltF)))
 obtain rfl := Option.some.inj r195
 exact ⟨(.slice none 0 0), [], (.iface t41 x42), f33, rfl, (FrS.step wf (FrS.step wf (((FrS.refl (W := []) wf).extR e15).extR e21) e35 Inn.nil) e199 (hb22.fresh e15.next)), (Ow.nil (by decide)), u202, Inn.nil, (i37.fresh (ntr e15.next e21.next)), Dj.nil_l⟩
theorem c_csr_flat {H : AH} {hd_Arcs : Value} {fp_Arcs : Fp} {N_ : Int} {Arcs : List (Int × Int × Int)} {r : List (Int) × List (Int) × List (Int)}
    (wf : WF H) (h_Arcs : Sq enc_i64_i64_i64 3 H hd_Arcs Arcs fp_Arcs) (hr : z_csr_flat N_ Arcs = some r) :
    ACalls Tryz.prog 33 #[.agg #[i_ N_, hd_Arcs]] H fun v H' => ∃ (s3 : Value) (f4 : Fp) (s7 : Value) (f8 : Fp) (s11 : Value) (f12 : Fp), v = .agg #[s3, s7, s11] ∧ FrS [] H H' ∧ Ow (encI .i64) 1 H' s3 r.1 f4 ∧ Ow (encI .i64) 1 H' s7 r.2.1 f8 ∧ Ow (encI .i64) 1 H' s11 r.2.2 f12 ∧ Inn [] H f4 ∧ Inn [] H f8 ∧ Inn [] H f12 ∧ Dj f4 f8 ∧ Dj f4 f12 ∧ Dj f8 f12 := by
 refine acalls_of_body mixed Tryz.func33 rfl (Nat.le_of_ble_eq_true rfl) ?_
 unfold z_csr_flat at hr
 refine w_seqk fun _ k19 => g_' ?_
 refine s_rwl wf [i_ N_, hd_Arcs] (one_cons (rfl) (one_cons (h_Arcs.one1) (one_nil))) (by kernel_rfl) fun b20 H21 e22 hb23 r24 => ?_
 refine s_rwk e22.wf [.slice none 0 0, .slice none 0 0, .slice none 0 0] (by kernel_rfl) fun b26 H27 e28 hb29 r30 => ?_
 refine s_nil (k19 _ _ (w_seqk fun _ k32 => g_' (q_ (pt_ b20 0) ?_)))
 have u33 := (r24.ext e28)
 refine l_' (i_ N_) (aLoad Tryz.prog 3 (pt_ b20 0) H27) (u33.ld (by kernel_rfl)) ?_
 obtain ⟨g34, r35⟩ := G_some hr
 refine w_' (N_ + 1) (wrap64 g34) ?_
 obtain ⟨g36, r37⟩ := G_some r35
 refine s_mks (t := 23) (m := 8) (l := (N_ + 1)) (c := (N_ + 1)) (enc := (encI .i64)) (sz := 1) e28.wf (0 : Int) (by kernel_rfl) (by decide) g36.1 (Int.le_refl _) (by omega) (by have := g36; omega) (by kernel_rfl) fun s38 f39 H40 e41 hf42 hm43 => ?_
 obtain ⟨a44, n45, c46, rfl⟩ := hm43.form
 have hm43 : Ow (encI .i64) 1 H40 (.slice a44 n45 c46) (List.replicate (N_ + 1).toNat (0 : Int)) f39 := hm43
 refine q_ (.agg #[.slice a44 n45 c46, .slice none 0 0, .slice none 0 0]) ?_
 refine s_rwk e41.wf [.slice none 0 0, .slice none 0 0, .slice none 0 0] (by kernel_rfl) fun b48 H49 e50 hb51 r52 => ?_
 have u58 := (hm43.ext e50)
 obtain ⟨H54, q55, e56, r57⟩ := Row.store (P := Tryz.prog) (t := 25) (p := 0) e50.wf r52 (.agg #[.slice a44 n45 c46, .slice none 0 0, .slice none 0 0]) [.slice a44 n45 c46, .slice none 0 0, .slice none 0 0] (by kernel_rfl) (by kernel_rfl) (one_cons (u58.one1) (one_cons (rfl) (one_cons (rfl) (one_nil)))) (Nat.le_of_ble_eq_true (by kernel_rfl)) [.slice a44 n45 c46, .slice none 0 0, .slice none 0 0] (by kernel_rfl)
 refine s_ek (undef) (by kernel_rfl) (map_ok q55) ?_
 refine s_nil (k32 _ _ (w_seqk fun _ k59 => w_seqk fun _ k60 => g_' (q_ (pt_ b20 1) ?_)))
 have u61 := (((u33.ext e41).ext e50).frS e56 (hb51.djn (r24.ltF.le (ntr e28.next e41.next))))
 refine l_' (hd_Arcs) (aLoad Tryz.prog 49 (pt_ b20 1) H54) (u61.ld (by kernel_rfl)) ?_
 have u62 := (((((h_Arcs.ext e22).ext e28).ext e41).ext e50).fr e56 (hb51.djn (h_Arcs.lt.le (ntr (ntr e22.next e28.next) e41.next))))
 refine l_' (i_ (Arcs.length : Int)) (aLen Tryz.prog 49 hd_Arcs H54) (u62.lenb (by kernel_rfl)) ?_
 refine q_ (i_ 0) (s_nil (k60 _ _ ?_))
 obtain ⟨o63, hx64, r65⟩ := bind_some r37
 refine w_mid (fun α H66 => ∃ (s72 : Value) (f73 : Fp) (s76 : Value) (f77 : Fp), Has α [(1, pt_ b20 0), (2, pt_ b26 0), (3, pt_ b48 0)] ∧ FrS ([b48] ++ f39) H54 H66 ∧ Ow (encI .i64) 1 H66 (.slice a44 n45 c46) o63.1 f39 ∧ Ow (encI .i64) 1 H66 s72 o63.2.1 f73 ∧ Ow (encI .i64) 1 H66 s76 o63.2.2 f77 ∧ Row H66 b48 [.slice a44 n45 c46, s72, s76] ∧ Inn [] H54 f73 ∧ Inn [] H54 f77 ∧ Dj f73 f77) (fun _ k83 => ?_) (fun α H66 hM => ?_)
 ·refine w_block ?_
  obtain ⟨n85, hn86⟩ := loopO_iff.1 hx64
  have u110 := (u58.fr e56 (hb51.djn hm43.lt))
  refine w_loopn (fun n α H87 => ∃ (i0 : Int), ∃ (c1 : List (Int)), ∃ (c2 : List (Int)), ∃ (c3 : List (Int)), ∃ (s93 : Value), ∃ (f94 : Fp), ∃ (s97 : Value), ∃ (f98 : Fp), iterO (fun zz_ => z_csr_flat_l0 Arcs zz_.1 zz_.2.1 zz_.2.2.1 zz_.2.2.2) n (i0, c1, c2, c3) = some o63 ∧ Has α [(1, pt_ b20 0), (2, pt_ b26 0), (3, pt_ b48 0), (13, hd_Arcs), (14, i_ (Arcs.length : Int)), (15, i_ i0)] ∧ FrS ([b48] ++ f39) H54 H87 ∧ Ow (encI .i64) 1 H87 (.slice a44 n45 c46) c1 f39 ∧ Ow (encI .i64) 1 H87 s93 c2 f94 ∧ Ow (encI .i64) 1 H87 s97 c3 f98 ∧ Row H87 b48 [.slice a44 n45 c46, s93, s97] ∧ Inn [] H54 f94 ∧ Inn [] H54 f98 ∧ Dj f94 f98) n85 ⟨0, (List.replicate (N_ + 1).toNat (0 : Int)), [], [], (.slice none 0 0), [], (.slice none 0 0), [], hn86, ha_, (FrS.refl (W := ([b48] ++ f39)) e56.wf), u110, (Ow.nil (by decide)), (Ow.nil (by decide)), r57, Inn.nil, Inn.nil, Dj.nil_l⟩ ?_
  rintro n85 α H87 ⟨i0, c1, c2, c3, s93, f94, s97, f98, hi105, hh104, e88, m90, m92, m96, m100, i101, i102, d103⟩ K111 k111
  obtain ⟨n106, z107, rfl, hz108, hn109⟩ := iter_succ hi105
  obtain ⟨β, rfl⟩ := has_ex hh104
  clear hh104
  replace hz108 : z_csr_flat_l0 Arcs i0 c1 c2 c3 = some z107 := hz108
  unfold z_csr_flat_l0 at hz108
  obtain ⟨a112, n113, c114, rfl⟩ := m92.form
  obtain ⟨a115, n116, c117, rfl⟩ := m96.form
  refine w_seqk fun _ k118 => g_' (q_ (.bool (decide (i0 < (Arcs.length : Int)))) (s_nil (k118 _ _ (w_seqk fun _ k119 => ?_))))
  refine w_condp (i0 < (Arcs.length : Int)) (by kernel_rfl) rfl (fun h120 => ?_) (fun h120 => ?_)
  ·have r121 := ite_t h120 hz108
   refine w_skip (k119 _ _ (w_seqk fun _ k122 => w_block (w_seqk fun _ k123 => g_' ?_)))
   obtain ⟨g124, r125⟩ := G_some r121
   have u126 := (u62.fr e88 (Dj.app (hb51.djn (h_Arcs.lt.le (ntr (ntr e22.next e28.next) e41.next))) (hf42.djn (h_Arcs.lt.le (ntr e22.next e28.next)))))
   refine l_' (elp hd_Arcs 3 i0.toNat 0) (aIndexAddr Tryz.prog 49 hd_Arcs (i_ i0)) (u126.idxb (by kernel_rfl) g124 h120) ?_
   refine l_' (.agg #[i_ ((gt Arcs i0).1), i_ ((gt Arcs i0).2.1), i_ ((gt Arcs i0).2.2)]) (aLoad Tryz.prog 53 (elp hd_Arcs 3 i0.toNat 0) H87) (u126.ld g124 h120 (by kernel_rfl)) ?_
   refine s_rwk e88.wf [i_ 0, i_ 0, i_ 0] (by kernel_rfl) fun b127 H128 e129 hb130 r131 => ?_
   obtain ⟨H133, q134, e135, r136⟩ := Row.store (P := Tryz.prog) (t := 53) (p := 0) e129.wf r131 (.agg #[i_ ((gt Arcs i0).1), i_ ((gt Arcs i0).2.1), i_ ((gt Arcs i0).2.2)]) [i_ ((gt Arcs i0).1), i_ ((gt Arcs i0).2.1), i_ ((gt Arcs i0).2.2)] (by kernel_rfl) (by kernel_rfl) (one_cons (rfl) (one_cons (rfl) (one_cons (rfl) (one_nil)))) (Nat.le_of_ble_eq_true (by kernel_rfl)) [i_ ((gt Arcs i0).1), i_ ((gt Arcs i0).2.1), i_ ((gt Arcs i0).2.2)] (by kernel_rfl)
   refine s_ek (undef) (by kernel_rfl) (map_ok q134) ?_
   refine s_nil (k123 _ _ (w_seqk fun _ k137 => g_' (q_ (pt_ b48 0) ?_)))
   have u138 := ((m100.ext e129).frS e135 (hb130.djn (r52.ltF.le (ntr e56.next e88.next))))
   refine l_' (.slice a44 n45 c46) (aLoad Tryz.prog 23 (pt_ b48 0) H133) (u138.ld (by kernel_rfl)) ?_
   refine q_ (pt_ b127 0) ?_
   refine l_' (i_ ((gt Arcs i0).1)) (aLoad Tryz.prog 3 (pt_ b127 0) H133) (r136.ld (by kernel_rfl)) ?_
   obtain ⟨g139, r140⟩ := G_some r125
   refine w_' (((gt Arcs i0).1) + 1) (wrap64 g139) ?_
   obtain ⟨g141, r142⟩ := G_some r140
   have u143 := ((m90.ext e129).fr e135 (hb130.djn (hm43.lt.le (ntr (ntr e50.next e56.next) e88.next))))
   refine l_' (elp (.slice a44 n45 c46) 1 (((gt Arcs i0).1) + 1).toNat 0) (aIndexAddr Tryz.prog 23 (.slice a44 n45 c46) (i_ (((gt Arcs i0).1) + 1))) (u143.sq.idxb (by kernel_rfl) g141.1 g141.2) ?_
   refine l_' (i_ (gt c1 (((gt Arcs i0).1) + 1))) (aLoad Tryz.prog 3 (elp (.slice a44 n45 c46) 1 (((gt Arcs i0).1) + 1).toNat 0) H133) (u143.sq.ld g141.1 g141.2 (by kernel_rfl)) ?_
   obtain ⟨g144, r145⟩ := G_some r142
   refine w_' ((gt c1 (((gt Arcs i0).1) + 1)) + 1) (wrap64 g144) ?_
   refine l_' (elp (.slice a44 n45 c46) 1 (((gt Arcs i0).1) + 1).toNat 0) (aIndexAddr Tryz.prog 23 (.slice a44 n45 c46) (i_ (((gt Arcs i0).1) + 1))) (u143.sq.idxb (by kernel_rfl) g141.1 g141.2) ?_
   obtain ⟨H146, q147, e148, hm149⟩ := Ow.store (P := Tryz.prog) (t := 3) (off := 0) e135.wf u143 g141.1 g141.2 (i_ ((gt c1 (((gt Arcs i0).1) + 1)) + 1)) [i_ ((gt c1 (((gt Arcs i0).1) + 1)) + 1)] (by kernel_rfl) (by kernel_rfl) rfl ((gt c1 (((gt Arcs i0).1) + 1)) + 1) (Nat.le_of_ble_eq_true rfl) (by kernel_rfl)
   refine s_ek (undef) (by kernel_rfl) (map_ok q147) ?_
   refine s_nil (k137 _ _ (w_seqk fun _ k150 => g_' (q_ (pt_ b48 1) ?_)))
   have u151 := (u138.frS e148 (Dj.symm (hb51.djn hm43.lt)))
   refine l_' (.slice a112 n113 c114) (aLoad Tryz.prog 23 (pt_ b48 1) H146) (u151.ld (by kernel_rfl)) ?_
   refine q_ (pt_ b127 1) ?_
   have u152 := (r136.frS e148 (Dj.symm (hb130.djn (hm43.lt.le (ntr (ntr e50.next e56.next) e88.next)))))
   refine l_' (i_ ((gt Arcs i0).2.1)) (aLoad Tryz.prog 3 (pt_ b127 1) H146) (u152.ld (by kernel_rfl)) ?_
   refine s_owk (enc := (encI .i64)) (sz := 1) e148.wf [(gt Arcs i0).2.1] 1 (by decide) (fun _ _ => rfl) (fun _ _ => rfl) rfl (by kernel_rfl) fun s153 f154 H155 e156 hf157 hm158 => ?_
   obtain ⟨a159, n160, c161, rfl⟩ := hm158.form
   have u163 := ((((m92.ext e129).fr e135 (hb130.djn m92.lt)).fr e148 (Dj.symm (i101.djn (hm43.lt.le (ntr e50.next e56.next))))).ext e156)
   obtain ⟨g164, r165⟩ := G_some r145
   obtain ⟨s166, H167, f168, q172, e169, hm170, hf171⟩ := Ow.append (P := Tryz.prog) 8 e156.wf u163 hm158.sq (fun _ _ => rfl) (at_ := #[23, 23]) rfl rfl (by kernel_rfl) (by kernel_rfl) (by decide) (by have := g164; first | omega | (simp only [List.length_cons, List.length_nil] at this ⊢; omega) | (simp at this ⊢; omega))
   obtain ⟨a173, n174, c175, rfl⟩ := hm170.form
   refine s_ek (.slice a173 n174 c175) (by kernel_rfl) (q172) ?_
   refine q_ (pt_ b48 1) ?_
   have u181 := ((u151.ext e156).frS e169 (i101.djn (r52.ltF.le e56.next)))
   obtain ⟨H177, q178, e179, r180⟩ := Row.store (P := Tryz.prog) (t := 23) (p := 1) e169.wf u181 (.slice a173 n174 c175) [.slice a173 n174 c175] (by kernel_rfl) (by kernel_rfl) (one_cons (hm170.one1) (one_nil)) (Nat.le_of_ble_eq_true (by kernel_rfl)) [.slice a44 n45 c46, .slice a173 n174 c175, .slice a115 n116 c117] (by kernel_rfl)
   refine s_ek (undef) (by kernel_rfl) (map_ok q178) ?_
   refine s_nil (k150 _ _ (g_' (q_ (pt_ b48 2) ?_)))
   refine l_' (.slice a115 n116 c117) (aLoad Tryz.prog 23 (pt_ b48 2) H177) (r180.ld (by kernel_rfl)) ?_
   refine q_ (pt_ b127 2) ?_
   have u182 := (((u152.ext e156).frS e169 (Dj.symm (hb130.djn m92.lt))).frS e179 (Dj.symm (hb130.djn (r52.ltF.le (ntr e56.next e88.next)))))
   refine l_' (i_ ((gt Arcs i0).2.2)) (aLoad Tryz.prog 3 (pt_ b127 2) H177) (u182.ld (by kernel_rfl)) ?_
   refine s_owk (enc := (encI .i64)) (sz := 1) e179.wf [(gt Arcs i0).2.2] 1 (by decide) (fun _ _ => rfl) (fun _ _ => rfl) rfl (by kernel_rfl) fun s183 f184 H185 e186 hf187 hm188 => ?_
   obtain ⟨a189, n190, c191, rfl⟩ := hm188.form
   have u193 := (((((((m96.ext e129).fr e135 (hb130.djn m96.lt)).fr e148 (Dj.symm (i102.djn (hm43.lt.le (ntr e50.next e56.next))))).ext e156).fr e169 d103).fr e179 (Dj.symm (i102.djn (r52.ltF.le e56.next)))).ext e186)
   obtain ⟨g194, r195⟩ := G_some r165
   obtain ⟨s196, H197, f198, q202, e199, hm200, hf201⟩ := Ow.append (P := Tryz.prog) 8 e186.wf u193 hm188.sq (fun _ _ => rfl) (at_ := #[23, 23]) rfl rfl (by kernel_rfl) (by kernel_rfl) (by decide) (by have := g194; first | omega | (simp only [List.length_cons, List.length_nil] at this ⊢; omega) | (simp at this ⊢; omega))
   obtain ⟨a203, n204, c205, rfl⟩ := hm200.form
   refine s_ek (.slice a203 n204 c205) (by kernel_rfl) (q202) ?_
   refine q_ (pt_ b48 2) ?_
   have u211 := ((r180.ext e186).frS e199 (i102.djn (r52.ltF.le e56.next)))
   obtain ⟨H207, q208, e209, r210⟩ := Row.store (P := Tryz.prog) (t := 23) (p := 2) e199.wf u211 (.slice a203 n204 c205) [.slice a203 n204 c205] (by kernel_rfl) (by kernel_rfl) (one_cons (hm200.one1) (one_nil)) (Nat.le_of_ble_eq_true (by kernel_rfl)) [.slice a44 n45 c46, .slice a173 n174 c175, .slice a203 n204 c205] (by kernel_rfl)
   refine s_ek (undef) (by kernel_rfl) (map_ok q208) ?_
   refine s_nil (k122 _ _ (g_' ?_))
   obtain ⟨g212, r213⟩ := G_some r195
   refine w_' (i0 + 1) (wrap64 (by have := g212; omega)) ?_
   refine q_ (i_ (i0 + 1)) (s_nil ?_)
   have u214 := ((((((hm149.ext e156).fr e169 (i101.djn (hm43.lt.le (ntr e50.next e56.next)))).fr e179 (hb51.djn hm43.lt)).ext e186).fr e199 (i102.djn (hm43.lt.le (ntr e50.next e56.next)))).fr e209 (hb51.djn hm43.lt))
   have u215 := ((((hm170.fr e179 (Dj.symm (hf171.dj (i101.djn (r52.ltF.le e56.next)) (r52.ltF.le (ntr (ntr (ntr (ntr (ntr e56.next e88.next) e129.next) e135.next) e148.next) e156.next))))).ext e186).fr e199 (Dj.symm (hf171.dj d103 (m96.lt.le (ntr (ntr (ntr e129.next e135.next) e148.next) e156.next))))).fr e209 (Dj.symm (hf171.dj (i101.djn (r52.ltF.le e56.next)) (r52.ltF.le (ntr (ntr (ntr (ntr (ntr e56.next e88.next) e129.next) e135.next) e148.next) e156.next)))))
   have u216 := (hm200.fr e209 (Dj.symm (hf201.dj (i102.djn (r52.ltF.le e56.next)) (r52.ltF.le (ntr (ntr (ntr (ntr (ntr (ntr (ntr (ntr e56.next e88.next) e129.next) e135.next) e148.next) e156.next) e169.next) e179.next) e186.next)))))
   obtain rfl := Option.some.inj r213
   exact k111 n106 _ _ (Nat.lt_succ_self _) ⟨(i0 + 1), (c1.set (((gt Arcs i0).1) + 1).toNat ((gt c1 (((gt Arcs i0).1) + 1)) + 1)), (c2 ++ [(gt Arcs i0).2.1]), (c3 ++ [(gt Arcs i0).2.2]), (.slice a173 n174 c175), f168, (.slice a203 n204 c205), f198, hn109, ha_, (FrS.step e56.wf (FrS.step e56.wf ((FrS.step e56.wf (FrS.step e56.wf ((FrS.step e56.wf (FrS.step e56.wf ((FrS.step e56.wf (FrS.refl (W := ([b48] ++ f39)) e56.wf) e88 (Inn.app Inn.left (Inn.right Inn.refl'))).extR e129) e135 (hb130.fresh e88.next)) e148 (Inn.right Inn.refl')).extR e156) e169 (i101.fresh (Nat.le_refl _))) e179 Inn.left).extR e186) e199 (i102.fresh (Nat.le_refl _))) e209 Inn.left), u214, u215, u216, r210, (Inn.trans (i101.fresh (Nat.le_refl _)) (ntr (ntr (ntr (ntr e88.next e129.next) e135.next) e148.next) e156.next) hf171), (Inn.trans (i102.fresh (Nat.le_refl _)) (ntr (ntr (ntr (ntr (ntr (ntr (ntr e88.next e129.next) e135.next) e148.next) e156.next) e169.next) e179.next) e186.next) hf201), (Dj.symm (hf201.dj (Dj.symm (hf171.dj d103 (m96.lt.le (ntr (ntr (ntr e129.next e135.next) e148.next) e156.next)))) (hm170.lt.le (ntr e179.next e186.next))))⟩
  have r217 := ite_f h120 hz108
  refine w_exit (th_exit (th_exit (bl_eq ?_)))
  obtain rfl := Option.some.inj r217
  obtain rfl := it_inr hn109
  exact k83 _ _ ⟨(.slice a112 n113 c114), f94, (.slice a115 n116 c117), f98, ha_, (FrS.step e56.wf (FrS.refl (W := ([b48] ++ f39)) e56.wf) e88 (Inn.app Inn.left (Inn.right Inn.refl'))), m90, m92, m96, m100, (i101.fresh (Nat.le_refl _)), (i102.fresh (Nat.le_refl _)), d103⟩
 obtain ⟨s72, f73, s76, f77, hh84, e67, m69, m71, m75, m79, i80, i81, d82⟩ := hM
 obtain ⟨β, rfl⟩ := has_ex hh84
 clear hh84
 obtain ⟨a218, n219, c220, rfl⟩ := m71.form
 obtain ⟨a221, n222, c223, rfl⟩ := m75.form
 refine k59 _ _ (w_seqk fun _ k224 => w_seqk fun _ k225 => g_' (q_ (pt_ b20 0) ?_))
 have u226 := (u61.frS e67 (Dj.app (hb51.djn (r24.ltF.le (ntr e28.next e41.next))) (hf42.djn (r24.ltF.le e28.next))))
 refine l_' (i_ N_) (aLoad Tryz.prog 3 (pt_ b20 0) H66) (u226.ld (by kernel_rfl)) ?_
 refine q_ (i_ 0) (s_nil (k225 _ _ ?_))
 obtain ⟨o227, hx228, r229⟩ := bind_some r65
 refine w_mid (fun α H230 => Has α [(2, pt_ b26 0), (3, pt_ b48 0)] ∧ FrS f39 H66 H230 ∧ Ow (encI .i64) 1 H230 (.slice a44 n45 c46) o227 f39) (fun _ k234 => ?_) (fun α H230 hM => ?_)
 ·refine w_block ?_
  obtain ⟨n236, hn237⟩ := loopO_iff.1 hx228
  refine w_loopn (fun n α H238 => ∃ (c4 : List (Int)), ∃ (i5 : Int), iterO (fun zz_ => z_csr_flat_l1 N_ zz_.1 zz_.2) n (c4, i5) = some o227 ∧ Has α [(2, pt_ b26 0), (3, pt_ b48 0), (44, i_ N_), (45, i_ i5)] ∧ FrS f39 H66 H238 ∧ Ow (encI .i64) 1 H238 (.slice a44 n45 c46) c4 f39) n236 ⟨o63.1, 0, hn237, ha_, (FrS.refl (W := f39) e67.wf), m69⟩ ?_
  rintro n236 α H238 ⟨c4, i5, hi243, hh242, e239, m241⟩ K248 k248
  obtain ⟨n244, z245, rfl, hz246, hn247⟩ := iter_succ hi243
  obtain ⟨β, rfl⟩ := has_ex hh242
  clear hh242
  replace hz246 : z_csr_flat_l1 N_ c4 i5 = some z245 := hz246
  unfold z_csr_flat_l1 at hz246
  refine w_seqk fun _ k249 => g_' (q_ (.bool (decide (i5 < N_))) (s_nil (k249 _ _ (w_seqk fun _ k250 => ?_))))
  refine w_condp (i5 < N_) (by kernel_rfl) rfl (fun h251 => ?_) (fun h251 => ?_)
  ·have r252 := ite_t h251 hz246
   refine w_skip (k250 _ _ (w_seqk fun _ k253 => w_block (w_seqk fun _ k254 => g_' (q_ (i_ i5) (q_ (i_ i5) (s_nil (k254 _ _ ?_)))))))
   refine w_draw [0, 1, 2, 3, 4, 5, 6, 7, 8, 9, 10, 11, 12, 13] (by kernel_rfl) ?_
   refine e_' (pt_ b48 0) ?_
   have u255 := (m79.frS e239 (Dj.symm (hb51.djn hm43.lt)))
   refine m_' (.slice a44 n45 c46) (aLoad Tryz.prog 23 (pt_ b48 0) H238) (u255.ld (by kernel_rfl)) ?_
   refine e_' (i_ i5) ?_
   obtain ⟨g256, r257⟩ := G_some r252
   refine d_w ((i5 + 1)) (k := .i64) (x := (i5 + 1)) (by kernel_rfl) (wrap64 g256) ?_
   obtain ⟨g258, r259⟩ := G_some r257
   refine m_' (elp (.slice a44 n45 c46) 1 (i5 + 1).toNat 0) (aIndexAddr Tryz.prog 23 (.slice a44 n45 c46) (i_ (i5 + 1))) (m241.sq.idxb (by kernel_rfl) g258.1 g258.2) ?_
   refine m_' (i_ (gt c4 (i5 + 1))) (aLoad Tryz.prog 3 (elp (.slice a44 n45 c46) 1 (i5 + 1).toNat 0) H238) (m241.sq.ld g258.1 g258.2 (by kernel_rfl)) ?_
   refine e_' (pt_ b48 0) ?_
   refine m_' (.slice a44 n45 c46) (aLoad Tryz.prog 23 (pt_ b48 0) H238) (u255.ld (by kernel_rfl)) ?_
   refine e_' (i_ i5) ?_
   obtain ⟨g260, r261⟩ := G_some r259
   refine m_' (elp (.slice a44 n45 c46) 1 i5.toNat 0) (aIndexAddr Tryz.prog 23 (.slice a44 n45 c46) (i_ i5)) (m241.sq.idxb (by kernel_rfl) g260.1 g260.2) ?_
   refine m_' (i_ (gt c4 i5)) (aLoad Tryz.prog 3 (elp (.slice a44 n45 c46) 1 i5.toNat 0) H238) (m241.sq.ld g260.1 g260.2 (by kernel_rfl)) ?_
   obtain ⟨g262, r263⟩ := G_some r261
   refine d_w (((gt c4 (i5 + 1)) + (gt c4 i5))) (k := .i64) (x := ((gt c4 (i5 + 1)) + (gt c4 i5))) (by kernel_rfl) (wrap64 g262) ?_
   refine m_' (elp (.slice a44 n45 c46) 1 (i5 + 1).toNat 0) (aIndexAddr Tryz.prog 23 (.slice a44 n45 c46) (i_ (i5 + 1))) (m241.sq.idxb (by kernel_rfl) g258.1 g258.2) ?_
   obtain ⟨H264, q265, e266, hm267⟩ := Ow.store (P := Tryz.prog) (t := 3) (off := 0) e239.wf m241 g258.1 g258.2 (i_ ((gt c4 (i5 + 1)) + (gt c4 i5))) [i_ ((gt c4 (i5 + 1)) + (gt c4 i5))] (by kernel_rfl) (by kernel_rfl) rfl ((gt c4 (i5 + 1)) + (gt c4 i5)) (Nat.le_of_ble_eq_true rfl) (by kernel_rfl)
   refine d_ek (undef) (by kernel_rfl) (map_ok q265) (st_nil) ?_
   refine d_nil ?_
   refine k253 _ _ (g_' ?_)
   obtain ⟨g268, r269⟩ := G_some r263
   refine w_' (i5 + 1) (wrap64 (by have := g268; omega)) ?_
   refine q_ (i_ (i5 + 1)) (s_nil ?_)
   obtain rfl := Option.some.inj r269
   exact k248 n244 _ _ (Nat.lt_succ_self _) ⟨(c4.set (i5 + 1).toNat ((gt c4 (i5 + 1)) + (gt c4 i5))), (i5 + 1), hn247, ha_, (FrS.step e67.wf (FrS.step e67.wf (FrS.refl (W := f39) e67.wf) e239 Inn.refl') e266 Inn.refl'), hm267⟩
  have r270 := ite_f h251 hz246
  refine w_exit (th_exit (th_exit (bl_eq ?_)))
  obtain rfl := Option.some.inj r270
  obtain rfl := it_inr hn247
  exact k234 _ _ ⟨ha_, (FrS.step e67.wf (FrS.refl (W := f39) e67.wf) e239 Inn.refl'), m241⟩
 obtain ⟨hh235, e231, m233⟩ := hM
 obtain ⟨β, rfl⟩ := has_ex hh235
 clear hh235
 refine k224 _ _ (w_seqk fun _ k271 => g_' ?_)
 have u272 := (m79.frS e231 (Dj.symm (hb51.djn hm43.lt)))
 refine l_' (.agg #[.slice a44 n45 c46, .slice a218 n219 c220, .slice a221 n222 c223]) (aLoad Tryz.prog 25 (pt_ b48 0) H230) (u272.ld (by kernel_rfl)) ?_
 have u277 := (((((r30.ext e41).ext e50).frS e56 (hb51.djn (r30.ltF.le e41.next))).frS e67 (Dj.app (hb51.djn (r30.ltF.le e41.next)) (hf42.djn r30.ltF))).frS e231 (hf42.djn r30.ltF))
 have u278 := (m75.fr e231 (Dj.symm (i81.djn (hm43.lt.le (ntr e50.next e56.next)))))
 have u279 := (m71.fr e231 (Dj.symm (i80.djn (hm43.lt.le (ntr e50.next e56.next)))))
 obtain ⟨H273, q274, e275, r276⟩ := Row.store (P := Tryz.prog) (t := 25) (p := 0) e231.wf u277 (.agg #[.slice a44 n45 c46, .slice a218 n219 c220, .slice a221 n222 c223]) [.slice a44 n45 c46, .slice a218 n219 c220, .slice a221 n222 c223] (by kernel_rfl) (by kernel_rfl) (one_cons (m233.one1) (one_cons (u279.one1) (one_cons (u278.one1) (one_nil)))) (Nat.le_of_ble_eq_true (by kernel_rfl)) [.slice a44 n45 c46, .slice a218 n219 c220, .slice a221 n222 c223] (by kernel_rfl)
 refine s_ek (undef) (by kernel_rfl) (map_ok q274) ?_
 refine s_nil (k271 _ _ ?_)
 refine w_ret ?_
 refine b_ret (fn := Tryz.f33) (vs := [.agg #[.slice a44 n45 c46, .slice a218 n219 c220, .slice a221 n222 c223]]) (aRes_cell (Eq.trans (b := aLoad Tryz.prog 25 (pt_ b26 0) H273) (by kernel_rfl) (r276.ld (by kernel_rfl))) (rfl)) ?_
 have u280 := (m233.fr e275 (Dj.symm (hf42.djn r30.ltF)))
 have u281 := (u279.fr e275 (Dj.symm (i80.djn (r30.ltF.le (ntr (ntr e41.next e50.next) e56.next)))))
 have u282 := (u278.fr e275 (Dj.symm (i81.djn (r30.ltF.le (ntr (ntr e41.next e50.next) e56.next)))))
 obtain rfl := Option.some.inj r229
 exact ⟨(.slice a44 n45 c46), f39, (.slice a218 n219 c220), f73, (.slice a221 n222 c223), f77, rfl, (FrS.step wf (FrS.step wf (FrS.step wf (FrS.step wf (((((FrS.refl (W := []) wf).extR e22).extR e28).extR e41).extR e50) e56 (hb51.fresh (ntr (ntr e22.next e28.next) e41.next))) e67 (Inn.app (hb51.fresh (ntr (ntr e22.next e28.next) e41.next)) (hf42.fresh (ntr e22.next e28.next)))) e231 (hf42.fresh (ntr e22.next e28.next))) e275 (hb29.fresh e22.next)), u280, u281, u282, (hf42.fresh (ntr e22.next e28.next)), (i80.fresh (ntr (ntr (ntr (ntr e22.next e28.next) e41.next) e50.next) e56.next)), (i81.fresh (ntr (ntr (ntr (ntr e22.next e28.next) e41.next) e50.next) e56.next)), (Dj.symm (i80.djn (hm43.lt.le (ntr e50.next e56.next)))), (Dj.symm (i81.djn (hm43.lt.le (ntr e50.next e56.next)))), d82⟩
theorem c_csr_Build {H : AH} {hd_Arcs : Value} {fp_Arcs : Fp} {N_ : Int} {Arcs : List (Int × Int × Int)} {r : List (Int) × List (Int) × List (Int) × Er}
    (wf : WF H) (h_Arcs : Sq enc_i64_i64_i64 3 H hd_Arcs Arcs fp_Arcs) (hr : z_csr_Build N_ Arcs = some r) :
    ACalls Tryz.prog 14 #[.agg #[i_ N_, hd_Arcs]] H fun v H' => ∃ (s3 : Value) (f4 : Fp) (s7 : Value) (f8 : Fp) (s11 : Value) (f12 : Fp) (v15 : Value) (f16 : Fp), v = .tuple #[.agg #[s3, s7, s11], v15] ∧ FrS [] H H' ∧ Ow (encI .i64) 1 H' s3 r.1 f4 ∧ Ow (encI .i64) 1 H' s7 r.2.1 f8 ∧ Ow (encI .i64) 1 H' s11 r.2.2.1 f12 ∧ Ev 43 81 H' v15 r.2.2.2 f16 ∧ Inn [] H f4 ∧ Inn [] H f8 ∧ Inn [] H f12 ∧ Inn [] H f16 ∧ Dj f4 f8 ∧ Dj f4 f12 ∧ Dj f8 f12 ∧ Dj f4 f16 ∧ Dj f8 f16 ∧ Dj f12 f16 := by
 refine acalls_of_body mixed Tryz.func14 rfl (Nat.le_of_ble_eq_true rfl) ?_
 unfold z_csr_Build at hr
 refine w_seqk fun _ k27 => g_' ?_
 refine s_rwl wf [i_ N_, hd_Arcs] (one_cons (rfl) (one_cons (h_Arcs.one1) (one_nil))) (by kernel_rfl) fun b28 H29 e30 hb31 r32 => ?_
 refine s_rwk e30.wf [.slice none 0 0, .slice none 0 0, .slice none 0 0] (by kernel_rfl) fun b34 H35 e36 hb37 r38 => ?_
 refine q_ (.nilIface) (s_nil (k27 _ _ (w_seqk fun _ k40 => g_' ?_)))
 have u41 := (r32.ext e36)
 refine l_' (.agg #[i_ N_, hd_Arcs]) (aLoad Tryz.prog 51 (pt_ b28 0) H35) (u41.ld (by kernel_rfl)) ?_
 have u42 := ((h_Arcs.ext e30).ext e36)
 obtain ⟨y43, hy44, r45⟩ := bind_some hr
 refine s_ck 32 #[.agg #[i_ N_, hd_Arcs]] (by kernel_rfl) (c_normal_Of e36.wf u42 hy44) ?_
 rintro _ H50 ⟨s46, f47, v48, f49, rfl, e51, m52, m53, i54, i55, d56⟩
 obtain ⟨a59, n60, c61, rfl⟩ := m52.form
 refine q_ (.tuple #[.agg #[i_ y43.1, .slice a59 n60 c61], v48]) (q_ (.agg #[i_ y43.1, .slice a59 n60 c61]) (q_ (v48) ?_))
 refine s_rwk e51.wf [i_ 0, .slice none 0 0] (by kernel_rfl) fun b62 H63 e64 hb65 r66 => ?_
 have u72 := (m52.ext e64)
 obtain ⟨H68, q69, e70, r71⟩ := Row.store (P := Tryz.prog) (t := 51) (p := 0) e64.wf r66 (.agg #[i_ y43.1, .slice a59 n60 c61]) [i_ y43.1, .slice a59 n60 c61] (by kernel_rfl) (by kernel_rfl) (one_cons (rfl) (one_cons (u72.one1) (one_nil))) (Nat.le_of_ble_eq_true (by kernel_rfl)) [i_ y43.1, .slice a59 n60 c61] (by kernel_rfl)
 refine s_ek (undef) (by kernel_rfl) (map_ok q69) ?_
 refine q_ (v48) (s_nil (k40 _ _ (w_seqk fun _ k73 => w_seqk fun _ k74 => g_' (q_ (v48) ?_))))
 have u78 := ((m53.ext e64).fr e70 (hb65.djn m53.lt))
 rcases (u78).cases with ⟨h75, rfl⟩ | ⟨h75, t76, x77, rfl⟩
 ·have r79 := ite_t h75 r45
  refine q_ (.bool false) (s_nil (k74 _ _ ?_))
  refine w_cond false (by kernel_rfl) rfl (fun h => by cases h) (fun _ => ?_)
  refine w_skip (k73 _ _ (w_seqk fun _ k80 => g_' ?_))
  refine l_' (.agg #[i_ y43.1, .slice a59 n60 c61]) (aLoad Tryz.prog 51 (pt_ b62 0) H68) (r71.ld (by kernel_rfl)) ?_
  have u81 := (u72.fr e70 (hb65.djn m52.lt))
  obtain ⟨y82, hy83, r84⟩ := bind_some r79
  refine s_ck 33 #[.agg #[i_ y43.1, .slice a59 n60 c61]] (by kernel_rfl) (c_csr_flat e70.wf u81.sq hy83) ?_
  rintro _ H91 ⟨s85, f86, s87, f88, s89, f90, rfl, e92, m93, m94, m95, i96, i97, i98, d99, d100, d101⟩
  obtain ⟨a105, n106, c107, rfl⟩ := m93.form
  obtain ⟨a108, n109, c110, rfl⟩ := m94.form
  obtain ⟨a111, n112, c113, rfl⟩ := m95.form
  have u118 := ((((r38.frS e51 Dj.nil_l).ext e64).frS e70 (hb65.djn (r38.ltF.le e51.next))).frS e92 Dj.nil_l)
  obtain ⟨H114, q115, e116, r117⟩ := Row.store (P := Tryz.prog) (t := 25) (p := 0) e92.wf u118 (.agg #[.slice a105 n106 c107, .slice a108 n109 c110, .slice a111 n112 c113]) [.slice a105 n106 c107, .slice a108 n109 c110, .slice a111 n112 c113] (by kernel_rfl) (by kernel_rfl) (one_cons (m93.one1) (one_cons (m94.one1) (one_cons (m95.one1) (one_nil)))) (Nat.le_of_ble_eq_true (by kernel_rfl)) [.slice a105 n106 c107, .slice a108 n109 c110, .slice a111 n112 c113] (by kernel_rfl)
  refine s_ek (undef) (by kernel_rfl) (map_ok q115) ?_
  refine q_ (.nilIface) (s_nil (k80 _ _ ?_))
  refine w_ret ?_
  refine b_ret (fn := Tryz.f14) (vs := [.agg #[.slice a105 n106 c107, .slice a108 n109 c110, .slice a111 n112 c113], .nilIface]) (aRes_cell (Eq.trans (b := aLoad Tryz.prog 25 (pt_ b34 0) H114) (by kernel_rfl) (r117.ld (by kernel_rfl))) (aRes_tmp (by kernel_rfl) (rfl))) ?_
  have u119 := (m93.fr e116 (Dj.symm (i96.djn (r38.ltF.le (ntr (ntr e51.next e64.next) e70.next)))))
  have u120 := (m94.fr e116 (Dj.symm (i97.djn (r38.ltF.le (ntr (ntr e51.next e64.next) e70.next)))))
  have u121 := (m95.fr e116 (Dj.symm (i98.djn (r38.ltF.le (ntr (ntr e51.next e64.next) e70.next)))))
  obtain rfl := Option.some.inj r84
  exact ⟨(.slice a105 n106 c107), f86, (.slice a108 n109 c110), f88, (.slice a111 n112 c113), f90, (.nilIface), [], rfl, (FrS.step wf (FrS.step wf (FrS.step wf ((FrS.step wf (((FrS.refl (W := []) wf).extR e30).extR e36) e51 Inn.nil).extR e64) e70 (hb65.fresh (ntr (ntr e30.next e36.next) e51.next))) e92 Inn.nil) e116 (hb37.fresh e30.next)), u119, u120, u121, Ev.nil, (i96.fresh (ntr (ntr (ntr (ntr e30.next e36.next) e51.next) e64.next) e70.next)), (i97.fresh (ntr (ntr (ntr (ntr e30.next e36.next) e51.next) e64.next) e70.next)), (i98.fresh (ntr (ntr (ntr (ntr e30.next e36.next) e51.next) e64.next) e70.next)), Inn.nil, d99, d100, d101, Dj.nil_r, Dj.nil_r, Dj.nil_r⟩
 have r122 := ite_f h75 r45
 refine l_' (.bool true) (aBin Tryz.prog .neq 31 (.tmp 11) (.const .nilIface) (.iface t76 x77) .nilIface) (aBin_nnil (by kernel_rfl)) ?_
 refine s_nil (k74 _ _ ?_)
 refine w_cond true (by kernel_rfl) rfl (fun _ => ?_) (fun h => by cases h)
 refine w_seqk fun _ k123 => g_' (q_ (.agg #[.slice none 0 0, .slice none 0 0, .slice none 0 0]) (q_ (.iface t76 x77) ?_))
 have u128 := (((r38.frS e51 Dj.nil_l).ext e64).frS e70 (hb65.djn (r38.ltF.le e51.next)))
 obtain ⟨H124, q125, e126, r127⟩ := Row.store (P := Tryz.prog) (t := 25) (p := 0) e70.wf u128 (.agg #[.slice none 0 0, .slice none 0 0, .slice none 0 0]) [.slice none 0 0, .slice none 0 0, .slice none 0 0] (by kernel_rfl) (by kernel_rfl) (one_cons (rfl) (one_cons (rfl) (one_cons (rfl) (one_nil)))) (Nat.le_of_ble_eq_true (by kernel_rfl)) [.slice none 0 0, .slice none 0 0, .slice none 0 0] (by kernel_rfl)
 refine s_ek (undef) (by kernel_rfl) (map_ok q125) ?_
 refine q_ (.iface t76 x77) (s_nil (k123 _ _ ?_))
 refine w_ret (th_ret ?_)
 refine b_ret (fn := Tryz.f14) (vs := [.agg #[.slice none 0 0, .slice none 0 0, .slice none 0 0], .iface t76 x77]) (aRes_cell (Eq.trans (b := aLoad Tryz.prog 25 (pt_ b34 0) H124) (by kernel_rfl) (r127.ld (by kernel_rfl))) (aRes_tmp (by kernel_rfl) (rfl))) ?_
 have u129 := (u78.fr e126 (Dj.symm (i55.djn r38.ltF)))
 obtain rfl := Option.some.inj r122
 exact ⟨(.slice none 0 0), [], (.slice none 0 0), [], (.slice none 0 0), [], (.iface t76 x77), f49, rfl, (FrS.step wf (FrS.step wf ((FrS.step wf (((FrS.refl (W := []) wf).extR e30).extR e36) e51 Inn.nil).extR e64) e70 (hb65.fresh (ntr (ntr e30.next e36.next) e51.next))) e126 (hb37.fresh e30.next)), (Ow.nil (by decide)), (Ow.nil (by decide)), (Ow.nil (by decide)), u129, Inn.nil, Inn.nil, Inn.nil, (i55.fresh (ntr e30.next e36.next)), Dj.nil_l, Dj.nil_l, Dj.nil_l, Dj.nil_l, Dj.nil_l, Dj.nil_l⟩
theorem c_normal_Reverse {H : AH} {hd_Arcs : Value} {fp_Arcs : Fp} {N_ : Int} {Arcs : List (Int × Int × Int)} {r : Int × List (Int × Int × Int) × Er}
    (wf : WF H) (h_Arcs : Sq enc_i64_i64_i64 3 H hd_Arcs Arcs fp_Arcs) (hr : z_normal_Reverse N_ Arcs = some r) :
    ACalls Tryz.prog 37 #[.agg #[i_ N_, hd_Arcs]] H fun v H' => ∃ (s3 : Value) (f4 : Fp) (v7 : Value) (f8 : Fp), v = .tuple #[.agg #[i_ r.1, s3], v7] ∧ FrS [] H H' ∧ Ow enc_i64_i64_i64 3 H' s3 r.2.1 f4 ∧ Ev 43 81 H' v7 r.2.2 f8 ∧ Inn [] H f4 ∧ Inn [] H f8 ∧ Dj f4 f8 := by
 refine acalls_of_body mixed Tryz.func37 rfl (Nat.le_of_ble_eq_true rfl) ?_
 unfold z_normal_Reverse at hr
 refine w_seqk fun _ k12 => g_' ?_
 refine s_rwl wf [i_ N_, hd_Arcs] (one_cons (rfl) (one_cons (h_Arcs.one1) (one_nil))) (by kernel_rfl) fun b13 H14 e15 hb16 r17 => ?_
 refine s_rwk e15.wf [i_ 0, .slice none 0 0] (by kernel_rfl) fun b19 H20 e21 hb22 r23 => ?_
 refine q_ (.nilIface) (s_nil (k12 _ _ (w_seqk fun _ k25 => w_seqk fun _ k26 => g_' ?_)))
 have u27 := (r17.ext e21)
 refine l_' (.agg #[i_ N_, hd_Arcs]) (aLoad Tryz.prog 51 (pt_ b13 0) H20) (u27.ld (by kernel_rfl)) ?_
 have u28 := ((h_Arcs.ext e15).ext e21)
 obtain ⟨y29, hy30, r31⟩ := bind_some hr
 refine s_ck 53 #[.agg #[i_ N_, hd_Arcs]] (by kernel_rfl) (c_gtext_Check e21.wf u28 hy30) ?_
 rintro v32 H34 ⟨_, f33, rfl, e35, m36, i37⟩
 refine q_ (v32) (s_nil (k26 _ _ (w_seqk fun _ k39 => g_' (q_ (v32) ?_))))
 rcases (m36).cases with ⟨h40, rfl⟩ | ⟨h40, t41, x42, rfl⟩
 ·have r43 := ite_t h40 r31
  refine q_ (.bool false) (s_nil (k39 _ _ ?_))
  refine w_cond false (by kernel_rfl) rfl (fun h => by cases h) (fun _ => ?_)
  refine w_skip (k25 _ _ (w_seqk fun _ k44 => g_' (q_ (pt_ b13 0) ?_)))
  have u45 := (u27.frS e35 Dj.nil_l)
  refine l_' (i_ N_) (aLoad Tryz.prog 3 (pt_ b13 0) H34) (u45.ld (by kernel_rfl)) ?_
  refine q_ (.agg #[i_ N_, .slice none 0 0]) ?_
  refine s_rwk e35.wf [i_ 0, .slice none 0 0] (by kernel_rfl) fun b46 H47 e48 hb49 r50 => ?_
  obtain ⟨H52, q53, e54, r55⟩ := Row.store (P := Tryz.prog) (t := 51) (p := 0) e48.wf r50 (.agg #[i_ N_, .slice none 0 0]) [i_ N_, .slice none 0 0] (by kernel_rfl) (by kernel_rfl) (one_cons (rfl) (one_cons (rfl) (one_nil))) (Nat.le_of_ble_eq_true (by kernel_rfl)) [i_ N_, .slice none 0 0] (by kernel_rfl)
  refine s_ek (undef) (by kernel_rfl) (map_ok q53) ?_
  refine s_nil (k44 _ _ (w_seqk fun _ k56 => w_seqk fun _ k57 => g_' (q_ (pt_ b13 1) ?_)))
  have u58 := ((u45.ext e48).frS e54 (hb49.djn (r17.ltF.le (ntr e21.next e35.next))))
  refine l_' (hd_Arcs) (aLoad Tryz.prog 49 (pt_ b13 1) H52) (u58.ld (by kernel_rfl)) ?_
  have u59 := (((u28.fr e35 Dj.nil_l).ext e48).fr e54 (hb49.djn (h_Arcs.lt.le (ntr (ntr e15.next e21.next) e35.next))))
  refine l_' (i_ (Arcs.length : Int)) (aLen Tryz.prog 49 hd_Arcs H52) (u59.lenb (by kernel_rfl)) ?_
  refine q_ (i_ 0) (s_nil (k57 _ _ ?_))
  obtain ⟨o60, hx61, r62⟩ := bind_some r43
  refine w_mid (fun α H63 => ∃ (s67 : Value) (f68 : Fp), Has α [(2, pt_ b19 0), (5, pt_ b46 0)] ∧ FrS [b46] H52 H63 ∧ Ow enc_i64_i64_i64 3 H63 s67 o60 f68 ∧ Row H63 b46 [i_ N_, s67] ∧ Inn [] H52 f68) (fun _ k72 => ?_) (fun α H63 hM => ?_)
  ·refine w_block ?_
   obtain ⟨n74, hn75⟩ := loopO_iff.1 hx61
   refine w_loopn (fun n α H76 => ∃ (i0 : Int), ∃ (c1 : List (Int × Int × Int)), ∃ (s80 : Value), ∃ (f81 : Fp), iterO (fun zz_ => z_normal_Reverse_l0 Arcs zz_.1 zz_.2) n (i0, c1) = some o60 ∧ Has α [(2, pt_ b19 0), (5, pt_ b46 0), (18, hd_Arcs), (19, i_ (Arcs.length : Int)), (20, i_ i0)] ∧ FrS [b46] H52 H76 ∧ Ow enc_i64_i64_i64 3 H76 s80 c1 f81 ∧ Row H76 b46 [i_ N_, s80] ∧ Inn [] H52 f81) n74 ⟨0, [], (.slice none 0 0), [], hn75, ha_, (FrS.refl (W := [b46]) e54.wf), (Ow.nil (by decide)), r55, Inn.nil⟩ ?_
   rintro n74 α H76 ⟨i0, c1, s80, f81, hi86, hh85, e77, m79, m83, i84⟩ K91 k91
   obtain ⟨n87, z88, rfl, hz89, hn90⟩ := iter_succ hi86
   obtain ⟨β, rfl⟩ := has_ex hh85
   clear hh85
   replace hz89 : z_normal_Reverse_l0 Arcs i0 c1 = some z88 := hz89
   unfold z_normal_Reverse_l0 at hz89
   obtain ⟨a92, n93, c94, rfl⟩ := m79.form
   refine w_seqk fun _ k95 => g_' (q_ (.bool (decide (i0 < (Arcs.length : Int)))) (s_nil (k95 _ _ (w_seqk fun _ k96 => ?_))))
   refine w_condp (i0 < (Arcs.length : Int)) (by kernel_rfl) rfl (fun h97 => ?_) (fun h97 => ?_)
   ·have r98 := ite_t h97 hz89
    refine w_skip (k96 _ _ (w_seqk fun _ k99 => w_block (w_seqk fun _ k100 => g_' ?_)))
    obtain ⟨g101, r102⟩ := G_some r98
    have u103 := (u59.fr e77 (hb49.djn (h_Arcs.lt.le (ntr (ntr e15.next e21.next) e35.next))))
    refine l_' (elp hd_Arcs 3 i0.toNat 0) (aIndexAddr Tryz.prog 49 hd_Arcs (i_ i0)) (u103.idxb (by kernel_rfl) g101 h97) ?_
    refine l_' (.agg #[i_ ((gt Arcs i0).1), i_ ((gt Arcs i0).2.1), i_ ((gt Arcs i0).2.2)]) (aLoad Tryz.prog 53 (elp hd_Arcs 3 i0.toNat 0) H76) (u103.ld g101 h97 (by kernel_rfl)) ?_
    refine s_rwk e77.wf [i_ 0, i_ 0, i_ 0] (by kernel_rfl) fun b104 H105 e106 hb107 r108 => ?_
    obtain ⟨H110, q111, e112, r113⟩ := Row.store (P := Tryz.prog) (t := 53) (p := 0) e106.wf r108 (.agg #[i_ ((gt Arcs i0).1), i_ ((gt Arcs i0).2.1), i_ ((gt Arcs i0).2.2)]) [i_ ((gt Arcs i0).1), i_ ((gt Arcs i0).2.1), i_ ((gt Arcs i0).2.2)] (by kernel_rfl) (by kernel_rfl) (one_cons (rfl) (one_cons (rfl) (one_cons (rfl) (one_nil)))) (Nat.le_of_ble_eq_true (by kernel_rfl)) [i_ ((gt Arcs i0).1), i_ ((gt Arcs i0).2.1), i_ ((gt Arcs i0).2.2)] (by kernel_rfl)
    refine s_ek (undef) (by kernel_rfl) (map_ok q111) ?_
    refine s_nil (k100 _ _ (g_' (q_ (pt_ b46 1) ?_)))
    have u114 := ((m83.ext e106).frS e112 (hb107.djn (r50.ltF.le (ntr e54.next e77.next))))
    refine l_' (.slice a92 n93 c94) (aLoad Tryz.prog 49 (pt_ b46 1) H110) (u114.ld (by kernel_rfl)) ?_
    refine q_ (pt_ b104 1) ?_
    refine l_' (i_ ((gt Arcs i0).2.1)) (aLoad Tryz.prog 3 (pt_ b104 1) H110) (r113.ld (by kernel_rfl)) ?_
    refine q_ (pt_ b104 0) ?_
    refine l_' (i_ ((gt Arcs i0).1)) (aLoad Tryz.prog 3 (pt_ b104 0) H110) (r113.ld (by kernel_rfl)) ?_
    refine q_ (pt_ b104 2) ?_
    refine l_' (i_ ((gt Arcs i0).2.2)) (aLoad Tryz.prog 3 (pt_ b104 2) H110) (r113.ld (by kernel_rfl)) ?_
    refine q_ (.agg #[i_ ((gt Arcs i0).2.1), i_ ((gt Arcs i0).1), i_ ((gt Arcs i0).2.2)]) ?_
    refine s_owk (enc := enc_i64_i64_i64) (sz := 3) e112.wf [((gt Arcs i0).2.1, (gt Arcs i0).1, (gt Arcs i0).2.2)] 1 (by decide) (fun _ _ => rfl) (fun _ _ => rfl) rfl (by kernel_rfl) fun s115 f116 H117 e118 hf119 hm120 => ?_
    obtain ⟨a121, n122, c123, rfl⟩ := hm120.form
    have u125 := (((m79.ext e106).fr e112 (hb107.djn m79.lt)).ext e118)
    obtain ⟨g126, r127⟩ := G_some r102
    obtain ⟨s128, H129, f130, q134, e131, hm132, hf133⟩ := Ow.append (P := Tryz.prog) 24 e118.wf u125 hm120.sq (fun _ _ => rfl) (at_ := #[49, 49]) rfl rfl (by kernel_rfl) (by kernel_rfl) (by decide) (by have := g126; first | omega | (simp only [List.length_cons, List.length_nil] at this ⊢; omega) | (simp at this ⊢; omega))
    obtain ⟨a135, n136, c137, rfl⟩ := hm132.form
    refine s_ek (.slice a135 n136 c137) (by kernel_rfl) (q134) ?_
    refine q_ (pt_ b46 1) ?_
    have u143 := ((u114.ext e118).frS e131 (i84.djn (r50.ltF.le e54.next)))
    obtain ⟨H139, q140, e141, r142⟩ := Row.store (P := Tryz.prog) (t := 49) (p := 1) e131.wf u143 (.slice a135 n136 c137) [.slice a135 n136 c137] (by kernel_rfl) (by kernel_rfl) (one_cons (hm132.one1) (one_nil)) (Nat.le_of_ble_eq_true (by kernel_rfl)) [i_ N_, .slice a135 n136 c137] (by kernel_rfl)
    refine s_ek (undef) (by kernel_rfl) (map_ok q140) ?_
    refine s_nil (k99 _ _ (g_' ?_))
    obtain ⟨g144, r145⟩ := G_some r127
    refine w_' (i0 + 1) (wrap64 (by have := g144; omega)) ?_
    refine q_ (i_ (i0 + 1)) (s_nil ?_)
    have u146 := (hm132.fr e141 (Dj.symm (hf133.dj (i84.djn (r50.ltF.le e54.next)) (r50.ltF.le (ntr (ntr (ntr (ntr e54.next e77.next) e106.next) e112.next) e118.next)))))
    obtain rfl := Option.some.inj r145
    exact k91 n87 _ _ (Nat.lt_succ_self _) ⟨(i0 + 1), (c1 ++ [((gt Arcs i0).2.1, (gt Arcs i0).1, (gt Arcs i0).2.2)]), (.slice a135 n136 c137), f130, hn90, ha_, (FrS.step e54.wf (FrS.step e54.wf ((FrS.step e54.wf ((FrS.step e54.wf (FrS.refl (W := [b46]) e54.wf) e77 Inn.refl').extR e106) e112 (hb107.fresh e77.next)).extR e118) e131 (i84.fresh (Nat.le_refl _))) e141 Inn.refl'), u146, r142, (Inn.trans (i84.fresh (Nat.le_refl _)) (ntr (ntr (ntr e77.next e106.next) e112.next) e118.next) hf133)⟩
   have r147 := ite_f h97 hz89
   refine w_exit (th_exit (th_exit (bl_eq ?_)))
   obtain rfl := Option.some.inj r147
   obtain rfl := it_inr hn90
   exact k72 _ _ ⟨(.slice a92 n93 c94), f81, ha_, (FrS.step e54.wf (FrS.refl (W := [b46]) e54.wf) e77 Inn.refl'), m79, m83, (i84.fresh (Nat.le_refl _))⟩
  obtain ⟨s67, f68, hh73, e64, m66, m70, i71⟩ := hM
  obtain ⟨β, rfl⟩ := has_ex hh73
  clear hh73
  obtain ⟨a148, n149, c150, rfl⟩ := m66.form
  refine k56 _ _ (w_seqk fun _ k151 => g_' ?_)
  refine l_' (.agg #[i_ N_, .slice a148 n149 c150]) (aLoad Tryz.prog 51 (pt_ b46 0) H63) (m70.ld (by kernel_rfl)) ?_
  have u156 := ((((r23.frS e35 Dj.nil_l).ext e48).frS e54 (hb49.djn (r23.ltF.le e35.next))).frS e64 (hb49.djn (r23.ltF.le e35.next)))
  obtain ⟨H152, q153, e154, r155⟩ := Row.store (P := Tryz.prog) (t := 51) (p := 0) e64.wf u156 (.agg #[i_ N_, .slice a148 n149 c150]) [i_ N_, .slice a148 n149 c150] (by kernel_rfl) (by kernel_rfl) (one_cons (rfl) (one_cons (m66.one1) (one_nil))) (Nat.le_of_ble_eq_true (by kernel_rfl)) [i_ N_, .slice a148 n149 c150] (by kernel_rfl)
  refine s_ek (undef) (by kernel_rfl) (map_ok q153) ?_
  refine q_ (.nilIface) (s_nil (k151 _ _ ?_))
  refine w_ret ?_
  refine b_ret (fn := Tryz.f37) (vs := [.agg #[i_ N_, .slice a148 n149 c150], .nilIface]) (aRes_cell (Eq.trans (b := aLoad Tryz.prog 51 (pt_ b19 0) H152) (by kernel_rfl) (r155.ld (by kernel_rfl))) (aRes_tmp (by kernel_rfl) (rfl))) ?_
  have u157 := (m66.fr e154 (Dj.symm (i71.djn (r23.ltF.le (ntr (ntr e35.next e48.next) e54.next)))))
  obtain rfl := Option.some.inj r62
  exact ⟨(.slice a148 n149 c150), f68, (.nilIface), [], rfl, (FrS.step wf (FrS.step wf (FrS.step wf ((FrS.step wf (((FrS.refl (W := []) wf).extR e15).extR e21) e35 Inn.nil).extR e48) e54 (hb49.fresh (ntr (ntr e15.next e21.next) e35.next))) e64 (hb49.fresh (ntr (ntr e15.next e21.next) e35.next))) e154 (hb22.fresh e15.next)), u157, Ev.nil, (i71.fresh (ntr (ntr (ntr (ntr e15.next e21.next) e35.next) e48.next) e54.next)), Inn.nil, Dj.nil_r⟩
 have r158 := ite_f h40 r31
 refine l_' (.bool true) (aBin Tryz.prog .neq 31 (.tmp 10) (.const .nilIface) (.iface t41 x42) .nilIface) (aBin_nnil (by kernel_rfl)) ?_
 refine s_nil (k39 _ _ ?_)
 refine w_cond true (by kernel_rfl) rfl (fun _ => ?_) (fun h => by cases h)
 refine w_seqk fun _ k159 => g_' (q_ (.agg #[i_ 0, .slice none 0 0]) (q_ (.iface t41 x42) ?_))
 have u164 := (r23.frS e35 Dj.nil_l)
 obtain ⟨H160, q161, e162, r163⟩ := Row.store (P := Tryz.prog) (t := 51) (p := 0) e35.wf u164 (.agg #[i_ 0, .slice none 0 0]) [i_ 0, .slice none 0 0] (by kernel_rfl) (by kernel_rfl) (one_cons (rfl) (one_cons (rfl) (one_nil))) (Nat.le_of_ble_eq_true (by kernel_rfl)) [i_ 0, .slice none 0 0] (by kernel_rfl)
 refine s_ek (undef) (by kernel_rfl) (map_ok q161) ?_
 refine q_ (.iface t41 x42) (s_nil (k159 _ _ ?_))
 refine w_ret (th_ret ?_)
 refine b_ret (fn := Tryz.f37) (vs := [.agg #[i_ 0, .slice none 0 0], .iface t41 x42]) (aRes_cell (Eq.trans (b := aLoad Tryz.prog 51 (pt_ b19 0) H160) (by kernel_rfl) (r163.ld (by kernel_rfl))) (aRes_tmp (by kernel_rfl) (rfl))) ?_
 have u165 := (m36.fr e162 (Dj.symm (i37.djn r23.ltF)))
 obtain rfl := Option.some.inj r158
 exact ⟨(.slice none 0 0), [], (.iface t41 x42), f33, rfl, (FrS.step wf (FrS.step wf (((FrS.refl (W := []) wf).extR e15).extR e21) e35 Inn.nil) e162 (hb22.fresh e15.next)), (Ow.nil (by decide)), u165, Inn.nil, (i37.fresh (ntr e15.next e21.next)), Dj.nil_l⟩
theorem c_csr_Back {H : AH} {hd_Arcs : Value} {fp_Arcs : Fp} {N_ : Int} {Arcs : List (Int × Int × Int)} {r : List (Int) × List (Int) × List (Int) × Er}
    (wf : WF H) (h_Arcs : Sq enc_i64_i64_i64 3 H hd_Arcs Arcs fp_Arcs) (hr : z_csr_Back N_ Arcs = some r) :
    ACalls Tryz.prog 17 #[.agg #[i_ N_, hd_Arcs]] H fun v H' => ∃ (s3 : Value) (f4 : Fp) (s7 : Value) (f8 : Fp) (s11 : Value) (f12 : Fp) (v15 : Value) (f16 : Fp), v = .tuple #[.agg #[s3, s7, s11], v15] ∧ FrS [] H H' ∧ Ow (encI .i64) 1 H' s3 r.1 f4 ∧ Ow (encI .i64) 1 H' s7 r.2.1 f8 ∧ Ow (encI .i64) 1 H' s11 r.2.2.1 f12 ∧ Ev 43 81 H' v15 r.2.2.2 f16 ∧ Inn [] H f4 ∧ Inn [] H f8 ∧ Inn [] H f12 ∧ Inn [] H f16 ∧ Dj f4 f8 ∧ Dj f4 f12 ∧ Dj f8 f12 ∧ Dj f4 f16 ∧ Dj f8 f16 ∧ Dj f12 f16 := by
 refine acalls_of_body mixed Tryz.func17 rfl (Nat.le_of_ble_eq_true rfl) ?_
 unfold z_csr_Back at hr
 refine w_seqk fun _ k27 => g_' ?_
 refine s_rwl wf [i_ N_, hd_Arcs] (one_cons (rfl) (one_cons (h_Arcs.one1) (one_nil))) (by kernel_rfl) fun b28 H29 e30 hb31 r32 => ?_
 refine s_rwk e30.wf [.slice none 0 0, .slice none 0 0, .slice none 0 0] (by kernel_rfl) fun b34 H35 e36 hb37 r38 => ?_
 refine q_ (.nilIface) (s_nil (k27 _ _ (w_seqk fun _ k40 => g_' ?_)))
 have u41 := (r32.ext e36)
 refine l_' (.agg #[i_ N_, hd_Arcs]) (aLoad Tryz.prog 51 (pt_ b28 0) H35) (u41.ld (by kernel_rfl)) ?_
 have u42 := ((h_Arcs.ext e30).ext e36)
 obtain ⟨y43, hy44, r45⟩ := bind_some hr
 refine s_ck 37 #[.agg #[i_ N_, hd_Arcs]] (by kernel_rfl) (c_normal_Reverse e36.wf u42 hy44) ?_
 rintro _ H50 ⟨s46, f47, v48, f49, rfl, e51, m52, m53, i54, i55, d56⟩
 obtain ⟨a59, n60, c61, rfl⟩ := m52.form
 refine q_ (.tuple #[.agg #[i_ y43.1, .slice a59 n60 c61], v48]) (q_ (.agg #[i_ y43.1, .slice a59 n60 c61]) (q_ (v48) ?_))
 refine s_rwk e51.wf [i_ 0, .slice none 0 0] (by kernel_rfl) fun b62 H63 e64 hb65 r66 => ?_
 have u72 := (m52.ext e64)
 obtain ⟨H68, q69, e70, r71⟩ := Row.store (P := Tryz.prog) (t := 51) (p := 0) e64.wf r66 (.agg #[i_ y43.1, .slice a59 n60 c61]) [i_ y43.1, .slice a59 n60 c61] (by kernel_rfl) (by kernel_rfl) (one_cons (rfl) (one_cons (u72.one1) (one_nil))) (Nat.le_of_ble_eq_true (by kernel_rfl)) [i_ y43.1, .slice a59 n60 c61] (by kernel_rfl)
 refine s_ek (undef) (by kernel_rfl) (map_ok q69) ?_
 refine q_ (v48) (s_nil (k40 _ _ (w_seqk fun _ k73 => w_seqk fun _ k74 => g_' (q_ (v48) ?_))))
 have u78 := ((m53.ext e64).fr e70 (hb65.djn m53.lt))
 rcases (u78).cases with ⟨h75, rfl⟩ | ⟨h75, t76, x77, rfl⟩
 ·have r79 := ite_t h75 r45
  refine q_ (.bool false) (s_nil (k74 _ _ ?_))
  refine w_cond false (by kernel_rfl) rfl (fun h => by cases h) (fun _ => ?_)
  refine w_skip (k73 _ _ (w_seqk fun _ k80 => g_' ?_))
  refine l_' (.agg #[i_ y43.1, .slice a59 n60 c61]) (aLoad Tryz.prog 51 (pt_ b62 0) H68) (r71.ld (by kernel_rfl)) ?_
  have u81 := (u72.fr e70 (hb65.djn m52.lt))
  obtain ⟨y82, hy83, r84⟩ := bind_some r79
  refine s_ck 14 #[.agg #[i_ y43.1, .slice a59 n60 c61]] (by kernel_rfl) (c_csr_Build e70.wf u81.sq hy83) ?_
  rintro _ H93 ⟨s85, f86, s87, f88, s89, f90, v91, f92, rfl, e94, m95, m96, m97, m98, i99, i100, i101, i102, d103, d104, d105, d106, d107, d108⟩
  obtain ⟨a113, n114, c115, rfl⟩ := m95.form
  obtain ⟨a116, n117, c118, rfl⟩ := m96.form
  obtain ⟨a119, n120, c121, rfl⟩ := m97.form
  refine q_ (.agg #[.slice a113 n114 c115, .slice a116 n117 c118, .slice a119 n120 c121]) (q_ (v91) ?_)
  have u126 := ((((r38.frS e51 Dj.nil_l).ext e64).frS e70 (hb65.djn (r38.ltF.le e51.next))).frS e94 Dj.nil_l)
  obtain ⟨H122, q123, e124, r125⟩ := Row.store (P := Tryz.prog) (t := 25) (p := 0) e94.wf u126 (.agg #[.slice a113 n114 c115, .slice a116 n117 c118, .slice a119 n120 c121]) [.slice a113 n114 c115, .slice a116 n117 c118, .slice a119 n120 c121] (by kernel_rfl) (by kernel_rfl) (one_cons (m95.one1) (one_cons (m96.one1) (one_cons (m97.one1) (one_nil)))) (Nat.le_of_ble_eq_true (by kernel_rfl)) [.slice a113 n114 c115, .slice a116 n117 c118, .slice a119 n120 c121] (by kernel_rfl)
  refine s_ek (undef) (by kernel_rfl) (map_ok q123) ?_
  refine q_ (v91) (s_nil (k80 _ _ ?_))
  refine w_ret ?_
  refine b_ret (fn := Tryz.f17) (vs := [.agg #[.slice a113 n114 c115, .slice a116 n117 c118, .slice a119 n120 c121], v91]) (aRes_cell (Eq.trans (b := aLoad Tryz.prog 25 (pt_ b34 0) H122) (by kernel_rfl) (r125.ld (by kernel_rfl))) (aRes_tmp (by kernel_rfl) (rfl))) ?_
  have u127 := (m95.fr e124 (Dj.symm (i99.djn (r38.ltF.le (ntr (ntr e51.next e64.next) e70.next)))))
  have u128 := (m96.fr e124 (Dj.symm (i100.djn (r38.ltF.le (ntr (ntr e51.next e64.next) e70.next)))))
  have u129 := (m97.fr e124 (Dj.symm (i101.djn (r38.ltF.le (ntr (ntr e51.next e64.next) e70.next)))))
  have u130 := (m98.fr e124 (Dj.symm (i102.djn (r38.ltF.le (ntr (ntr e51.next e64.next) e70.next)))))
  obtain rfl := Option.some.inj r84
  exact ⟨(.slice a113 n114 c115), f86, (.slice a116 n117 c118), f88, (.slice a119 n120 c121), f90, (v91), f92, rfl, (FrS.step wf (FrS.step wf (FrS.step wf ((FrS.step wf (((FrS.refl (W := []) wf).extR e30).extR e36) e51 Inn.nil).extR e64) e70 (hb65.fresh (ntr (ntr e30.next e36.next) e51.next))) e94 Inn.nil) e124 (hb37.fresh e30.next)), u127, u128, u129, u130, (i99.fresh (ntr (ntr (ntr (ntr e30.next e36.next) e51.next) e64.next) e70.next)), (i100.fresh (ntr (ntr (ntr (ntr e30.next e36.next) e51.next) e64.next) e70.next)), (i101.fresh (ntr (ntr (ntr (ntr e30.next e36.next) e51.next) e64.next) e70.next)), (i102.fresh (ntr (ntr (ntr (ntr e30.next e36.next) e51.next) e64.next) e70.next)), d103, d104, d105, d106, d107, d108⟩
 have r131 := ite_f h75 r45
 refine l_' (.bool true) (aBin Tryz.prog .neq 31 (.tmp 11) (.const .nilIface) (.iface t76 x77) .nilIface) (aBin_nnil (by kernel_rfl)) ?_
 refine s_nil (k74 _ _ ?_)
 refine w_cond true (by kernel_rfl) rfl (fun _ => ?_) (fun h => by cases h)
 refine w_seqk fun _ k132 => g_' (q_ (.agg #[.slice none 0 0, .slice none 0 0, .slice none 0 0]) (q_ (.iface t76 x77) ?_))
 have u137 := (((r38.frS e51 Dj.nil_l).ext e64).frS e70 (hb65.djn (r38.ltF.le e51.next)))
 obtain ⟨H133, q134, e135, r136⟩ := Row.store (P := Tryz.prog) (t := 25) (p := 0) e70.wf u137 (.agg #[.slice none 0 0, .slice none 0 0, .slice none 0 0]) [.slice none 0 0, .slice none 0 0, .slice none 0 0] (by kernel_rfl) (by kernel_rfl) (one_cons (rfl) (one_cons (rfl) (one_cons (rfl) (one_nil)))) (Nat.le_of_ble_eq_true (by kernel_rfl)) [.slice none 0 0, .slice none 0 0, .slice none 0 0] (by kernel_rfl)
 refine s_ek (undef) (by kernel_rfl) (map_ok q134) ?_
 refine q_ (.iface t76 x77) (s_nil (k132 _ _ ?_))
 refine w_ret (th_ret ?_)
 refine b_ret (fn := Tryz.f17) (vs := [.agg #[.slice none 0 0, .slice none 0 0, .slice none 0 0], .iface t76 x77]) (aRes_cell (Eq.trans (b := aLoad Tryz.prog 25 (pt_ b34 0) H133) (by kernel_rfl) (r136.ld (by kernel_rfl))) (aRes_tmp (by kernel_rfl) (rfl))) ?_
 have u138 := (u78.fr e135 (Dj.symm (i55.djn r38.ltF)))
 obtain rfl := Option.some.inj r131
 exact ⟨(.slice none 0 0), [], (.slice none 0 0), [], (.slice none 0 0), [], (.iface t76 x77), f49, rfl, (FrS.step wf (FrS.step wf ((FrS.step wf (((FrS.refl (W := []) wf).extR e30).extR e36) e51 Inn.nil).extR e64) e70 (hb65.fresh (ntr (ntr e30.next e36.next) e51.next))) e135 (hb37.fresh e30.next)), (Ow.nil (by decide)), (Ow.nil (by decide)), (Ow.nil (by decide)), u138, Inn.nil, Inn.nil, Inn.nil, (i55.fresh (ntr e30.next e36.next)), Dj.nil_l, Dj.nil_l, Dj.nil_l, Dj.nil_l, Dj.nil_l, Dj.nil_l⟩
theorem c_csr_Csr_nodes {H : AH} {hd_First : Value} {fp_First : Fp} {hd_To : Value} {fp_To : Fp} {hd_Weight : Value} {fp_Weight : Fp} {First : List (Int)} {To : List (Int)} {Weight : List (Int)} {r : Int}
    (wf : WF H) (h_First : Sq (encI .i64) 1 H hd_First First fp_First) (h_To : Sq (encI .i64) 1 H hd_To To fp_To) (h_Weight : Sq (encI .i64) 1 H hd_Weight Weight fp_Weight) (hr : z_csr_Csr_nodes First To Weight = some r) :
    ACalls Tryz.prog 58 #[.agg #[hd_First, hd_To, hd_Weight]] H fun v H' => v = i_ r ∧ FrS [] H H' := by
 refine acalls_of_body mixed Tryz.func58 rfl (Nat.le_of_ble_eq_true rfl) ?_
 unfold z_csr_Csr_nodes at hr
 refine w_seqk fun _ k1 => g_' ?_
 refine s_rwl wf [hd_First, hd_To, hd_Weight] (one_cons (h_First.one1) (one_cons (h_To.one1) (one_cons (h_Weight.one1) (one_nil)))) (by kernel_rfl) fun b2 H3 e4 hb5 r6 => ?_
 refine q_ (i_ 0) (s_nil (k1 _ _ (w_seqk fun _ k8 => g_' (q_ (pt_ b2 0) ?_))))
 refine l_' (hd_First) (aLoad Tryz.prog 23 (pt_ b2 0) H3) (r6.ld (by kernel_rfl)) ?_
 have u9 := (h_First.ext e4)
 refine l_' (i_ (First.length : Int)) (aLen Tryz.prog 23 hd_First H3) (u9.lenb (by kernel_rfl)) ?_
 obtain ⟨g10, r11⟩ := G_some hr
 refine w_' ((First.length : Int) - 1) (wrap64 g10) ?_
 refine q_ (i_ ((First.length : Int) - 1)) (s_nil (k8 _ _ ?_))
 refine w_ret ?_
 refine b_ret (fn := Tryz.f58) (vs := [i_ ((First.length : Int) - 1)]) (aRes_tmp (by kernel_rfl) (rfl)) ?_
 obtain rfl := Option.some.inj r11
 exact ⟨rfl, ((FrS.refl (W := []) wf).extR e4)⟩
end Go.Vd

/-! (KSt2) -/

set_option maxRecDepth 100000
set_option maxHeartbeats 4000000
set_option linter.unusedVariables false
namespace Go.Vd
open Go.Proofs
attribute [local irreducible] wpSeq wpOrd aWp
theorem c_csr_Csr_arc {H : AH} {hd_First : Value} {fp_First : Fp} {hd_To : Value} {fp_To : Fp} {hd_Weight : Value} {fp_Weight : Fp} {First : List (Int)} {To : List (Int)} {Weight : List (Int)} {v_ : Int} {i : Int} {r : Er}
    (wf : WF H) (h_First : Sq (encI .i64) 1 H hd_First First fp_First) (h_To : Sq (encI .i64) 1 H hd_To To fp_To) (h_Weight : Sq (encI .i64) 1 H hd_Weight Weight fp_Weight) (hr : z_csr_Csr_arc First To Weight v_ i = some r) :
    ACalls Tryz.prog 60 #[.agg #[hd_First, hd_To, hd_Weight], i_ v_, i_ i] H fun v H' => ∃ (v3 : Value) (f4 : Fp), v = v3 ∧ FrS [] H H' ∧ Ev 43 81 H' v3 r f4 ∧ Inn [] H f4 := by
 refine acalls_of_body mixed Tryz.func60 rfl (Nat.le_of_ble_eq_true rfl) ?_
 unfold z_csr_Csr_arc at hr
 refine w_seqk fun _ k6 => g_' ?_
 refine s_rwl wf [hd_First, hd_To, hd_Weight] (one_cons (h_First.one1) (one_cons (h_To.one1) (one_cons (h_Weight.one1) (one_nil)))) (by kernel_rfl) fun b7 H8 e9 hb10 r11 => ?_
 refine q_ (.nilIface) (s_nil (k6 _ _ (w_seqk fun _ k13 => g_' (q_ (pt_ b7 1) ?_))))
 refine l_' (hd_To) (aLoad Tryz.prog 23 (pt_ b7 1) H8) (r11.ld (by kernel_rfl)) ?_
 refine q_ (i_ i) ?_
 obtain ⟨g14, r15⟩ := G_some hr
 have u16 := (h_To.ext e9)
 refine l_' (elp hd_To 1 i.toNat 0) (aIndexAddr Tryz.prog 23 hd_To (i_ i)) (u16.idxb (by kernel_rfl) g14.1 g14.2) ?_
 refine l_' (i_ (gt To i)) (aLoad Tryz.prog 3 (elp hd_To 1 i.toNat 0) H8) (u16.ld g14.1 g14.2 (by kernel_rfl)) ?_
 refine q_ (i_ (gt To i)) (s_nil (k13 _ _ (w_seqk fun _ k17 => w_block (w_seqk fun _ k18 => ?_))))
 obtain ⟨o19, hx20, r21⟩ := bind_some r15
 refine w_mid (fun α H22 => Has α [(1, i_ v_), (2, i_ i), (3, pt_ b7 0), (7, i_ (gt To i)), (13, .bool o19)] ∧ FrS [] H8 H22) (fun _ k24 => ?_) (fun α H22 hM => ?_)
 ·refine g_' (q_ (i_ (gt To i)) ?_)
  refine s_b ((gt To i) < 0) (by kernel_rfl) (fun h26 => ?_) (fun h26 => ?_)
  ·have r27 := ite_t h26 hx20
   refine q_ (.bool true) (n_' (n_' (n_' (n_' (q_ (.bool true) (q_ (.bool true) (s_nil ?_)))))))
   obtain rfl := Option.some.inj r27
   exact k24 _ _ ⟨ha_, (FrS.refl (W := []) e9.wf)⟩
  have r28 := ite_f h26 hx20
  refine q_ (.bool false) (q_ (i_ (gt To i)) ?_)
  refine l_' (.agg #[hd_First, hd_To, hd_Weight]) (aLoad Tryz.prog 25 (pt_ b7 0) H8) (r11.ld (by kernel_rfl)) ?_
  have u29 := (h_First.ext e9)
  have u30 := (h_Weight.ext e9)
  obtain ⟨y31, hy32, r33⟩ := bind_some r28
  refine s_ck 58 #[.agg #[hd_First, hd_To, hd_Weight]] (by kernel_rfl) (c_csr_Csr_nodes e9.wf u29 u16 u30 hy32) ?_
  rintro _ H34 ⟨rfl, e35⟩
  refine q_ (.bool (decide ((gt To i) ≥ y31))) (q_ (.bool (decide ((gt To i) ≥ y31))) (q_ (.bool (decide ((gt To i) ≥ y31))) (s_nil ?_)))
  obtain rfl := Option.some.inj r33
  exact k24 _ _ ⟨ha_, (FrS.step e9.wf (FrS.refl (W := []) e9.wf) e35 Inn.nil)⟩
 obtain ⟨hh25, e23⟩ := hM
 obtain ⟨β, rfl⟩ := has_ex hh25
 clear hh25
 refine k18 _ _ ?_
 refine w_cond (o19) (by kernel_rfl) rfl (fun h36 => ?_) (fun h36 => ?_)
 ·have r37 := ite_t h36 r21
  refine w_seqk fun _ k38 => g_' (q_ (.iface 43 (i_ 7)) (q_ (.iface 43 (i_ 7)) (s_nil (k38 _ _ ?_))))
  refine w_ret (bl_ret (th_ret ?_))
  refine b_ret (fn := Tryz.f60) (vs := [.iface 43 (i_ 7)]) (aRes_tmp (by kernel_rfl) (rfl)) ?_
  obtain rfl := Option.some.inj r37
  exact ⟨(.iface 43 (i_ 7)), [], rfl, (FrS.step wf ((FrS.refl (W := []) wf).extR e9) e23 Inn.nil), Ev.no, Inn.nil⟩
 have r39 := ite_bf h36 r21
 refine w_seqk fun _ k40 => ?_
 obtain ⟨o41, hx42, r43⟩ := bind_some r39
 refine w_mid (fun α H44 => Has α [(2, i_ i), (3, pt_ b7 0), (23, .bool o41)] ∧ H22 = H44) (fun _ k46 => ?_) (fun α H44 hM => ?_)
 ·refine g_' (q_ (i_ (gt To i)) (q_ (i_ v_) ?_))
  refine s_b ((gt To i) = v_) (by kernel_rfl) (fun h48 => ?_) (fun h48 => ?_)
  ·have r49 := ite_t h48 hx42
   refine q_ (.bool true) (n_' (n_' (n_' (n_' (n_' (n_' (n_' (n_' (n_' (n_' (n_' (n_' (n_' (n_' (n_' (n_' (n_' (q_ (.bool true) (q_ (.bool true) (s_nil ?_))))))))))))))))))))
   obtain rfl := Option.some.inj r49
   exact k46 _ _ ⟨ha_, rfl⟩
  have r50 := ite_f h48 hx42
  refine q_ (.bool false) (q_ (i_ i) (q_ (pt_ b7 0) ?_))
  have u51 := (r11.frS e23 Dj.nil_l)
  refine l_' (hd_First) (aLoad Tryz.prog 23 (pt_ b7 0) H22) (u51.ld (by kernel_rfl)) ?_
  refine q_ (i_ v_) ?_
  obtain ⟨g52, r53⟩ := G_some r50
  have u54 := ((h_First.ext e9).fr e23 Dj.nil_l)
  refine l_' (elp hd_First 1 v_.toNat 0) (aIndexAddr Tryz.prog 23 hd_First (i_ v_)) (u54.idxb (by kernel_rfl) g52.1 g52.2) ?_
  refine l_' (i_ (gt First v_)) (aLoad Tryz.prog 3 (elp hd_First 1 v_.toNat 0) H22) (u54.ld g52.1 g52.2 (by kernel_rfl)) ?_
  refine s_b (i > (gt First v_)) (by kernel_rfl) (fun h55 => ?_) (fun h55 => ?_)
  ·have r56 := ite_t h55 r53
   refine q_ (.bool true) (q_ (i_ (gt To i)) (q_ (pt_ b7 1) ?_))
   refine l_' (hd_To) (aLoad Tryz.prog 23 (pt_ b7 1) H22) (u51.ld (by kernel_rfl)) ?_
   refine q_ (i_ i) ?_
   obtain ⟨g57, r58⟩ := G_some r56
   refine w_' (i - 1) (wrap64 g57) ?_
   obtain ⟨g59, r60⟩ := G_some r58
   have u61 := (u16.fr e23 Dj.nil_l)
   refine l_' (elp hd_To 1 (i - 1).toNat 0) (aIndexAddr Tryz.prog 23 hd_To (i_ (i - 1))) (u61.idxb (by kernel_rfl) g59.1 g59.2) ?_
   refine l_' (i_ (gt To (i - 1))) (aLoad Tryz.prog 3 (elp hd_To 1 (i - 1).toNat 0) H22) (u61.ld g59.1 g59.2 (by kernel_rfl)) ?_
   refine q_ (.bool (decide ((gt To i) ≤ (gt To (i - 1))))) (q_ (.bool (decide ((gt To i) ≤ (gt To (i - 1))))) (q_ (.bool (decide ((gt To i) ≤ (gt To (i - 1))))) (q_ (.bool (decide ((gt To i) ≤ (gt To (i - 1))))) (s_nil ?_))))
   obtain rfl := Option.some.inj r60
   exact k46 _ _ ⟨ha_, rfl⟩
  have r62 := ite_f h55 r53
  refine q_ (.bool false) (n_' (n_' (n_' (n_' (n_' (n_' (n_' (n_' (q_ (.bool false) (q_ (.bool false) (q_ (.bool false) (s_nil ?_))))))))))))
  obtain rfl := Option.some.inj r62
  exact k46 _ _ ⟨ha_, rfl⟩
 obtain ⟨hh47, rfl⟩ := hM
 obtain ⟨β, rfl⟩ := has_ex hh47
 clear hh47
 refine k40 _ _ ?_
 refine w_cond (o41) (by kernel_rfl) rfl (fun h63 => ?_) (fun h63 => ?_)
 ·have r64 := ite_t h63 r43
  refine w_seqk fun _ k65 => g_' (q_ (.iface 43 (i_ 14)) (q_ (.iface 43 (i_ 14)) (s_nil (k65 _ _ ?_))))
  refine w_ret (bl_ret (th_ret ?_))
  refine b_ret (fn := Tryz.f60) (vs := [.iface 43 (i_ 14)]) (aRes_tmp (by kernel_rfl) (rfl)) ?_
  obtain rfl := Option.some.inj r64
  exact ⟨(.iface 43 (i_ 14)), [], rfl, (FrS.step wf ((FrS.refl (W := []) wf).extR e9) e23 Inn.nil), Ev.no, Inn.nil⟩
 have r66 := ite_bf h63 r43
 refine w_seqk fun _ k67 => g_' (q_ (pt_ b7 2) ?_)
 have u68 := (r11.frS e23 Dj.nil_l)
 refine l_' (hd_Weight) (aLoad Tryz.prog 23 (pt_ b7 2) H22) (u68.ld (by kernel_rfl)) ?_
 refine q_ (i_ i) ?_
 obtain ⟨g69, r70⟩ := G_some r66
 have u71 := ((h_Weight.ext e9).fr e23 Dj.nil_l)
 refine l_' (elp hd_Weight 1 i.toNat 0) (aIndexAddr Tryz.prog 23 hd_Weight (i_ i)) (u71.idxb (by kernel_rfl) g14.1 g69) ?_
 refine l_' (i_ (gt Weight i)) (aLoad Tryz.prog 3 (elp hd_Weight 1 i.toNat 0) H22) (u71.ld g14.1 g69 (by kernel_rfl)) ?_
 refine s_b ((gt Weight i) < 0) (by kernel_rfl) (fun h72 => ?_) (fun h72 => ?_)
 ·have r73 := ite_t h72 r70
  refine q_ (.bool true) (n_' (n_' (n_' (n_' (n_' (n_' (q_ (.bool true) (q_ (.bool true) (s_nil (k67 _ _ ?_))))))))))
  refine w_cond true (by kernel_rfl) rfl (fun _ => ?_) (fun h => by cases h)
  refine w_seqk fun _ k74 => g_' (q_ (.iface 43 (i_ 8)) (q_ (.iface 43 (i_ 8)) (s_nil (k74 _ _ ?_))))
  refine w_ret (bl_ret (th_ret ?_))
  refine b_ret (fn := Tryz.f60) (vs := [.iface 43 (i_ 8)]) (aRes_tmp (by kernel_rfl) (rfl)) ?_
  obtain rfl := Option.some.inj r73
  exact ⟨(.iface 43 (i_ 8)), [], rfl, (FrS.step wf ((FrS.refl (W := []) wf).extR e9) e23 Inn.nil), Ev.no, Inn.nil⟩
 have r75 := ite_f h72 r70
 refine q_ (.bool false) (q_ (pt_ b7 2) ?_)
 refine l_' (hd_Weight) (aLoad Tryz.prog 23 (pt_ b7 2) H22) (u68.ld (by kernel_rfl)) ?_
 refine q_ (i_ i) ?_
 refine l_' (elp hd_Weight 1 i.toNat 0) (aIndexAddr Tryz.prog 23 hd_Weight (i_ i)) (u71.idxb (by kernel_rfl) g14.1 g69) ?_
 refine l_' (i_ (gt Weight i)) (aLoad Tryz.prog 3 (elp hd_Weight 1 i.toNat 0) H22) (u71.ld g14.1 g69 (by kernel_rfl)) ?_
 refine q_ (.bool (decide ((gt Weight i) > 2147483647))) (q_ (.bool (decide ((gt Weight i) > 2147483647))) (q_ (.bool (decide ((gt Weight i) > 2147483647))) (s_nil (k67 _ _ ?_))))
 refine w_condp ((gt Weight i) > 2147483647) (by kernel_rfl) rfl (fun h76 => ?_) (fun h76 => ?_)
 ·have r77 := ite_t h76 r75
  refine w_seqk fun _ k78 => g_' (q_ (.iface 43 (i_ 8)) (q_ (.iface 43 (i_ 8)) (s_nil (k78 _ _ ?_))))
  refine w_ret (bl_ret (th_ret ?_))
  refine b_ret (fn := Tryz.f60) (vs := [.iface 43 (i_ 8)]) (aRes_tmp (by kernel_rfl) (rfl)) ?_
  obtain rfl := Option.some.inj r77
  exact ⟨(.iface 43 (i_ 8)), [], rfl, (FrS.step wf ((FrS.refl (W := []) wf).extR e9) e23 Inn.nil), Ev.no, Inn.nil⟩
 have r79 := ite_f h76 r75
 refine w_skip (k17 _ _ (w_seqk fun _ k80 => g_' (q_ (.nilIface) (s_nil (k80 _ _ ?_)))))
 refine w_ret ?_
 refine b_ret (fn := Tryz.f60) (vs := [.nilIface]) (aRes_tmp (by kernel_rfl) (rfl)) ?_
 obtain rfl := Option.some.inj r79
 exact ⟨(.nilIface), [], rfl, (FrS.step wf ((FrS.refl (W := []) wf).extR e9) e23 Inn.nil), Ev.nil, Inn.nil⟩
theorem c_csr_Check {H : AH} {hd_First : Value} {fp_First : Fp} {hd_To : Value} {fp_To : Fp} {hd_Weight : Value} {fp_Weight : Fp} {First : List (Int)} {To : List (Int)} {Weight : List (Int)} {r : Er}
    (wf : WF H) (h_First : Sq (encI .i64) 1 H hd_First First fp_First) (h_To : Sq (encI .i64) 1 H hd_To To fp_To) (h_Weight : Sq (encI .i64) 1 H hd_Weight Weight fp_Weight) (hr : z_csr_Check First To Weight = some r) :
    ACalls Tryz.prog 34 #[.agg #[hd_First, hd_To, hd_Weight]] H fun v H' => ∃ (v3 : Value) (f4 : Fp), v = v3 ∧ FrS [] H H' ∧ Ev 43 81 H' v3 r f4 ∧ Inn [] H f4 := by
 refine acalls_of_body mixed Tryz.func34 rfl (Nat.le_of_ble_eq_true rfl) ?_
 unfold z_csr_Check at hr
 refine w_seqk fun _ k6 => g_' ?_
 refine s_rwl wf [hd_First, hd_To, hd_Weight] (one_cons (h_First.one1) (one_cons (h_To.one1) (one_cons (h_Weight.one1) (one_nil)))) (by kernel_rfl) fun b7 H8 e9 hb10 r11 => ?_
 refine q_ (.nilIface) (s_nil (k6 _ _ (w_seqk fun _ k13 => g_' ?_)))
 refine l_' (.agg #[hd_First, hd_To, hd_Weight]) (aLoad Tryz.prog 25 (pt_ b7 0) H8) (r11.ld (by kernel_rfl)) ?_
 have u14 := (h_First.ext e9)
 have u15 := (h_To.ext e9)
 have u16 := (h_Weight.ext e9)
 obtain ⟨y17, hy18, r19⟩ := bind_some hr
 refine s_ck 58 #[.agg #[hd_First, hd_To, hd_Weight]] (by kernel_rfl) (c_csr_Csr_nodes e9.wf u14 u15 u16 hy18) ?_
 rintro _ H20 ⟨rfl, e21⟩
 refine q_ (i_ y17) (s_nil (k13 _ _ (w_seqk fun _ k22 => w_block (w_seqk fun _ k23 => ?_))))
 obtain ⟨o24, hx25, r26⟩ := bind_some r19
 refine w_mid (fun α H27 => Has α [(1, pt_ b7 0), (3, i_ y17), (10, .bool o24)] ∧ H20 = H27) (fun _ k29 => ?_) (fun α H27 hM => ?_)
 ·refine w_draw [0, 1, 2, 3, 4, 5, 6, 7, 8, 9, 10, 11, 12, 13, 14, 15, 16, 17, 18, 19, 20, 21, 22, 23, 24, 25, 26, 27, 28, 29] (by kernel_rfl) ?_
  refine e_' (i_ y17) ?_
  refine d_b (y17 < 0) (by kernel_rfl) (fun h31 => ?_) (fun h31 => ?_)
  ·have r32 := ite_t h31 hx25
   refine e_' (.bool true) (j_' (j_' (j_' (j_' (j_' (e_' (.bool true) (e_' (.bool true) (j_' (j_' (j_' (j_' (j_' (j_' (j_' (j_' (j_' (e_' (.bool true) (e_' (.bool true) (j_' (j_' (j_' (j_' (j_' (j_' (j_' (e_' (.bool true) (e_' (.bool true) ?_)))))))))))))))))))))))))))
   refine d_nil ?_
   obtain rfl := Option.some.inj r32
   exact k29 _ _ ⟨ha_, rfl⟩
  have r33 := ite_f h31 hx25
  refine e_' (.bool false) (e_' (pt_ b7 0) ?_)
  have u34 := (r11.frS e21 Dj.nil_l)
  refine m_' (hd_First) (aLoad Tryz.prog 23 (pt_ b7 0) H20) (u34.ld (by kernel_rfl)) ?_
  obtain ⟨g35, r36⟩ := G_some r33
  have u37 := (u14.fr e21 Dj.nil_l)
  refine m_' (elp hd_First 1 (0 : Int).toNat 0) (aIndexAddr Tryz.prog 23 hd_First (i_ 0)) (u37.idxb (by kernel_rfl) (by decide) g35) ?_
  refine m_' (i_ (gt First 0)) (aLoad Tryz.prog 3 (elp hd_First 1 (0 : Int).toNat 0) H20) (u37.ld (by decide) g35 (by kernel_rfl)) ?_
  refine d_bn ((gt First 0) = 0) (by kernel_rfl) (fun h38 => ?_) (fun h38 => ?_)
  ·have r39 := ite_t h38 r36
   refine e_' (.bool false) (e_' (.bool false) (e_' (pt_ b7 0) ?_))
   refine m_' (hd_First) (aLoad Tryz.prog 23 (pt_ b7 0) H20) (u34.ld (by kernel_rfl)) ?_
   refine e_' (i_ y17) ?_
   obtain ⟨g40, r41⟩ := G_some r39
   refine m_' (elp hd_First 1 y17.toNat 0) (aIndexAddr Tryz.prog 23 hd_First (i_ y17)) (u37.idxb (by kernel_rfl) g40.1 g40.2) ?_
   refine m_' (i_ (gt First y17)) (aLoad Tryz.prog 3 (elp hd_First 1 y17.toNat 0) H20) (u37.ld g40.1 g40.2 (by kernel_rfl)) ?_
   refine e_' (pt_ b7 1) ?_
   refine m_' (hd_To) (aLoad Tryz.prog 23 (pt_ b7 1) H20) (u34.ld (by kernel_rfl)) ?_
   have u42 := (u15.fr e21 Dj.nil_l)
   refine m_' (i_ (To.length : Int)) (aLen Tryz.prog 23 hd_To H20) (u42.lenb (by kernel_rfl)) ?_
   refine d_bn ((gt First y17) = (To.length : Int)) (by kernel_rfl) (fun h43 => ?_) (fun h43 => ?_)
   ·have r44 := ite_t h43 r41
    refine e_' (.bool false) (e_' (.bool false) (e_' (pt_ b7 1) ?_))
    refine m_' (hd_To) (aLoad Tryz.prog 23 (pt_ b7 1) H20) (u34.ld (by kernel_rfl)) ?_
    refine m_' (i_ (To.length : Int)) (aLen Tryz.prog 23 hd_To H20) (u42.lenb (by kernel_rfl)) ?_
    refine e_' (pt_ b7 2) ?_
    refine m_' (hd_Weight) (aLoad Tryz.prog 23 (pt_ b7 2) H20) (u34.ld (by kernel_rfl)) ?_
    have u45 := (u16.fr e21 Dj.nil_l)
    refine m_' (i_ (Weight.length : Int)) (aLen Tryz.prog 23 hd_Weight H20) (u45.lenb (by kernel_rfl)) ?_
    refine e_' (.bool (!decide ((To.length : Int) = (Weight.length : Int)))) (e_' (.bool (!decide ((To.length : Int) = (Weight.length : Int)))) (e_' (.bool (!decide ((To.length : Int) = (Weight.length : Int)))) ?_))
    refine d_nil ?_
    obtain rfl := Option.some.inj r44
    exact k29 _ _ ⟨ha_, rfl⟩
   have r46 := ite_f h43 r41
   refine e_' (.bool true) (e_' (.bool true) (j_' (j_' (j_' (j_' (j_' (j_' (j_' (e_' (.bool true) (e_' (.bool true) ?_))))))))))
   refine d_nil ?_
   obtain rfl := Option.some.inj r46
   exact k29 _ _ ⟨ha_, rfl⟩
  have r47 := ite_f h38 r36
  refine e_' (.bool true) (e_' (.bool true) (j_' (j_' (j_' (j_' (j_' (j_' (j_' (j_' (j_' (e_' (.bool true) (e_' (.bool true) (j_' (j_' (j_' (j_' (j_' (j_' (j_' (e_' (.bool true) (e_' (.bool true) ?_)))))))))))))))))))))
  refine d_nil ?_
  obtain rfl := Option.some.inj r47
  exact k29 _ _ ⟨ha_, rfl⟩
 obtain ⟨hh30, rfl⟩ := hM
 obtain ⟨β, rfl⟩ := has_ex hh30
 clear hh30
 refine k23 _ _ ?_
 refine w_cond (o24) (by kernel_rfl) rfl (fun h48 => ?_) (fun h48 => ?_)
 ·have r49 := ite_t h48 r26
  refine w_seqk fun _ k50 => g_' (q_ (.iface 43 (i_ 14)) (q_ (.iface 43 (i_ 14)) (s_nil (k50 _ _ ?_))))
  refine w_ret (bl_ret (th_ret ?_))
  refine b_ret (fn := Tryz.f34) (vs := [.iface 43 (i_ 14)]) (aRes_tmp (by kernel_rfl) (rfl)) ?_
  obtain rfl := Option.some.inj r49
  exact ⟨(.iface 43 (i_ 14)), [], rfl, (FrS.step wf ((FrS.refl (W := []) wf).extR e9) e21 Inn.nil), Ev.no, Inn.nil⟩
 have r51 := ite_bf h48 r26
 refine w_seqk fun _ k52 => ?_
 obtain ⟨o53, hx54, r55⟩ := bind_some r51
 refine w_mid (fun α H56 => Has α [(1, pt_ b7 0), (3, i_ y17), (41, .bool o53)] ∧ H20 = H56) (fun _ k58 => ?_) (fun α H56 hM => ?_)
 ·refine g_' (q_ (i_ y17) ?_)
  refine s_b (y17 > 65536) (by kernel_rfl) (fun h60 => ?_) (fun h60 => ?_)
  ·have r61 := ite_t h60 hx54
   refine q_ (.bool true) (n_' (n_' (n_' (n_' (q_ (.bool true) (q_ (.bool true) (s_nil ?_)))))))
   obtain rfl := Option.some.inj r61
   exact k58 _ _ ⟨ha_, rfl⟩
  have r62 := ite_f h60 hx54
  refine q_ (.bool false) (q_ (pt_ b7 1) ?_)
  have u63 := (r11.frS e21 Dj.nil_l)
  refine l_' (hd_To) (aLoad Tryz.prog 23 (pt_ b7 1) H20) (u63.ld (by kernel_rfl)) ?_
  have u64 := (u15.fr e21 Dj.nil_l)
  refine l_' (i_ (To.length : Int)) (aLen Tryz.prog 23 hd_To H20) (u64.lenb (by kernel_rfl)) ?_
  refine q_ (.bool (decide ((To.length : Int) > 262144))) (q_ (.bool (decide ((To.length : Int) > 262144))) (q_ (.bool (decide ((To.length : Int) > 262144))) (s_nil ?_)))
  obtain rfl := Option.some.inj r62
  exact k58 _ _ ⟨ha_, rfl⟩
 obtain ⟨hh59, rfl⟩ := hM
 obtain ⟨β, rfl⟩ := has_ex hh59
 clear hh59
 refine k52 _ _ ?_
 refine w_cond (o53) (by kernel_rfl) rfl (fun h65 => ?_) (fun h65 => ?_)
 ·have r66 := ite_t h65 r55
  refine w_seqk fun _ k67 => g_' (q_ (.iface 43 (i_ 9)) (q_ (.iface 43 (i_ 9)) (s_nil (k67 _ _ ?_))))
  refine w_ret (bl_ret (th_ret ?_))
  refine b_ret (fn := Tryz.f34) (vs := [.iface 43 (i_ 9)]) (aRes_tmp (by kernel_rfl) (rfl)) ?_
  obtain rfl := Option.some.inj r66
  exact ⟨(.iface 43 (i_ 9)), [], rfl, (FrS.step wf ((FrS.refl (W := []) wf).extR e9) e21 Inn.nil), Ev.no, Inn.nil⟩
 have r68 := ite_bf h65 r55
 refine w_skip (k22 _ _ (w_seqk fun _ k69 => w_seqk fun _ k70 => g_' (q_ (i_ y17) (q_ (i_ 0) (s_nil (k70 _ _ ?_))))))
 obtain ⟨z74, hx72, r73⟩ := bind_some r68
 refine w_mid (fun α H75 => ∃ o71, z74 = Sum.inr o71 ∧ Has α [(1, pt_ b7 0), (3, i_ y17)] ∧ H20 = H75) (fun _ k77 => ?_) (fun α H75 hM => ?_)
 ·refine w_block ?_
  obtain ⟨n79, hn80⟩ := loopO_iff.1 hx72
  refine w_loopn (fun n α H81 => ∃ (i0 : Int), iterO (fun zz_ => z_csr_Check_l0 First y17 zz_) n i0 = some z74 ∧ Has α [(1, pt_ b7 0), (3, i_ y17), (51, i_ y17), (52, i_ i0)] ∧ H20 = H81) n79 ⟨0, hn80, ha_, rfl⟩ ?_
  rintro n79 α H81 ⟨i0, hi84, hh83, rfl⟩ K89 k89
  obtain ⟨n85, z86, rfl, hz87, hn88⟩ := iter_succ hi84
  obtain ⟨β, rfl⟩ := has_ex hh83
  clear hh83
  replace hz87 : z_csr_Check_l0 First y17 i0 = some z86 := hz87
  unfold z_csr_Check_l0 at hz87
  refine w_seqk fun _ k90 => g_' (q_ (.bool (decide (i0 < y17))) (s_nil (k90 _ _ (w_seqk fun _ k91 => ?_))))
  refine w_condp (i0 < y17) (by kernel_rfl) rfl (fun h92 => ?_) (fun h92 => ?_)
  ·have r93 := ite_t h92 hz87
   refine w_skip (k91 _ _ (w_seqk fun _ k94 => w_block (w_seqk fun _ k95 => g_' (q_ (i_ i0) (q_ (i_ i0) (s_nil (k95 _ _ (w_seqk fun _ k96 => ?_))))))))
   refine w_draw [0, 1, 2, 3, 4, 5, 6, 7, 8, 9, 10, 11] (by kernel_rfl) ?_
   refine e_' (pt_ b7 0) ?_
   have u97 := (r11.frS e21 Dj.nil_l)
   refine m_' (hd_First) (aLoad Tryz.prog 23 (pt_ b7 0) H20) (u97.ld (by kernel_rfl)) ?_
   refine e_' (i_ i0) ?_
   obtain ⟨g98, r99⟩ := G_some r93
   refine d_w ((i0 + 1)) (k := .i64) (x := (i0 + 1)) (by kernel_rfl) (wrap64 g98) ?_
   obtain ⟨g100, r101⟩ := G_some r99
   have u102 := (u14.fr e21 Dj.nil_l)
   refine m_' (elp hd_First 1 (i0 + 1).toNat 0) (aIndexAddr Tryz.prog 23 hd_First (i_ (i0 + 1))) (u102.idxb (by kernel_rfl) g100.1 g100.2) ?_
   refine m_' (i_ (gt First (i0 + 1))) (aLoad Tryz.prog 3 (elp hd_First 1 (i0 + 1).toNat 0) H20) (u102.ld g100.1 g100.2 (by kernel_rfl)) ?_
   refine e_' (pt_ b7 0) ?_
   refine m_' (hd_First) (aLoad Tryz.prog 23 (pt_ b7 0) H20) (u97.ld (by kernel_rfl)) ?_
   refine e_' (i_ i0) ?_
   obtain ⟨g103, r104⟩ := G_some r101
   refine m_' (elp hd_First 1 i0.toNat 0) (aIndexAddr Tryz.prog 23 hd_First (i_ i0)) (u102.idxb (by kernel_rfl) g103.1 g103.2) ?_
   refine m_' (i_ (gt First i0)) (aLoad Tryz.prog 3 (elp hd_First 1 i0.toNat 0) H20) (u102.ld g103.1 g103.2 (by kernel_rfl)) ?_
   refine e_' (.bool (decide ((gt First (i0 + 1)) < (gt First i0)))) ?_
   refine d_nil ?_
   refine k96 _ _ ?_
   refine w_condp ((gt First (i0 + 1)) < (gt First i0)) (by kernel_rfl) rfl (fun h105 => ?_) (fun h105 => ?_)
   ·have r106 := ite_t h105 r104
    refine w_seqk fun _ k107 => g_' (q_ (i_ i0) (q_ (.iface 43 (i_ 14)) ?_))
    obtain ⟨y108, hy109, r110⟩ := bind_some r106
    refine s_ck 59 #[i_ 3, i_ i0, .iface 43 (i_ 14)] (by kernel_rfl) (c_fault_At e21.wf (Ev.no (tf := 81)) hy109) ?_
    rintro v111 H113 ⟨_, f112, rfl, e114, m115, i116⟩
    refine q_ (v111) (s_nil (k107 _ _ ?_))
    refine w_ret (bl_ret (th_ret (th_ret (bl_ret (th_ret (th_ret ?_))))))
    obtain ⟨v118, hv119, hz120⟩ := map_some r110
    subst hz120
    obtain rfl := it_inr hn88
    have hq121 := elim_inl r73
    rw [hq121] at hv119
    refine b_ret (fn := Tryz.f34) (vs := [v111]) (aRes_tmp (by kernel_rfl) (rfl)) ?_
    obtain rfl := Option.some.inj hv119
    exact ⟨(v111), f112, rfl, (FrS.step wf (FrS.step wf ((FrS.refl (W := []) wf).extR e9) e21 Inn.nil) e114 Inn.nil), m115, (i116.fresh (ntr e9.next e21.next))⟩
   have r122 := ite_f h105 r104
   refine w_skip (k94 _ _ (g_' ?_))
   obtain ⟨g123, r124⟩ := G_some r122
   refine w_' (i0 + 1) (wrap64 (by have := g123; omega)) ?_
   refine q_ (i_ (i0 + 1)) (s_nil ?_)
   obtain rfl := Option.some.inj r124
   exact k89 n85 _ _ (Nat.lt_succ_self _) ⟨(i0 + 1), hn88, ha_, rfl⟩
  have r125 := ite_f h92 hz87
  refine w_exit (th_exit (th_exit (bl_eq ?_)))
  obtain rfl := Option.some.inj r125
  obtain rfl := it_inr hn88
  exact k77 _ _ ⟨_, rfl, ha_, rfl⟩
 obtain ⟨o71, rfl, hh78, rfl⟩ := hM
 have r126 := elim_inr r73
 obtain ⟨β, rfl⟩ := has_ex hh78
 clear hh78
 refine k69 _ _ (w_seqk fun _ k127 => w_seqk fun _ k128 => g_' (q_ (i_ y17) (q_ (i_ 0) (s_nil (k128 _ _ ?_)))))
 obtain ⟨z132, hx130, r131⟩ := bind_some r126
 refine w_mid (fun α H133 => ∃ o129, z132 = Sum.inr o129 ∧ Has α [] ∧ FrS [] H20 H133) (fun _ k135 => ?_) (fun α H133 hM => ?_)
 ·refine w_block ?_
  obtain ⟨n137, hn138⟩ := loopO_iff.1 hx130
  refine w_loopn (fun n α H139 => ∃ (i2 : Int), iterO (fun zz_ => z_csr_Check_l2 First To Weight y17 zz_) n i2 = some z132 ∧ Has α [(1, pt_ b7 0), (71, i_ y17), (72, i_ i2)] ∧ FrS [] H20 H139) n137 ⟨0, hn138, ha_, (FrS.refl (W := []) e21.wf)⟩ ?_
  rintro n137 α H139 ⟨i2, hi142, hh141, e140⟩ K147 k147
  obtain ⟨n143, z144, rfl, hz145, hn146⟩ := iter_succ hi142
  obtain ⟨β, rfl⟩ := has_ex hh141
  clear hh141
  replace hz145 : z_csr_Check_l2 First To Weight y17 i2 = some z144 := hz145
  unfold z_csr_Check_l2 at hz145
  refine w_seqk fun _ k148 => g_' (q_ (.bool (decide (i2 < y17))) (s_nil (k148 _ _ (w_seqk fun _ k149 => ?_))))
  refine w_condp (i2 < y17) (by kernel_rfl) rfl (fun h150 => ?_) (fun h150 => ?_)
  ·have r151 := ite_t h150 hz145
   refine w_skip (k149 _ _ (w_seqk fun _ k152 => w_block (w_seqk fun _ k153 => g_' (q_ (i_ i2) (q_ (i_ i2) (s_nil (k153 _ _ (w_seqk fun _ k154 => g_' (q_ (pt_ b7 0) ?_)))))))))
   have u155 := ((r11.frS e21 Dj.nil_l).frS e140 Dj.nil_l)
   refine l_' (hd_First) (aLoad Tryz.prog 23 (pt_ b7 0) H139) (u155.ld (by kernel_rfl)) ?_
   refine q_ (i_ i2) ?_
   obtain ⟨g156, r157⟩ := G_some r151
   have u158 := ((u14.fr e21 Dj.nil_l).fr e140 Dj.nil_l)
   refine l_' (elp hd_First 1 i2.toNat 0) (aIndexAddr Tryz.prog 23 hd_First (i_ i2)) (u158.idxb (by kernel_rfl) g156.1 g156.2) ?_
   refine l_' (i_ (gt First i2)) (aLoad Tryz.prog 3 (elp hd_First 1 i2.toNat 0) H139) (u158.ld g156.1 g156.2 (by kernel_rfl)) ?_
   refine q_ (i_ (gt First i2)) (s_nil (k154 _ _ ?_))
   obtain ⟨z162, hx160, r161⟩ := bind_some r157
   refine w_mid (fun α H163 => ∃ o159, z162 = Sum.inr o159 ∧ Has α [(1, pt_ b7 0), (71, i_ y17), (72, i_ i2)] ∧ FrS [] H139 H163) (fun _ k165 => ?_) (fun α H163 hM => ?_)
   ·refine w_block ?_
    obtain ⟨n167, hn168⟩ := loopO_iff.1 hx160
    refine w_loopn (fun n α H169 => ∃ (i1 : Int), iterO (fun zz_ => z_csr_Check_l1 First To Weight i2 zz_) n i1 = some z162 ∧ Has α [(1, pt_ b7 0), (5, i_ i2), (6, i_ i1), (71, i_ y17), (72, i_ i2)] ∧ FrS [] H139 H169) n167 ⟨(gt First i2), hn168, ha_, (FrS.refl (W := []) e140.wf)⟩ ?_
    rintro n167 α H169 ⟨i1, hi172, hh171, e170⟩ K177 k177
    obtain ⟨n173, z174, rfl, hz175, hn176⟩ := iter_succ hi172
    obtain ⟨β, rfl⟩ := has_ex hh171
    clear hh171
    replace hz175 : z_csr_Check_l1 First To Weight i2 i1 = some z174 := hz175
    unfold z_csr_Check_l1 at hz175
    refine w_seqk fun _ k178 => w_seqk fun _ k179 => g_' (q_ (i_ i1) (q_ (pt_ b7 0) ?_))
    have u180 := (u155.frS e170 Dj.nil_l)
    refine l_' (hd_First) (aLoad Tryz.prog 23 (pt_ b7 0) H169) (u180.ld (by kernel_rfl)) ?_
    refine q_ (i_ i2) ?_
    obtain ⟨g181, r182⟩ := G_some hz175
    refine w_' (i2 + 1) (wrap64 (by have := g181; omega)) ?_
    obtain ⟨g183, r184⟩ := G_some r182
    have u185 := (u158.fr e170 Dj.nil_l)
    refine l_' (elp hd_First 1 (i2 + 1).toNat 0) (aIndexAddr Tryz.prog 23 hd_First (i_ (i2 + 1))) (u185.idxb (by kernel_rfl) g183.1 g183.2) ?_
    refine l_' (i_ (gt First (i2 + 1))) (aLoad Tryz.prog 3 (elp hd_First 1 (i2 + 1).toNat 0) H169) (u185.ld g183.1 g183.2 (by kernel_rfl)) ?_
    refine q_ (.bool (decide (i1 < (gt First (i2 + 1))))) (s_nil (k179 _ _ ?_))
    refine w_condp (i1 < (gt First (i2 + 1))) (by kernel_rfl) rfl (fun h186 => ?_) (fun h186 => ?_)
    ·have r187 := ite_t h186 r184
     refine w_skip (k178 _ _ (w_seqk fun _ k188 => w_block (w_seqk fun _ k189 => g_' ?_)))
     refine l_' (.agg #[hd_First, hd_To, hd_Weight]) (aLoad Tryz.prog 25 (pt_ b7 0) H169) (u180.ld (by kernel_rfl)) ?_
     refine q_ (i_ i2) (q_ (i_ i1) ?_)
     have u190 := (((u15.fr e21 Dj.nil_l).fr e140 Dj.nil_l).fr e170 Dj.nil_l)
     have u191 := (((u16.fr e21 Dj.nil_l).fr e140 Dj.nil_l).fr e170 Dj.nil_l)
     obtain ⟨y192, hy193, r194⟩ := bind_some r187
     refine s_ck 60 #[.agg #[hd_First, hd_To, hd_Weight], i_ i2, i_ i1] (by kernel_rfl) (c_csr_Csr_arc e170.wf u185 u190 u191 hy193) ?_
     rintro v195 H197 ⟨_, f196, rfl, e198, m199, i200⟩
     refine q_ (v195) (s_nil (k189 _ _ (w_seqk fun _ k202 => g_' (q_ (v195) ?_))))
     rcases (m199).cases with ⟨h203, rfl⟩ | ⟨h203, t204, x205, rfl⟩
     ·have r206 := ite_t h203 r194
      refine q_ (.bool false) (s_nil (k202 _ _ ?_))
      refine w_cond false (by kernel_rfl) rfl (fun h => by cases h) (fun _ => ?_)
      refine w_skip (k188 _ _ (g_' (q_ (i_ i1) ?_)))
      obtain ⟨g207, r208⟩ := G_some r206
      refine w_' (i1 + 1) (wrap64 g207) ?_
      refine q_ (i_ (i1 + 1)) (s_nil ?_)
      obtain rfl := Option.some.inj r208
      exact k177 n173 _ _ (Nat.lt_succ_self _) ⟨(i1 + 1), hn176, ha_, (FrS.step e140.wf (FrS.step e140.wf (FrS.refl (W := []) e140.wf) e170 Inn.nil) e198 Inn.nil)⟩
     have r209 := ite_f h203 r194
     refine l_' (.bool true) (aBin Tryz.prog .neq 31 (.tmp 94) (.const .nilIface) (.iface t204 x205) .nilIface) (aBin_nnil (by kernel_rfl)) ?_
     refine s_nil (k202 _ _ ?_)
     refine w_cond true (by kernel_rfl) rfl (fun _ => ?_) (fun h => by cases h)
     refine w_seqk fun _ k210 => g_' (q_ (i_ i1) (q_ (.iface t204 x205) ?_))
     obtain ⟨y211, hy212, r213⟩ := bind_some r209
     refine s_ck 59 #[i_ 4, i_ i1, .iface t204 x205] (by kernel_rfl) (c_fault_At e198.wf m199 hy212) ?_
     rintro v214 H216 ⟨_, f215, rfl, e217, m218, i219⟩
     refine q_ (v214) (s_nil (k210 _ _ ?_))
     refine w_ret (bl_ret (th_ret (th_ret (bl_ret (th_ret (bl_ret (th_ret (th_ret (bl_ret (th_ret (th_ret ?_)))))))))))
     obtain ⟨v221, hv222, hz223⟩ := map_some r213
     subst hz223
     obtain rfl := it_inr hn176
     have hq224 := elim_inl r161
     rw [hq224] at hv222
     obtain ⟨v225, hv226, hz227⟩ := map_some hv222
     subst hz227
     obtain rfl := it_inr hn146
     have hq228 := elim_inl r131
     rw [hq228] at hv226
     refine b_ret (fn := Tryz.f34) (vs := [v214]) (aRes_tmp (by kernel_rfl) (rfl)) ?_
     obtain rfl := Option.some.inj hv226
     exact ⟨(v214), f215, rfl, (FrS.step wf (FrS.step wf (FrS.step wf (FrS.step wf (FrS.step wf ((FrS.refl (W := []) wf).extR e9) e21 Inn.nil) e140 Inn.nil) e170 Inn.nil) e198 Inn.nil) e217 Inn.nil), m218, (Inn.trans (i200.fresh (ntr (ntr (ntr e9.next e21.next) e140.next) e170.next)) (ntr (ntr (ntr (ntr e9.next e21.next) e140.next) e170.next) e198.next) i219)⟩
    have r229 := ite_f h186 r184
    refine w_exit (th_exit (th_exit (bl_eq ?_)))
    obtain rfl := Option.some.inj r229
    obtain rfl := it_inr hn176
    exact k165 _ _ ⟨_, rfl, ha_, (FrS.step e140.wf (FrS.refl (W := []) e140.wf) e170 Inn.nil)⟩
   obtain ⟨o159, rfl, hh166, e164⟩ := hM
   have r230 := elim_inr r161
   obtain ⟨β, rfl⟩ := has_ex hh166
   clear hh166
   refine k152 _ _ (g_' ?_)
   obtain ⟨g231, r232⟩ := G_some r230
   refine w_' (i2 + 1) (wrap64 (by have := g231; omega)) ?_
   refine q_ (i_ (i2 + 1)) (s_nil ?_)
   obtain rfl := Option.some.inj r232
   exact k147 n143 _ _ (Nat.lt_succ_self _) ⟨(i2 + 1), hn146, ha_, (FrS.step e21.wf (FrS.step e21.wf (FrS.refl (W := []) e21.wf) e140 Inn.nil) e164 Inn.nil)⟩
  have r233 := ite_f h150 hz145
  refine w_exit (th_exit (th_exit (bl_eq ?_)))
  obtain rfl := Option.some.inj r233
  obtain rfl := it_inr hn146
  exact k135 _ _ ⟨_, rfl, trivial, (FrS.step e21.wf (FrS.refl (W := []) e21.wf) e140 Inn.nil)⟩
 obtain ⟨o129, rfl, hh136, e134⟩ := hM
 have r234 := elim_inr r131
 obtain ⟨β, rfl⟩ := has_ex hh136
 clear hh136
 refine k127 _ _ (w_seqk fun _ k235 => g_' (q_ (.nilIface) (s_nil (k235 _ _ ?_))))
 refine w_ret ?_
 refine b_ret (fn := Tryz.f34) (vs := [.nilIface]) (aRes_tmp (by kernel_rfl) (rfl)) ?_
 obtain rfl := Option.some.inj r234
 exact ⟨(.nilIface), [], rfl, (FrS.step wf (FrS.step wf ((FrS.refl (W := []) wf).extR e9) e21 Inn.nil) e134 Inn.nil), Ev.nil, Inn.nil⟩
theorem c_search_nodes {H : AH} {hd_First : Value} {fp_First : Fp} {hd_To : Value} {fp_To : Fp} {hd_Weight : Value} {fp_Weight : Fp} {First : List (Int)} {To : List (Int)} {Weight : List (Int)} {r : Int}
    (wf : WF H) (h_First : Sq (encI .i64) 1 H hd_First First fp_First) (h_To : Sq (encI .i64) 1 H hd_To To fp_To) (h_Weight : Sq (encI .i64) 1 H hd_Weight Weight fp_Weight) (hr : z_search_nodes First To Weight = some r) :
    ACalls Tryz.prog 35 #[.agg #[hd_First, hd_To, hd_Weight]] H fun v H' => v = i_ r ∧ FrS [] H H' := by
 refine acalls_of_body mixed Tryz.func35 rfl (Nat.le_of_ble_eq_true rfl) ?_
 unfold z_search_nodes at hr
 refine w_seqk fun _ k1 => g_' ?_
 refine s_rwl wf [hd_First, hd_To, hd_Weight] (one_cons (h_First.one1) (one_cons (h_To.one1) (one_cons (h_Weight.one1) (one_nil)))) (by kernel_rfl) fun b2 H3 e4 hb5 r6 => ?_
 refine q_ (i_ 0) (s_nil (k1 _ _ (w_seqk fun _ k8 => g_' (q_ (pt_ b2 0) ?_))))
 refine l_' (hd_First) (aLoad Tryz.prog 23 (pt_ b2 0) H3) (r6.ld (by kernel_rfl)) ?_
 have u9 := (h_First.ext e4)
 refine l_' (i_ (First.length : Int)) (aLen Tryz.prog 23 hd_First H3) (u9.lenb (by kernel_rfl)) ?_
 obtain ⟨g10, r11⟩ := G_some hr
 refine w_' ((First.length : Int) - 1) (wrap64 g10) ?_
 refine q_ (i_ ((First.length : Int) - 1)) (s_nil (k8 _ _ ?_))
 refine w_ret ?_
 refine b_ret (fn := Tryz.f35) (vs := [i_ ((First.length : Int) - 1)]) (aRes_tmp (by kernel_rfl) (rfl)) ?_
 obtain rfl := Option.some.inj r11
 exact ⟨rfl, ((FrS.refl (W := []) wf).extR e4)⟩
theorem c_search_node {H : AH} {hd_First : Value} {fp_First : Fp} {hd_To : Value} {fp_To : Fp} {hd_Weight : Value} {fp_Weight : Fp} {hd_list : Value} {fp_list : Fp} {First : List (Int)} {To : List (Int)} {Weight : List (Int)} {list : List (Int)} {r : Er}
    (wf : WF H) (h_First : Sq (encI .i64) 1 H hd_First First fp_First) (h_To : Sq (encI .i64) 1 H hd_To To fp_To) (h_Weight : Sq (encI .i64) 1 H hd_Weight Weight fp_Weight) (h_list : Sq (encI .i64) 1 H hd_list list fp_list) (hr : z_search_node First To Weight list = some r) :
    ACalls Tryz.prog 21 #[.agg #[hd_First, hd_To, hd_Weight], hd_list] H fun v H' => ∃ (v3 : Value) (f4 : Fp), v = v3 ∧ FrS [] H H' ∧ Ev 43 81 H' v3 r f4 ∧ Inn [] H f4 := by
 refine acalls_of_body mixed Tryz.func21 rfl (Nat.le_of_ble_eq_true rfl) ?_
 unfold z_search_node at hr
 refine w_seqk fun _ k6 => g_' ?_
 refine s_rwl wf [hd_First, hd_To, hd_Weight] (one_cons (h_First.one1) (one_cons (h_To.one1) (one_cons (h_Weight.one1) (one_nil)))) (by kernel_rfl) fun b7 H8 e9 hb10 r11 => ?_
 refine q_ (.nilIface) (s_nil (k6 _ _ (w_seqk fun _ k13 => w_seqk fun _ k14 => g_' ?_)))
 refine l_' (.agg #[hd_First, hd_To, hd_Weight]) (aLoad Tryz.prog 25 (pt_ b7 0) H8) (r11.ld (by kernel_rfl)) ?_
 have u15 := (h_First.ext e9)
 have u16 := (h_To.ext e9)
 have u17 := (h_Weight.ext e9)
 obtain ⟨y18, hy19, r20⟩ := bind_some hr
 refine s_ck 34 #[.agg #[hd_First, hd_To, hd_Weight]] (by kernel_rfl) (c_csr_Check e9.wf u15 u16 u17 hy19) ?_
 rintro v21 H23 ⟨_, f22, rfl, e24, m25, i26⟩
 refine q_ (v21) (s_nil (k14 _ _ (w_seqk fun _ k28 => g_' (q_ (v21) ?_))))
 rcases (m25).cases with ⟨h29, rfl⟩ | ⟨h29, t30, x31, rfl⟩
 ·have r32 := ite_t h29 r20
  refine q_ (.bool false) (s_nil (k28 _ _ ?_))
  refine w_cond false (by kernel_rfl) rfl (fun h => by cases h) (fun _ => ?_)
  refine w_skip (k13 _ _ (w_seqk fun _ k33 => w_seqk fun _ k34 => g_' (q_ (hd_list) ?_)))
  have u35 := ((h_list.ext e9).fr e24 Dj.nil_l)
  refine l_' (i_ (list.length : Int)) (aLen Tryz.prog 23 hd_list H23) (u35.lenb (by kernel_rfl)) ?_
  refine q_ (i_ 0) (s_nil (k34 _ _ ?_))
  obtain ⟨z39, hx37, r38⟩ := bind_some r32
  refine w_mid (fun α H40 => ∃ o36, z39 = Sum.inr o36 ∧ Has α [] ∧ FrS [] H23 H40) (fun _ k42 => ?_) (fun α H40 hM => ?_)
  ·refine w_block ?_
   obtain ⟨n44, hn45⟩ := loopO_iff.1 hx37
   refine w_loopn (fun n α H46 => ∃ (i0 : Int), iterO (fun zz_ => z_search_node_l0 First To Weight list zz_) n i0 = some z39 ∧ Has α [(2, pt_ b7 0), (13, hd_list), (14, i_ (list.length : Int)), (15, i_ i0)] ∧ FrS [] H23 H46) n44 ⟨0, hn45, ha_, (FrS.refl (W := []) e24.wf)⟩ ?_
   rintro n44 α H46 ⟨i0, hi49, hh48, e47⟩ K54 k54
   obtain ⟨n50, z51, rfl, hz52, hn53⟩ := iter_succ hi49
   obtain ⟨β, rfl⟩ := has_ex hh48
   clear hh48
   replace hz52 : z_search_node_l0 First To Weight list i0 = some z51 := hz52
   unfold z_search_node_l0 at hz52
   refine w_seqk fun _ k55 => g_' (q_ (.bool (decide (i0 < (list.length : Int)))) (s_nil (k55 _ _ (w_seqk fun _ k56 => ?_))))
   refine w_condp (i0 < (list.length : Int)) (by kernel_rfl) rfl (fun h57 => ?_) (fun h57 => ?_)
   ·have r58 := ite_t h57 hz52
    refine w_skip (k56 _ _ (w_seqk fun _ k59 => w_block (w_seqk fun _ k60 => g_' ?_)))
    obtain ⟨g61, r62⟩ := G_some r58
    have u63 := (u35.fr e47 Dj.nil_l)
    refine l_' (elp hd_list 1 i0.toNat 0) (aIndexAddr Tryz.prog 23 hd_list (i_ i0)) (u63.idxb (by kernel_rfl) g61 h57) ?_
    refine l_' (i_ (gt list i0)) (aLoad Tryz.prog 3 (elp hd_list 1 i0.toNat 0) H46) (u63.ld g61 h57 (by kernel_rfl)) ?_
    refine q_ (i_ (gt list i0)) (s_nil (k60 _ _ (w_seqk fun _ k64 => g_' (q_ (i_ (gt list i0)) ?_))))
    refine s_b ((gt list i0) < 0) (by kernel_rfl) (fun h65 => ?_) (fun h65 => ?_)
    ·have r66 := ite_t h65 r62
     refine q_ (.bool true) (n_' (n_' (n_' (n_' (q_ (.bool true) (s_nil (k64 _ _ ?_)))))))
     refine w_cond true (by kernel_rfl) rfl (fun _ => ?_) (fun h => by cases h)
     refine w_seqk fun _ k67 => g_' (q_ (.iface 43 (i_ 7)) (q_ (.iface 43 (i_ 7)) (s_nil (k67 _ _ ?_))))
     refine w_ret (bl_ret (th_ret (th_ret (bl_ret (th_ret (th_ret ?_))))))
     obtain ⟨v68, hv69, hz70⟩ := map_some r66
     subst hz70
     obtain rfl := it_inr hn53
     have hq71 := elim_inl r38
     rw [hq71] at hv69
     refine b_ret (fn := Tryz.f21) (vs := [.iface 43 (i_ 7)]) (aRes_tmp (by kernel_rfl) (rfl)) ?_
     obtain rfl := Option.some.inj hv69
     exact ⟨(.iface 43 (i_ 7)), [], rfl, (FrS.step wf (FrS.step wf ((FrS.refl (W := []) wf).extR e9) e24 Inn.nil) e47 Inn.nil), Ev.no, Inn.nil⟩
    have r72 := ite_f h65 r62
    refine q_ (.bool false) (q_ (i_ (gt list i0)) ?_)
    have u73 := ((r11.frS e24 Dj.nil_l).frS e47 Dj.nil_l)
    refine l_' (.agg #[hd_First, hd_To, hd_Weight]) (aLoad Tryz.prog 25 (pt_ b7 0) H46) (u73.ld (by kernel_rfl)) ?_
    have u74 := ((u15.fr e24 Dj.nil_l).fr e47 Dj.nil_l)
    have u75 := ((u16.fr e24 Dj.nil_l).fr e47 Dj.nil_l)
    have u76 := ((u17.fr e24 Dj.nil_l).fr e47 Dj.nil_l)
    obtain ⟨y77, hy78, r79⟩ := bind_some r72
    refine s_ck 35 #[.agg #[hd_First, hd_To, hd_Weight]] (by kernel_rfl) (c_search_nodes e47.wf u74 u75 u76 hy78) ?_
    rintro _ H80 ⟨rfl, e81⟩
    refine q_ (.bool (decide ((gt list i0) ≥ y77))) (q_ (.bool (decide ((gt list i0) ≥ y77))) (s_nil (k64 _ _ ?_)))
    refine w_condp ((gt list i0) ≥ y77) (by kernel_rfl) rfl (fun h82 => ?_) (fun h82 => ?_)
    ·have r83 := ite_t h82 r79
     refine w_seqk fun _ k84 => g_' (q_ (.iface 43 (i_ 7)) (q_ (.iface 43 (i_ 7)) (s_nil (k84 _ _ ?_))))
     refine w_ret (bl_ret (th_ret (th_ret (bl_ret (th_ret (th_ret ?_))))))
     obtain ⟨v85, hv86, hz87⟩ := map_some r83
     subst hz87
     obtain rfl := it_inr hn53
     have hq88 := elim_inl r38
     rw [hq88] at hv86
     refine b_ret (fn := Tryz.f21) (vs := [.iface 43 (i_ 7)]) (aRes_tmp (by kernel_rfl) (rfl)) ?_
     obtain rfl := Option.some.inj hv86
     exact ⟨(.iface 43 (i_ 7)), [], rfl, (FrS.step wf (FrS.step wf (FrS.step wf ((FrS.refl (W := []) wf).extR e9) e24 Inn.nil) e47 Inn.nil) e81 Inn.nil), Ev.no, Inn.nil⟩
    have r89 := ite_f h82 r79
    refine w_skip (k59 _ _ (g_' ?_))
    obtain ⟨g90, r91⟩ := G_some r89
    refine w_' (i0 + 1) (wrap64 (by have := g90; omega)) ?_
    refine q_ (i_ (i0 + 1)) (s_nil ?_)
    obtain rfl := Option.some.inj r91
    exact k54 n50 _ _ (Nat.lt_succ_self _) ⟨(i0 + 1), hn53, ha_, (FrS.step e24.wf (FrS.step e24.wf (FrS.refl (W := []) e24.wf) e47 Inn.nil) e81 Inn.nil)⟩
   have r92 := ite_f h57 hz52
   refine w_exit (th_exit (th_exit (bl_eq ?_)))
   obtain rfl := Option.some.inj r92
   obtain rfl := it_inr hn53
   exact k42 _ _ ⟨_, rfl, trivial, (FrS.step e24.wf (FrS.refl (W := []) e24.wf) e47 Inn.nil)⟩
  obtain ⟨o36, rfl, hh43, e41⟩ := hM
  have r93 := elim_inr r38
  obtain ⟨β, rfl⟩ := has_ex hh43
  clear hh43
  refine k33 _ _ (w_seqk fun _ k94 => g_' (q_ (.nilIface) (s_nil (k94 _ _ ?_))))
  refine w_ret ?_
  refine b_ret (fn := Tryz.f21) (vs := [.nilIface]) (aRes_tmp (by kernel_rfl) (rfl)) ?_
  obtain rfl := Option.some.inj r93
  exact ⟨(.nilIface), [], rfl, (FrS.step wf (FrS.step wf ((FrS.refl (W := []) wf).extR e9) e24 Inn.nil) e41 Inn.nil), Ev.nil, Inn.nil⟩
 have r95 := ite_f h29 r20
 refine l_' (.bool true) (aBin Tryz.prog .neq 31 (.tmp 10) (.const .nilIface) (.iface t30 x31) .nilIface) (aBin_nnil (by kernel_rfl)) ?_
 refine s_nil (k28 _ _ ?_)
 refine w_cond true (by kernel_rfl) rfl (fun _ => ?_) (fun h => by cases h)
 refine w_seqk fun _ k96 => g_' (q_ (.iface t30 x31) (q_ (.iface t30 x31) (s_nil (k96 _ _ ?_))))
 refine w_ret (th_ret ?_)
 refine b_ret (fn := Tryz.f21) (vs := [.iface t30 x31]) (aRes_tmp (by kernel_rfl) (rfl)) ?_
 obtain rfl := Option.some.inj r95
 exact ⟨(.iface t30 x31), f22, rfl, (FrS.step wf ((FrS.refl (W := []) wf).extR e9) e24 Inn.nil), m25, (i26.fresh e9.next)⟩
theorem c_search_free {H : AH} {r : Unit}
    (wf : WF H) (hr : z_search_free = some r) :
    ACalls Tryz.prog 23 #[] H fun v H' => v = .agg #[i_ 4611686018427387904, i_ 4611686018427387904, .int .u64 18446744073709551615] ∧ FrS [] H H' := by
 refine acalls_of_body mixed Tryz.func23 rfl (Nat.le_of_ble_eq_true rfl) ?_
 unfold z_search_free at hr
 refine w_seqk fun _ k1 => g_' ?_
 refine s_rwk wf [i_ 0, i_ 0, .int .u64 0] (by kernel_rfl) fun b2 H3 e4 hb5 r6 => ?_
 refine s_nil (k1 _ _ (w_seqk fun _ k8 => g_' (q_ (.agg #[i_ 4611686018427387904, i_ 4611686018427387904, .int .u64 18446744073709551615]) ?_)))
 obtain ⟨H9, q10, e11, r12⟩ := Row.store (P := Tryz.prog) (t := 68) (p := 0) e4.wf r6 (.agg #[i_ 4611686018427387904, i_ 4611686018427387904, .int .u64 18446744073709551615]) [i_ 4611686018427387904, i_ 4611686018427387904, .int .u64 18446744073709551615] (by kernel_rfl) (by kernel_rfl) (one_cons (rfl) (one_cons (rfl) (one_cons (rfl) (one_nil)))) (Nat.le_of_ble_eq_true (by kernel_rfl)) [i_ 4611686018427387904, i_ 4611686018427387904, .int .u64 18446744073709551615] (by kernel_rfl)
 refine s_ek (undef) (by kernel_rfl) (map_ok q10) ?_
 refine s_nil (k8 _ _ ?_)
 refine w_ret ?_
 refine b_ret (fn := Tryz.f23) (vs := [.agg #[i_ 4611686018427387904, i_ 4611686018427387904, .int .u64 18446744073709551615]]) (aRes_cell (Eq.trans (b := aLoad Tryz.prog 68 (pt_ b2 0) H9) (by kernel_rfl) (r12.ld (by kernel_rfl))) (rfl)) ?_
 obtain rfl := Option.some.inj hr
 exact ⟨rfl, (FrS.step wf ((FrS.refl (W := []) wf).extR e4) e11 (hb5.fresh (Nat.le_refl _)))⟩
theorem c_heap_New {H : AH} {n_ : Int} {r : (Unit) ⊕ (List (Int))}
    (wf : WF H) (hr : z_heap_New n_ = some r) :
    ACalls Tryz.prog 41 #[i_ n_] H fun v H' => Sum.elim (fun (r : Unit) => v = .tuple #[.pointer none, .iface 43 (i_ 1)] ∧ H = H') (fun (r : List (Int)) => ∃ (s3 : Value) (f4 : Fp) (b7 : Nat), v = .tuple #[pt_ b7 0, .nilIface] ∧ FrS [] H H' ∧ Ow (encI .i64) 1 H' s3 r f4 ∧ Row H' b7 [.slice none 0 0, s3] ∧ Inn [] H f4 ∧ Inn [] H [b7] ∧ Dj f4 [b7]) r := by
 refine acalls_of_body mixed Tryz.func41 rfl (Nat.le_of_ble_eq_true rfl) ?_
 unfold z_heap_New at hr
 refine w_seqk fun _ k11 => g_' (q_ (.pointer none) (q_ (.nilIface) (s_nil (k11 _ _ (w_seqk fun _ k12 => w_seqk fun _ k13 => ?_)))))
 obtain ⟨o14, hx15, r16⟩ := bind_some hr
 refine w_mid (fun α H17 => Has α [(0, i_ n_), (9, .bool o14)] ∧ H = H17) (fun _ k19 => ?_) (fun α H17 hM => ?_)
 ·refine g_' (q_ (i_ n_) ?_)
  refine s_b (n_ < 0) (by kernel_rfl) (fun h21 => ?_) (fun h21 => ?_)
  ·have r22 := ite_t h21 hx15
   refine q_ (.bool true) (n_' (n_' (q_ (.bool true) (s_nil ?_))))
   obtain rfl := Option.some.inj r22
   exact k19 _ _ ⟨ha_, rfl⟩
  have r23 := ite_f h21 hx15
  refine q_ (.bool false) (q_ (i_ n_) (q_ (.bool (decide (n_ > 65536))) (q_ (.bool (decide (n_ > 65536))) (s_nil ?_))))
  obtain rfl := Option.some.inj r23
  exact k19 _ _ ⟨ha_, rfl⟩
 obtain ⟨hh20, rfl⟩ := hM
 obtain ⟨β, rfl⟩ := has_ex hh20
 clear hh20
 refine k13 _ _ ?_
 refine w_cond (o14) (by kernel_rfl) rfl (fun h24 => ?_) (fun h24 => ?_)
 ·have r25 := ite_t h24 r16
  refine w_seqk fun _ k26 => g_' (q_ (.iface 43 (i_ 1)) (q_ (.pointer none) (q_ (.iface 43 (i_ 1)) (s_nil (k26 _ _ ?_)))))
  refine w_ret (th_ret ?_)
  refine b_ret (fn := Tryz.f41) (vs := [.pointer none, .iface 43 (i_ 1)]) (aRes_tmp (by kernel_rfl) (aRes_tmp (by kernel_rfl) (rfl))) ?_
  obtain rfl := Option.some.inj r25
  exact (elimP_l ⟨rfl, rfl⟩)
 have r27 := ite_bf h24 r16
 refine w_skip (k12 _ _ (w_seqk fun _ k28 => g_' (q_ (i_ n_) ?_)))
 obtain ⟨g29, r30⟩ := G_some r27
 refine s_mks (t := 23) (m := 8) (l := n_) (c := n_) (enc := (encI .i64)) (sz := 1) wf (0 : Int) (by kernel_rfl) (by decide) g29.1 (Int.le_refl _) (by omega) (by have := g29; omega) (by kernel_rfl) fun s31 f32 H33 e34 hf35 hm36 => ?_
 obtain ⟨a37, n38, c39, rfl⟩ := hm36.form
 have hm36 : Ow (encI .i64) 1 H33 (.slice a37 n38 c39) (List.replicate n_.toNat (0 : Int)) f32 := hm36
 refine q_ (.agg #[.slice none 0 0, .slice a37 n38 c39]) ?_
 refine s_rwl e34.wf [.slice none 0 0, .slice a37 n38 c39] (one_cons (rfl) (one_cons (hm36.one1) (one_nil))) (by kernel_rfl) fun b41 H42 e43 hb44 r45 => ?_
 refine q_ (pt_ b41 0) (q_ (.nilIface) (s_nil (k28 _ _ ?_)))
 refine w_ret ?_
 refine b_ret (fn := Tryz.f41) (vs := [pt_ b41 0, .nilIface]) (aRes_tmp (by kernel_rfl) (aRes_tmp (by kernel_rfl) (rfl))) ?_
 have u47 := (hm36.ext e43)
 obtain rfl := Option.some.inj r30
 exact (elimP_r ⟨(.slice a37 n38 c39), f32, b41, rfl, (((FrS.refl (W := []) wf).extR e34).extR e43), u47, r45, (hf35.fresh (Nat.le_refl _)), (hb44.fresh e34.next), (Dj.symm (hb44.djn hm36.lt))⟩)
theorem c_stamp_New {H : AH} {n_ : Int} {age : Int} {r : (Unit) ⊕ (List (Int × Int) × Int)}
    (wf : WF H) (hr : z_stamp_New n_ age = some r) :
    ACalls Tryz.prog 42 #[i_ n_, .int .u32 age] H fun v H' => Sum.elim (fun (r : Unit) => v = .tuple #[.pointer none, .iface 43 (i_ 1)] ∧ H = H') (fun (r : List (Int × Int) × Int) => ∃ (s3 : Value) (f4 : Fp) (b7 : Nat), v = .tuple #[pt_ b7 0, .nilIface] ∧ FrS [] H H' ∧ Ow enc_u64_u32 2 H' s3 r.1 f4 ∧ Row H' b7 [s3, .int .u32 r.2, i_ 0] ∧ Inn [] H f4 ∧ Inn [] H [b7] ∧ Dj f4 [b7]) r := by
 refine acalls_of_body mixed Tryz.func42 rfl (Nat.le_of_ble_eq_true rfl) ?_
 unfold z_stamp_New at hr
 refine w_seqk fun _ k11 => g_' (q_ (.pointer none) (q_ (.nilIface) (s_nil (k11 _ _ (w_seqk fun _ k12 => w_seqk fun _ k13 => ?_)))))
 obtain ⟨o14, hx15, r16⟩ := bind_some hr
 refine w_mid (fun α H17 => Has α [(0, i_ n_), (1, .int .u32 age), (11, .bool o14)] ∧ H = H17) (fun _ k19 => ?_) (fun α H17 hM => ?_)
 ·refine g_' (q_ (i_ n_) ?_)
  refine s_b (n_ < 0) (by kernel_rfl) (fun h21 => ?_) (fun h21 => ?_)
  ·have r22 := ite_t h21 hx15
   refine q_ (.bool true) (n_' (n_' (q_ (.bool true) (s_nil ?_))))
   obtain rfl := Option.some.inj r22
   exact k19 _ _ ⟨ha_, rfl⟩
  have r23 := ite_f h21 hx15
  refine q_ (.bool false) (q_ (i_ n_) (q_ (.bool (decide (n_ > 65536))) (q_ (.bool (decide (n_ > 65536))) (s_nil ?_))))
  obtain rfl := Option.some.inj r23
  exact k19 _ _ ⟨ha_, rfl⟩
 obtain ⟨hh20, rfl⟩ := hM
 obtain ⟨β, rfl⟩ := has_ex hh20
 clear hh20
 refine k13 _ _ ?_
 refine w_cond (o14) (by kernel_rfl) rfl (fun h24 => ?_) (fun h24 => ?_)
 ·have r25 := ite_t h24 r16
  refine w_seqk fun _ k26 => g_' (q_ (.iface 43 (i_ 1)) (q_ (.pointer none) (q_ (.iface 43 (i_ 1)) (s_nil (k26 _ _ ?_)))))
  refine w_ret (th_ret ?_)
  refine b_ret (fn := Tryz.f42) (vs := [.pointer none, .iface 43 (i_ 1)]) (aRes_tmp (by kernel_rfl) (aRes_tmp (by kernel_rfl) (rfl))) ?_
  obtain rfl := Option.some.inj r25
  exact (elimP_l ⟨rfl, rfl⟩)
 have r27 := ite_bf h24 r16
 refine w_skip (k12 _ _ (w_seqk fun _ k28 => g_' (q_ (i_ n_) ?_)))
 obtain ⟨g29, r30⟩ := G_some r27
 refine s_mks (t := 123) (m := 16) (l := n_) (c := n_) (enc := enc_u64_u32) (sz := 2) wf ((0, 0) : Int × Int) (by kernel_rfl) (by decide) g29.1 (Int.le_refl _) (by omega) (by have := g29; omega) (by kernel_rfl) fun s31 f32 H33 e34 hf35 hm36 => ?_
 obtain ⟨a37, n38, c39, rfl⟩ := hm36.form
 have hm36 : Ow enc_u64_u32 2 H33 (.slice a37 n38 c39) (List.replicate n_.toNat ((0, 0) : Int × Int)) f32 := hm36
 refine q_ (.int .u32 age) ?_
 refine l_' (.int .u32 (max age 1)) (aMax Tryz.prog [.int .u32 age, .int .u32 1]) (aMax_two _ _) ?_
 refine q_ (.agg #[.slice a37 n38 c39, .int .u32 (max age 1), i_ 0]) ?_
 refine s_rwl e34.wf [.slice a37 n38 c39, .int .u32 (max age 1), i_ 0] (one_cons (hm36.one1) (one_cons (rfl) (one_cons (rfl) (one_nil)))) (by kernel_rfl) fun b41 H42 e43 hb44 r45 => ?_
 refine q_ (pt_ b41 0) (q_ (.nilIface) (s_nil (k28 _ _ ?_)))
 refine w_ret ?_
 refine b_ret (fn := Tryz.f42) (vs := [pt_ b41 0, .nilIface]) (aRes_tmp (by kernel_rfl) (aRes_tmp (by kernel_rfl) (rfl))) ?_
 have u47 := (hm36.ext e43)
 obtain rfl := Option.some.inj r30
 exact (elimP_r ⟨(.slice a37 n38 c39), f32, b41, rfl, (((FrS.refl (W := []) wf).extR e34).extR e43), u47, r45, (hf35.fresh (Nat.le_refl _)), (hb44.fresh e34.next), (Dj.symm (hb44.djn hm36.lt))⟩)
theorem c_stamp_Stamp_Set {H : AH} {b_s : Nat} {hd_s_ : Value} {fp_s_ : Fp} {s_ : List (Int × Int)} {s_2 : Int} {s_3 : Int} {i : Int} {v_ : Int} {r : Er × List (Int × Int) × Int}
    (wf : WF H) (h_s_ : Ow enc_u64_u32 2 H hd_s_ s_ fp_s_) (h_s : Row H b_s [hd_s_, .int .u32 s_2, i_ s_3]) (dj_b_s_fp_s_ : Dj [b_s] fp_s_) (hr : z_stamp_Stamp_Set s_ s_2 s_3 i v_ = some r) :
    ACalls Tryz.prog 63 #[pt_ b_s 0, i_ i, .int .u64 v_] H fun v H' => ∃ (v3 : Value) (f4 : Fp), v = v3 ∧ FrS ([b_s] ++ fp_s_) H H' ∧ Ev 43 81 H' v3 r.1 f4 ∧ Ow enc_u64_u32 2 H' hd_s_ r.2.1 fp_s_ ∧ Row H' b_s [hd_s_, .int .u32 s_2, i_ r.2.2] ∧ Inn [] H f4 := by
 refine acalls_of_body mixed Tryz.func63 rfl (Nat.le_of_ble_eq_true rfl) ?_
 unfold z_stamp_Stamp_Set at hr
 refine w_seqk fun _ k10 => g_' (q_ (.nilIface) (s_nil (k10 _ _ (w_seqk fun _ k11 => w_seqk fun _ k12 => g_' (q_ (pt_ b_s 0) (q_ (.bool false) (s_nil (k12 _ _ ?_))))))))
 refine w_cond false (by kernel_rfl) rfl (fun h => by cases h) (fun _ => ?_)
 refine w_skip (k11 _ _ (w_seqk fun _ k13 => w_seqk fun _ k14 => ?_))
 obtain ⟨o15, hx16, r17⟩ := bind_some hr
 refine w_mid (fun α H18 => Has α [(0, pt_ b_s 0), (1, i_ i), (2, .int .u64 v_), (20, .bool o15)] ∧ H = H18) (fun _ k20 => ?_) (fun α H18 hM => ?_)
 ·refine g_' (q_ (i_ i) ?_)
  refine s_b (i < 0) (by kernel_rfl) (fun h22 => ?_) (fun h22 => ?_)
  ·have r23 := ite_t h22 hx16
   refine q_ (.bool true) (n_' (n_' (n_' (n_' (n_' (n_' (n_' (q_ (.bool true) (s_nil ?_)))))))))
   obtain rfl := Option.some.inj r23
   exact k20 _ _ ⟨ha_, rfl⟩
  have r24 := ite_f h22 hx16
  refine q_ (.bool false) (q_ (i_ i) (q_ (pt_ b_s 0) (q_ (pt_ b_s 0) (q_ (pt_ b_s 0) ?_))))
  refine l_' (hd_s_) (aLoad Tryz.prog 123 (pt_ b_s 0) H) (h_s.ld (by kernel_rfl)) ?_
  refine l_' (i_ (s_.length : Int)) (aLen Tryz.prog 123 hd_s_ H) (h_s_.sq.lenb (by kernel_rfl)) ?_
  refine q_ (.bool (decide (i ≥ (s_.length : Int)))) (q_ (.bool (decide (i ≥ (s_.length : Int)))) (s_nil ?_))
  obtain rfl := Option.some.inj r24
  exact k20 _ _ ⟨ha_, rfl⟩
 obtain ⟨hh21, rfl⟩ := hM
 obtain ⟨β, rfl⟩ := has_ex hh21
 clear hh21
 refine k14 _ _ ?_
 refine w_cond (o15) (by kernel_rfl) rfl (fun h25 => ?_) (fun h25 => ?_)
 ·have r26 := ite_t h25 r17
  refine w_seqk fun _ k27 => g_' (q_ (.iface 43 (i_ 7)) (q_ (.iface 43 (i_ 7)) (s_nil (k27 _ _ ?_))))
  refine w_ret (th_ret ?_)
  refine b_ret (fn := Tryz.f63) (vs := [.iface 43 (i_ 7)]) (aRes_tmp (by kernel_rfl) (rfl)) ?_
  obtain rfl := Option.some.inj r26
  exact ⟨(.iface 43 (i_ 7)), [], rfl, (FrS.refl (W := ([b_s] ++ fp_s_)) wf), Ev.no, h_s_, h_s, Inn.nil⟩
 have r28 := ite_bf h25 r17
 refine w_skip (k13 _ _ (w_seqk fun _ k29 => w_seqk fun _ k30 => ?_))
 refine w_draw [0, 1, 2, 3, 4, 5, 6, 7, 8, 9, 10, 11, 12] (by kernel_rfl) ?_
 refine e_' (pt_ b_s 0) (e_' (pt_ b_s 0) (e_' (pt_ b_s 0) ?_))
 refine m_' (hd_s_) (aLoad Tryz.prog 123 (pt_ b_s 0) H) (h_s.ld (by kernel_rfl)) ?_
 refine e_' (i_ i) ?_
 obtain ⟨g31, r32⟩ := G_some r28
 refine m_' (elp hd_s_ 2 i.toNat 0) (aIndexAddr Tryz.prog 123 hd_s_ (i_ i)) (h_s_.sq.idxb (by kernel_rfl) g31.1 g31.2) ?_
 refine m_' (elp hd_s_ 2 i.toNat 1) (aFieldAddr Tryz.prog 127 (elp hd_s_ 2 i.toNat 0) 1) (Sq.fldq (d := 1) h_s_.sq g31.1 g31.2 (by kernel_rfl)) ?_
 refine m_' (.int .u32 ((gt s_ i).2)) (aLoad Tryz.prog 105 (elp hd_s_ 2 i.toNat 1) H) (h_s_.sq.ld g31.1 g31.2 (by kernel_rfl)) ?_
 refine e_' (pt_ b_s 0) (e_' (pt_ b_s 0) (e_' (pt_ b_s 1) ?_))
 refine m_' (.int .u32 s_2) (aLoad Tryz.prog 105 (pt_ b_s 1) H) (h_s.ld (by kernel_rfl)) ?_
 refine e_' (.bool (!decide (((gt s_ i).2) = s_2))) ?_
 refine d_nil ?_
 refine k30 _ _ ?_
 obtain ⟨o33, hx34, r35⟩ := bind_some r32
 refine w_mid (fun α H36 => Has α [(0, pt_ b_s 0), (1, i_ i), (2, .int .u64 v_)] ∧ FrS [b_s] H H36 ∧ Row H36 b_s [hd_s_, .int .u32 s_2, i_ o33]) (fun _ k40 => ?_) (fun α H36 hM => ?_)
 ·refine w_condn (((gt s_ i).2) = s_2) (by kernel_rfl) rfl (fun h42 => ?_) (fun h42 => ?_)
  ·have r43 := ite_f h42 hx34
   refine g_' (q_ (pt_ b_s 0) (q_ (pt_ b_s 0) (q_ (pt_ b_s 2) ?_)))
   refine l_' (i_ s_3) (aLoad Tryz.prog 3 (pt_ b_s 2) H) (h_s.ld (by kernel_rfl)) ?_
   obtain ⟨g44, r45⟩ := G_some r43
   refine w_' (s_3 + 1) (wrap64 g44) ?_
   refine q_ (pt_ b_s 0) (q_ (pt_ b_s 2) ?_)
   obtain ⟨H46, q47, e48, r49⟩ := Row.store (P := Tryz.prog) (t := 3) (p := 2) wf h_s (i_ (s_3 + 1)) [i_ (s_3 + 1)] (by kernel_rfl) (by kernel_rfl) (one_cons (rfl) (one_nil)) (Nat.le_of_ble_eq_true (by kernel_rfl)) [hd_s_, .int .u32 s_2, i_ (s_3 + 1)] (by kernel_rfl)
   refine s_ek (undef) (by kernel_rfl) (map_ok q47) ?_
   refine s_nil ?_
   obtain rfl := Option.some.inj r45
   exact k40 _ _ ⟨ha_, (FrS.step wf (FrS.refl (W := [b_s]) wf) e48 Inn.refl'), r49⟩
  have r50 := ite_t h42 hx34
  refine w_skip ?_
  obtain rfl := Option.some.inj r50
  exact k40 _ _ ⟨ha_, (FrS.refl (W := [b_s]) wf), h_s⟩
 obtain ⟨hh41, e37, m39⟩ := hM
 obtain ⟨β, rfl⟩ := has_ex hh41
 clear hh41
 refine k29 _ _ (w_seqk fun _ k51 => ?_)
 refine w_draw [0, 1, 2, 3, 4, 5, 6, 7, 8, 9, 10, 11, 12] (by kernel_rfl) ?_
 refine e_' (pt_ b_s 0) (e_' (pt_ b_s 0) (e_' (pt_ b_s 0) ?_))
 refine m_' (hd_s_) (aLoad Tryz.prog 123 (pt_ b_s 0) H36) (m39.ld (by kernel_rfl)) ?_
 refine e_' (i_ i) (e_' (.int .u64 v_) (e_' (pt_ b_s 0) (e_' (pt_ b_s 0) (e_' (pt_ b_s 1) ?_))))
 refine m_' (.int .u32 s_2) (aLoad Tryz.prog 105 (pt_ b_s 1) H36) (m39.ld (by kernel_rfl)) ?_
 refine e_' (.agg #[.int .u64 v_, .int .u32 s_2]) ?_
 have u52 := (h_s_.fr e37 dj_b_s_fp_s_)
 refine m_' (elp hd_s_ 2 i.toNat 0) (aIndexAddr Tryz.prog 123 hd_s_ (i_ i)) (u52.sq.idxb (by kernel_rfl) g31.1 g31.2) ?_
 obtain ⟨H53, q54, e55, hm56⟩ := Ow.store (P := Tryz.prog) (t := 127) (off := 0) e37.wf u52 g31.1 g31.2 (.agg #[.int .u64 v_, .int .u32 s_2]) [.int .u64 v_, .int .u32 s_2] (by kernel_rfl) (by kernel_rfl) rfl (v_, s_2) (Nat.le_of_ble_eq_true rfl) (by kernel_rfl)
 refine d_ek (undef) (by kernel_rfl) (map_ok q54) (st_nil) ?_
 refine d_nil ?_
 refine k51 _ _ (w_seqk fun _ k57 => g_' (q_ (.nilIface) (s_nil (k57 _ _ ?_))))
 refine w_ret ?_
 refine b_ret (fn := Tryz.f63) (vs := [.nilIface]) (aRes_tmp (by kernel_rfl) (rfl)) ?_
 have u58 := (m39.frS e55 (Dj.symm dj_b_s_fp_s_))
 obtain rfl := Option.some.inj r35
 exact ⟨(.nilIface), [], rfl, (FrS.step wf (FrS.step wf (FrS.refl (W := ([b_s] ++ fp_s_)) wf) e37 Inn.left) e55 (Inn.right Inn.refl')), Ev.nil, hm56, u58, Inn.nil⟩
theorem c_heap_Heap_check {H : AH} {b_h : Nat} {hd_h_ : Value} {fp_h_ : Fp} {hd_h_2 : Value} {fp_h_2 : Fp} {h_ : List (Int × Int)} {h_2 : List (Int)} {id_ : Int} {r : Er}
    (wf : WF H) (h_h_ : Sq enc_u64_u32 2 H hd_h_ h_ fp_h_) (h_h_2 : Sq (encI .i64) 1 H hd_h_2 h_2 fp_h_2) (h_h : Row H b_h [hd_h_, hd_h_2]) (hr : z_heap_Heap_check h_ h_2 id_ = some r) :
    ACalls Tryz.prog 75 #[pt_ b_h 0, .int .u32 id_] H fun v H' => ∃ (v3 : Value) (f4 : Fp), v = v3 ∧ H = H' ∧ Ev 43 81 H' v3 r f4 ∧ Inn [] H f4 := by
 refine acalls_of_body mixed Tryz.func75 rfl (Nat.le_of_ble_eq_true rfl) ?_
 unfold z_heap_Heap_check at hr
 refine w_seqk fun _ k6 => g_' (q_ (.nilIface) (s_nil (k6 _ _ (w_seqk fun _ k7 => w_seqk fun _ k8 => g_' (q_ (pt_ b_h 0) (q_ (.bool false) (s_nil (k8 _ _ ?_))))))))
 refine w_cond false (by kernel_rfl) rfl (fun h => by cases h) (fun _ => ?_)
 refine w_skip (k7 _ _ (w_seqk fun _ k9 => w_seqk fun _ k10 => g_' (q_ (.int .u32 id_) ?_)))
 obtain ⟨g11, r12⟩ := G_some hr
 refine w_' id_ (wrap64 g11) ?_
 refine q_ (pt_ b_h 0) (q_ (pt_ b_h 0) (q_ (pt_ b_h 1) ?_))
 refine l_' (hd_h_2) (aLoad Tryz.prog 23 (pt_ b_h 1) H) (h_h.ld (by kernel_rfl)) ?_
 refine l_' (i_ (h_2.length : Int)) (aLen Tryz.prog 23 hd_h_2 H) (h_h_2.lenb (by kernel_rfl)) ?_
 refine q_ (.bool (decide (id_ ≥ (h_2.length : Int)))) (s_nil (k10 _ _ ?_))
 refine w_condp (id_ ≥ (h_2.length : Int)) (by kernel_rfl) rfl (fun h13 => ?_) (fun h13 => ?_)
 ·have r14 := ite_t h13 r12
  refine w_seqk fun _ k15 => g_' (q_ (.iface 43 (i_ 7)) (q_ (.iface 43 (i_ 7)) (s_nil (k15 _ _ ?_))))
  refine w_ret (th_ret ?_)
  refine b_ret (fn := Tryz.f75) (vs := [.iface 43 (i_ 7)]) (aRes_tmp (by kernel_rfl) (rfl)) ?_
  obtain rfl := Option.some.inj r14
  exact ⟨(.iface 43 (i_ 7)), [], rfl, rfl, Ev.no, Inn.nil⟩
 have r16 := ite_f h13 r12
 refine w_skip (k9 _ _ (w_seqk fun _ k17 => g_' (q_ (.nilIface) (s_nil (k17 _ _ ?_)))))
 refine w_ret ?_
 refine b_ret (fn := Tryz.f75) (vs := [.nilIface]) (aRes_tmp (by kernel_rfl) (rfl)) ?_
 obtain rfl := Option.some.inj r16
 exact ⟨(.nilIface), [], rfl, rfl, Ev.nil, Inn.nil⟩
theorem c_heap_Heap_put {H : AH} {b_h : Nat} {hd_h_ : Value} {fp_h_ : Fp} {hd_h_2 : Value} {fp_h_2 : Fp} {h_ : List (Int × Int)} {h_2 : List (Int)} {i : Int} {key : Int} {id_ : Int} {r : List (Int × Int) × List (Int)}
    (wf : WF H) (h_h_ : Ow enc_u64_u32 2 H hd_h_ h_ fp_h_) (h_h_2 : Ow (encI .i64) 1 H hd_h_2 h_2 fp_h_2) (h_h : Row H b_h [hd_h_, hd_h_2]) (dj_fp_h__b_h : Dj fp_h_ [b_h]) (dj_fp_h__fp_h_2 : Dj fp_h_ fp_h_2) (hr : z_heap_Heap_put h_ h_2 i key id_ = some r) :
    ACalls Tryz.prog 76 #[pt_ b_h 0, i_ i, .agg #[.int .u64 key, .int .u32 id_]] H fun v H' => v = .tuple #[] ∧ FrS (fp_h_ ++ fp_h_2) H H' ∧ Ow enc_u64_u32 2 H' hd_h_ r.1 fp_h_ ∧ Ow (encI .i64) 1 H' hd_h_2 r.2 fp_h_2 := by
 refine acalls_of_body mixed Tryz.func76 rfl (Nat.le_of_ble_eq_true rfl) ?_
 unfold z_heap_Heap_put at hr
 refine w_seqk fun _ k5 => g_' ?_
 refine s_rwl wf [.int .u64 key, .int .u32 id_] (one_cons (rfl) (one_cons (rfl) (one_nil))) (by kernel_rfl) fun b6 H7 e8 hb9 r10 => ?_
 refine s_nil (k5 _ _ (w_seqk fun _ k12 => ?_))
 refine w_draw [0, 1, 2, 3, 4, 5, 6, 7] (by kernel_rfl) ?_
 refine e_' (pt_ b_h 0) (e_' (pt_ b_h 0) (e_' (pt_ b_h 0) ?_))
 have u13 := (h_h.ext e8)
 refine m_' (hd_h_) (aLoad Tryz.prog 139 (pt_ b_h 0) H7) (u13.ld (by kernel_rfl)) ?_
 refine e_' (i_ i) ?_
 refine m_' (.agg #[.int .u64 key, .int .u32 id_]) (aLoad Tryz.prog 145 (pt_ b6 0) H7) (r10.ld (by kernel_rfl)) ?_
 obtain ⟨g14, r15⟩ := G_some hr
 have u16 := (h_h_.ext e8)
 refine m_' (elp hd_h_ 2 i.toNat 0) (aIndexAddr Tryz.prog 139 hd_h_ (i_ i)) (u16.sq.idxb (by kernel_rfl) g14.1 g14.2) ?_
 obtain ⟨H17, q18, e19, hm20⟩ := Ow.store (P := Tryz.prog) (t := 145) (off := 0) e8.wf u16 g14.1 g14.2 (.agg #[.int .u64 key, .int .u32 id_]) [.int .u64 key, .int .u32 id_] (by kernel_rfl) (by kernel_rfl) rfl (key, id_) (Nat.le_of_ble_eq_true rfl) (by kernel_rfl)
 refine d_ek (undef) (by kernel_rfl) (map_ok q18) (st_nil) ?_
 refine d_nil ?_
 refine k12 _ _ ?_
 refine w_draw [0, 1, 2, 3, 4, 5, 6, 7, 8, 9] (by kernel_rfl) ?_
 refine e_' (pt_ b_h 0) (e_' (pt_ b_h 0) (e_' (pt_ b_h 1) ?_))
 have u21 := (u13.frS e19 dj_fp_h__b_h)
 refine m_' (hd_h_2) (aLoad Tryz.prog 23 (pt_ b_h 1) H17) (u21.ld (by kernel_rfl)) ?_
 refine e_' (pt_ b6 1) ?_
 have u22 := (r10.frS e19 (Dj.symm (hb9.djn h_h_.lt)))
 refine m_' (.int .u32 id_) (aLoad Tryz.prog 105 (pt_ b6 1) H17) (u22.ld (by kernel_rfl)) ?_
 refine e_' (i_ i) ?_
 obtain ⟨g23, r24⟩ := G_some r15
 refine d_w ((i + 1)) (k := .i64) (x := (i + 1)) (by kernel_rfl) (wrap64 (by have := g23; omega)) ?_
 obtain ⟨g25, r26⟩ := G_some r24
 have u27 := ((h_h_2.ext e8).fr e19 dj_fp_h__fp_h_2)
 refine m_' (elp hd_h_2 1 id_.toNat 0) (aIndexAddr Tryz.prog 23 hd_h_2 (.int .u32 id_)) (u27.sq.idxb (by kernel_rfl) g25.1 g25.2) ?_
 obtain ⟨H28, q29, e30, hm31⟩ := Ow.store (P := Tryz.prog) (t := 3) (off := 0) e19.wf u27 g25.1 g25.2 (i_ (i + 1)) [i_ (i + 1)] (by kernel_rfl) (by kernel_rfl) rfl (i + 1) (Nat.le_of_ble_eq_true rfl) (by kernel_rfl)
 refine d_ek (undef) (by kernel_rfl) (map_ok q29) (st_nil) ?_
 refine d_nil ?_
 refine b_nrm (fn := Tryz.f76) (vs := []) (rfl) ?_
 have u32 := (hm20.fr e30 (Dj.symm dj_fp_h__fp_h_2))
 obtain rfl := Option.some.inj r26
 exact ⟨rfl, (FrS.step wf (FrS.step wf ((FrS.refl (W := (fp_h_ ++ fp_h_2)) wf).extR e8) e19 Inn.left) e30 (Inn.right Inn.refl')), u32, hm31⟩
theorem c_heap_item_less {H : AH} {key : Int} {id_ : Int} {key_ : Int} {id_2 : Int} {r : Bool}
    (wf : WF H) (hr : z_heap_item_less key id_ key_ id_2 = some r) :
    ACalls Tryz.prog 92 #[.agg #[.int .u64 key, .int .u32 id_], .agg #[.int .u64 key_, .int .u32 id_2]] H fun v H' => v = .bool r ∧ FrS [] H H' := by
 refine acalls_of_body mixed Tryz.func92 rfl (Nat.le_of_ble_eq_true rfl) ?_
 unfold z_heap_item_less at hr
 refine w_seqk fun _ k1 => g_' ?_
 refine s_rwl wf [.int .u64 key, .int .u32 id_] (one_cons (rfl) (one_cons (rfl) (one_nil))) (by kernel_rfl) fun b2 H3 e4 hb5 r6 => ?_
 refine s_rwl e4.wf [.int .u64 key_, .int .u32 id_2] (one_cons (rfl) (one_cons (rfl) (one_nil))) (by kernel_rfl) fun b8 H9 e10 hb11 r12 => ?_
 refine q_ (.bool false) (s_nil (k1 _ _ (w_seqk fun _ k14 => g_' (q_ (pt_ b2 0) ?_))))
 have u15 := (r6.ext e10)
 refine l_' (.int .u64 key) (aLoad Tryz.prog 37 (pt_ b2 0) H9) (u15.ld (by kernel_rfl)) ?_
 refine q_ (pt_ b8 0) ?_
 refine l_' (.int .u64 key_) (aLoad Tryz.prog 37 (pt_ b8 0) H9) (r12.ld (by kernel_rfl)) ?_
 refine s_b (key < key_) (by kernel_rfl) (fun h16 => ?_) (fun h16 => ?_)
 ·have r17 := ite_t h16 hr
  refine q_ (.bool true) (n_' (n_' (n_' (n_' (n_' (n_' (n_' (n_' (n_' (n_' (n_' (n_' (q_ (.bool true) (q_ (.bool true) (s_nil (k14 _ _ ?_))))))))))))))))
  refine w_ret ?_
  refine b_ret (fn := Tryz.f92) (vs := [.bool true]) (aRes_tmp (by kernel_rfl) (rfl)) ?_
  obtain rfl := Option.some.inj r17
  exact ⟨rfl, (((FrS.refl (W := []) wf).extR e4).extR e10)⟩
 have r18 := ite_f h16 hr
 refine q_ (.bool false) (q_ (pt_ b2 0) ?_)
 refine l_' (.int .u64 key) (aLoad Tryz.prog 37 (pt_ b2 0) H9) (u15.ld (by kernel_rfl)) ?_
 refine q_ (pt_ b8 0) ?_
 refine l_' (.int .u64 key_) (aLoad Tryz.prog 37 (pt_ b8 0) H9) (r12.ld (by kernel_rfl)) ?_
 refine s_b (key = key_) (by kernel_rfl) (fun h19 => ?_) (fun h19 => ?_)
 ·have r20 := ite_t h19 r18
  refine q_ (.bool true) (q_ (pt_ b2 1) ?_)
  refine l_' (.int .u32 id_) (aLoad Tryz.prog 105 (pt_ b2 1) H9) (u15.ld (by kernel_rfl)) ?_
  refine q_ (pt_ b8 1) ?_
  refine l_' (.int .u32 id_2) (aLoad Tryz.prog 105 (pt_ b8 1) H9) (r12.ld (by kernel_rfl)) ?_
  refine q_ (.bool (decide (id_ < id_2))) (q_ (.bool (decide (id_ < id_2))) (q_ (.bool (decide (id_ < id_2))) (q_ (.bool (decide (id_ < id_2))) (s_nil (k14 _ _ ?_)))))
  refine w_ret ?_
  refine b_ret (fn := Tryz.f92) (vs := [.bool (decide (id_ < id_2))]) (aRes_tmp (by kernel_rfl) (rfl)) ?_
  obtain rfl := Option.some.inj r20
  exact ⟨rfl, (((FrS.refl (W := []) wf).extR e4).extR e10)⟩
 have r21 := ite_f h19 r18
 refine q_ (.bool false) (n_' (n_' (n_' (n_' (n_' (q_ (.bool false) (q_ (.bool false) (q_ (.bool false) (s_nil (k14 _ _ ?_))))))))))
 refine w_ret ?_
 refine b_ret (fn := Tryz.f92) (vs := [.bool false]) (aRes_tmp (by kernel_rfl) (rfl)) ?_
 obtain rfl := Option.some.inj r21
 exact ⟨rfl, (((FrS.refl (W := []) wf).extR e4).extR e10)⟩
end Go.Vd
