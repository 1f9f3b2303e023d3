/- The walks of the functions (printed by a program of ours). -/
import Derived.Test.YtnepbkkdhalbiaaPwg0
import Derived.Test.YtnepbkkdhalbiaaPwgVeC
import Derived.Test.YtnepbkkdhalbiaaPwgIWg
import Derived.Test.YtnepbkkdhalbiaaPwgVeN
import Derived.Test.YtnepbkkdhalbiaaPwgVeM
import Derived.Test.YtnepbkkdhalbiaaPwgVeG
import Derived.Test.YtnepbkkdhalbiaaPwgSoA
import Derived.Test.YtnepbkkdhalbiaaPwgVeP
import Derived.Test.YtnepbkkdhalbiaaPwgVeV
set_option linter.unusedVariables false
set_option linter.unusedSimpArgs false
set_option linter.unusedSectionVars false
namespace Go.Vd
/-! Steps under short names: what is reckoned is reckoned by itself. -/
section
set_option linter.unusedSectionVars false
variable [Pins] {P : Program} {ops : Array Oper} {K : AAct → AH → Prop} {α : AAct} {H : AH} {o : Oper} {rest : List Oper} {tbl : List (List Nat)} {i : Nat} {rs : List Nat} {fl : List (Nat × AAct × Value)}
theorem q_ (v : Value) (k : wpSeq P ops K rest (α.put o.dst v) H) (h : stepQ P ops o α H = some v := by kernel_rfl) : wpSeq P ops K (o :: rest) α H := s_qk v h k
theorem l_' (v : Value) (x : Option Value) (h : x = some v) (k : wpSeq P ops K rest (α.put o.dst v) H) (h1 : stepQ P ops o α H = x := by kernel_rfl) : wpSeq P ops K (o :: rest) α H := s_ql v h1 h k
theorem e_' (v : Value) (k : wpOrd P ops tbl K rs fl (α.put (dstOf ops i) v) H) (h : stepD P ops tbl i rs α H = some v := by kernel_rfl) : wpOrd P ops tbl K (i :: rs) fl α H := d_qk v h k
theorem m_' (v : Value) (x : Option Value) (h : x = some v) (k : wpOrd P ops tbl K rs fl (α.put (dstOf ops i) v) H) (h1 : stepD P ops tbl i rs α H = x := by kernel_rfl) : wpOrd P ops tbl K (i :: rs) fl α H := d_ql v h1 h k
theorem has_of : ∀ {l : List (Nat × Value)}, (l.map fun p => α p.1) = l.map (·.2) → Has α l
  | [], _ => trivial
  | (_, _) :: _, h => ⟨(List.cons.inj h).1, has_of (List.cons.inj h).2⟩
theorem ha_ {l : List (Nat × Value)} (h : (l.map fun p => α p.1) = l.map (·.2) := by kernel_rfl) : Has α l := has_of h
theorem n_' (k : wpSeq P ops K rest (α.put o.dst undef) H) (hg : Region.wanted o (aYield ops α) = false := by kernel_rfl) : wpSeq P ops K (o :: rest) α H := s_no hg k
theorem j_' (k : wpOrd P ops tbl K rs fl (α.put (dstOf ops i) undef) H) (h : idle ops i α = true := by kernel_rfl) : wpOrd P ops tbl K (i :: rs) fl α H := d_idle h k
theorem g_' {N id : Nat} {l : List Oper} {Q : Exit → AAct → AH → Prop} (h : wpSeq P l.toArray (Q .normal) l α H) (hok : opsOk N l = true := by kernel_rfl) : aWp P N (.region id l.toArray false) Q α H := w_reg hok h
theorem w_' (x : Int) (hw : IntKind.i64.wrap x = x) (kk : wpSeq P ops K rest (α.put o.dst (.int .i64 x)) H) (h : stepQ P ops o α H = some (.int .i64 (IntKind.i64.wrap x)) := by kernel_rfl) : wpSeq P ops K (o :: rest) α H := s_w x h hw kk
end
abbrev i_ (n : Int) : Value := .int .i64 n
abbrev pt_ (b o : Nat) : Value := .pointer (some ⟨b, o, none⟩)
end Go.Vd
namespace Go.Vd
section
variable [Pins] {P : Program} {α : AAct} {H H' : AH} {W : Fp} {b o : Nat} {cs : List Value} {t : TypeId} {v : Value}
theorem Ext.n (h : Ext H H') : H.next ≤ H'.next := h.next
theorem FrS.n (h : FrS W H H') : H.next ≤ H'.next := h.next
theorem t_ {a b c : Nat} (h : a ≤ b) (k : b ≤ c) : a ≤ c := Nat.le_trans h k
theorem Row.l_ (h : Row H b cs) (hv : ldOf P t cs o = some v := by kernel_rfl) : aLoad P t (.pointer (some ⟨b, o, none⟩)) H = some v := h.ld hv
theorem rt_ {t : Nat} {v : Value} {l : List ResultVar} {vs : List Value} (hr : aRes P α H l = some vs) (h : α t = v := by kernel_rfl) : aRes P α H (.tmp t :: l) = some (v :: vs) := aRes_tmp h hr
theorem oi_ {E : Type} {a b : E} (h : some a = some b) : a = b := Option.some.inj h
theorem f0_ (wf : WF H) : FrS [] H H := .refl wf
noncomputable abbrev aL_ (t : TypeId) (v : Value) (H : AH) : Option Value := aLoad Go.Proofs.Try.prog t v H
end
end Go.Vd

/-! (KWg0) -/

set_option maxRecDepth 100000
set_option maxHeartbeats 4000000
set_option linter.unusedVariables false
namespace Go.Vd
open Go.Proofs
attribute [local irreducible] wpSeq wpOrd aWp
theorem c_viaductlaw12_awake_ev : evB Try.prog 100000 6 #[] = some true := by kernel_rfl
theorem c_viaductlaw12_awake {H : AH} : ACalls Try.prog 6 #[] H fun v H' => H = H' ∧ v = .bool true :=
  (acalls_evB mixed c_viaductlaw12_awake_ev rfl H).mono fun _ _ ⟨a, b⟩ => ⟨b.symm, a⟩
theorem c_viaductref01_E {H : AH} {n_ : Int} {r : Int}
    (wf : WF H) (hr : z_viaductref01_E n_ = some r) :
    ACalls Try.prog 51 #[i_ n_] H fun v H' => v = .agg #[i_ r, .slice none 0 0] ∧ FrS [] H H' := by
 refine acalls_of_body mixed Try.func51 rfl (Nat.le_of_ble_eq_true rfl) ?_
 unfold z_viaductref01_E at hr
 refine w_seqk fun _ k1 => g_' ?_
 refine s_rwk wf [i_ 0, .slice none 0 0] (by kernel_rfl) fun b2 H3 e4 hb5 r6 => ?_
 refine s_nil (k1 _ _ (w_seqk fun _ k8 => g_' (q_ (i_ n_) (q_ (.agg #[i_ n_, .slice none 0 0]) ?_))))
 obtain ⟨H9, q10, e11, r12⟩ := Row.store (P := Try.prog) (t := 79) (p := 0) e4.wf r6 (.agg #[i_ n_, .slice none 0 0]) [i_ n_, .slice none 0 0] (by kernel_rfl) (by kernel_rfl) (one_cons (rfl) (one_cons (rfl) (one_nil))) (Nat.le_of_ble_eq_true (by kernel_rfl)) [i_ n_, .slice none 0 0] (by kernel_rfl)
 refine s_ek (undef) (by kernel_rfl) (map_ok q10) ?_
 refine s_nil (k8 _ _ ?_)
 refine w_ret ?_
 refine b_ret (fn := Try.f51) (vs := [.agg #[i_ n_, .slice none 0 0]]) (aRes_cell (Eq.trans (b := aL_ 79 (pt_ b2 0) H9) (by kernel_rfl) (r12.l_)) (rfl)) ?_
 obtain rfl := oi_ hr
 exact ⟨rfl, (FrS.step wf ((f0_ wf).extR e4) e11 (hb5.fresh (Nat.le_refl _)))⟩
theorem c_viaductref01_At {H : AH} {hd_Places : Value} {fp_Places : Fp} {kind : Int} {at_ : Int} {Code : Int} {Places : List (Int × Int)} {r : Int × List (Int × Int)}
    (wf : WF H) (h_Places : Sq enc_i64_i64 2 H hd_Places Places fp_Places) (hr : z_viaductref01_At kind at_ Code Places = some r) :
    ACalls Try.prog 57 #[i_ kind, i_ at_, .agg #[i_ Code, hd_Places]] H fun v H' => ∃ (s3 : Value) (f4 : Fp), v = .agg #[i_ r.1, s3] ∧ FrS [] H H' ∧ Ow enc_i64_i64 2 H' s3 r.2 f4 ∧ Inn [] H f4 := by
 refine acalls_of_body mixed Try.func57 rfl (Nat.le_of_ble_eq_true rfl) ?_
 unfold z_viaductref01_At at hr
 refine w_seqk fun _ k6 => g_' ?_
 refine s_rwl wf [i_ Code, hd_Places] (one_cons (rfl) (one_cons (h_Places.one1) (one_nil))) (by kernel_rfl) fun b7 H8 e9 hb10 r11 => ?_
 refine s_rwk e9.wf [i_ 0, .slice none 0 0] (by kernel_rfl) fun b13 H14 e15 hb16 r17 => ?_
 refine s_nil (k6 _ _ (w_seqk fun _ k19 => g_' (q_ (i_ kind) (q_ (i_ at_) (q_ (.agg #[i_ kind, i_ at_]) ?_)))))
 refine s_owk (enc := enc_i64_i64) (sz := 2) e15.wf [(kind, at_)] 1 (by decide) (fun _ _ => rfl) (fun _ _ => rfl) rfl (by kernel_rfl) fun s20 f21 H22 e23 hf24 hm25 => ?_
 obtain ⟨a26, n27, c28, rfl⟩ := hm25.form
 refine q_ (.slice a26 n27 c28) (s_nil (k19 _ _ (w_seqk fun _ k30 => g_' (q_ (.slice a26 n27 c28) (q_ (pt_ b7 1) ?_)))))
 have u31 := ((r11.ext e15).ext e23)
 refine l_' (hd_Places) (aL_ 77 (pt_ b7 1) H22) (u31.l_) ?_
 obtain ⟨g32, r33⟩ := G_some hr
 have u41 := (((h_Places.ext e9).ext e15).ext e23)
 obtain ⟨s34, H35, f36, q40, e37, hm38, hf39⟩ := Ow.append (P := Try.prog) 16 e23.wf hm25 u41 (fun _ _ => rfl) (at_ := #[77, 77]) rfl rfl (by kernel_rfl) (by kernel_rfl) (by decide) (by have := g32; first | omega | (simp only [List.length_cons, List.length_nil] at this ⊢; omega) | (simp at this ⊢; omega))
 obtain ⟨a42, n43, c44, rfl⟩ := hm38.form
 refine s_ek (.slice a42 n43 c44) (by kernel_rfl) (q40) ?_
 refine q_ (.slice a42 n43 c44) (s_nil (k30 _ _ (w_seqk fun _ k46 => g_' (q_ (pt_ b7 0) ?_))))
 have u47 := (u31.frS e37 (hf24.djn (r11.ltF.le e15.n)))
 refine l_' (i_ Code) (aL_ 3 (pt_ b7 0) H35) (u47.l_) ?_
 refine q_ (.slice a42 n43 c44) (q_ (.agg #[i_ Code, .slice a42 n43 c44]) ?_)
 have u52 := ((r17.ext e23).frS e37 (hf24.djn r17.ltF))
 obtain ⟨H48, q49, e50, r51⟩ := Row.store (P := Try.prog) (t := 79) (p := 0) e37.wf u52 (.agg #[i_ Code, .slice a42 n43 c44]) [i_ Code, .slice a42 n43 c44] (by kernel_rfl) (by kernel_rfl) (one_cons (rfl) (one_cons (hm38.one1) (one_nil))) (Nat.le_of_ble_eq_true (by kernel_rfl)) [i_ Code, .slice a42 n43 c44] (by kernel_rfl)
 refine s_ek (undef) (by kernel_rfl) (map_ok q49) ?_
 refine s_nil (k46 _ _ ?_)
 refine w_ret ?_
 refine b_ret (fn := Try.f57) (vs := [.agg #[i_ Code, .slice a42 n43 c44]]) (aRes_cell (Eq.trans (b := aL_ 79 (pt_ b13 0) H48) (by kernel_rfl) (r51.l_)) (rfl)) ?_
 have u53 := (hm38.fr e50 (Dj.symm (hf39.dj (hf24.djn r17.ltF) (r17.ltF.le e23.n))))
 obtain rfl := oi_ r33
 exact ⟨(.slice a42 n43 c44), f36, rfl, (FrS.step wf (FrS.step wf ((((f0_ wf).extR e9).extR e15).extR e23) e37 (hf24.fresh (t_ e9.n e15.n))) e50 (hb16.fresh e9.n)), u53, (Inn.trans (hf24.fresh (t_ e9.n e15.n)) (t_ (t_ e9.n e15.n) e23.n) hf39)⟩
theorem c_viaductref03_DocCheck {H : AH} {hd_Arcs : Value} {fp_Arcs : Fp} {N_ : Int} {Arcs : List (Int × Int × Int)} {r : Int × List (Int × Int)}
    (wf : WF H) (h_Arcs : Sq enc_i64_i64_i64 3 H hd_Arcs Arcs fp_Arcs) (hr : z_viaductref03_DocCheck N_ Arcs = some r) :
    ACalls Try.prog 44 #[.agg #[i_ N_, hd_Arcs]] H fun v H' => ∃ (s3 : Value) (f4 : Fp), v = .agg #[i_ r.1, s3] ∧ FrS [] H H' ∧ Ow enc_i64_i64 2 H' s3 r.2 f4 ∧ Inn [] H f4 := by
 refine acalls_of_body mixed Try.func44 rfl (Nat.le_of_ble_eq_true rfl) ?_
 unfold z_viaductref03_DocCheck at hr
 refine w_seqk fun _ k6 => g_' ?_
 refine s_rwl wf [i_ N_, hd_Arcs] (one_cons (rfl) (one_cons (h_Arcs.one1) (one_nil))) (by kernel_rfl) fun b7 H8 e9 hb10 r11 => ?_
 refine s_rwk e9.wf [i_ 0, .slice none 0 0] (by kernel_rfl) fun b13 H14 e15 hb16 r17 => ?_
 refine s_nil (k6 _ _ (w_seqk fun _ k19 => w_seqk fun _ k20 => ?_))
 obtain ⟨o21, hx22, r23⟩ := bind_some hr
 refine w_mid (fun α H24 => Has α [(1, pt_ b7 0), (2, pt_ b13 0), (18, .bool o21)] ∧ H14 = H24) (fun _ k26 => ?_) (fun α H24 hM => ?_)
 ·refine g_' (q_ (pt_ b7 0) ?_)
  have u28 := (r11.ext e15)
  refine l_' (i_ N_) (aL_ 3 (pt_ b7 0) H14) (u28.l_) ?_
  refine s_b (N_ < 0) (by kernel_rfl) (fun h29 => ?_) (fun h29 => ?_)
  ·have r30 := ite_t h29 hx22
   refine q_ (.bool true) (n_' (n_' (n_' (q_ (.bool true) (q_ (.bool true) (n_' (n_' (n_' (n_' (q_ (.bool true) (s_nil ?_)))))))))))
   obtain rfl := oi_ r30
   exact k26 _ _ ⟨ha_, rfl⟩
  have r31 := ite_f h29 hx22
  refine q_ (.bool false) (q_ (pt_ b7 0) ?_)
  refine l_' (i_ N_) (aL_ 3 (pt_ b7 0) H14) (u28.l_) ?_
  refine s_b (N_ > 65536) (by kernel_rfl) (fun h32 => ?_) (fun h32 => ?_)
  ·have r33 := ite_t h32 r31
   refine q_ (.bool true) (q_ (.bool true) (n_' (n_' (n_' (n_' (q_ (.bool true) (s_nil ?_)))))))
   obtain rfl := oi_ r33
   exact k26 _ _ ⟨ha_, rfl⟩
  have r34 := ite_f h32 r31
  refine q_ (.bool false) (q_ (.bool false) (q_ (pt_ b7 1) ?_))
  refine l_' (hd_Arcs) (aL_ 22 (pt_ b7 1) H14) (u28.l_) ?_
  have u35 := ((h_Arcs.ext e9).ext e15)
  refine l_' (i_ (Arcs.length : Int)) (aLen Try.prog 22 hd_Arcs H14) (u35.lenb (by kernel_rfl)) ?_
  refine q_ (.bool (decide ((Arcs.length : Int) > 262144))) (q_ (.bool (decide ((Arcs.length : Int) > 262144))) (s_nil ?_))
  obtain rfl := oi_ r34
  exact k26 _ _ ⟨ha_, rfl⟩
 obtain ⟨hh27, rfl⟩ := hM
 obtain ⟨β, rfl⟩ := has_ex hh27
 clear hh27
 refine k20 _ _ ?_
 refine w_cond (o21) (by kernel_rfl) rfl (fun h36 => ?_) (fun h36 => ?_)
 ·have r37 := ite_t h36 r23
  refine w_seqk fun _ k38 => g_' ?_
  obtain ⟨y39, hy40, r41⟩ := bind_some r37
  refine s_ck 51 #[i_ 9] (by kernel_rfl) (c_viaductref01_E e15.wf hy40) ?_
  rintro _ H42 ⟨rfl, e43⟩
  have u48 := (r17.frS e43 Dj.nil_l)
  obtain ⟨H44, q45, e46, r47⟩ := Row.store (P := Try.prog) (t := 79) (p := 0) e43.wf u48 (.agg #[i_ y39, .slice none 0 0]) [i_ y39, .slice none 0 0] (by kernel_rfl) (by kernel_rfl) (one_cons (rfl) (one_cons (rfl) (one_nil))) (Nat.le_of_ble_eq_true (by kernel_rfl)) [i_ y39, .slice none 0 0] (by kernel_rfl)
  refine s_ek (undef) (by kernel_rfl) (map_ok q45) ?_
  refine s_nil (k38 _ _ ?_)
  refine w_ret (th_ret ?_)
  refine b_ret (fn := Try.f44) (vs := [.agg #[i_ y39, .slice none 0 0]]) (aRes_cell (Eq.trans (b := aL_ 79 (pt_ b13 0) H44) (by kernel_rfl) (r47.l_)) (rfl)) ?_
  obtain rfl := oi_ r41
  exact ⟨(.slice none 0 0), [], rfl, (FrS.step wf (FrS.step wf (((f0_ wf).extR e9).extR e15) e43 Inn.nil) e46 (hb16.fresh e9.n)), (Ow.nil (by decide)), Inn.nil⟩
 have r49 := ite_bf h36 r23
 refine w_skip (k19 _ _ (w_seqk fun _ k50 => w_seqk fun _ k51 => g_' (q_ (pt_ b7 1) ?_)))
 have u52 := (r11.ext e15)
 refine l_' (hd_Arcs) (aL_ 22 (pt_ b7 1) H14) (u52.l_) ?_
 have u53 := ((h_Arcs.ext e9).ext e15)
 refine l_' (i_ (Arcs.length : Int)) (aLen Try.prog 22 hd_Arcs H14) (u53.lenb (by kernel_rfl)) ?_
 refine q_ (i_ 0) (s_nil (k51 _ _ ?_))
 obtain ⟨z57, hx55, r56⟩ := bind_some r49
 refine w_mid (fun α H58 => ∃ o54, z57 = Sum.inr o54 ∧ Has α [(2, pt_ b13 0)] ∧ FrS [] H14 H58) (fun _ k60 => ?_) (fun α H58 hM => ?_)
 ·refine w_block ?_
  obtain ⟨n62, hn63⟩ := loopO_iff.1 hx55
  refine w_loopn (fun n α H64 => ∃ (i0 : Int), iterO (fun zz_ => z_viaductref03_DocCheck_l0 N_ Arcs zz_) n i0 = some z57 ∧ Has α [(1, pt_ b7 0), (2, pt_ b13 0), (21, hd_Arcs), (22, i_ (Arcs.length : Int)), (23, i_ i0)] ∧ FrS [] H14 H64) n62 ⟨0, hn63, ha_, (FrS.refl (W := []) e15.wf)⟩ ?_
  rintro n62 α H64 ⟨i0, hi67, hh66, e65⟩ K72 k72
  obtain ⟨n68, z69, rfl, hz70, hn71⟩ := iter_succ hi67
  obtain ⟨β, rfl⟩ := has_ex hh66
  clear hh66
  replace hz70 : z_viaductref03_DocCheck_l0 N_ Arcs i0 = some z69 := hz70
  unfold z_viaductref03_DocCheck_l0 at hz70
  refine w_seqk fun _ k73 => g_' (q_ (.bool (decide (i0 < (Arcs.length : Int)))) (s_nil (k73 _ _ (w_seqk fun _ k74 => ?_))))
  refine w_condp (i0 < (Arcs.length : Int)) (by kernel_rfl) rfl (fun h75 => ?_) (fun h75 => ?_)
  ·have r76 := ite_t h75 hz70
   refine w_skip (k74 _ _ (w_seqk fun _ k77 => w_block (w_seqk fun _ k78 => g_' (q_ (i_ i0) ?_))))
   obtain ⟨g79, r80⟩ := G_some r76
   have u81 := (u53.fr e65 Dj.nil_l)
   refine l_' (elp hd_Arcs 3 i0.toNat 0) (aIndexAddr Try.prog 22 hd_Arcs (i_ i0)) (u81.idxb (by kernel_rfl) g79 h75) ?_
   refine l_' (.agg #[i_ ((gt Arcs i0).1), i_ ((gt Arcs i0).2.1), i_ ((gt Arcs i0).2.2)]) (aL_ 118 (elp hd_Arcs 3 i0.toNat 0) H64) (u81.ld g79 h75 (by kernel_rfl)) ?_
   refine s_rwk e65.wf [i_ 0, i_ 0, i_ 0] (by kernel_rfl) fun b82 H83 e84 hb85 r86 => ?_
   refine q_ (i_ i0) ?_
   obtain ⟨H88, q89, e90, r91⟩ := Row.store (P := Try.prog) (t := 118) (p := 0) e84.wf r86 (.agg #[i_ ((gt Arcs i0).1), i_ ((gt Arcs i0).2.1), i_ ((gt Arcs i0).2.2)]) [i_ ((gt Arcs i0).1), i_ ((gt Arcs i0).2.1), i_ ((gt Arcs i0).2.2)] (by kernel_rfl) (by kernel_rfl) (one_cons (rfl) (one_cons (rfl) (one_cons (rfl) (one_nil)))) (Nat.le_of_ble_eq_true (by kernel_rfl)) [i_ ((gt Arcs i0).1), i_ ((gt Arcs i0).2.1), i_ ((gt Arcs i0).2.2)] (by kernel_rfl)
   refine s_ek (undef) (by kernel_rfl) (map_ok q89) ?_
   refine s_nil (k78 _ _ (w_seqk fun _ k92 => w_seqk fun _ k93 => ?_))
   obtain ⟨o94, hx95, r96⟩ := bind_some r80
   refine w_mid (fun α H97 => Has α [(1, pt_ b7 0), (2, pt_ b13 0), (3, i_ i0), (4, pt_ b82 0), (21, hd_Arcs), (22, i_ (Arcs.length : Int)), (23, i_ i0), (49, .bool o94)] ∧ H88 = H97) (fun _ k99 => ?_) (fun α H97 hM => ?_)
   ·refine g_' (q_ (pt_ b82 0) ?_)
    refine l_' (i_ ((gt Arcs i0).1)) (aL_ 3 (pt_ b82 0) H88) (r91.l_) ?_
    refine s_b (((gt Arcs i0).1) < 0) (by kernel_rfl) (fun h101 => ?_) (fun h101 => ?_)
    ·have r102 := ite_t h101 hx95
     refine q_ (.bool true) (n_' (n_' (n_' (n_' (n_' (q_ (.bool true) (q_ (.bool true) (n_' (n_' (n_' (q_ (.bool true) (q_ (.bool true) (n_' (n_' (n_' (n_' (n_' (q_ (.bool true) (s_nil ?_)))))))))))))))))))
     obtain rfl := oi_ r102
     exact k99 _ _ ⟨ha_, rfl⟩
    have r103 := ite_f h101 hx95
    refine q_ (.bool false) (q_ (pt_ b82 0) ?_)
    refine l_' (i_ ((gt Arcs i0).1)) (aL_ 3 (pt_ b82 0) H88) (r91.l_) ?_
    refine q_ (pt_ b7 0) ?_
    have u104 := (((u52.frS e65 Dj.nil_l).ext e84).frS e90 (hb85.djn (r11.ltF.le (t_ e15.n e65.n))))
    refine l_' (i_ N_) (aL_ 3 (pt_ b7 0) H88) (u104.l_) ?_
    refine s_b (((gt Arcs i0).1) ≥ N_) (by kernel_rfl) (fun h105 => ?_) (fun h105 => ?_)
    ·have r106 := ite_t h105 r103
     refine q_ (.bool true) (q_ (.bool true) (n_' (n_' (n_' (q_ (.bool true) (q_ (.bool true) (n_' (n_' (n_' (n_' (n_' (q_ (.bool true) (s_nil ?_)))))))))))))
     obtain rfl := oi_ r106
     exact k99 _ _ ⟨ha_, rfl⟩
    have r107 := ite_f h105 r103
    refine q_ (.bool false) (q_ (.bool false) (q_ (pt_ b82 1) ?_))
    refine l_' (i_ ((gt Arcs i0).2.1)) (aL_ 3 (pt_ b82 1) H88) (r91.l_) ?_
    refine s_b (((gt Arcs i0).2.1) < 0) (by kernel_rfl) (fun h108 => ?_) (fun h108 => ?_)
    ·have r109 := ite_t h108 r107
     refine q_ (.bool true) (q_ (.bool true) (n_' (n_' (n_' (n_' (n_' (q_ (.bool true) (s_nil ?_))))))))
     obtain rfl := oi_ r109
     exact k99 _ _ ⟨ha_, rfl⟩
    have r110 := ite_f h108 r107
    refine q_ (.bool false) (q_ (.bool false) (q_ (pt_ b82 1) ?_))
    refine l_' (i_ ((gt Arcs i0).2.1)) (aL_ 3 (pt_ b82 1) H88) (r91.l_) ?_
    refine q_ (pt_ b7 0) ?_
    refine l_' (i_ N_) (aL_ 3 (pt_ b7 0) H88) (u104.l_) ?_
    refine q_ (.bool (decide (((gt Arcs i0).2.1) ≥ N_))) (q_ (.bool (decide (((gt Arcs i0).2.1) ≥ N_))) (s_nil ?_))
    obtain rfl := oi_ r110
    exact k99 _ _ ⟨ha_, rfl⟩
   obtain ⟨hh100, rfl⟩ := hM
   obtain ⟨β, rfl⟩ := has_ex hh100
   clear hh100
   refine k93 _ _ ?_
   refine w_cond (o94) (by kernel_rfl) rfl (fun h111 => ?_) (fun h111 => ?_)
   ·have r112 := ite_t h111 r96
    refine w_seqk fun _ k113 => g_' (q_ (i_ i0) ?_)
    obtain ⟨y114, hy115, r116⟩ := bind_some r112
    refine s_ck 51 #[i_ 7] (by kernel_rfl) (c_viaductref01_E e90.wf hy115) ?_
    rintro _ H117 ⟨rfl, e118⟩
    obtain ⟨y119, hy120, r121⟩ := bind_some r116
    refine s_ck 57 #[i_ 4, i_ i0, .agg #[i_ y114, .slice none 0 0]] (by kernel_rfl) (c_viaductref01_At e118.wf (Sq.nil (enc := enc_i64_i64) (sz := 2) (by decide)) hy120) ?_
    rintro _ H124 ⟨s122, f123, rfl, e125, m126, i127⟩
    obtain ⟨a129, n130, c131, rfl⟩ := m126.form
    have u136 := (((((r17.frS e65 Dj.nil_l).ext e84).frS e90 (hb85.djn (r17.ltF.le e65.n))).frS e118 Dj.nil_l).frS e125 Dj.nil_l)
    obtain ⟨H132, q133, e134, r135⟩ := Row.store (P := Try.prog) (t := 79) (p := 0) e125.wf u136 (.agg #[i_ y119.1, .slice a129 n130 c131]) [i_ y119.1, .slice a129 n130 c131] (by kernel_rfl) (by kernel_rfl) (one_cons (rfl) (one_cons (m126.one1) (one_nil))) (Nat.le_of_ble_eq_true (by kernel_rfl)) [i_ y119.1, .slice a129 n130 c131] (by kernel_rfl)
    refine s_ek (undef) (by kernel_rfl) (map_ok q133) ?_
    refine s_nil (k113 _ _ ?_)
    refine w_ret (th_ret (bl_ret (th_ret (th_ret (bl_ret (th_ret (th_ret ?_)))))))
    obtain ⟨v137, hv138, hz139⟩ := map_some r121
    subst hz139
    obtain rfl := it_inr hn71
    have hq140 := elim_inl r56
    rw [hq140] at hv138
    refine b_ret (fn := Try.f44) (vs := [.agg #[i_ y119.1, .slice a129 n130 c131]]) (aRes_cell (Eq.trans (b := aL_ 79 (pt_ b13 0) H132) (by kernel_rfl) (r135.l_)) (rfl)) ?_
    have u141 := (m126.fr e134 (Dj.symm (i127.djn (r17.ltF.le (t_ (t_ (t_ e65.n e84.n) e90.n) e118.n)))))
    obtain rfl := oi_ hv138
    exact ⟨(.slice a129 n130 c131), f123, rfl, (FrS.step wf (FrS.step wf (FrS.step wf (FrS.step wf ((FrS.step wf (((f0_ wf).extR e9).extR e15) e65 Inn.nil).extR e84) e90 (hb85.fresh (t_ (t_ e9.n e15.n) e65.n))) e118 Inn.nil) e125 Inn.nil) e134 (hb16.fresh e9.n)), u141, (i127.fresh (t_ (t_ (t_ (t_ (t_ e9.n e15.n) e65.n) e84.n) e90.n) e118.n))⟩
   have r142 := ite_bf h111 r96
   refine w_skip (k92 _ _ (w_seqk fun _ k143 => ?_))
   obtain ⟨o144, hx145, r146⟩ := bind_some r142
   refine w_mid (fun α H147 => Has α [(1, pt_ b7 0), (2, pt_ b13 0), (3, i_ i0), (21, hd_Arcs), (22, i_ (Arcs.length : Int)), (23, i_ i0), (60, .bool o144)] ∧ H88 = H147) (fun _ k149 => ?_) (fun α H147 hM => ?_)
   ·refine g_' (q_ (pt_ b82 2) ?_)
    refine l_' (i_ ((gt Arcs i0).2.2)) (aL_ 3 (pt_ b82 2) H88) (r91.l_) ?_
    refine s_b (((gt Arcs i0).2.2) < 0) (by kernel_rfl) (fun h151 => ?_) (fun h151 => ?_)
    ·have r152 := ite_t h151 hx145
     refine q_ (.bool true) (n_' (n_' (n_' (q_ (.bool true) (s_nil ?_)))))
     obtain rfl := oi_ r152
     exact k149 _ _ ⟨ha_, rfl⟩
    have r153 := ite_f h151 hx145
    refine q_ (.bool false) (q_ (pt_ b82 2) ?_)
    refine l_' (i_ ((gt Arcs i0).2.2)) (aL_ 3 (pt_ b82 2) H88) (r91.l_) ?_
    refine q_ (.bool (decide (((gt Arcs i0).2.2) > 2147483647))) (q_ (.bool (decide (((gt Arcs i0).2.2) > 2147483647))) (s_nil ?_))
    obtain rfl := oi_ r153
    exact k149 _ _ ⟨ha_, rfl⟩
   obtain ⟨hh150, rfl⟩ := hM
   obtain ⟨β, rfl⟩ := has_ex hh150
   clear hh150
   refine k143 _ _ ?_
   refine w_cond (o144) (by kernel_rfl) rfl (fun h154 => ?_) (fun h154 => ?_)
   ·have r155 := ite_t h154 r146
    refine w_seqk fun _ k156 => g_' (q_ (i_ i0) ?_)
    obtain ⟨y157, hy158, r159⟩ := bind_some r155
    refine s_ck 51 #[i_ 8] (by kernel_rfl) (c_viaductref01_E e90.wf hy158) ?_
    rintro _ H160 ⟨rfl, e161⟩
    obtain ⟨y162, hy163, r164⟩ := bind_some r159
    refine s_ck 57 #[i_ 4, i_ i0, .agg #[i_ y157, .slice none 0 0]] (by kernel_rfl) (c_viaductref01_At e161.wf (Sq.nil (enc := enc_i64_i64) (sz := 2) (by decide)) hy163) ?_
    rintro _ H167 ⟨s165, f166, rfl, e168, m169, i170⟩
    obtain ⟨a172, n173, c174, rfl⟩ := m169.form
    have u179 := (((((r17.frS e65 Dj.nil_l).ext e84).frS e90 (hb85.djn (r17.ltF.le e65.n))).frS e161 Dj.nil_l).frS e168 Dj.nil_l)
    obtain ⟨H175, q176, e177, r178⟩ := Row.store (P := Try.prog) (t := 79) (p := 0) e168.wf u179 (.agg #[i_ y162.1, .slice a172 n173 c174]) [i_ y162.1, .slice a172 n173 c174] (by kernel_rfl) (by kernel_rfl) (one_cons (rfl) (one_cons (m169.one1) (one_nil))) (Nat.le_of_ble_eq_true (by kernel_rfl)) [i_ y162.1, .slice a172 n173 c174] (by kernel_rfl)
    refine s_ek (undef) (by kernel_rfl) (map_ok q176) ?_
    refine s_nil (k156 _ _ ?_)
    refine w_ret (bl_ret (th_ret (th_ret (bl_ret (th_ret (th_ret ?_))))))
    obtain ⟨v180, hv181, hz182⟩ := map_some r164
    subst hz182
    obtain rfl := it_inr hn71
    have hq183 := elim_inl r56
    rw [hq183] at hv181
    refine b_ret (fn := Try.f44) (vs := [.agg #[i_ y162.1, .slice a172 n173 c174]]) (aRes_cell (Eq.trans (b := aL_ 79 (pt_ b13 0) H175) (by kernel_rfl) (r178.l_)) (rfl)) ?_
    have u184 := (m169.fr e177 (Dj.symm (i170.djn (r17.ltF.le (t_ (t_ (t_ e65.n e84.n) e90.n) e161.n)))))
    obtain rfl := oi_ hv181
    exact ⟨(.slice a172 n173 c174), f166, rfl, (FrS.step wf (FrS.step wf (FrS.step wf (FrS.step wf ((FrS.step wf (((f0_ wf).extR e9).extR e15) e65 Inn.nil).extR e84) e90 (hb85.fresh (t_ (t_ e9.n e15.n) e65.n))) e161 Inn.nil) e168 Inn.nil) e177 (hb16.fresh e9.n)), u184, (i170.fresh (t_ (t_ (t_ (t_ (t_ e9.n e15.n) e65.n) e84.n) e90.n) e161.n))⟩
   have r185 := ite_bf h154 r146
   refine w_skip (k77 _ _ (g_' ?_))
   obtain ⟨g186, r187⟩ := G_some r185
   refine w_' (i0 + 1) (wrap64 (by have := g186; omega)) ?_
   refine q_ (i_ (i0 + 1)) (s_nil ?_)
   obtain rfl := oi_ r187
   exact k72 n68 _ _ (Nat.lt_succ_self _) ⟨(i0 + 1), hn71, ha_, (FrS.step e15.wf ((FrS.step e15.wf (FrS.refl (W := []) e15.wf) e65 Inn.nil).extR e84) e90 (hb85.fresh e65.n))⟩
  have r188 := ite_f h75 hz70
  refine w_exit (th_exit (th_exit (bl_eq ?_)))
  obtain rfl := oi_ r188
  obtain rfl := it_inr hn71
  exact k60 _ _ ⟨_, rfl, ha_, (FrS.step e15.wf (FrS.refl (W := []) e15.wf) e65 Inn.nil)⟩
 obtain ⟨o54, rfl, hh61, e59⟩ := hM
 have r189 := elim_inr r56
 obtain ⟨β, rfl⟩ := has_ex hh61
 clear hh61
 refine k50 _ _ (w_seqk fun _ k190 => g_' (q_ (.agg #[i_ 0, .slice none 0 0]) ?_))
 have u195 := (r17.frS e59 Dj.nil_l)
 obtain ⟨H191, q192, e193, r194⟩ := Row.store (P := Try.prog) (t := 79) (p := 0) e59.wf u195 (.agg #[i_ 0, .slice none 0 0]) [i_ 0, .slice none 0 0] (by kernel_rfl) (by kernel_rfl) (one_cons (rfl) (one_cons (rfl) (one_nil))) (Nat.le_of_ble_eq_true (by kernel_rfl)) [i_ 0, .slice none 0 0] (by kernel_rfl)
 refine s_ek (undef) (by kernel_rfl) (map_ok q192) ?_
 refine s_nil (k190 _ _ ?_)
 refine w_ret ?_
 refine b_ret (fn := Try.f44) (vs := [.agg #[i_ 0, .slice none 0 0]]) (aRes_cell (Eq.trans (b := aL_ 79 (pt_ b13 0) H191) (by kernel_rfl) (r194.l_)) (rfl)) ?_
 obtain rfl := oi_ r189
 exact ⟨(.slice none 0 0), [], rfl, (FrS.step wf (FrS.step wf (((f0_ wf).extR e9).extR e15) e59 Inn.nil) e193 (hb16.fresh e9.n)), (Ow.nil (by decide)), Inn.nil⟩
theorem c_viaductref01_Err_Bad {H : AH} {hd_Places : Value} {fp_Places : Fp} {Code : Int} {Places : List (Int × Int)} {r : Bool}
    (wf : WF H) (h_Places : Sq enc_i64_i64 2 H hd_Places Places fp_Places) (hr : z_viaductref01_Err_Bad Code Places = some r) :
    ACalls Try.prog 32 #[.agg #[i_ Code, hd_Places]] H fun v H' => v = .bool r ∧ FrS [] H H' := by
 refine acalls_of_body mixed Try.func32 rfl (Nat.le_of_ble_eq_true rfl) ?_
 unfold z_viaductref01_Err_Bad at hr
 refine w_seqk fun _ k1 => g_' ?_
 refine s_rwl wf [i_ Code, hd_Places] (one_cons (rfl) (one_cons (h_Places.one1) (one_nil))) (by kernel_rfl) fun b2 H3 e4 hb5 r6 => ?_
 refine q_ (.bool false) (s_nil (k1 _ _ (w_seqk fun _ k8 => g_' (q_ (pt_ b2 0) ?_))))
 refine l_' (i_ Code) (aL_ 3 (pt_ b2 0) H3) (r6.l_) ?_
 refine s_bn (Code = 0) (by kernel_rfl) (fun h9 => ?_) (fun h9 => ?_)
 ·have r10 := ite_t h9 hr
  refine q_ (.bool false) (q_ (pt_ b2 1) ?_)
  refine l_' (hd_Places) (aL_ 77 (pt_ b2 1) H3) (r6.l_) ?_
  have u11 := (h_Places.ext e4)
  refine l_' (i_ (Places.length : Int)) (aLen Try.prog 77 hd_Places H3) (u11.lenb (by kernel_rfl)) ?_
  refine q_ (.bool (decide ((Places.length : Int) > 0))) (q_ (.bool (decide ((Places.length : Int) > 0))) (q_ (.bool (decide ((Places.length : Int) > 0))) (s_nil (k8 _ _ ?_))))
  refine w_ret ?_
  refine b_ret (fn := Try.f32) (vs := [.bool (decide ((Places.length : Int) > 0))]) (rt_ (rfl)) ?_
  obtain rfl := oi_ r10
  exact ⟨rfl, ((f0_ wf).extR e4)⟩
 have r12 := ite_f h9 hr
 refine q_ (.bool true) (n_' (n_' (n_' (n_' (q_ (.bool true) (q_ (.bool true) (s_nil (k8 _ _ ?_))))))))
 refine w_ret ?_
 refine b_ret (fn := Try.f32) (vs := [.bool true]) (rt_ (rfl)) ?_
 obtain rfl := oi_ r12
 exact ⟨rfl, ((f0_ wf).extR e4)⟩
theorem c_viaductref04_Few {H : AH} {hd_Arcs : Value} {fp_Arcs : Fp} {N_ : Int} {Arcs : List (Int × Int × Int)} {most : Int} {r : Bool}
    (wf : WF H) (h_Arcs : Sq enc_i64_i64_i64 3 H hd_Arcs Arcs fp_Arcs) (hr : z_viaductref04_Few N_ Arcs most = some r) :
    ACalls Try.prog 21 #[.agg #[i_ N_, hd_Arcs], i_ most] H fun v H' => v = .bool r ∧ FrS [] H H' := by
 refine acalls_of_body mixed Try.func21 rfl (Nat.le_of_ble_eq_true rfl) ?_
 unfold z_viaductref04_Few at hr
 refine w_seqk fun _ k1 => g_' ?_
 refine s_rwl wf [i_ N_, hd_Arcs] (one_cons (rfl) (one_cons (h_Arcs.one1) (one_nil))) (by kernel_rfl) fun b2 H3 e4 hb5 r6 => ?_
 refine q_ (.bool false) (s_nil (k1 _ _ (w_seqk fun _ k8 => g_' ?_)))
 refine l_' (.agg #[i_ N_, hd_Arcs]) (aL_ 24 (pt_ b2 0) H3) (r6.l_) ?_
 have u9 := (h_Arcs.ext e4)
 obtain ⟨y10, hy11, r12⟩ := bind_some hr
 refine s_ck 44 #[.agg #[i_ N_, hd_Arcs]] (by kernel_rfl) (c_viaductref03_DocCheck e4.wf u9 hy11) ?_
 rintro _ H15 ⟨s13, f14, rfl, e16, m17, i18⟩
 obtain ⟨a20, n21, c22, rfl⟩ := m17.form
 refine s_rwk e16.wf [i_ 0, .slice none 0 0] (by kernel_rfl) fun b23 H24 e25 hb26 r27 => ?_
 have u33 := (m17.ext e25)
 obtain ⟨H29, q30, e31, r32⟩ := Row.store (P := Try.prog) (t := 79) (p := 0) e25.wf r27 (.agg #[i_ y10.1, .slice a20 n21 c22]) [i_ y10.1, .slice a20 n21 c22] (by kernel_rfl) (by kernel_rfl) (one_cons (rfl) (one_cons (u33.one1) (one_nil))) (Nat.le_of_ble_eq_true (by kernel_rfl)) [i_ y10.1, .slice a20 n21 c22] (by kernel_rfl)
 refine s_ek (undef) (by kernel_rfl) (map_ok q30) ?_
 refine s_nil (k8 _ _ (w_seqk fun _ k34 => g_' ?_))
 refine l_' (.agg #[i_ y10.1, .slice a20 n21 c22]) (aL_ 79 (pt_ b23 0) H29) (r32.l_) ?_
 have u35 := (u33.fr e31 (hb26.djn m17.lt))
 obtain ⟨y36, hy37, r38⟩ := bind_some r12
 refine s_ck 32 #[.agg #[i_ y10.1, .slice a20 n21 c22]] (by kernel_rfl) (c_viaductref01_Err_Bad e31.wf u35.sq hy37) ?_
 rintro _ H39 ⟨rfl, e40⟩
 by_cases h41 : y36 = true
 ·have r42 := ite_t h41 r38
  rw [h41]
  refine q_ (.bool false) (q_ (.bool false) (n_' (n_' (n_' (n_' (q_ (.bool false) (q_ (.bool false) (n_' (n_' (n_' (n_' (q_ (.bool false) (q_ (.bool false) (s_nil (k34 _ _ ?_)))))))))))))))
  refine w_ret ?_
  refine b_ret (fn := Try.f21) (vs := [.bool false]) (rt_ (rfl)) ?_
  obtain rfl := oi_ r42
  exact ⟨rfl, (FrS.step wf (FrS.step wf ((FrS.step wf ((f0_ wf).extR e4) e16 Inn.nil).extR e25) e31 (hb26.fresh (t_ e4.n e16.n))) e40 Inn.nil)⟩
 have r44 := ite_f h41 r38
 rw [nb h41]
 refine q_ (.bool true) (q_ (.bool true) (q_ (pt_ b2 0) ?_))
 have u46 := ((((r6.frS e16 Dj.nil_l).ext e25).frS e31 (hb26.djn (r6.ltF.le e16.n))).frS e40 Dj.nil_l)
 refine l_' (i_ N_) (aL_ 3 (pt_ b2 0) H39) (u46.l_) ?_
 refine q_ (i_ most) ?_
 refine s_b (N_ ≤ most) (by kernel_rfl) (fun h47 => ?_) (fun h47 => ?_)
 ·have r48 := ite_t h47 r44
  refine q_ (.bool true) (q_ (.bool true) (q_ (pt_ b2 1) ?_))
  refine l_' (hd_Arcs) (aL_ 22 (pt_ b2 1) H39) (u46.l_) ?_
  have u49 := ((((u9.fr e16 Dj.nil_l).ext e25).fr e31 (hb26.djn (h_Arcs.lt.le (t_ e4.n e16.n)))).fr e40 Dj.nil_l)
  refine l_' (i_ (Arcs.length : Int)) (aLen Try.prog 22 hd_Arcs H39) (u49.lenb (by kernel_rfl)) ?_
  refine q_ (.bool (decide ((Arcs.length : Int) ≤ 2000))) (q_ (.bool (decide ((Arcs.length : Int) ≤ 2000))) (q_ (.bool (decide ((Arcs.length : Int) ≤ 2000))) (s_nil (k34 _ _ ?_))))
  refine w_ret ?_
  refine b_ret (fn := Try.f21) (vs := [.bool (decide ((Arcs.length : Int) ≤ 2000))]) (rt_ (rfl)) ?_
  obtain rfl := oi_ r48
  exact ⟨rfl, (FrS.step wf (FrS.step wf ((FrS.step wf ((f0_ wf).extR e4) e16 Inn.nil).extR e25) e31 (hb26.fresh (t_ e4.n e16.n))) e40 Inn.nil)⟩
 have r50 := ite_f h47 r44
 refine q_ (.bool false) (q_ (.bool false) (n_' (n_' (n_' (n_' (q_ (.bool false) (q_ (.bool false) (s_nil (k34 _ _ ?_)))))))))
 refine w_ret ?_
 refine b_ret (fn := Try.f21) (vs := [.bool false]) (rt_ (rfl)) ?_
 obtain rfl := oi_ r50
 exact ⟨rfl, (FrS.step wf (FrS.step wf ((FrS.step wf ((f0_ wf).extR e4) e16 Inn.nil).extR e25) e31 (hb26.fresh (t_ e4.n e16.n))) e40 Inn.nil)⟩
theorem c_gtext_within {H : AH} {x : Int} {n_ : Int} {r : Bool}
    (wf : WF H) (hr : z_gtext_within x n_ = some r) :
    ACalls Try.prog 81 #[i_ x, i_ n_] H fun v H' => v = .bool r ∧ H = H' := by
 refine acalls_of_body mixed Try.func81 rfl (Nat.le_of_ble_eq_true rfl) ?_
 unfold z_gtext_within at hr
 refine w_seqk fun _ k1 => g_' (q_ (.bool false) (s_nil (k1 _ _ (w_seqk fun _ k2 => g_' (q_ (i_ x) ?_)))))
 refine s_b (x ≥ 0) (by kernel_rfl) (fun h3 => ?_) (fun h3 => ?_)
 ·have r4 := ite_t h3 hr
  refine q_ (.bool true) (q_ (i_ x) (q_ (i_ n_) (q_ (.bool (decide (x < n_))) (q_ (.bool (decide (x < n_))) (q_ (.bool (decide (x < n_))) (s_nil (k2 _ _ ?_)))))))
  refine w_ret ?_
  refine b_ret (fn := Try.f81) (vs := [.bool (decide (x < n_))]) (rt_ (rfl)) ?_
  obtain rfl := oi_ r4
  exact ⟨rfl, rfl⟩
 have r5 := ite_f h3 hr
 refine q_ (.bool false) (n_' (n_' (n_' (q_ (.bool false) (q_ (.bool false) (s_nil (k2 _ _ ?_)))))))
 refine w_ret ?_
 refine b_ret (fn := Try.f81) (vs := [.bool false]) (rt_ (rfl)) ?_
 obtain rfl := oi_ r5
 exact ⟨rfl, rfl⟩
theorem c_gtext_arc {H : AH} {From : Int} {To : Int} {Weight : Int} {n_ : Int} {r : Er}
    (wf : WF H) (hr : z_gtext_arc From To Weight n_ = some r) :
    ACalls Try.prog 69 #[.agg #[i_ From, i_ To, i_ Weight], i_ n_] H fun v H' => ∃ (v3 : Value) (f4 : Fp), v = v3 ∧ FrS [] H H' ∧ Ev 90 129 H' v3 r f4 ∧ Inn [] H f4 := by
 refine acalls_of_body mixed Try.func69 rfl (Nat.le_of_ble_eq_true rfl) ?_
 unfold z_gtext_arc at hr
 refine w_seqk fun _ k6 => g_' ?_
 refine s_rwl wf [i_ From, i_ To, i_ Weight] (one_cons (rfl) (one_cons (rfl) (one_cons (rfl) (one_nil)))) (by kernel_rfl) fun b7 H8 e9 hb10 r11 => ?_
 refine q_ (.nilIface) (s_nil (k6 _ _ (w_seqk fun _ k13 => w_block (w_seqk fun _ k14 => ?_))))
 obtain ⟨o15, hx16, r17⟩ := bind_some hr
 refine w_mid (fun α H18 => Has α [(2, pt_ b7 0), (5, .bool o15)] ∧ H8 = H18) (fun _ k20 => ?_) (fun α H18 hM => ?_)
 ·refine g_' (q_ (pt_ b7 0) ?_)
  refine l_' (i_ From) (aL_ 3 (pt_ b7 0) H8) (r11.l_) ?_
  refine q_ (i_ n_) ?_
  obtain ⟨y22, hy23, r24⟩ := bind_some hx16
  refine s_ck 81 #[i_ From, i_ n_] (by kernel_rfl) (c_gtext_within e9.wf hy23) ?_
  rintro _ _ ⟨rfl, rfl⟩
  by_cases h27 : y22 = true
  ·have r28 := ite_t h27 r24
   rw [h27]
   refine q_ (.bool false) (q_ (.bool false) (q_ (pt_ b7 1) ?_))
   refine l_' (i_ To) (aL_ 3 (pt_ b7 1) H8) (r11.l_) ?_
   refine q_ (i_ n_) ?_
   obtain ⟨y30, hy31, r32⟩ := bind_some r28
   refine s_ck 81 #[i_ To, i_ n_] (by kernel_rfl) (c_gtext_within e9.wf hy31) ?_
   rintro _ _ ⟨rfl, rfl⟩
   refine q_ (.bool (!y30)) (q_ (.bool (!y30)) (q_ (.bool (!y30)) (s_nil ?_)))
   obtain rfl := oi_ r32
   exact k20 _ _ ⟨ha_, rfl⟩
  have r35 := ite_f h27 r24
  rw [nb h27]
  refine q_ (.bool true) (q_ (.bool true) (n_' (n_' (n_' (n_' (n_' (q_ (.bool true) (q_ (.bool true) (s_nil ?_)))))))))
  obtain rfl := oi_ r35
  exact k20 _ _ ⟨ha_, rfl⟩
 obtain ⟨hh21, rfl⟩ := hM
 obtain ⟨β, rfl⟩ := has_ex hh21
 clear hh21
 refine k14 _ _ ?_
 refine w_cond (o15) (by kernel_rfl) rfl (fun h37 => ?_) (fun h37 => ?_)
 ·have r38 := ite_t h37 r17
  refine w_seqk fun _ k39 => g_' (q_ (.iface 90 (i_ 7)) (q_ (.iface 90 (i_ 7)) (s_nil (k39 _ _ ?_))))
  refine w_ret (bl_ret (th_ret ?_))
  refine b_ret (fn := Try.f69) (vs := [.iface 90 (i_ 7)]) (rt_ (rfl)) ?_
  obtain rfl := oi_ r38
  exact ⟨(.iface 90 (i_ 7)), [], rfl, ((f0_ wf).extR e9), Ev.no, Inn.nil⟩
 have r40 := ite_bf h37 r17
 refine w_seqk fun _ k41 => g_' (q_ (pt_ b7 2) ?_)
 refine l_' (i_ Weight) (aL_ 3 (pt_ b7 2) H8) (r11.l_) ?_
 refine s_b (Weight < 0) (by kernel_rfl) (fun h42 => ?_) (fun h42 => ?_)
 ·have r43 := ite_t h42 r40
  refine q_ (.bool true) (n_' (n_' (n_' (q_ (.bool true) (q_ (.bool true) (s_nil (k41 _ _ ?_)))))))
  refine w_cond true (by kernel_rfl) rfl (fun _ => ?_) (fun h => by cases h)
  refine w_seqk fun _ k44 => g_' (q_ (.iface 90 (i_ 8)) (q_ (.iface 90 (i_ 8)) (s_nil (k44 _ _ ?_))))
  refine w_ret (bl_ret (th_ret ?_))
  refine b_ret (fn := Try.f69) (vs := [.iface 90 (i_ 8)]) (rt_ (rfl)) ?_
  obtain rfl := oi_ r43
  exact ⟨(.iface 90 (i_ 8)), [], rfl, ((f0_ wf).extR e9), Ev.no, Inn.nil⟩
 have r45 := ite_f h42 r40
 refine q_ (.bool false) (q_ (pt_ b7 2) ?_)
 refine l_' (i_ Weight) (aL_ 3 (pt_ b7 2) H8) (r11.l_) ?_
 refine q_ (.bool (decide (Weight > 2147483647))) (q_ (.bool (decide (Weight > 2147483647))) (q_ (.bool (decide (Weight > 2147483647))) (s_nil (k41 _ _ ?_))))
 refine w_condp (Weight > 2147483647) (by kernel_rfl) rfl (fun h46 => ?_) (fun h46 => ?_)
 ·have r47 := ite_t h46 r45
  refine w_seqk fun _ k48 => g_' (q_ (.iface 90 (i_ 8)) (q_ (.iface 90 (i_ 8)) (s_nil (k48 _ _ ?_))))
  refine w_ret (bl_ret (th_ret ?_))
  refine b_ret (fn := Try.f69) (vs := [.iface 90 (i_ 8)]) (rt_ (rfl)) ?_
  obtain rfl := oi_ r47
  exact ⟨(.iface 90 (i_ 8)), [], rfl, ((f0_ wf).extR e9), Ev.no, Inn.nil⟩
 have r49 := ite_f h46 r45
 refine w_skip (k13 _ _ (w_seqk fun _ k50 => g_' (q_ (.nilIface) (s_nil (k50 _ _ ?_)))))
 refine w_ret ?_
 refine b_ret (fn := Try.f69) (vs := [.nilIface]) (rt_ (rfl)) ?_
 obtain rfl := oi_ r49
 exact ⟨(.nilIface), [], rfl, ((f0_ wf).extR e9), Ev.nil, Inn.nil⟩
theorem c_fault_At {H : AH} {ev_err : Value} {fp_err : Fp} {kind : Int} {at_ : Int} {err : Er} {r : Er}
    (wf : WF H) (h_err : Ev 90 129 H ev_err err fp_err) (hr : z_fault_At kind at_ err = some r) :
    ACalls Try.prog 35 #[i_ kind, i_ at_, ev_err] H fun v H' => ∃ (v3 : Value) (f4 : Fp), v = v3 ∧ FrS [] H H' ∧ Ev 90 129 H' v3 r f4 ∧ Inn fp_err H f4 := by
 refine acalls_of_body mixed Try.func35 rfl (Nat.le_of_ble_eq_true rfl) ?_
 unfold z_fault_At at hr
 refine w_seqk fun _ k6 => g_' (q_ (.nilIface) (s_nil (k6 _ _ (w_seqk fun _ k7 => w_seqk fun _ k8 => g_' (q_ (ev_err) ?_)))))
 rcases (h_err).cases with ⟨h9, rfl⟩ | ⟨h9, t10, x11, rfl⟩
 ·have r12 := ite_t h9 hr
  refine q_ (.bool true) (s_nil (k8 _ _ ?_))
  refine w_cond true (by kernel_rfl) rfl (fun _ => ?_) (fun h => by cases h)
  refine w_seqk fun _ k13 => g_' (q_ (.nilIface) (s_nil (k13 _ _ ?_)))
  refine w_ret (th_ret ?_)
  refine b_ret (fn := Try.f35) (vs := [.nilIface]) (rt_ (rfl)) ?_
  obtain rfl := oi_ r12
  exact ⟨(.nilIface), [], rfl, (f0_ wf), Ev.nil, Inn.nil⟩
 have r14 := ite_f h9 hr
 refine l_' (.bool false) (aBin Try.prog .eql 38 (.tmp 7) (.const .nilIface) (.iface t10 x11) .nilIface) (aBin_nil (by kernel_rfl)) ?_
 refine s_nil (k8 _ _ ?_)
 refine w_cond false (by kernel_rfl) rfl (fun h => by cases h) (fun _ => ?_)
 refine w_skip (k7 _ _ (w_seqk fun _ k15 => g_' (q_ (i_ kind) (q_ (i_ at_) (q_ (.agg #[i_ kind, i_ at_]) (q_ (.iface t10 x11) (q_ (.agg #[i_ kind, i_ at_, .iface t10 x11]) ?_)))))))
 refine s_rwl wf [i_ kind, i_ at_, .iface t10 x11] (one_cons (rfl) (one_cons (rfl) (one_cons (h_err.one1) (one_nil)))) (by kernel_rfl) fun b16 H17 e18 hb19 r20 => ?_
 have u22 := (h_err.ext e18)
 obtain ⟨fq23, he24, hi25⟩ := Ev.at r20 u22 hb19
 refine q_ (.iface 129 (pt_ b16 0)) (q_ (.iface 129 (pt_ b16 0)) (s_nil (k15 _ _ ?_)))
 refine w_ret ?_
 refine b_ret (fn := Try.f35) (vs := [.iface 129 (pt_ b16 0)]) (rt_ (rfl)) ?_
 obtain rfl := oi_ r14
 exact ⟨(.iface 129 (pt_ b16 0)), fq23, rfl, ((f0_ wf).extR e18), he24, (Inn.trans Inn.refl' (Nat.le_refl _) hi25)⟩
theorem c_gtext_Check {H : AH} {hd_Arcs : Value} {fp_Arcs : Fp} {N_ : Int} {Arcs : List (Int × Int × Int)} {r : Er}
    (wf : WF H) (h_Arcs : Sq enc_i64_i64_i64 3 H hd_Arcs Arcs fp_Arcs) (hr : z_gtext_Check N_ Arcs = some r) :
    ACalls Try.prog 58 #[.agg #[i_ N_, hd_Arcs]] H fun v H' => ∃ (v3 : Value) (f4 : Fp), v = v3 ∧ FrS [] H H' ∧ Ev 90 129 H' v3 r f4 ∧ Inn [] H f4 := by
 refine acalls_of_body mixed Try.func58 rfl (Nat.le_of_ble_eq_true rfl) ?_
 unfold z_gtext_Check at hr
 refine w_seqk fun _ k6 => g_' ?_
 refine s_rwl wf [i_ N_, hd_Arcs] (one_cons (rfl) (one_cons (h_Arcs.one1) (one_nil))) (by kernel_rfl) fun b7 H8 e9 hb10 r11 => ?_
 refine q_ (.nilIface) (s_nil (k6 _ _ (w_seqk fun _ k13 => w_seqk fun _ k14 => ?_)))
 obtain ⟨o15, hx16, r17⟩ := bind_some hr
 refine w_mid (fun α H18 => Has α [(1, pt_ b7 0), (19, .bool o15)] ∧ H8 = H18) (fun _ k20 => ?_) (fun α H18 hM => ?_)
 ·refine g_' (q_ (pt_ b7 0) ?_)
  refine l_' (i_ N_) (aL_ 3 (pt_ b7 0) H8) (r11.l_) ?_
  refine s_b (N_ < 0) (by kernel_rfl) (fun h22 => ?_) (fun h22 => ?_)
  ·have r23 := ite_t h22 hx16
   refine q_ (.bool true) (n_' (n_' (n_' (q_ (.bool true) (q_ (.bool true) (n_' (n_' (n_' (n_' (q_ (.bool true) (s_nil ?_)))))))))))
   obtain rfl := oi_ r23
   exact k20 _ _ ⟨ha_, rfl⟩
  have r24 := ite_f h22 hx16
  refine q_ (.bool false) (q_ (pt_ b7 0) ?_)
  refine l_' (i_ N_) (aL_ 3 (pt_ b7 0) H8) (r11.l_) ?_
  refine s_b (N_ > 65536) (by kernel_rfl) (fun h25 => ?_) (fun h25 => ?_)
  ·have r26 := ite_t h25 r24
   refine q_ (.bool true) (q_ (.bool true) (n_' (n_' (n_' (n_' (q_ (.bool true) (s_nil ?_)))))))
   obtain rfl := oi_ r26
   exact k20 _ _ ⟨ha_, rfl⟩
  have r27 := ite_f h25 r24
  refine q_ (.bool false) (q_ (.bool false) (q_ (pt_ b7 1) ?_))
  refine l_' (hd_Arcs) (aL_ 22 (pt_ b7 1) H8) (r11.l_) ?_
  have u28 := (h_Arcs.ext e9)
  refine l_' (i_ (Arcs.length : Int)) (aLen Try.prog 22 hd_Arcs H8) (u28.lenb (by kernel_rfl)) ?_
  refine q_ (.bool (decide ((Arcs.length : Int) > 262144))) (q_ (.bool (decide ((Arcs.length : Int) > 262144))) (s_nil ?_))
  obtain rfl := oi_ r27
  exact k20 _ _ ⟨ha_, rfl⟩
 obtain ⟨hh21, rfl⟩ := hM
 obtain ⟨β, rfl⟩ := has_ex hh21
 clear hh21
 refine k14 _ _ ?_
 refine w_cond (o15) (by kernel_rfl) rfl (fun h29 => ?_) (fun h29 => ?_)
 ·have r30 := ite_t h29 r17
  refine w_seqk fun _ k31 => g_' (q_ (.iface 90 (i_ 9)) (q_ (.iface 90 (i_ 9)) (s_nil (k31 _ _ ?_))))
  refine w_ret (th_ret ?_)
  refine b_ret (fn := Try.f58) (vs := [.iface 90 (i_ 9)]) (rt_ (rfl)) ?_
  obtain rfl := oi_ r30
  exact ⟨(.iface 90 (i_ 9)), [], rfl, ((f0_ wf).extR e9), Ev.no, Inn.nil⟩
 have r32 := ite_bf h29 r17
 refine w_skip (k13 _ _ (w_seqk fun _ k33 => w_seqk fun _ k34 => g_' (q_ (pt_ b7 1) ?_)))
 refine l_' (hd_Arcs) (aL_ 22 (pt_ b7 1) H8) (r11.l_) ?_
 have u35 := (h_Arcs.ext e9)
 refine l_' (i_ (Arcs.length : Int)) (aLen Try.prog 22 hd_Arcs H8) (u35.lenb (by kernel_rfl)) ?_
 refine q_ (i_ 0) (s_nil (k34 _ _ ?_))
 obtain ⟨z39, hx37, r38⟩ := bind_some r32
 refine w_mid (fun α H40 => ∃ o36, z39 = Sum.inr o36 ∧ Has α [] ∧ FrS [] H8 H40) (fun _ k42 => ?_) (fun α H40 hM => ?_)
 ·refine w_block ?_
  obtain ⟨n44, hn45⟩ := loopO_iff.1 hx37
  refine w_loopn (fun n α H46 => ∃ (i0 : Int), iterO (fun zz_ => z_gtext_Check_l0 N_ Arcs zz_) n i0 = some z39 ∧ Has α [(1, pt_ b7 0), (22, hd_Arcs), (23, i_ (Arcs.length : Int)), (24, i_ i0)] ∧ FrS [] H8 H46) n44 ⟨0, hn45, ha_, (FrS.refl (W := []) e9.wf)⟩ ?_
  rintro n44 α H46 ⟨i0, hi49, hh48, e47⟩ K54 k54
  obtain ⟨n50, z51, rfl, hz52, hn53⟩ := iter_succ hi49
  obtain ⟨β, rfl⟩ := has_ex hh48
  clear hh48
  replace hz52 : z_gtext_Check_l0 N_ Arcs i0 = some z51 := hz52
  unfold z_gtext_Check_l0 at hz52
  refine w_seqk fun _ k55 => g_' (q_ (.bool (decide (i0 < (Arcs.length : Int)))) (s_nil (k55 _ _ (w_seqk fun _ k56 => ?_))))
  refine w_condp (i0 < (Arcs.length : Int)) (by kernel_rfl) rfl (fun h57 => ?_) (fun h57 => ?_)
  ·have r58 := ite_t h57 hz52
   refine w_skip (k56 _ _ (w_seqk fun _ k59 => w_block (w_seqk fun _ k60 => g_' (q_ (i_ i0) ?_))))
   obtain ⟨g61, r62⟩ := G_some r58
   have u63 := (u35.fr e47 Dj.nil_l)
   refine l_' (elp hd_Arcs 3 i0.toNat 0) (aIndexAddr Try.prog 22 hd_Arcs (i_ i0)) (u63.idxb (by kernel_rfl) g61 h57) ?_
   refine l_' (.agg #[i_ ((gt Arcs i0).1), i_ ((gt Arcs i0).2.1), i_ ((gt Arcs i0).2.2)]) (aL_ 118 (elp hd_Arcs 3 i0.toNat 0) H46) (u63.ld g61 h57 (by kernel_rfl)) ?_
   refine s_rwk e47.wf [i_ 0, i_ 0, i_ 0] (by kernel_rfl) fun b64 H65 e66 hb67 r68 => ?_
   refine q_ (i_ i0) ?_
   obtain ⟨H70, q71, e72, r73⟩ := Row.store (P := Try.prog) (t := 118) (p := 0) e66.wf r68 (.agg #[i_ ((gt Arcs i0).1), i_ ((gt Arcs i0).2.1), i_ ((gt Arcs i0).2.2)]) [i_ ((gt Arcs i0).1), i_ ((gt Arcs i0).2.1), i_ ((gt Arcs i0).2.2)] (by kernel_rfl) (by kernel_rfl) (one_cons (rfl) (one_cons (rfl) (one_cons (rfl) (one_nil)))) (Nat.le_of_ble_eq_true (by kernel_rfl)) [i_ ((gt Arcs i0).1), i_ ((gt Arcs i0).2.1), i_ ((gt Arcs i0).2.2)] (by kernel_rfl)
   refine s_ek (undef) (by kernel_rfl) (map_ok q71) ?_
   refine s_nil (k60 _ _ (w_seqk fun _ k74 => g_' ?_))
   refine l_' (.agg #[i_ ((gt Arcs i0).1), i_ ((gt Arcs i0).2.1), i_ ((gt Arcs i0).2.2)]) (aL_ 118 (pt_ b64 0) H70) (r73.l_) ?_
   refine q_ (pt_ b7 0) ?_
   have u75 := (((r11.frS e47 Dj.nil_l).ext e66).frS e72 (hb67.djn (r11.ltF.le e47.n)))
   refine l_' (i_ N_) (aL_ 3 (pt_ b7 0) H70) (u75.l_) ?_
   obtain ⟨y76, hy77, r78⟩ := bind_some r62
   refine s_ck 69 #[.agg #[i_ ((gt Arcs i0).1), i_ ((gt Arcs i0).2.1), i_ ((gt Arcs i0).2.2)], i_ N_] (by kernel_rfl) (c_gtext_arc e72.wf hy77) ?_
   rintro v79 H81 ⟨_, f80, rfl, e82, m83, i84⟩
   refine q_ (v79) (s_nil (k74 _ _ (w_seqk fun _ k86 => g_' (q_ (v79) ?_))))
   rcases (m83).cases with ⟨h87, rfl⟩ | ⟨h87, t88, x89, rfl⟩
   ·have r90 := ite_t h87 r78
    refine q_ (.bool false) (s_nil (k86 _ _ ?_))
    refine w_cond false (by kernel_rfl) rfl (fun h => by cases h) (fun _ => ?_)
    refine w_skip (k59 _ _ (g_' ?_))
    obtain ⟨g91, r92⟩ := G_some r90
    refine w_' (i0 + 1) (wrap64 (by have := g91; omega)) ?_
    refine q_ (i_ (i0 + 1)) (s_nil ?_)
    obtain rfl := oi_ r92
    exact k54 n50 _ _ (Nat.lt_succ_self _) ⟨(i0 + 1), hn53, ha_, (FrS.step e9.wf (FrS.step e9.wf ((FrS.step e9.wf (FrS.refl (W := []) e9.wf) e47 Inn.nil).extR e66) e72 (hb67.fresh e47.n)) e82 Inn.nil)⟩
   have r93 := ite_f h87 r78
   refine l_' (.bool true) (aBin Try.prog .neq 38 (.tmp 33) (.const .nilIface) (.iface t88 x89) .nilIface) (aBin_nnil (by kernel_rfl)) ?_
   refine s_nil (k86 _ _ ?_)
   refine w_cond true (by kernel_rfl) rfl (fun _ => ?_) (fun h => by cases h)
   refine w_seqk fun _ k94 => g_' (q_ (i_ i0) (q_ (.iface t88 x89) ?_))
   obtain ⟨y95, hy96, r97⟩ := bind_some r93
   refine s_ck 35 #[i_ 4, i_ i0, .iface t88 x89] (by kernel_rfl) (c_fault_At e82.wf m83 hy96) ?_
   rintro v98 H100 ⟨_, f99, rfl, e101, m102, i103⟩
   refine q_ (v98) (s_nil (k94 _ _ ?_))
   refine w_ret (bl_ret (th_ret (th_ret (bl_ret (th_ret (th_ret ?_))))))
   obtain ⟨v105, hv106, hz107⟩ := map_some r97
   subst hz107
   obtain rfl := it_inr hn53
   have hq108 := elim_inl r38
   rw [hq108] at hv106
   refine b_ret (fn := Try.f58) (vs := [v98]) (rt_ (rfl)) ?_
   obtain rfl := oi_ hv106
   exact ⟨(v98), f99, rfl, (FrS.step wf (FrS.step wf (FrS.step wf ((FrS.step wf ((f0_ wf).extR e9) e47 Inn.nil).extR e66) e72 (hb67.fresh (t_ e9.n e47.n))) e82 Inn.nil) e101 Inn.nil), m102, (Inn.trans (i84.fresh (t_ (t_ (t_ e9.n e47.n) e66.n) e72.n)) (t_ (t_ (t_ (t_ e9.n e47.n) e66.n) e72.n) e82.n) i103)⟩
  have r109 := ite_f h57 hz52
  refine w_exit (th_exit (th_exit (bl_eq ?_)))
  obtain rfl := oi_ r109
  obtain rfl := it_inr hn53
  exact k42 _ _ ⟨_, rfl, trivial, (FrS.step e9.wf (FrS.refl (W := []) e9.wf) e47 Inn.nil)⟩
 obtain ⟨o36, rfl, hh43, e41⟩ := hM
 have r110 := elim_inr r38
 obtain ⟨β, rfl⟩ := has_ex hh43
 clear hh43
 refine k33 _ _ (w_seqk fun _ k111 => g_' (q_ (.nilIface) (s_nil (k111 _ _ ?_))))
 refine w_ret ?_
 refine b_ret (fn := Try.f58) (vs := [.nilIface]) (rt_ (rfl)) ?_
 obtain rfl := oi_ r110
 exact ⟨(.nilIface), [], rfl, (FrS.step wf ((f0_ wf).extR e9) e41 Inn.nil), Ev.nil, Inn.nil⟩
theorem c_cmp_isNaN {H : AH} {x : Int} {r : Bool}
    (wf : WF H) (hr : z_cmp_isNaN x = some r) :
    ACalls Try.prog 92 #[i_ x] H fun v H' => v = .bool r ∧ H = H' := by
 refine acalls_of_body mixed Try.func92 rfl (Nat.le_of_ble_eq_true rfl) ?_
 unfold z_cmp_isNaN at hr
 refine w_seqk fun _ k1 => g_' (q_ (.bool false) (s_nil (k1 _ _ (w_seqk fun _ k2 => g_' (q_ (i_ x) (q_ (i_ x) (q_ (.bool (!decide (x = x))) (q_ (.bool (!decide (x = x))) (s_nil (k2 _ _ ?_))))))))))
 refine w_ret ?_
 refine b_ret (fn := Try.f92) (vs := [.bool (!decide (x = x))]) (rt_ (rfl)) ?_
 obtain rfl := oi_ hr
 exact ⟨rfl, rfl⟩
theorem c_cmp_Compare {H : AH} {x : Int} {y : Int} {r : Int}
    (wf : WF H) (hr : z_cmp_Compare x y = some r) :
    ACalls Try.prog 73 #[i_ x, i_ y] H fun v H' => v = i_ r ∧ H = H' := by
 refine acalls_of_body mixed Try.func73 rfl (Nat.le_of_ble_eq_true rfl) ?_
 unfold z_cmp_Compare at hr
 refine w_seqk fun _ k1 => g_' (q_ (i_ 0) (s_nil (k1 _ _ (w_seqk fun _ k2 => g_' (q_ (i_ x) ?_)))))
 obtain ⟨y3, hy4, r5⟩ := bind_some hr
 refine s_ck 92 #[i_ x] (by kernel_rfl) (c_cmp_isNaN wf hy4) ?_
 rintro _ _ ⟨rfl, rfl⟩
 refine q_ (.bool y3) (s_nil (k2 _ _ (w_seqk fun _ k8 => g_' (q_ (i_ y) ?_))))
 obtain ⟨y9, hy10, r11⟩ := bind_some r5
 refine s_ck 92 #[i_ y] (by kernel_rfl) (c_cmp_isNaN wf hy10) ?_
 rintro _ _ ⟨rfl, rfl⟩
 refine q_ (.bool y9) (s_nil (k8 _ _ (w_seqk fun _ k14 => w_seqk fun _ k15 => g_' (q_ (.bool y3) (s_nil (k15 _ _ ?_))))))
 refine w_cond (y3) (by kernel_rfl) rfl (fun h16 => ?_) (fun h16 => ?_)
 ·have r17 := ite_t h16 r11
  refine w_seqk fun _ k18 => w_seqk fun _ k19 => g_' (q_ (.bool y9) (s_nil (k19 _ _ ?_)))
  refine w_cond (y9) (by kernel_rfl) rfl (fun h20 => ?_) (fun h20 => ?_)
  ·have r21 := ite_t h20 r17
   refine w_seqk fun _ k22 => g_' (q_ (i_ 0) (s_nil (k22 _ _ ?_)))
   refine w_ret (th_ret (th_ret ?_))
   refine b_ret (fn := Try.f73) (vs := [i_ 0]) (rt_ (rfl)) ?_
   obtain rfl := oi_ r21
   exact ⟨rfl, rfl⟩
  have r23 := ite_bf h20 r17
  refine w_skip (k18 _ _ (w_seqk fun _ k24 => g_' (q_ (i_ (-1)) (s_nil (k24 _ _ ?_)))))
  refine w_ret (th_ret ?_)
  refine b_ret (fn := Try.f73) (vs := [i_ (-1)]) (rt_ (rfl)) ?_
  obtain rfl := oi_ r23
  exact ⟨rfl, rfl⟩
 have r25 := ite_bf h16 r11
 refine w_skip (k14 _ _ (w_seqk fun _ k26 => w_seqk fun _ k27 => g_' (q_ (.bool y9) (s_nil (k27 _ _ ?_)))))
 refine w_cond (y9) (by kernel_rfl) rfl (fun h28 => ?_) (fun h28 => ?_)
 ·have r29 := ite_t h28 r25
  refine w_seqk fun _ k30 => g_' (q_ (i_ 1) (s_nil (k30 _ _ ?_)))
  refine w_ret (th_ret ?_)
  refine b_ret (fn := Try.f73) (vs := [i_ 1]) (rt_ (rfl)) ?_
  obtain rfl := oi_ r29
  exact ⟨rfl, rfl⟩
 have r31 := ite_bf h28 r25
 refine w_skip (k26 _ _ (w_seqk fun _ k32 => w_seqk fun _ k33 => g_' (q_ (i_ x) (q_ (i_ y) (q_ (.bool (decide (x < y))) (s_nil (k33 _ _ ?_)))))))
 refine w_condp (x < y) (by kernel_rfl) rfl (fun h34 => ?_) (fun h34 => ?_)
 ·have r35 := ite_t h34 r31
  refine w_seqk fun _ k36 => g_' (q_ (i_ (-1)) (s_nil (k36 _ _ ?_)))
  refine w_ret (th_ret ?_)
  refine b_ret (fn := Try.f73) (vs := [i_ (-1)]) (rt_ (rfl)) ?_
  obtain rfl := oi_ r35
  exact ⟨rfl, rfl⟩
 have r37 := ite_f h34 r31
 refine w_skip (k32 _ _ (w_seqk fun _ k38 => w_seqk fun _ k39 => g_' (q_ (i_ x) (q_ (i_ y) (q_ (.bool (decide (x > y))) (s_nil (k39 _ _ ?_)))))))
 refine w_condp (x > y) (by kernel_rfl) rfl (fun h40 => ?_) (fun h40 => ?_)
 ·have r41 := ite_t h40 r37
  refine w_seqk fun _ k42 => g_' (q_ (i_ 1) (s_nil (k42 _ _ ?_)))
  refine w_ret (th_ret ?_)
  refine b_ret (fn := Try.f73) (vs := [i_ 1]) (rt_ (rfl)) ?_
  obtain rfl := oi_ r41
  exact ⟨rfl, rfl⟩
 have r43 := ite_f h40 r37
 refine w_skip (k38 _ _ (w_seqk fun _ k44 => g_' (q_ (i_ 0) (s_nil (k44 _ _ ?_)))))
 refine w_ret ?_
 refine b_ret (fn := Try.f73) (vs := [i_ 0]) (rt_ (rfl)) ?_
 obtain rfl := oi_ r43
 exact ⟨rfl, rfl⟩
theorem c_cmp_Or {H : AH} {hd_vals : Value} {fp_vals : Fp} {vals : List (Int)} {r : Int}
    (wf : WF H) (h_vals : Sq (encI .i64) 1 H hd_vals vals fp_vals) (hr : z_cmp_Or vals = some r) :
    ACalls Try.prog 72 #[hd_vals] H fun v H' => v = i_ r ∧ H = H' := by
 refine acalls_of_body mixed Try.func72 rfl (Nat.le_of_ble_eq_true rfl) ?_
 unfold z_cmp_Or at hr
 refine w_seqk fun _ k1 => g_' (q_ (i_ 0) (s_nil (k1 _ _ (w_seqk fun _ k2 => g_' (q_ (i_ 0) (s_nil (k2 _ _ (w_seqk fun _ k3 => w_seqk fun _ k4 => g_' (q_ (hd_vals) ?_)))))))))
 refine l_' (i_ (vals.length : Int)) (aLen Try.prog 26 hd_vals H) (h_vals.lenb (by kernel_rfl)) ?_
 refine q_ (i_ 0) (s_nil (k4 _ _ ?_))
 obtain ⟨z8, hx6, r7⟩ := bind_some hr
 refine w_mid (fun α H9 => ∃ o5, z8 = Sum.inr o5 ∧ Has α [(3, i_ 0)] ∧ H = H9) (fun _ k11 => ?_) (fun α H9 hM => ?_)
 ·refine w_block ?_
  obtain ⟨n13, hn14⟩ := loopO_iff.1 hx6
  refine w_loopn (fun n α H15 => ∃ (i0 : Int), iterO (fun zz_ => z_cmp_Or_l0 vals zz_) n i0 = some z8 ∧ Has α [(3, i_ 0), (6, hd_vals), (7, i_ (vals.length : Int)), (8, i_ i0)] ∧ H = H15) n13 ⟨0, hn14, ha_, rfl⟩ ?_
  rintro n13 α H15 ⟨i0, hi18, hh17, rfl⟩ K23 k23
  obtain ⟨n19, z20, rfl, hz21, hn22⟩ := iter_succ hi18
  obtain ⟨β, rfl⟩ := has_ex hh17
  clear hh17
  replace hz21 : z_cmp_Or_l0 vals i0 = some z20 := hz21
  unfold z_cmp_Or_l0 at hz21
  refine w_seqk fun _ k24 => g_' (q_ (.bool (decide (i0 < (vals.length : Int)))) (s_nil (k24 _ _ (w_seqk fun _ k25 => ?_))))
  refine w_condp (i0 < (vals.length : Int)) (by kernel_rfl) rfl (fun h26 => ?_) (fun h26 => ?_)
  ·have r27 := ite_t h26 hz21
   refine w_skip (k25 _ _ (w_seqk fun _ k28 => w_block (w_seqk fun _ k29 => g_' ?_)))
   obtain ⟨g30, r31⟩ := G_some r27
   refine l_' (elp hd_vals 1 i0.toNat 0) (aIndexAddr Try.prog 26 hd_vals (i_ i0)) (h_vals.idxb (by kernel_rfl) g30 h26) ?_
   refine l_' (i_ (gt vals i0)) (aL_ 3 (elp hd_vals 1 i0.toNat 0) H) (h_vals.ld g30 h26 (by kernel_rfl)) ?_
   refine q_ (i_ (gt vals i0)) (s_nil (k29 _ _ (w_seqk fun _ k32 => g_' (q_ (i_ (gt vals i0)) (q_ (i_ 0) (q_ (.bool (!decide ((gt vals i0) = 0))) (s_nil (k32 _ _ ?_))))))))
   refine w_condn ((gt vals i0) = 0) (by kernel_rfl) rfl (fun h33 => ?_) (fun h33 => ?_)
   ·have r34 := ite_f h33 r31
    refine w_seqk fun _ k35 => g_' (q_ (i_ (gt vals i0)) (q_ (i_ (gt vals i0)) (s_nil (k35 _ _ ?_))))
    refine w_ret (bl_ret (th_ret (th_ret (bl_ret (th_ret (th_ret ?_))))))
    obtain ⟨v36, hv37, hz38⟩ := map_some r34
    subst hz38
    obtain rfl := it_inr hn22
    have hq39 := elim_inl r7
    rw [hq39] at hv37
    refine b_ret (fn := Try.f72) (vs := [i_ (gt vals i0)]) (rt_ (rfl)) ?_
    obtain rfl := oi_ hv37
    exact ⟨rfl, rfl⟩
   have r40 := ite_t h33 r31
   refine w_skip (k28 _ _ (g_' ?_))
   obtain ⟨g41, r42⟩ := G_some r40
   refine w_' (i0 + 1) (wrap64 (by have := g41; omega)) ?_
   refine q_ (i_ (i0 + 1)) (s_nil ?_)
   obtain rfl := oi_ r42
   exact k23 n19 _ _ (Nat.lt_succ_self _) ⟨(i0 + 1), hn22, ha_, rfl⟩
  have r43 := ite_f h26 hz21
  refine w_exit (th_exit (th_exit (bl_eq ?_)))
  obtain rfl := oi_ r43
  obtain rfl := it_inr hn22
  exact k11 _ _ ⟨_, rfl, ha_, rfl⟩
 obtain ⟨o5, rfl, hh12, rfl⟩ := hM
 have r44 := elim_inr r7
 obtain ⟨β, rfl⟩ := has_ex hh12
 clear hh12
 refine k3 _ _ (w_seqk fun _ k45 => g_' (q_ (i_ 0) (q_ (i_ 0) (s_nil (k45 _ _ ?_)))))
 refine w_ret ?_
 refine b_ret (fn := Try.f72) (vs := [i_ 0]) (rt_ (rfl)) ?_
 obtain rfl := oi_ r44
 exact ⟨rfl, rfl⟩
theorem c_normal_order {H : AH} {From : Int} {To : Int} {Weight : Int} {From_ : Int} {To_ : Int} {Weight_ : Int} {r : Int}
    (wf : WF H) (hr : z_normal_order From To Weight From_ To_ Weight_ = some r) :
    ACalls Try.prog 60 #[.agg #[i_ From, i_ To, i_ Weight], .agg #[i_ From_, i_ To_, i_ Weight_]] H fun v H' => v = i_ r ∧ FrS [] H H' := by
 refine acalls_of_body mixed Try.func60 rfl (Nat.le_of_ble_eq_true rfl) ?_
 unfold z_normal_order at hr
 refine w_seqk fun _ k1 => g_' ?_
 refine s_rwl wf [i_ From, i_ To, i_ Weight] (one_cons (rfl) (one_cons (rfl) (one_cons (rfl) (one_nil)))) (by kernel_rfl) fun b2 H3 e4 hb5 r6 => ?_
 refine s_rwl e4.wf [i_ From_, i_ To_, i_ Weight_] (one_cons (rfl) (one_cons (rfl) (one_cons (rfl) (one_nil)))) (by kernel_rfl) fun b8 H9 e10 hb11 r12 => ?_
 refine q_ (i_ 0) (s_nil (k1 _ _ (w_seqk fun _ k14 => ?_)))
 refine w_draw [0, 1, 2, 3, 5, 6, 7, 8, 10, 11, 12, 13, 4, 9, 14, 15, 16, 17] (by kernel_rfl) ?_
 refine e_' (pt_ b2 0) ?_
 have u15 := (r6.ext e10)
 refine m_' (i_ From) (aL_ 3 (pt_ b2 0) H9) (u15.l_) ?_
 refine e_' (pt_ b8 0) ?_
 refine m_' (i_ From_) (aL_ 3 (pt_ b8 0) H9) (r12.l_) ?_
 refine e_' (pt_ b2 1) ?_
 refine d_fl (i_ To) (x := aL_ 3 (pt_ b2 1) H9) (by kernel_rfl) (u15.l_) ?_
 refine e_' (pt_ b8 1) ?_
 refine d_fl (i_ To_) (x := aL_ 3 (pt_ b8 1) H9) (by kernel_rfl) (r12.l_) ?_
 refine e_' (pt_ b2 2) ?_
 refine d_fl (i_ Weight) (x := aL_ 3 (pt_ b2 2) H9) (by kernel_rfl) (u15.l_) ?_
 refine e_' (pt_ b8 2) ?_
 refine d_fl (i_ Weight_) (x := aL_ 3 (pt_ b8 2) H9) (by kernel_rfl) (r12.l_) ?_
 obtain ⟨y16, hy17, r18⟩ := bind_some hr
 refine d_ck 73 #[i_ From, i_ From_] (by kernel_rfl) (c_cmp_Compare e10.wf hy17) ?_
 rintro _ _ ⟨rfl, rfl⟩
 refine ⟨st_ql (y := aL_ 3 (pt_ b8 2) H9) (by kernel_rfl) (r12.l_) (st_ql (y := aL_ 3 (pt_ b2 2) H9) (by kernel_rfl) (u15.l_) (st_ql (y := aL_ 3 (pt_ b8 1) H9) (by kernel_rfl) (r12.l_) (st_ql (y := aL_ 3 (pt_ b2 1) H9) (by kernel_rfl) (u15.l_) (st_nil)))), ?_⟩
 obtain ⟨y21, hy22, r23⟩ := bind_some r18
 refine d_ck 73 #[i_ To, i_ To_] (by kernel_rfl) (c_cmp_Compare e10.wf hy22) ?_
 rintro _ _ ⟨rfl, rfl⟩
 refine ⟨st_ql (y := aL_ 3 (pt_ b8 2) H9) (by kernel_rfl) (r12.l_) (st_ql (y := aL_ 3 (pt_ b2 2) H9) (by kernel_rfl) (u15.l_) (st_anc (by kernel_rfl) (st_anc (by kernel_rfl) (st_nil)))), ?_⟩
 obtain ⟨y26, hy27, r28⟩ := bind_some r23
 refine d_ck 73 #[i_ Weight, i_ Weight_] (by kernel_rfl) (c_cmp_Compare e10.wf hy27) ?_
 rintro _ _ ⟨rfl, rfl⟩
 refine ⟨st_anc (by kernel_rfl) (st_anc (by kernel_rfl) (st_anc (by kernel_rfl) (st_anc (by kernel_rfl) (st_nil)))), ?_⟩
 refine d_owk (enc := (encI .i64)) (sz := 1) e10.wf [y16, y21, y26] 3 (by decide) (fun _ _ => rfl) (fun _ _ => rfl) rfl (by kernel_rfl) fun s31 f32 H33 e34 hf35 hm36 => ?_
 obtain ⟨a37, n38, c39, rfl⟩ := hm36.form
 obtain ⟨y41, hy42, r43⟩ := bind_some r28
 refine d_ck 72 #[.slice a37 n38 c39] (by kernel_rfl) (c_cmp_Or e34.wf hm36.sq hy42) ?_
 rintro _ _ ⟨rfl, rfl⟩
 refine ⟨st_anc (by kernel_rfl) (st_anc (by kernel_rfl) (st_anc (by kernel_rfl) (st_anc (by kernel_rfl) (st_nil)))), ?_⟩
 refine e_' (i_ y41) ?_
 refine d_nil ?_
 refine k14 _ _ ?_
 refine w_ret ?_
 refine b_ret (fn := Try.f60) (vs := [i_ y41]) (rt_ (rfl)) ?_
 obtain rfl := oi_ r43
 exact ⟨rfl, ((((f0_ wf).extR e4).extR e10).extR e34)⟩
theorem c_normal_Of_1 {H : AH} {From : Int} {To : Int} {Weight : Int} {From_ : Int} {To_ : Int} {Weight_ : Int} {r : Bool}
    (wf : WF H) (hr : z_normal_Of_1 From To Weight From_ To_ Weight_ = some r) :
    ACalls Try.prog 62 #[.agg #[i_ From, i_ To, i_ Weight], .agg #[i_ From_, i_ To_, i_ Weight_]] H fun v H' => v = .bool r ∧ FrS [] H H' := by
 refine acalls_of_body mixed Try.func62 rfl (Nat.le_of_ble_eq_true rfl) ?_
 unfold z_normal_Of_1 at hr
 refine w_seqk fun _ k1 => g_' ?_
 refine s_rwl wf [i_ From, i_ To, i_ Weight] (one_cons (rfl) (one_cons (rfl) (one_cons (rfl) (one_nil)))) (by kernel_rfl) fun b2 H3 e4 hb5 r6 => ?_
 refine s_rwl e4.wf [i_ From_, i_ To_, i_ Weight_] (one_cons (rfl) (one_cons (rfl) (one_cons (rfl) (one_nil)))) (by kernel_rfl) fun b8 H9 e10 hb11 r12 => ?_
 refine q_ (.bool false) (s_nil (k1 _ _ (w_seqk fun _ k14 => g_' (q_ (pt_ b2 0) ?_))))
 have u15 := (r6.ext e10)
 refine l_' (i_ From) (aL_ 3 (pt_ b2 0) H9) (u15.l_) ?_
 refine q_ (pt_ b8 0) ?_
 refine l_' (i_ From_) (aL_ 3 (pt_ b8 0) H9) (r12.l_) ?_
 refine s_b (From = From_) (by kernel_rfl) (fun h16 => ?_) (fun h16 => ?_)
 ·have r17 := ite_t h16 hr
  refine q_ (.bool true) (q_ (pt_ b2 1) ?_)
  refine l_' (i_ To) (aL_ 3 (pt_ b2 1) H9) (u15.l_) ?_
  refine q_ (pt_ b8 1) ?_
  refine l_' (i_ To_) (aL_ 3 (pt_ b8 1) H9) (r12.l_) ?_
  refine q_ (.bool (decide (To = To_))) (q_ (.bool (decide (To = To_))) (q_ (.bool (decide (To = To_))) (s_nil (k14 _ _ ?_))))
  refine w_ret ?_
  refine b_ret (fn := Try.f62) (vs := [.bool (decide (To = To_))]) (rt_ (rfl)) ?_
  obtain rfl := oi_ r17
  exact ⟨rfl, (((f0_ wf).extR e4).extR e10)⟩
 have r18 := ite_f h16 hr
 refine q_ (.bool false) (n_' (n_' (n_' (n_' (n_' (q_ (.bool false) (q_ (.bool false) (s_nil (k14 _ _ ?_)))))))))
 refine w_ret ?_
 refine b_ret (fn := Try.f62) (vs := [.bool false]) (rt_ (rfl)) ?_
 obtain rfl := oi_ r18
 exact ⟨rfl, (((f0_ wf).extR e4).extR e10)⟩
end Go.Vd

/-! (KWg1) -/

set_option maxRecDepth 100000
set_option maxHeartbeats 4000000
set_option linter.unusedVariables false
namespace Go.Vd
open Go.Proofs
attribute [local irreducible] wpSeq wpOrd aWp
theorem c_slices_CompactFunc {H : AH} {hd_s : Value} {fp_s : Fp} {s : List (Int × Int × Int)} {r : List (Int × Int × Int) × List (Int × Int × Int)}
    (wf : WF H) (h_s : Ow enc_i64_i64_i64 3 H hd_s s fp_s) (hr : z_slices_CompactFunc s = some r) :
    ACalls Try.prog 61 #[hd_s, .func (.func 62) #[] #[]] H fun v H' => ∃ (s3 : Value), v = s3 ∧ FrS fp_s H H' ∧ Ow enc_i64_i64_i64 3 H' s3 r.1 fp_s ∧ Ow enc_i64_i64_i64 3 H' hd_s r.2 fp_s := by
 refine acalls_of_body mixed Try.func61 rfl (Nat.le_of_ble_eq_true rfl) ?_
 unfold z_slices_CompactFunc at hr
 refine w_seqk fun _ k6 => g_' (q_ (.slice none 0 0) (s_nil (k6 _ _ (w_seqk fun _ k7 => w_seqk fun _ k8 => g_' (q_ (hd_s) ?_)))))
 refine l_' (i_ (s.length : Int)) (aLen Try.prog 22 hd_s H) (h_s.sq.lenb (by kernel_rfl)) ?_
 refine q_ (.bool (decide ((s.length : Int) < 2))) (s_nil (k8 _ _ ?_))
 refine w_condp ((s.length : Int) < 2) (by kernel_rfl) rfl (fun h9 => ?_) (fun h9 => ?_)
 ·have r10 := ite_t h9 hr
  refine w_seqk fun _ k11 => g_' (q_ (hd_s) (q_ (hd_s) (s_nil (k11 _ _ ?_))))
  refine w_ret (th_ret ?_)
  refine b_ret (fn := Try.f61) (vs := [hd_s]) (rt_ (rfl)) ?_
  obtain rfl := oi_ r10
  exact ⟨(hd_s), rfl, (FrS.refl (W := fp_s) wf), h_s, h_s⟩
 have r12 := ite_f h9 hr
 refine w_skip (k7 _ _ (w_seqk fun _ k13 => w_seqk fun _ k14 => g_' (q_ (i_ 1) (s_nil (k14 _ _ ?_)))))
 obtain ⟨z18, hx16, r17⟩ := bind_some r12
 refine w_mid (fun α H19 => ∃ o15, z18 = Sum.inr o15 ∧ Has α [(0, hd_s)] ∧ FrS [] H H19) (fun _ k21 => ?_) (fun α H19 hM => ?_)
 ·refine w_block ?_
  obtain ⟨n23, hn24⟩ := loopO_iff.1 hx16
  refine w_loopn (fun n α H25 => ∃ (k3 : Int), iterO (fun zz_ => z_slices_CompactFunc_l1 s zz_) n k3 = some z18 ∧ Has α [(0, hd_s), (1, .func (.func 62) #[] #[]), (5, i_ k3)] ∧ FrS [] H H25) n23 ⟨1, hn24, ha_, (f0_ wf)⟩ ?_
  rintro n23 α H25 ⟨k3, hi28, hh27, e26⟩ K33 k33
  obtain ⟨n29, z30, rfl, hz31, hn32⟩ := iter_succ hi28
  obtain ⟨β, rfl⟩ := has_ex hh27
  clear hh27
  replace hz31 : z_slices_CompactFunc_l1 s k3 = some z30 := hz31
  unfold z_slices_CompactFunc_l1 at hz31
  refine w_seqk fun _ k34 => w_seqk fun _ k35 => g_' (q_ (i_ k3) (q_ (hd_s) ?_))
  have u36 := (h_s.fr e26 Dj.nil_l)
  refine l_' (i_ (s.length : Int)) (aLen Try.prog 22 hd_s H25) (u36.sq.lenb (by kernel_rfl)) ?_
  refine q_ (.bool (decide (k3 < (s.length : Int)))) (s_nil (k35 _ _ ?_))
  refine w_condp (k3 < (s.length : Int)) (by kernel_rfl) rfl (fun h37 => ?_) (fun h37 => ?_)
  ·have r38 := ite_t h37 hz31
   refine w_skip (k34 _ _ (w_seqk fun _ k39 => w_block (w_seqk fun _ k40 => ?_)))
   refine w_draw [0, 1, 2, 3, 4, 5, 6, 7, 8, 9, 10] (by kernel_rfl) ?_
   refine e_' (.func (.func 62) #[] #[]) (e_' (hd_s) (e_' (i_ k3) ?_))
   obtain ⟨g41, r42⟩ := G_some r38
   refine m_' (elp hd_s 3 k3.toNat 0) (aIndexAddr Try.prog 22 hd_s (i_ k3)) (u36.sq.idxb (by kernel_rfl) g41 h37) ?_
   refine m_' (.agg #[i_ ((gt s k3).1), i_ ((gt s k3).2.1), i_ ((gt s k3).2.2)]) (aL_ 118 (elp hd_s 3 k3.toNat 0) H25) (u36.sq.ld g41 h37 (by kernel_rfl)) ?_
   refine e_' (hd_s) (e_' (i_ k3) ?_)
   obtain ⟨g43, r44⟩ := G_some r42
   refine d_w ((k3 - 1)) (k := .i64) (x := (k3 - 1)) (by kernel_rfl) (wrap64 g43) ?_
   obtain ⟨g45, r46⟩ := G_some r44
   refine m_' (elp hd_s 3 (k3 - 1).toNat 0) (aIndexAddr Try.prog 22 hd_s (i_ (k3 - 1))) (u36.sq.idxb (by kernel_rfl) g45.1 g45.2) ?_
   refine m_' (.agg #[i_ ((gt s (k3 - 1)).1), i_ ((gt s (k3 - 1)).2.1), i_ ((gt s (k3 - 1)).2.2)]) (aL_ 118 (elp hd_s 3 (k3 - 1).toNat 0) H25) (u36.sq.ld g45.1 g45.2 (by kernel_rfl)) ?_
   obtain ⟨y47, hy48, r49⟩ := bind_some r46
   refine d_ck 62 #[.agg #[i_ ((gt s k3).1), i_ ((gt s k3).2.1), i_ ((gt s k3).2.2)], .agg #[i_ ((gt s (k3 - 1)).1), i_ ((gt s (k3 - 1)).2.1), i_ ((gt s (k3 - 1)).2.2)]] (by kernel_rfl) (c_normal_Of_1 e26.wf hy48) ?_
   rintro _ H50 ⟨rfl, e51⟩
   refine ⟨st_nil, ?_⟩
   refine d_nil ?_
   refine k40 _ _ ?_
   refine w_cond (y47) (by kernel_rfl) rfl (fun h52 => ?_) (fun h52 => ?_)
   ·have r53 := ite_t h52 r49
    refine w_seqk fun _ k54 => g_' (q_ (hd_s) (q_ (i_ k3) ?_))
    obtain ⟨g55, r56⟩ := G_some r53
    have u60 := (u36.fr e51 Dj.nil_l)
    obtain ⟨s57, q58, vw59⟩ := Ow.view (P := Try.prog) u60 (t := 22) (by kernel_rfl) (lo := some (i_ k3)) (l := k3.toNat) (aBound_int _ (by have := g55; omega)) (by have := g55; omega)
    obtain ⟨a61, n62, c63, rfl⟩ := vw59.form
    refine s_ql (.slice a61 n62 c63) (by kernel_rfl) q58 ?_
    refine q_ (.slice a61 n62 c63) (s_nil (k54 _ _ (w_seqk fun _ k64 => w_seqk fun _ k65 => g_' (q_ (i_ 1) (s_nil (k65 _ _ ?_))))))
    obtain ⟨o66, hx67, r68⟩ := bind_some r56
    refine w_mid (fun α H69 => Has α [(0, hd_s), (5, i_ o66.2)] ∧ FrS fp_s H50 H69 ∧ Ow enc_i64_i64_i64 3 H69 hd_s o66.1 fp_s) (fun _ k73 => ?_) (fun α H69 hM => ?_)
    ·refine w_block ?_
     obtain ⟨n75, hn76⟩ := loopO_iff.1 hx67
     refine w_loopn (fun n α H77 => ∃ (s0 : List (Int × Int × Int)), ∃ (k1 : Int), ∃ (k22 : Int), iterO (fun zz_ => z_slices_CompactFunc_l0 k3 zz_.1 zz_.2.1 zz_.2.2) n (s0, k1, k22) = some o66 ∧ Has α [(0, hd_s), (1, .func (.func 62) #[] #[]), (5, i_ k1), (6, .slice a61 n62 c63), (7, i_ k22)] ∧ FrS fp_s H50 H77 ∧ Ow enc_i64_i64_i64 3 H77 hd_s s0 fp_s) n75 ⟨s, k3, 1, hn76, ha_, (FrS.refl (W := fp_s) e51.wf), u60⟩ ?_
     rintro n75 α H77 ⟨s0, k1, k22, hi82, hh81, e78, m80⟩ K87 k87
     obtain ⟨n83, z84, rfl, hz85, hn86⟩ := iter_succ hi82
     obtain ⟨β, rfl⟩ := has_ex hh81
     clear hh81
     replace hz85 : z_slices_CompactFunc_l0 k3 s0 k1 k22 = some z84 := hz85
     unfold z_slices_CompactFunc_l0 at hz85
     refine w_seqk fun _ k88 => w_seqk fun _ k89 => g_' (q_ (i_ k22) (q_ (.slice a61 n62 c63) ?_))
     obtain ⟨hs90, hl91⟩ := vw59.sq m80
     refine l_' (i_ ((s0.drop k3.toNat).length : Int)) (aLen Try.prog 22 (.slice a61 n62 c63) H77) (hs90.lenb (by kernel_rfl)) ?_
     refine q_ (.bool (decide (k22 < ((s0.drop k3.toNat).length : Int)))) (s_nil (k89 _ _ ?_))
     refine w_condp (k22 < ((s0.drop k3.toNat).length : Int)) (by kernel_rfl) rfl (fun h93 => ?_) (fun h93 => ?_)
     ·have r94 := ite_t h93 hz85
      refine w_skip (k88 _ _ (w_seqk fun _ k95 => w_block (w_seqk fun _ k96 => ?_)))
      refine w_draw [0, 1, 2, 3, 4, 5, 6, 7, 8, 9, 10, 11] (by kernel_rfl) ?_
      refine e_' (.func (.func 62) #[] #[]) (e_' (.slice a61 n62 c63) (e_' (i_ k22) ?_))
      obtain ⟨hs97, hl98⟩ := vw59.sq m80
      obtain ⟨g100, r101⟩ := G_some r94
      refine m_' (elp (.slice a61 n62 c63) 3 k22.toNat 0) (aIndexAddr Try.prog 22 (.slice a61 n62 c63) (i_ k22)) (hs97.idxb (by kernel_rfl) g100 h93) ?_
      refine m_' (.agg #[i_ ((gt (s0.drop k3.toNat) k22).1), i_ ((gt (s0.drop k3.toNat) k22).2.1), i_ ((gt (s0.drop k3.toNat) k22).2.2)]) (aL_ 118 (elp (.slice a61 n62 c63) 3 k22.toNat 0) H77) (hs97.ld g100 h93 (by kernel_rfl)) ?_
      refine e_' (.slice a61 n62 c63) (e_' (i_ k22) ?_)
      obtain ⟨g102, r103⟩ := G_some r101
      refine d_w ((k22 - 1)) (k := .i64) (x := (k22 - 1)) (by kernel_rfl) (wrap64 g102) ?_
      obtain ⟨hs104, hl105⟩ := vw59.sq m80
      obtain ⟨g107, r108⟩ := G_some r103
      refine m_' (elp (.slice a61 n62 c63) 3 (k22 - 1).toNat 0) (aIndexAddr Try.prog 22 (.slice a61 n62 c63) (i_ (k22 - 1))) (hs104.idxb (by kernel_rfl) g107.1 g107.2) ?_
      refine m_' (.agg #[i_ ((gt (s0.drop k3.toNat) (k22 - 1)).1), i_ ((gt (s0.drop k3.toNat) (k22 - 1)).2.1), i_ ((gt (s0.drop k3.toNat) (k22 - 1)).2.2)]) (aL_ 118 (elp (.slice a61 n62 c63) 3 (k22 - 1).toNat 0) H77) (hs104.ld g107.1 g107.2 (by kernel_rfl)) ?_
      obtain ⟨y109, hy110, r111⟩ := bind_some r108
      refine d_ck 62 #[.agg #[i_ ((gt (s0.drop k3.toNat) k22).1), i_ ((gt (s0.drop k3.toNat) k22).2.1), i_ ((gt (s0.drop k3.toNat) k22).2.2)], .agg #[i_ ((gt (s0.drop k3.toNat) (k22 - 1)).1), i_ ((gt (s0.drop k3.toNat) (k22 - 1)).2.1), i_ ((gt (s0.drop k3.toNat) (k22 - 1)).2.2)]] (by kernel_rfl) (c_normal_Of_1 e78.wf hy110) ?_
      rintro _ H112 ⟨rfl, e113⟩
      refine ⟨st_nil, ?_⟩
      refine e_' (.bool (!y109)) ?_
      refine d_nil ?_
      refine k96 _ _ ?_
      refine w_cond ((!y109)) (by kernel_rfl) rfl (fun h114 => ?_) (fun h114 => ?_)
      ·have r115 := ite_t h114 r111
       refine w_seqk fun _ k116 => g_' (q_ (hd_s) (q_ (i_ k1) (q_ (.slice a61 n62 c63) (q_ (i_ k22) ?_))))
       have u119 := (m80.fr e113 Dj.nil_l)
       obtain ⟨hs117, hl118⟩ := vw59.sq u119
       refine l_' (elp (.slice a61 n62 c63) 3 k22.toNat 0) (aIndexAddr Try.prog 22 (.slice a61 n62 c63) (i_ k22)) (hs117.idxb (by kernel_rfl) g100 h93) ?_
       refine l_' (.agg #[i_ ((gt (s0.drop k3.toNat) k22).1), i_ ((gt (s0.drop k3.toNat) k22).2.1), i_ ((gt (s0.drop k3.toNat) k22).2.2)]) (aL_ 118 (elp (.slice a61 n62 c63) 3 k22.toNat 0) H112) (hs117.ld g100 h93 (by kernel_rfl)) ?_
       obtain ⟨g121, r122⟩ := G_some r115
       refine l_' (elp hd_s 3 k1.toNat 0) (aIndexAddr Try.prog 22 hd_s (i_ k1)) (u119.sq.idxb (by kernel_rfl) g121.1 g121.2) ?_
       obtain ⟨H123, q124, e125, hm126⟩ := Ow.store (P := Try.prog) (t := 118) (off := 0) e113.wf u119 g121.1 g121.2 (.agg #[i_ ((gt (s0.drop k3.toNat) k22).1), i_ ((gt (s0.drop k3.toNat) k22).2.1), i_ ((gt (s0.drop k3.toNat) k22).2.2)]) [i_ ((gt (s0.drop k3.toNat) k22).1), i_ ((gt (s0.drop k3.toNat) k22).2.1), i_ ((gt (s0.drop k3.toNat) k22).2.2)] (by kernel_rfl) (by kernel_rfl) rfl ((gt (s0.drop k3.toNat) k22).1, (gt (s0.drop k3.toNat) k22).2.1, (gt (s0.drop k3.toNat) k22).2.2) (Nat.le_of_ble_eq_true rfl) (by kernel_rfl)
       refine s_ek (undef) (by kernel_rfl) (map_ok q124) ?_
       refine s_nil (k116 _ _ (g_' (q_ (i_ k1) ?_)))
       obtain ⟨g127, r128⟩ := G_some r122
       refine w_' (k1 + 1) (wrap64 (by have := g127; omega)) ?_
       refine q_ (i_ (k1 + 1)) (s_nil (k95 _ _ (g_' (q_ (i_ k22) ?_))))
       obtain ⟨g129, r130⟩ := G_some r128
       refine w_' (k22 + 1) (wrap64 (by have := g129; omega)) ?_
       refine q_ (i_ (k22 + 1)) (s_nil ?_)
       obtain rfl := oi_ r130
       exact k87 n83 _ _ (Nat.lt_succ_self _) ⟨(s0.set k1.toNat ((gt (s0.drop k3.toNat) k22).1, (gt (s0.drop k3.toNat) k22).2.1, (gt (s0.drop k3.toNat) k22).2.2)), (k1 + 1), (k22 + 1), hn86, ha_, (FrS.step e51.wf (FrS.step e51.wf (FrS.step e51.wf (FrS.refl (W := fp_s) e51.wf) e78 Inn.refl') e113 Inn.nil) e125 Inn.refl'), hm126⟩
      have r131 := ite_bf h114 r111
      refine w_skip (k95 _ _ (g_' (q_ (i_ k22) ?_)))
      obtain ⟨g132, r133⟩ := G_some r131
      refine w_' (k22 + 1) (wrap64 (by have := g132; omega)) ?_
      refine q_ (i_ (k22 + 1)) (s_nil ?_)
      have u134 := (m80.fr e113 Dj.nil_l)
      obtain rfl := oi_ r133
      exact k87 n83 _ _ (Nat.lt_succ_self _) ⟨s0, k1, (k22 + 1), hn86, ha_, (FrS.step e51.wf (FrS.step e51.wf (FrS.refl (W := fp_s) e51.wf) e78 Inn.refl') e113 Inn.nil), u134⟩
     have r135 := ite_f h93 hz85
     refine w_exit (th_exit (th_exit (bl_eq ?_)))
     obtain rfl := oi_ r135
     obtain rfl := it_inr hn86
     exact k73 _ _ ⟨ha_, (FrS.step e51.wf (FrS.refl (W := fp_s) e51.wf) e78 Inn.refl'), m80⟩
    obtain ⟨hh74, e70, m72⟩ := hM
    obtain ⟨β, rfl⟩ := has_ex hh74
    clear hh74
    refine k64 _ _ (w_seqk fun _ k136 => g_' (q_ (hd_s) (q_ (i_ o66.2) ?_)))
    obtain ⟨g137, r138⟩ := G_some r68
    obtain ⟨s139, q140, vw141⟩ := Ow.view (P := Try.prog) m72 (t := 22) (by kernel_rfl) (lo := some (i_ o66.2)) (l := o66.2.toNat) (aBound_int _ (by have := g137; omega)) (by have := g137; omega)
    obtain ⟨a142, n143, c144, rfl⟩ := vw141.form
    refine s_ql (.slice a142 n143 c144) (by kernel_rfl) q140 ?_
    obtain ⟨g145, r146⟩ := G_some r138
    obtain ⟨H147, q148, e149, hm150⟩ := View.clear (P := Try.prog) (m := 24) (at_ := #[22]) vw141 ((0, 0, 0) : Int × Int × Int) e70.wf m72 g145 rfl (by kernel_rfl)
    refine s_ek (.tuple #[]) (by kernel_rfl) (map_ok q148) ?_
    refine s_nil (k136 _ _ (w_seqk fun _ k151 => g_' (q_ (hd_s) (q_ (i_ o66.2) ?_))))
    obtain ⟨g152, r153⟩ := G_some r146
    obtain ⟨s154, q155, hs156⟩ := Ow.head (P := Try.prog) hm150 (t := 22) (by kernel_rfl) (hi := (some (i_ o66.2))) (r := o66.2.toNat) (aBound_int _ (by have := g152; omega)) (by have := g152; omega)
    obtain ⟨a157, n158, c159, rfl⟩ := hs156.form
    refine s_ql (.slice a157 n158 c159) (by kernel_rfl) q155 ?_
    refine q_ (.slice a157 n158 c159) (s_nil (k151 _ _ ?_))
    refine w_ret (bl_ret (th_ret (th_ret (bl_ret (th_ret (th_ret ?_))))))
    obtain ⟨v161, hv162, hz163⟩ := map_some r153
    subst hz163
    obtain rfl := it_inr hn32
    have hq164 := elim_inl r17
    rw [hq164] at hv162
    refine b_ret (fn := Try.f61) (vs := [.slice a157 n158 c159]) (rt_ (rfl)) ?_
    obtain rfl := oi_ hv162
    exact ⟨(.slice a157 n158 c159), rfl, (FrS.step wf (FrS.step wf (FrS.step wf (FrS.step wf (FrS.refl (W := fp_s) wf) e26 Inn.nil) e51 Inn.nil) e70 Inn.refl') e149 Inn.refl'), hs156, hm150⟩
   have r165 := ite_bf h52 r49
   refine w_skip (k39 _ _ (g_' (q_ (i_ k3) ?_)))
   obtain ⟨g166, r167⟩ := G_some r165
   refine w_' (k3 + 1) (wrap64 (by have := g166; omega)) ?_
   refine q_ (i_ (k3 + 1)) (s_nil ?_)
   obtain rfl := oi_ r167
   exact k33 n29 _ _ (Nat.lt_succ_self _) ⟨(k3 + 1), hn32, ha_, (FrS.step wf (FrS.step wf (f0_ wf) e26 Inn.nil) e51 Inn.nil)⟩
  have r168 := ite_f h37 hz31
  refine w_exit (th_exit (th_exit (bl_eq ?_)))
  obtain rfl := oi_ r168
  obtain rfl := it_inr hn32
  exact k21 _ _ ⟨_, rfl, ha_, (FrS.step wf (f0_ wf) e26 Inn.nil)⟩
 obtain ⟨o15, rfl, hh22, e20⟩ := hM
 have r169 := elim_inr r17
 obtain ⟨β, rfl⟩ := has_ex hh22
 clear hh22
 refine k13 _ _ (w_seqk fun _ k170 => g_' (q_ (hd_s) (q_ (hd_s) (s_nil (k170 _ _ ?_)))))
 refine w_ret ?_
 refine b_ret (fn := Try.f61) (vs := [hd_s]) (rt_ (rfl)) ?_
 have u171 := (h_s.fr e20 Dj.nil_l)
 obtain rfl := oi_ r169
 exact ⟨(hd_s), rfl, (FrS.step wf (FrS.refl (W := fp_s) wf) e20 Inn.nil), u171, u171⟩
theorem c_normal_Of {H : AH} {hd_Arcs : Value} {fp_Arcs : Fp} {N_ : Int} {Arcs : List (Int × Int × Int)} {r : Int × List (Int × Int × Int) × Er}
    (wf : WF H) (h_Arcs : Sq enc_i64_i64_i64 3 H hd_Arcs Arcs fp_Arcs) (hr : z_normal_Of N_ Arcs = some r) :
    ACalls Try.prog 45 #[.agg #[i_ N_, hd_Arcs]] H fun v H' => ∃ (s3 : Value) (f4 : Fp) (v7 : Value) (f8 : Fp), v = .tuple #[.agg #[i_ r.1, s3], v7] ∧ FrS [] H H' ∧ Ow enc_i64_i64_i64 3 H' s3 r.2.1 f4 ∧ Ev 90 129 H' v7 r.2.2 f8 ∧ Inn [] H f4 ∧ Inn [] H f8 ∧ Dj f4 f8 := by
 refine acalls_of_body mixed Try.func45 rfl (Nat.le_of_ble_eq_true rfl) ?_
 unfold z_normal_Of at hr
 refine w_seqk fun _ k12 => g_' ?_
 refine s_rwl wf [i_ N_, hd_Arcs] (one_cons (rfl) (one_cons (h_Arcs.one1) (one_nil))) (by kernel_rfl) fun b13 H14 e15 hb16 r17 => ?_
 refine s_rwk e15.wf [i_ 0, .slice none 0 0] (by kernel_rfl) fun b19 H20 e21 hb22 r23 => ?_
 refine q_ (.nilIface) (s_nil (k12 _ _ (w_seqk fun _ k25 => w_seqk fun _ k26 => g_' ?_)))
 have u27 := (r17.ext e21)
 refine l_' (.agg #[i_ N_, hd_Arcs]) (aL_ 24 (pt_ b13 0) H20) (u27.l_) ?_
 have u28 := ((h_Arcs.ext e15).ext e21)
 obtain ⟨y29, hy30, r31⟩ := bind_some hr
 refine s_ck 58 #[.agg #[i_ N_, hd_Arcs]] (by kernel_rfl) (c_gtext_Check e21.wf u28 hy30) ?_
 rintro v32 H34 ⟨_, f33, rfl, e35, m36, i37⟩
 refine q_ (v32) (s_nil (k26 _ _ (w_seqk fun _ k39 => g_' (q_ (v32) ?_))))
 rcases (m36).cases with ⟨h40, rfl⟩ | ⟨h40, t41, x42, rfl⟩
 ·have r43 := ite_t h40 r31
  refine q_ (.bool false) (s_nil (k39 _ _ ?_))
  refine w_cond false (by kernel_rfl) rfl (fun h => by cases h) (fun _ => ?_)
  refine w_skip (k25 _ _ (w_seqk fun _ k44 => g_' (q_ (pt_ b13 0) ?_)))
  have u45 := (u27.frS e35 Dj.nil_l)
  refine l_' (i_ N_) (aL_ 3 (pt_ b13 0) H34) (u45.l_) ?_
  refine q_ (.agg #[i_ N_, .slice none 0 0]) ?_
  refine s_rwk e35.wf [i_ 0, .slice none 0 0] (by kernel_rfl) fun b46 H47 e48 hb49 r50 => ?_
  obtain ⟨H52, q53, e54, r55⟩ := Row.store (P := Try.prog) (t := 24) (p := 0) e48.wf r50 (.agg #[i_ N_, .slice none 0 0]) [i_ N_, .slice none 0 0] (by kernel_rfl) (by kernel_rfl) (one_cons (rfl) (one_cons (rfl) (one_nil))) (Nat.le_of_ble_eq_true (by kernel_rfl)) [i_ N_, .slice none 0 0] (by kernel_rfl)
  refine s_ek (undef) (by kernel_rfl) (map_ok q53) ?_
  refine s_nil (k44 _ _ (w_seqk fun _ k56 => w_seqk fun _ k57 => g_' (q_ (pt_ b13 1) ?_)))
  have u58 := ((u45.ext e48).frS e54 (hb49.djn (r17.ltF.le (t_ e21.n e35.n))))
  refine l_' (hd_Arcs) (aL_ 22 (pt_ b13 1) H52) (u58.l_) ?_
  have u59 := (((u28.fr e35 Dj.nil_l).ext e48).fr e54 (hb49.djn (h_Arcs.lt.le (t_ (t_ e15.n e21.n) e35.n))))
  refine l_' (i_ (Arcs.length : Int)) (aLen Try.prog 22 hd_Arcs H52) (u59.lenb (by kernel_rfl)) ?_
  refine q_ (i_ 0) (s_nil (k57 _ _ ?_))
  obtain ⟨o60, hx61, r62⟩ := bind_some r43
  refine w_mid (fun α H63 => ∃ (s67 : Value) (f68 : Fp), Has α [(2, pt_ b19 0), (5, pt_ b46 0)] ∧ FrS [b46] H52 H63 ∧ Ow enc_i64_i64_i64 3 H63 s67 o60 f68 ∧ Row H63 b46 [i_ N_, s67] ∧ Inn [] H52 f68) (fun _ k72 => ?_) (fun α H63 hM => ?_)
  ·refine w_block ?_
   obtain ⟨n74, hn75⟩ := loopO_iff.1 hx61
   refine w_loopn (fun n α H76 => ∃ (i0 : Int), ∃ (c1 : List (Int × Int × Int)), ∃ (s80 : Value), ∃ (f81 : Fp), iterO (fun zz_ => z_normal_Of_l0 Arcs zz_.1 zz_.2) n (i0, c1) = some o60 ∧ Has α [(2, pt_ b19 0), (5, pt_ b46 0), (18, hd_Arcs), (19, i_ (Arcs.length : Int)), (20, i_ i0)] ∧ FrS [b46] H52 H76 ∧ Ow enc_i64_i64_i64 3 H76 s80 c1 f81 ∧ Row H76 b46 [i_ N_, s80] ∧ Inn [] H52 f81) n74 ⟨0, [], (.slice none 0 0), [], hn75, ha_, (FrS.refl (W := [b46]) e54.wf), (Ow.nil (by decide)), r55, Inn.nil⟩ ?_
   rintro n74 α H76 ⟨i0, c1, s80, f81, hi86, hh85, e77, m79, m83, i84⟩ K91 k91
   obtain ⟨n87, z88, rfl, hz89, hn90⟩ := iter_succ hi86
   obtain ⟨β, rfl⟩ := has_ex hh85
   clear hh85
   replace hz89 : z_normal_Of_l0 Arcs i0 c1 = some z88 := hz89
   unfold z_normal_Of_l0 at hz89
   obtain ⟨a92, n93, c94, rfl⟩ := m79.form
   refine w_seqk fun _ k95 => g_' (q_ (.bool (decide (i0 < (Arcs.length : Int)))) (s_nil (k95 _ _ (w_seqk fun _ k96 => ?_))))
   refine w_condp (i0 < (Arcs.length : Int)) (by kernel_rfl) rfl (fun h97 => ?_) (fun h97 => ?_)
   ·have r98 := ite_t h97 hz89
    refine w_skip (k96 _ _ (w_seqk fun _ k99 => w_block (w_seqk fun _ k100 => g_' ?_)))
    obtain ⟨g101, r102⟩ := G_some r98
    have u103 := (u59.fr e77 (hb49.djn (h_Arcs.lt.le (t_ (t_ e15.n e21.n) e35.n))))
    refine l_' (elp hd_Arcs 3 i0.toNat 0) (aIndexAddr Try.prog 22 hd_Arcs (i_ i0)) (u103.idxb (by kernel_rfl) g101 h97) ?_
    refine l_' (.agg #[i_ ((gt Arcs i0).1), i_ ((gt Arcs i0).2.1), i_ ((gt Arcs i0).2.2)]) (aL_ 118 (elp hd_Arcs 3 i0.toNat 0) H76) (u103.ld g101 h97 (by kernel_rfl)) ?_
    refine s_rwk e77.wf [i_ 0, i_ 0, i_ 0] (by kernel_rfl) fun b104 H105 e106 hb107 r108 => ?_
    obtain ⟨H110, q111, e112, r113⟩ := Row.store (P := Try.prog) (t := 118) (p := 0) e106.wf r108 (.agg #[i_ ((gt Arcs i0).1), i_ ((gt Arcs i0).2.1), i_ ((gt Arcs i0).2.2)]) [i_ ((gt Arcs i0).1), i_ ((gt Arcs i0).2.1), i_ ((gt Arcs i0).2.2)] (by kernel_rfl) (by kernel_rfl) (one_cons (rfl) (one_cons (rfl) (one_cons (rfl) (one_nil)))) (Nat.le_of_ble_eq_true (by kernel_rfl)) [i_ ((gt Arcs i0).1), i_ ((gt Arcs i0).2.1), i_ ((gt Arcs i0).2.2)] (by kernel_rfl)
    refine s_ek (undef) (by kernel_rfl) (map_ok q111) ?_
    refine s_nil (k100 _ _ (w_seqk fun _ k114 => g_' (q_ (pt_ b104 0) ?_)))
    refine l_' (i_ ((gt Arcs i0).1)) (aL_ 3 (pt_ b104 0) H110) (r113.l_) ?_
    refine q_ (pt_ b104 1) ?_
    refine l_' (i_ ((gt Arcs i0).2.1)) (aL_ 3 (pt_ b104 1) H110) (r113.l_) ?_
    refine q_ (.bool (!decide (((gt Arcs i0).1) = ((gt Arcs i0).2.1)))) (s_nil (k114 _ _ ?_))
    refine w_condn (((gt Arcs i0).1) = ((gt Arcs i0).2.1)) (by kernel_rfl) rfl (fun h115 => ?_) (fun h115 => ?_)
    ·have r116 := ite_f h115 r102
     refine g_' (q_ (pt_ b46 1) ?_)
     have u117 := ((m83.ext e106).frS e112 (hb107.djn (r50.ltF.le (t_ e54.n e77.n))))
     refine l_' (.slice a92 n93 c94) (aL_ 22 (pt_ b46 1) H110) (u117.l_) ?_
     refine l_' (.agg #[i_ ((gt Arcs i0).1), i_ ((gt Arcs i0).2.1), i_ ((gt Arcs i0).2.2)]) (aL_ 118 (pt_ b104 0) H110) (r113.l_) ?_
     refine s_owk (enc := enc_i64_i64_i64) (sz := 3) e112.wf [((gt Arcs i0).1, (gt Arcs i0).2.1, (gt Arcs i0).2.2)] 1 (by decide) (fun _ _ => rfl) (fun _ _ => rfl) rfl (by kernel_rfl) fun s118 f119 H120 e121 hf122 hm123 => ?_
     obtain ⟨a124, n125, c126, rfl⟩ := hm123.form
     have u128 := (((m79.ext e106).fr e112 (hb107.djn m79.lt)).ext e121)
     obtain ⟨g129, r130⟩ := G_some r116
     obtain ⟨s131, H132, f133, q137, e134, hm135, hf136⟩ := Ow.append (P := Try.prog) 24 e121.wf u128 hm123.sq (fun _ _ => rfl) (at_ := #[22, 22]) rfl rfl (by kernel_rfl) (by kernel_rfl) (by decide) (by have := g129; first | omega | (simp only [List.length_cons, List.length_nil] at this ⊢; omega) | (simp at this ⊢; omega))
     obtain ⟨a138, n139, c140, rfl⟩ := hm135.form
     refine s_ek (.slice a138 n139 c140) (by kernel_rfl) (q137) ?_
     refine q_ (pt_ b46 1) ?_
     have u146 := ((u117.ext e121).frS e134 (i84.djn (r50.ltF.le e54.n)))
     obtain ⟨H142, q143, e144, r145⟩ := Row.store (P := Try.prog) (t := 22) (p := 1) e134.wf u146 (.slice a138 n139 c140) [.slice a138 n139 c140] (by kernel_rfl) (by kernel_rfl) (one_cons (hm135.one1) (one_nil)) (Nat.le_of_ble_eq_true (by kernel_rfl)) [i_ N_, .slice a138 n139 c140] (by kernel_rfl)
     refine s_ek (undef) (by kernel_rfl) (map_ok q143) ?_
     refine s_nil (k99 _ _ (g_' ?_))
     obtain ⟨g147, r148⟩ := G_some r130
     refine w_' (i0 + 1) (wrap64 (by have := g147; omega)) ?_
     refine q_ (i_ (i0 + 1)) (s_nil ?_)
     have u149 := (hm135.fr e144 (Dj.symm (hf136.dj (i84.djn (r50.ltF.le e54.n)) (r50.ltF.le (t_ (t_ (t_ (t_ e54.n e77.n) e106.n) e112.n) e121.n)))))
     obtain rfl := oi_ r148
     exact k91 n87 _ _ (Nat.lt_succ_self _) ⟨(i0 + 1), (c1 ++ [((gt Arcs i0).1, (gt Arcs i0).2.1, (gt Arcs i0).2.2)]), (.slice a138 n139 c140), f133, hn90, ha_, (FrS.step e54.wf (FrS.step e54.wf ((FrS.step e54.wf ((FrS.step e54.wf (FrS.refl (W := [b46]) e54.wf) e77 Inn.refl').extR e106) e112 (hb107.fresh e77.n)).extR e121) e134 (i84.fresh (Nat.le_refl _))) e144 Inn.refl'), u149, r145, (Inn.trans (i84.fresh (Nat.le_refl _)) (t_ (t_ (t_ e77.n e106.n) e112.n) e121.n) hf136)⟩
    have r150 := ite_t h115 r102
    refine w_skip (k99 _ _ (g_' ?_))
    obtain ⟨g151, r152⟩ := G_some r150
    refine w_' (i0 + 1) (wrap64 (by have := g151; omega)) ?_
    refine q_ (i_ (i0 + 1)) (s_nil ?_)
    have u153 := ((m79.ext e106).fr e112 (hb107.djn m79.lt))
    have u154 := ((m83.ext e106).frS e112 (hb107.djn (r50.ltF.le (t_ e54.n e77.n))))
    obtain rfl := oi_ r152
    exact k91 n87 _ _ (Nat.lt_succ_self _) ⟨(i0 + 1), c1, (.slice a92 n93 c94), f81, hn90, ha_, (FrS.step e54.wf ((FrS.step e54.wf (FrS.refl (W := [b46]) e54.wf) e77 Inn.refl').extR e106) e112 (hb107.fresh e77.n)), u153, u154, (i84.fresh (Nat.le_refl _))⟩
   have r155 := ite_f h97 hz89
   refine w_exit (th_exit (th_exit (bl_eq ?_)))
   obtain rfl := oi_ r155
   obtain rfl := it_inr hn90
   exact k72 _ _ ⟨(.slice a92 n93 c94), f81, ha_, (FrS.step e54.wf (FrS.refl (W := [b46]) e54.wf) e77 Inn.refl'), m79, m83, (i84.fresh (Nat.le_refl _))⟩
  obtain ⟨s67, f68, hh73, e64, m66, m70, i71⟩ := hM
  obtain ⟨β, rfl⟩ := has_ex hh73
  clear hh73
  obtain ⟨a156, n157, c158, rfl⟩ := m66.form
  refine k56 _ _ (w_seqk fun _ k159 => g_' (q_ (pt_ b46 1) ?_))
  refine l_' (.slice a156 n157 c158) (aL_ 22 (pt_ b46 1) H63) (m70.l_) ?_
  obtain ⟨g160, r161⟩ := G_some r62
  obtain ⟨y162, hy163, r164⟩ := bind_some r161
  refine s_ck 59 #[.slice a156 n157 c158, .func (.func 60) #[] #[]] (by kernel_rfl) (a_sortO (enc := enc_i64_i64_i64) (fun _ => rfl) (by intro x v hv; simp only [enc_i64_i64_i64, List.mem_cons, List.not_mem_nil, or_false] at hv; rcases hv with rfl | rfl | rfl <;> rfl) (by intro x v hv; simp only [enc_i64_i64_i64, List.mem_cons, List.not_mem_nil, or_false] at hv; rcases hv with rfl | rfl | rfl <;> rfl) (c := (fun (a_ b_ : Int × Int × Int) => z_normal_order a_.1 a_.2.1 a_.2.2 b_.1 b_.2.1 b_.2.2)) (Go.Proofs.enters_of Try.func60 (by kernel_rfl) rfl) (fun x y r hr => (c_normal_order aNil_wf hr).mono fun v H' h => h.1) e64.wf m66 g160 hy163) ?_
  rintro _ H165 ⟨rfl, e166, hm167⟩
  refine s_nil (k159 _ _ (w_seqk fun _ k168 => g_' (q_ (pt_ b46 1) ?_)))
  have u169 := (m70.frS e166 (i71.djn (r50.ltF.le e54.n)))
  refine l_' (.slice a156 n157 c158) (aL_ 22 (pt_ b46 1) H165) (u169.l_) ?_
  obtain ⟨y170, hy171, r172⟩ := bind_some r164
  refine s_ck 61 #[.slice a156 n157 c158, .func (.func 62) #[] #[]] (by kernel_rfl) (c_slices_CompactFunc e166.wf hm167 hy171) ?_
  rintro s173 H174 ⟨_, rfl, e175, m176, m177⟩
  obtain ⟨a179, n180, c181, rfl⟩ := m176.form
  refine q_ (pt_ b46 1) ?_
  have u186 := (u169.frS e175 (i71.djn (r50.ltF.le e54.n)))
  obtain ⟨H182, q183, e184, r185⟩ := Row.store (P := Try.prog) (t := 22) (p := 1) e175.wf u186 (.slice a179 n180 c181) [.slice a179 n180 c181] (by kernel_rfl) (by kernel_rfl) (one_cons (m176.one1) (one_nil)) (Nat.le_of_ble_eq_true (by kernel_rfl)) [i_ N_, .slice a179 n180 c181] (by kernel_rfl)
  refine s_ek (undef) (by kernel_rfl) (map_ok q183) ?_
  refine s_nil (k168 _ _ (w_seqk fun _ k187 => g_' ?_))
  refine l_' (.agg #[i_ N_, .slice a179 n180 c181]) (aL_ 24 (pt_ b46 0) H182) (r185.l_) ?_
  have u192 := (((((((r23.frS e35 Dj.nil_l).ext e48).frS e54 (hb49.djn (r23.ltF.le e35.n))).frS e64 (hb49.djn (r23.ltF.le e35.n))).frS e166 (i71.djn (r23.ltF.le (t_ (t_ e35.n e48.n) e54.n)))).frS e175 (i71.djn (r23.ltF.le (t_ (t_ e35.n e48.n) e54.n)))).frS e184 (hb49.djn (r23.ltF.le e35.n)))
  have u193 := (m176.fr e184 (Dj.symm (i71.djn (r50.ltF.le e54.n))))
  obtain ⟨H188, q189, e190, r191⟩ := Row.store (P := Try.prog) (t := 24) (p := 0) e184.wf u192 (.agg #[i_ N_, .slice a179 n180 c181]) [i_ N_, .slice a179 n180 c181] (by kernel_rfl) (by kernel_rfl) (one_cons (rfl) (one_cons (u193.one1) (one_nil))) (Nat.le_of_ble_eq_true (by kernel_rfl)) [i_ N_, .slice a179 n180 c181] (by kernel_rfl)
  refine s_ek (undef) (by kernel_rfl) (map_ok q189) ?_
  refine q_ (.nilIface) (s_nil (k187 _ _ ?_))
  refine w_ret ?_
  refine b_ret (fn := Try.f45) (vs := [.agg #[i_ N_, .slice a179 n180 c181], .nilIface]) (aRes_cell (Eq.trans (b := aL_ 24 (pt_ b19 0) H188) (by kernel_rfl) (r191.l_)) (rt_ (rfl))) ?_
  have u194 := (u193.fr e190 (Dj.symm (i71.djn (r23.ltF.le (t_ (t_ e35.n e48.n) e54.n)))))
  obtain rfl := oi_ r172
  exact ⟨(.slice a179 n180 c181), f68, (.nilIface), [], rfl, (FrS.step wf (FrS.step wf (FrS.step wf (FrS.step wf (FrS.step wf (FrS.step wf ((FrS.step wf (((f0_ wf).extR e15).extR e21) e35 Inn.nil).extR e48) e54 (hb49.fresh (t_ (t_ e15.n e21.n) e35.n))) e64 (hb49.fresh (t_ (t_ e15.n e21.n) e35.n))) e166 (i71.fresh (t_ (t_ (t_ (t_ e15.n e21.n) e35.n) e48.n) e54.n))) e175 (i71.fresh (t_ (t_ (t_ (t_ e15.n e21.n) e35.n) e48.n) e54.n))) e184 (hb49.fresh (t_ (t_ e15.n e21.n) e35.n))) e190 (hb22.fresh e15.n)), u194, Ev.nil, (i71.fresh (t_ (t_ (t_ (t_ e15.n e21.n) e35.n) e48.n) e54.n)), Inn.nil, Dj.nil_r⟩
 have r195 := ite_f h40 r31
 refine l_' (.bool true) (aBin Try.prog .neq 38 (.tmp 10) (.const .nilIface) (.iface t41 x42) .nilIface) (aBin_nnil (by kernel_rfl)) ?_
 refine s_nil (k39 _ _ ?_)
 refine w_cond true (by kernel_rfl) rfl (fun _ => ?_) (fun h => by cases h)
 refine w_seqk fun _ k196 => g_' (q_ (.agg #[i_ 0, .slice none 0 0]) (q_ (.iface t41 x42) ?_))
 have u201 := (r23.frS e35 Dj.nil_l)
 obtain ⟨H197, q198, e199, r200⟩ := Row.store (P := Try.prog) (t := 24) (p := 0) e35.wf u201 (.agg #[i_ 0, .slice none 0 0]) [i_ 0, .slice none 0 0] (by kernel_rfl) (by kernel_rfl) (one_cons (rfl) (one_cons (rfl) (one_nil))) (Nat.le_of_ble_eq_true (by kernel_rfl)) [i_ 0, .slice none 0 0] (by kernel_rfl)
 refine s_ek (undef) (by kernel_rfl) (map_ok q198) ?_
 refine q_ (.iface t41 x42) (s_nil (k196 _ _ ?_))
 refine w_ret (th_ret ?_)
 refine b_ret (fn := Try.f45) (vs := [.agg #[i_ 0, .slice none 0 0], .iface t41 x42]) (aRes_cell (Eq.trans (b := aL_ 24 (pt_ b19 0) H197) (by kernel_rfl) (r200.l_)) (rt_ (rfl))) ?_
 have u202 := (m36.fr e199 (Dj.symm (i37.djn r23.ltF)))
 obtain rfl := oi_ r195
 exact ⟨(.slice none 0 0), [], (.iface t41 x42), f33, rfl, (FrS.step wf (FrS.step wf (((f0_ wf).extR e15).extR e21) e35 Inn.nil) e199 (hb22.fresh e15.n)), (Ow.nil (by decide)), u202, Inn.nil, (i37.fresh (t_ e15.n e21.n)), Dj.nil_l⟩
theorem c_overlay_New {H : AH} {hd_Arcs : Value} {fp_Arcs : Fp} {N_ : Int} {Arcs : List (Int × Int × Int)} {r : (Er) ⊕ (List (Bool × List (Int × Int × Int) × List (Int × Int × Int)) × Int × Int)}
    (wf : WF H) (h_Arcs : Sq enc_i64_i64_i64 3 H hd_Arcs Arcs fp_Arcs) (hr : z_overlay_New N_ Arcs = some r) :
    ACalls Try.prog 22 #[.agg #[i_ N_, hd_Arcs]] H fun v H' => Sum.elim (fun (r : Er) => ∃ (v3 : Value) (f4 : Fp), v = .tuple #[.pointer none, v3] ∧ FrS [] H H' ∧ Ev 90 129 H' v3 r f4 ∧ Inn [] H f4) (fun (r : List (Bool × List (Int × Int × Int) × List (Int × Int × Int)) × Int × Int) => ∃ (s8 : Value) (f9 : Fp) (b12 : Nat), v = .tuple #[pt_ b12 0, .nilIface] ∧ FrS [] H H' ∧ Nd enc_i64_u64_i64 3 H' s8 r.1 f9 [] ∧ Row H' b12 [s8, i_ r.2.1, i_ r.2.2] ∧ Inn [] H f9 ∧ Inn [] H [b12] ∧ Dj f9 [b12]) r := by
 refine acalls_of_body mixed Try.func22 rfl (Nat.le_of_ble_eq_true rfl) ?_
 unfold z_overlay_New at hr
 refine w_seqk fun _ k16 => g_' ?_
 refine s_rwl wf [i_ N_, hd_Arcs] (one_cons (rfl) (one_cons (h_Arcs.one1) (one_nil))) (by kernel_rfl) fun b17 H18 e19 hb20 r21 => ?_
 refine q_ (.pointer none) (q_ (.nilIface) (s_nil (k16 _ _ (w_seqk fun _ k23 => g_' ?_))))
 refine l_' (.agg #[i_ N_, hd_Arcs]) (aL_ 24 (pt_ b17 0) H18) (r21.l_) ?_
 have u24 := (h_Arcs.ext e19)
 obtain ⟨y25, hy26, r27⟩ := bind_some hr
 refine s_ck 45 #[.agg #[i_ N_, hd_Arcs]] (by kernel_rfl) (c_normal_Of e19.wf u24 hy26) ?_
 rintro _ H32 ⟨s28, f29, v30, f31, rfl, e33, m34, m35, i36, i37, d38⟩
 obtain ⟨a41, n42, c43, rfl⟩ := m34.form
 refine q_ (.tuple #[.agg #[i_ y25.1, .slice a41 n42 c43], v30]) (q_ (.agg #[i_ y25.1, .slice a41 n42 c43]) (q_ (v30) ?_))
 refine s_rwk e33.wf [i_ 0, .slice none 0 0] (by kernel_rfl) fun b44 H45 e46 hb47 r48 => ?_
 have u54 := (m34.ext e46)
 obtain ⟨H50, q51, e52, r53⟩ := Row.store (P := Try.prog) (t := 24) (p := 0) e46.wf r48 (.agg #[i_ y25.1, .slice a41 n42 c43]) [i_ y25.1, .slice a41 n42 c43] (by kernel_rfl) (by kernel_rfl) (one_cons (rfl) (one_cons (u54.one1) (one_nil))) (Nat.le_of_ble_eq_true (by kernel_rfl)) [i_ y25.1, .slice a41 n42 c43] (by kernel_rfl)
 refine s_ek (undef) (by kernel_rfl) (map_ok q51) ?_
 refine q_ (v30) (s_nil (k23 _ _ (w_seqk fun _ k55 => w_seqk fun _ k56 => g_' (q_ (v30) ?_))))
 have u60 := ((m35.ext e46).fr e52 (hb47.djn m35.lt))
 rcases (u60).cases with ⟨h57, rfl⟩ | ⟨h57, t58, x59, rfl⟩
 ·have r61 := ite_t h57 r27
  refine q_ (.bool false) (s_nil (k56 _ _ ?_))
  refine w_cond false (by kernel_rfl) rfl (fun h => by cases h) (fun _ => ?_)
  refine w_skip (k55 _ _ (w_seqk fun _ k62 => ?_))
  refine w_draw [0, 1, 2, 3, 4, 5, 6, 7, 8, 9, 10] (by kernel_rfl) ?_
  refine e_' (pt_ b44 0) ?_
  refine m_' (i_ y25.1) (aL_ 3 (pt_ b44 0) H50) (r53.l_) ?_
  obtain ⟨g63, r64⟩ := G_some r61
  refine d_mks (t := 114) (m := 56) (l := y25.1) (c := y25.1) (enc := id) (sz := 3) e52.wf [.bool false, .slice none 0 0, .slice none 0 0] (by kernel_rfl) (by decide) g63.1 (Int.le_refl _) (by omega) (by have := g63; omega) (by kernel_rfl) fun s65 f66 H67 e68 hf69 hm70 => ?_
  replace hm70 := Nd.zeros (enc := enc_i64_u64_i64) (sz := 3) (by decide) hm70
  obtain ⟨a71, n72, c73, rfl⟩ := hm70.form
  have hm70 : Nd enc_i64_u64_i64 3 H67 (.slice a71 n72 c73) (List.replicate y25.1.toNat (false, [], [])) f66 [] := hm70
  refine e_' (pt_ b44 0) ?_
  have u75 := (r53.ext e68)
  refine m_' (i_ y25.1) (aL_ 3 (pt_ b44 0) H67) (u75.l_) ?_
  refine e_' (pt_ b44 1) ?_
  refine m_' (.slice a41 n42 c43) (aL_ 22 (pt_ b44 1) H67) (u75.l_) ?_
  have u76 := ((u54.fr e52 (hb47.djn m34.lt)).ext e68)
  refine m_' (i_ (y25.2.1.length : Int)) (aLen Try.prog 22 (.slice a41 n42 c43) H67) (u76.sq.lenb (by kernel_rfl)) ?_
  refine e_' (.agg #[.slice a71 n72 c73, i_ y25.1, i_ (y25.2.1.length : Int)]) ?_
  refine d_rwl e68.wf [.slice a71 n72 c73, i_ y25.1, i_ (y25.2.1.length : Int)] (one_cons (hm70.one1) (one_cons (rfl) (one_cons (rfl) (one_nil)))) (by kernel_rfl) fun b77 H78 e79 hb80 r81 => ?_
  refine e_' (pt_ b77 0) ?_
  refine d_nil ?_
  refine k62 _ _ (w_seqk fun _ k83 => w_seqk fun _ k84 => g_' (q_ (pt_ b44 1) ?_))
  have u85 := (u75.ext e79)
  refine l_' (.slice a41 n42 c43) (aL_ 22 (pt_ b44 1) H78) (u85.l_) ?_
  have u86 := (u76.ext e79)
  refine l_' (i_ (y25.2.1.length : Int)) (aLen Try.prog 22 (.slice a41 n42 c43) H78) (u86.sq.lenb (by kernel_rfl)) ?_
  refine q_ (i_ 0) (s_nil (k84 _ _ ?_))
  obtain ⟨o87, hx88, r89⟩ := bind_some r64
  refine w_mid (fun α H90 => ∃ (f94 : Fp), Has α [(6, pt_ b77 0)] ∧ FrS f66 H78 H90 ∧ Nd enc_i64_u64_i64 3 H90 (.slice a71 n72 c73) o87 f94 [] ∧ Inn f66 H78 f94) (fun _ k96 => ?_) (fun α H90 hM => ?_)
  ·refine w_block ?_
   obtain ⟨n98, hn99⟩ := loopO_iff.1 hx88
   have u112 := (hm70.ext e79)
   refine w_loopn (fun n α H100 => ∃ (i0 : Int), ∃ (o1 : List (Bool × List (Int × Int × Int) × List (Int × Int × Int))), ∃ (f104 : Fp), iterO (fun zz_ => z_overlay_New_l0 y25 zz_.1 zz_.2) n (i0, o1) = some o87 ∧ Has α [(6, pt_ b77 0), (28, .slice a41 n42 c43), (29, i_ (y25.2.1.length : Int)), (30, i_ i0)] ∧ FrS f66 H78 H100 ∧ Nd enc_i64_u64_i64 3 H100 (.slice a71 n72 c73) o1 f104 [] ∧ Inn f66 H78 f104) n98 ⟨0, (List.replicate y25.1.toNat (false, [], [])), f66, hn99, ha_, (FrS.refl (W := f66) e79.wf), u112, Inn.refl'⟩ ?_
   rintro n98 α H100 ⟨i0, o1, f104, hi107, hh106, e101, m103, i105⟩ K113 k113
   obtain ⟨n108, z109, rfl, hz110, hn111⟩ := iter_succ hi107
   obtain ⟨β, rfl⟩ := has_ex hh106
   clear hh106
   replace hz110 : z_overlay_New_l0 y25 i0 o1 = some z109 := hz110
   unfold z_overlay_New_l0 at hz110
   refine w_seqk fun _ k114 => g_' (q_ (.bool (decide (i0 < (y25.2.1.length : Int)))) (s_nil (k114 _ _ (w_seqk fun _ k115 => ?_))))
   refine w_condp (i0 < (y25.2.1.length : Int)) (by kernel_rfl) rfl (fun h116 => ?_) (fun h116 => ?_)
   ·have r117 := ite_t h116 hz110
    refine w_skip (k115 _ _ (w_seqk fun _ k118 => w_block (w_seqk fun _ k119 => g_' ?_)))
    obtain ⟨g120, r121⟩ := G_some r117
    have u122 := (u86.fr e101 (hf69.djn (m34.lt.le (t_ e46.n e52.n))))
    refine l_' (elp (.slice a41 n42 c43) 3 i0.toNat 0) (aIndexAddr Try.prog 22 (.slice a41 n42 c43) (i_ i0)) (u122.sq.idxb (by kernel_rfl) g120 h116) ?_
    refine l_' (.agg #[i_ ((gt y25.2.1 i0).1), i_ ((gt y25.2.1 i0).2.1), i_ ((gt y25.2.1 i0).2.2)]) (aL_ 118 (elp (.slice a41 n42 c43) 3 i0.toNat 0) H100) (u122.sq.ld g120 h116 (by kernel_rfl)) ?_
    refine s_rwk e101.wf [i_ 0, i_ 0, i_ 0] (by kernel_rfl) fun b123 H124 e125 hb126 r127 => ?_
    obtain ⟨H129, q130, e131, r132⟩ := Row.store (P := Try.prog) (t := 118) (p := 0) e125.wf r127 (.agg #[i_ ((gt y25.2.1 i0).1), i_ ((gt y25.2.1 i0).2.1), i_ ((gt y25.2.1 i0).2.2)]) [i_ ((gt y25.2.1 i0).1), i_ ((gt y25.2.1 i0).2.1), i_ ((gt y25.2.1 i0).2.2)] (by kernel_rfl) (by kernel_rfl) (one_cons (rfl) (one_cons (rfl) (one_cons (rfl) (one_nil)))) (Nat.le_of_ble_eq_true (by kernel_rfl)) [i_ ((gt y25.2.1 i0).1), i_ ((gt y25.2.1 i0).2.1), i_ ((gt y25.2.1 i0).2.2)] (by kernel_rfl)
    refine s_ek (undef) (by kernel_rfl) (map_ok q130) ?_
    refine s_nil (k119 _ _ (w_seqk fun _ k133 => ?_))
    refine w_draw [0, 1, 2, 3, 4, 5, 6, 7, 8, 9, 10, 11, 12, 13, 14, 15, 16, 17, 18, 19, 20, 21, 22, 23, 24, 25] (by kernel_rfl) ?_
    refine e_' (pt_ b77 0) (e_' (pt_ b77 0) (e_' (pt_ b77 0) ?_))
    have u134 := (((r81.frS e101 (Dj.symm (hb80.djn hm70.lt))).ext e125).frS e131 (hb126.djn (r81.ltF.le e101.n)))
    refine d_fl (.slice a71 n72 c73) (x := aL_ 114 (pt_ b77 0) H129) (by kernel_rfl) (u134.l_) ?_
    refine e_' (pt_ b123 0) ?_
    refine d_fl (i_ ((gt y25.2.1 i0).1)) (x := aL_ 3 (pt_ b123 0) H129) (by kernel_rfl) (r132.l_) ?_
    refine e_' (pt_ b77 0) (e_' (pt_ b77 0) (e_' (pt_ b77 0) ?_))
    refine m_' (.slice a71 n72 c73) (aL_ 114 (pt_ b77 0) H129) (u134.l_) ?_
    refine e_' (pt_ b123 0) ?_
    refine m_' (i_ ((gt y25.2.1 i0).1)) (aL_ 3 (pt_ b123 0) H129) (r132.l_) ?_
    obtain ⟨g135, r136⟩ := G_some r121
    have u137 := ((m103.ext e125).fr e131 (hb126.djn m103.lt))
    refine m_' (elp (.slice a71 n72 c73) 3 ((gt y25.2.1 i0).1).toNat 0) (aIndexAddr Try.prog 114 (.slice a71 n72 c73) (i_ ((gt y25.2.1 i0).1))) (u137.idxb (by kernel_rfl) g135.1 g135.2) ?_
    refine m_' (elp (.slice a71 n72 c73) 3 ((gt y25.2.1 i0).1).toNat 1) (aFieldAddr Try.prog 120 (elp (.slice a71 n72 c73) 3 ((gt y25.2.1 i0).1).toNat 0) 1) (Nd.fldq (d := 1) u137 g135.1 g135.2 (by kernel_rfl)) ?_
    obtain ⟨u138, u139, hl140, hk141⟩ := Nd.at u137 g135.1 g135.2
    have kd142 : KdS enc_i64_u64_i64 3 H129 u138 ((gt o1 ((gt y25.2.1 i0).1)).2.1) f104 (.slice a71 n72 c73) 3 ((gt y25.2.1 i0).1).toNat 1 := hk141 false (by simp)
    obtain ⟨a143, n144, c145, rfl⟩ := kd142.sq.form
    refine m_' (.slice a143 n144 c145) (aL_ 69 (elp (.slice a71 n72 c73) 3 ((gt y25.2.1 i0).1).toNat 1) H129) (hl140 _ _ _ _ (by kernel_rfl)) ?_
    refine e_' (pt_ b123 1) ?_
    refine m_' (i_ ((gt y25.2.1 i0).2.1)) (aL_ 3 (pt_ b123 1) H129) (r132.l_) ?_
    refine e_' (pt_ b123 2) ?_
    refine m_' (i_ ((gt y25.2.1 i0).2.2)) (aL_ 3 (pt_ b123 2) H129) (r132.l_) ?_
    obtain ⟨g147, r148⟩ := G_some r136
    refine d_w ((gt y25.2.1 i0).2.2) (k := .u64) (x := (gt y25.2.1 i0).2.2) (by kernel_rfl) (wrapu64 g147) ?_
    refine e_' (.agg #[i_ ((gt y25.2.1 i0).2.1), .int .u64 ((gt y25.2.1 i0).2.2), i_ (-1)]) ?_
    refine d_owk (enc := enc_i64_u64_i64) (sz := 3) e131.wf [((gt y25.2.1 i0).2.1, (gt y25.2.1 i0).2.2, (-1))] 1 (by decide) (fun _ _ => rfl) (fun _ _ => rfl) rfl (by kernel_rfl) fun s149 f150 H151 e152 hf153 hm154 => ?_
    obtain ⟨a155, n156, c157, rfl⟩ := hm154.form
    have u159 := (u137.ext e152)
    have u160 := (kd142.ext e152)
    obtain ⟨f161, f162, hh163, ho164, d165, hs166, hs167⟩ := Nd.borrow false u159 g135.1 g135.2 (by simp) u160 rfl
    have w168 := Inn.sub' (H := H151) hs166
    have w169 := Inn.sub' (H := H151) hs167
    have hh163 : Nd enc_i64_u64_i64 3 H151 (.slice a71 n72 c73) o1 f161 [(((gt y25.2.1 i0).1).toNat, false)] := hh163
    obtain ⟨g170, r171⟩ := G_some r148
    obtain ⟨s172, H173, f174, q178, e175, hm176, hf177⟩ := Ow.append (P := Try.prog) 24 e152.wf ho164 hm154.sq (fun _ _ => rfl) (at_ := #[69, 69]) rfl rfl (by kernel_rfl) (by kernel_rfl) (by decide) (by have := g170; first | omega | (simp only [List.length_cons, List.length_nil] at this ⊢; omega) | (simp at this ⊢; omega))
    obtain ⟨a179, n180, c181, rfl⟩ := hm176.form
    have u183 := ((u134.ext e152).frS e175 (w169.dj (i105.dj (Dj.symm (hb80.djn hm70.lt)) r81.ltF) (r81.ltF.le (t_ (t_ (t_ e101.n e125.n) e131.n) e152.n))))
    have u184 := ((r132.ext e152).frS e175 (w169.dj (Dj.symm (hb126.djn m103.lt)) (r127.ltF.le (t_ e131.n e152.n))))
    refine d_ek (.slice a179 n180 c181) (by kernel_rfl) (q178) (st_ql (y := aL_ 3 (pt_ b123 0) H173) (by kernel_rfl) (u184.l_) (st_ql (y := aL_ 114 (pt_ b77 0) H173) (by kernel_rfl) (u183.l_) (st_nil))) ?_
    have u185 := (hh163.fr e175 (Dj.symm d165))
    refine m_' (elp (.slice a71 n72 c73) 3 ((gt y25.2.1 i0).1).toNat 0) (aIndexAddr Try.prog 114 (.slice a71 n72 c73) (i_ ((gt y25.2.1 i0).1))) (u185.idxb (by kernel_rfl) g135.1 g135.2) ?_
    refine m_' (elp (.slice a71 n72 c73) 3 ((gt y25.2.1 i0).1).toNat 1) (aFieldAddr Try.prog 120 (elp (.slice a71 n72 c73) 3 ((gt y25.2.1 i0).1).toNat 0) 1) (Nd.fldq (d := 1) u185 g135.1 g135.2 (by kernel_rfl)) ?_
    obtain ⟨H186, f187, q188, e189, hm190, hf191⟩ := Nd.close (P := Try.prog) (t := 69) false e175.wf u185 hm176 (Dj.symm (hf177.dj (Dj.symm d165) hh163.lt)) g135.1 g135.2 (by kernel_rfl) (by kernel_rfl) (by kernel_rfl)
    have hm190 : Nd enc_i64_u64_i64 3 H186 (.slice a71 n72 c73) (o1.set ((gt y25.2.1 i0).1).toNat ((gt o1 ((gt y25.2.1 i0).1)).1, ((gt o1 ((gt y25.2.1 i0).1)).2.1 ++ [((gt y25.2.1 i0).2.1, (gt y25.2.1 i0).2.2, (-1))]), (gt o1 ((gt y25.2.1 i0).1)).2.2)) f187 [] := hm190
    have w192 := hf191.grow3 (Inn.trans Inn.refl' (Nat.le_refl _) w168) (Inn.trans (Inn.trans Inn.refl' (Nat.le_refl _) w169) (Nat.le_refl _) hf177) e175.n
    refine d_ek (undef) (by kernel_rfl) (map_ok q188) (st_anc (by kernel_rfl) (st_anc (by kernel_rfl) (st_nil))) ?_
    refine d_nil ?_
    refine k133 _ _ ?_
    refine w_draw [0, 1, 2, 3, 4, 5, 6, 7, 8, 9, 10, 11, 12, 13, 14, 15, 16, 17, 18, 19, 20, 21, 22, 23, 24, 25] (by kernel_rfl) ?_
    refine e_' (pt_ b77 0) (e_' (pt_ b77 0) (e_' (pt_ b77 0) ?_))
    have u193 := (u183.frS e189 (w168.dj (i105.dj (Dj.symm (hb80.djn hm70.lt)) r81.ltF) (r81.ltF.le (t_ (t_ (t_ e101.n e125.n) e131.n) e152.n))))
    refine d_fl (.slice a71 n72 c73) (x := aL_ 114 (pt_ b77 0) H186) (by kernel_rfl) (u193.l_) ?_
    refine e_' (pt_ b123 1) ?_
    have u194 := (u184.frS e189 (w168.dj (Dj.symm (hb126.djn m103.lt)) (r127.ltF.le (t_ e131.n e152.n))))
    refine d_fl (i_ ((gt y25.2.1 i0).2.1)) (x := aL_ 3 (pt_ b123 1) H186) (by kernel_rfl) (u194.l_) ?_
    refine e_' (pt_ b77 0) (e_' (pt_ b77 0) (e_' (pt_ b77 0) ?_))
    refine m_' (.slice a71 n72 c73) (aL_ 114 (pt_ b77 0) H186) (u193.l_) ?_
    refine e_' (pt_ b123 1) ?_
    refine m_' (i_ ((gt y25.2.1 i0).2.1)) (aL_ 3 (pt_ b123 1) H186) (u194.l_) ?_
    obtain ⟨g195, r196⟩ := G_some r171
    refine m_' (elp (.slice a71 n72 c73) 3 ((gt y25.2.1 i0).2.1).toNat 0) (aIndexAddr Try.prog 114 (.slice a71 n72 c73) (i_ ((gt y25.2.1 i0).2.1))) (hm190.idxb (by kernel_rfl) g195.1 g195.2) ?_
    refine m_' (elp (.slice a71 n72 c73) 3 ((gt y25.2.1 i0).2.1).toNat 2) (aFieldAddr Try.prog 120 (elp (.slice a71 n72 c73) 3 ((gt y25.2.1 i0).2.1).toNat 0) 2) (Nd.fldq (d := 2) hm190 g195.1 g195.2 (by kernel_rfl)) ?_
    obtain ⟨u197, u198, hl199, hk200⟩ := Nd.at hm190 g195.1 g195.2
    have kd201 : KdS enc_i64_u64_i64 3 H186 u198 ((gt (o1.set ((gt y25.2.1 i0).1).toNat ((gt o1 ((gt y25.2.1 i0).1)).1, ((gt o1 ((gt y25.2.1 i0).1)).2.1 ++ [((gt y25.2.1 i0).2.1, (gt y25.2.1 i0).2.2, (-1))]), (gt o1 ((gt y25.2.1 i0).1)).2.2)) ((gt y25.2.1 i0).2.1)).2.2) f187 (.slice a71 n72 c73) 3 ((gt y25.2.1 i0).2.1).toNat 2 := hk200 true (by simp)
    obtain ⟨a202, n203, c204, rfl⟩ := kd201.sq.form
    refine m_' (.slice a202 n203 c204) (aL_ 69 (elp (.slice a71 n72 c73) 3 ((gt y25.2.1 i0).2.1).toNat 2) H186) (hl199 _ _ _ _ (by kernel_rfl)) ?_
    refine e_' (pt_ b123 0) ?_
    refine m_' (i_ ((gt y25.2.1 i0).1)) (aL_ 3 (pt_ b123 0) H186) (u194.l_) ?_
    refine e_' (pt_ b123 2) ?_
    refine m_' (i_ ((gt y25.2.1 i0).2.2)) (aL_ 3 (pt_ b123 2) H186) (u194.l_) ?_
    obtain ⟨g206, r207⟩ := G_some r196
    refine d_w ((gt y25.2.1 i0).2.2) (k := .u64) (x := (gt y25.2.1 i0).2.2) (by kernel_rfl) (wrapu64 (by have := g206; omega)) ?_
    refine e_' (.agg #[i_ ((gt y25.2.1 i0).1), .int .u64 ((gt y25.2.1 i0).2.2), i_ (-1)]) ?_
    refine d_owk (enc := enc_i64_u64_i64) (sz := 3) e189.wf [((gt y25.2.1 i0).1, (gt y25.2.1 i0).2.2, (-1))] 1 (by decide) (fun _ _ => rfl) (fun _ _ => rfl) rfl (by kernel_rfl) fun s208 f209 H210 e211 hf212 hm213 => ?_
    obtain ⟨a214, n215, c216, rfl⟩ := hm213.form
    have u218 := (hm190.ext e211)
    have u219 := (kd201.ext e211)
    obtain ⟨f220, f221, hh222, ho223, d224, hs225, hs226⟩ := Nd.borrow true u218 g195.1 g195.2 (by simp) u219 rfl
    have w227 := Inn.sub' (H := H210) hs225
    have w228 := Inn.sub' (H := H210) hs226
    have hh222 : Nd enc_i64_u64_i64 3 H210 (.slice a71 n72 c73) (o1.set ((gt y25.2.1 i0).1).toNat ((gt o1 ((gt y25.2.1 i0).1)).1, ((gt o1 ((gt y25.2.1 i0).1)).2.1 ++ [((gt y25.2.1 i0).2.1, (gt y25.2.1 i0).2.2, (-1))]), (gt o1 ((gt y25.2.1 i0).1)).2.2)) f220 [(((gt y25.2.1 i0).2.1).toNat, true)] := hh222
    obtain ⟨g229, r230⟩ := G_some r207
    obtain ⟨s231, H232, f233, q237, e234, hm235, hf236⟩ := Ow.append (P := Try.prog) 24 e211.wf ho223 hm213.sq (fun _ _ => rfl) (at_ := #[69, 69]) rfl rfl (by kernel_rfl) (by kernel_rfl) (by decide) (by have := g229; first | omega | (simp only [List.length_cons, List.length_nil] at this ⊢; omega) | (simp at this ⊢; omega))
    obtain ⟨a238, n239, c240, rfl⟩ := hm235.form
    have u242 := ((u193.ext e211).frS e234 (w228.dj (w192.dj (i105.dj (Dj.symm (hb80.djn hm70.lt)) r81.ltF) (r81.ltF.le (t_ (t_ (t_ e101.n e125.n) e131.n) e152.n))) (r81.ltF.le (t_ (t_ (t_ (t_ (t_ (t_ e101.n e125.n) e131.n) e152.n) e175.n) e189.n) e211.n))))
    have u243 := ((u194.ext e211).frS e234 (w228.dj (w192.dj (Dj.symm (hb126.djn m103.lt)) (r127.ltF.le (t_ e131.n e152.n))) (r127.ltF.le (t_ (t_ (t_ (t_ e131.n e152.n) e175.n) e189.n) e211.n))))
    refine d_ek (.slice a238 n239 c240) (by kernel_rfl) (q237) (st_ql (y := aL_ 3 (pt_ b123 1) H232) (by kernel_rfl) (u243.l_) (st_ql (y := aL_ 114 (pt_ b77 0) H232) (by kernel_rfl) (u242.l_) (st_nil))) ?_
    have u244 := (hh222.fr e234 (Dj.symm d224))
    refine m_' (elp (.slice a71 n72 c73) 3 ((gt y25.2.1 i0).2.1).toNat 0) (aIndexAddr Try.prog 114 (.slice a71 n72 c73) (i_ ((gt y25.2.1 i0).2.1))) (u244.idxb (by kernel_rfl) g195.1 g195.2) ?_
    refine m_' (elp (.slice a71 n72 c73) 3 ((gt y25.2.1 i0).2.1).toNat 2) (aFieldAddr Try.prog 120 (elp (.slice a71 n72 c73) 3 ((gt y25.2.1 i0).2.1).toNat 0) 2) (Nd.fldq (d := 2) u244 g195.1 g195.2 (by kernel_rfl)) ?_
    obtain ⟨H245, f246, q247, e248, hm249, hf250⟩ := Nd.close (P := Try.prog) (t := 69) true e234.wf u244 hm235 (Dj.symm (hf236.dj (Dj.symm d224) hh222.lt)) g195.1 g195.2 (by kernel_rfl) (by kernel_rfl) (by kernel_rfl)
    have hm249 : Nd enc_i64_u64_i64 3 H245 (.slice a71 n72 c73) ((o1.set ((gt y25.2.1 i0).1).toNat ((gt o1 ((gt y25.2.1 i0).1)).1, ((gt o1 ((gt y25.2.1 i0).1)).2.1 ++ [((gt y25.2.1 i0).2.1, (gt y25.2.1 i0).2.2, (-1))]), (gt o1 ((gt y25.2.1 i0).1)).2.2)).set ((gt y25.2.1 i0).2.1).toNat ((gt (o1.set ((gt y25.2.1 i0).1).toNat ((gt o1 ((gt y25.2.1 i0).1)).1, ((gt o1 ((gt y25.2.1 i0).1)).2.1 ++ [((gt y25.2.1 i0).2.1, (gt y25.2.1 i0).2.2, (-1))]), (gt o1 ((gt y25.2.1 i0).1)).2.2)) ((gt y25.2.1 i0).2.1)).1, (gt (o1.set ((gt y25.2.1 i0).1).toNat ((gt o1 ((gt y25.2.1 i0).1)).1, ((gt o1 ((gt y25.2.1 i0).1)).2.1 ++ [((gt y25.2.1 i0).2.1, (gt y25.2.1 i0).2.2, (-1))]), (gt o1 ((gt y25.2.1 i0).1)).2.2)) ((gt y25.2.1 i0).2.1)).2.1, ((gt (o1.set ((gt y25.2.1 i0).1).toNat ((gt o1 ((gt y25.2.1 i0).1)).1, ((gt o1 ((gt y25.2.1 i0).1)).2.1 ++ [((gt y25.2.1 i0).2.1, (gt y25.2.1 i0).2.2, (-1))]), (gt o1 ((gt y25.2.1 i0).1)).2.2)) ((gt y25.2.1 i0).2.1)).2.2 ++ [((gt y25.2.1 i0).1, (gt y25.2.1 i0).2.2, (-1))]))) f246 [] := hm249
    have w251 := hf250.grow3 (Inn.trans Inn.refl' (Nat.le_refl _) w227) (Inn.trans (Inn.trans Inn.refl' (Nat.le_refl _) w228) (Nat.le_refl _) hf236) e234.n
    refine d_ek (undef) (by kernel_rfl) (map_ok q247) (st_anc (by kernel_rfl) (st_anc (by kernel_rfl) (st_nil))) ?_
    refine d_nil ?_
    refine k118 _ _ (g_' ?_)
    obtain ⟨g252, r253⟩ := G_some r230
    refine w_' (i0 + 1) (wrap64 (by have := g252; omega)) ?_
    refine q_ (i_ (i0 + 1)) (s_nil ?_)
    obtain rfl := oi_ r253
    exact k113 n108 _ _ (Nat.lt_succ_self _) ⟨(i0 + 1), ((o1.set ((gt y25.2.1 i0).1).toNat ((gt o1 ((gt y25.2.1 i0).1)).1, ((gt o1 ((gt y25.2.1 i0).1)).2.1 ++ [((gt y25.2.1 i0).2.1, (gt y25.2.1 i0).2.2, (-1))]), (gt o1 ((gt y25.2.1 i0).1)).2.2)).set ((gt y25.2.1 i0).2.1).toNat ((gt (o1.set ((gt y25.2.1 i0).1).toNat ((gt o1 ((gt y25.2.1 i0).1)).1, ((gt o1 ((gt y25.2.1 i0).1)).2.1 ++ [((gt y25.2.1 i0).2.1, (gt y25.2.1 i0).2.2, (-1))]), (gt o1 ((gt y25.2.1 i0).1)).2.2)) ((gt y25.2.1 i0).2.1)).1, (gt (o1.set ((gt y25.2.1 i0).1).toNat ((gt o1 ((gt y25.2.1 i0).1)).1, ((gt o1 ((gt y25.2.1 i0).1)).2.1 ++ [((gt y25.2.1 i0).2.1, (gt y25.2.1 i0).2.2, (-1))]), (gt o1 ((gt y25.2.1 i0).1)).2.2)) ((gt y25.2.1 i0).2.1)).2.1, ((gt (o1.set ((gt y25.2.1 i0).1).toNat ((gt o1 ((gt y25.2.1 i0).1)).1, ((gt o1 ((gt y25.2.1 i0).1)).2.1 ++ [((gt y25.2.1 i0).2.1, (gt y25.2.1 i0).2.2, (-1))]), (gt o1 ((gt y25.2.1 i0).1)).2.2)) ((gt y25.2.1 i0).2.1)).2.2 ++ [((gt y25.2.1 i0).1, (gt y25.2.1 i0).2.2, (-1))]))), f246, hn111, ha_, (FrS.step e79.wf (FrS.step e79.wf ((FrS.step e79.wf (FrS.step e79.wf ((FrS.step e79.wf ((FrS.step e79.wf (FrS.refl (W := f66) e79.wf) e101 Inn.refl').extR e125) e131 (hb126.fresh e101.n)).extR e152) e175 (Inn.trans (Inn.trans Inn.refl' (Nat.le_refl _) i105) (t_ (t_ (t_ e101.n e125.n) e131.n) e152.n) w169)) e189 (Inn.trans (Inn.trans Inn.refl' (Nat.le_refl _) i105) (t_ (t_ (t_ e101.n e125.n) e131.n) e152.n) w168)).extR e211) e234 (Inn.trans (Inn.trans (Inn.trans Inn.refl' (Nat.le_refl _) i105) (t_ (t_ (t_ e101.n e125.n) e131.n) e152.n) w192) (t_ (t_ (t_ (t_ (t_ (t_ e101.n e125.n) e131.n) e152.n) e175.n) e189.n) e211.n) w228)) e248 (Inn.trans (Inn.trans (Inn.trans Inn.refl' (Nat.le_refl _) i105) (t_ (t_ (t_ e101.n e125.n) e131.n) e152.n) w192) (t_ (t_ (t_ (t_ (t_ (t_ e101.n e125.n) e131.n) e152.n) e175.n) e189.n) e211.n) w227)), hm249, (Inn.trans (Inn.trans (Inn.trans Inn.refl' (Nat.le_refl _) i105) (t_ (t_ (t_ e101.n e125.n) e131.n) e152.n) w192) (t_ (t_ (t_ (t_ (t_ (t_ e101.n e125.n) e131.n) e152.n) e175.n) e189.n) e211.n) w251)⟩
   have r254 := ite_f h116 hz110
   refine w_exit (th_exit (th_exit (bl_eq ?_)))
   obtain rfl := oi_ r254
   obtain rfl := it_inr hn111
   exact k96 _ _ ⟨f104, ha_, (FrS.step e79.wf (FrS.refl (W := f66) e79.wf) e101 Inn.refl'), m103, (Inn.trans Inn.refl' (Nat.le_refl _) i105)⟩
  obtain ⟨f94, hh97, e91, m93, i95⟩ := hM
  obtain ⟨β, rfl⟩ := has_ex hh97
  clear hh97
  refine k83 _ _ (w_seqk fun _ k255 => g_' (q_ (pt_ b77 0) (q_ (pt_ b77 0) (q_ (.nilIface) (s_nil (k255 _ _ ?_))))))
  refine w_ret ?_
  refine b_ret (fn := Try.f22) (vs := [pt_ b77 0, .nilIface]) (rt_ (aRes_tmp (by kernel_rfl) (rfl))) ?_
  have u256 := (r81.frS e91 (Dj.symm (hb80.djn hm70.lt)))
  obtain rfl := oi_ r89
  exact (elimP_r ⟨(.slice a71 n72 c73), f94, b77, rfl, (FrS.step wf (((FrS.step wf ((FrS.step wf ((f0_ wf).extR e19) e33 Inn.nil).extR e46) e52 (hb47.fresh (t_ e19.n e33.n))).extR e68).extR e79) e91 (hf69.fresh (t_ (t_ (t_ e19.n e33.n) e46.n) e52.n))), m93, u256, (Inn.trans (hf69.fresh (t_ (t_ (t_ e19.n e33.n) e46.n) e52.n)) (t_ (t_ (t_ (t_ (t_ e19.n e33.n) e46.n) e52.n) e68.n) e79.n) i95), (hb80.fresh (t_ (t_ (t_ (t_ e19.n e33.n) e46.n) e52.n) e68.n)), (i95.dj (Dj.symm (hb80.djn hm70.lt)) r81.ltF)⟩)
 have r257 := ite_f h57 r27
 refine l_' (.bool true) (aBin Try.prog .neq 38 (.tmp 14) (.const .nilIface) (.iface t58 x59) .nilIface) (aBin_nnil (by kernel_rfl)) ?_
 refine s_nil (k56 _ _ ?_)
 refine w_cond true (by kernel_rfl) rfl (fun _ => ?_) (fun h => by cases h)
 refine w_seqk fun _ k258 => g_' (q_ (.iface t58 x59) (q_ (.pointer none) (q_ (.iface t58 x59) (s_nil (k258 _ _ ?_)))))
 refine w_ret (th_ret ?_)
 refine b_ret (fn := Try.f22) (vs := [.pointer none, .iface t58 x59]) (rt_ (aRes_tmp (by kernel_rfl) (rfl))) ?_
 obtain rfl := oi_ r257
 exact (elimP_l ⟨(.iface t58 x59), f31, rfl, (FrS.step wf ((FrS.step wf ((f0_ wf).extR e19) e33 Inn.nil).extR e46) e52 (hb47.fresh (t_ e19.n e33.n))), u60, (i37.fresh e19.n)⟩)
theorem c_viaductref04_less {H : AH} {From : Int} {To : Int} {Weight : Int} {From_ : Int} {To_ : Int} {Weight_ : Int} {r : Bool}
    (wf : WF H) (hr : z_viaductref04_less From To Weight From_ To_ Weight_ = some r) :
    ACalls Try.prog 93 #[.agg #[i_ From, i_ To, i_ Weight], .agg #[i_ From_, i_ To_, i_ Weight_]] H fun v H' => v = .bool r ∧ FrS [] H H' := by
 refine acalls_of_body mixed Try.func93 rfl (Nat.le_of_ble_eq_true rfl) ?_
 unfold z_viaductref04_less at hr
 refine w_seqk fun _ k1 => g_' ?_
 refine s_rwl wf [i_ From, i_ To, i_ Weight] (one_cons (rfl) (one_cons (rfl) (one_cons (rfl) (one_nil)))) (by kernel_rfl) fun b2 H3 e4 hb5 r6 => ?_
 refine s_rwl e4.wf [i_ From_, i_ To_, i_ Weight_] (one_cons (rfl) (one_cons (rfl) (one_cons (rfl) (one_nil)))) (by kernel_rfl) fun b8 H9 e10 hb11 r12 => ?_
 refine q_ (.bool false) (s_nil (k1 _ _ (w_seqk fun _ k14 => g_' (q_ (pt_ b2 0) ?_))))
 have u15 := (r6.ext e10)
 refine l_' (i_ From) (aL_ 3 (pt_ b2 0) H9) (u15.l_) ?_
 refine q_ (pt_ b8 0) ?_
 refine l_' (i_ From_) (aL_ 3 (pt_ b8 0) H9) (r12.l_) ?_
 refine s_b (From < From_) (by kernel_rfl) (fun h16 => ?_) (fun h16 => ?_)
 ·have r17 := ite_t h16 hr
  refine q_ (.bool true) (n_' (n_' (n_' (n_' (n_' (n_' (n_' (n_' (n_' (n_' (n_' (n_' (q_ (.bool true) (q_ (.bool true) (s_nil (k14 _ _ ?_))))))))))))))))
  refine w_ret ?_
  refine b_ret (fn := Try.f93) (vs := [.bool true]) (rt_ (rfl)) ?_
  obtain rfl := oi_ r17
  exact ⟨rfl, (((f0_ wf).extR e4).extR e10)⟩
 have r18 := ite_f h16 hr
 refine q_ (.bool false) (q_ (pt_ b2 0) ?_)
 refine l_' (i_ From) (aL_ 3 (pt_ b2 0) H9) (u15.l_) ?_
 refine q_ (pt_ b8 0) ?_
 refine l_' (i_ From_) (aL_ 3 (pt_ b8 0) H9) (r12.l_) ?_
 refine s_b (From = From_) (by kernel_rfl) (fun h19 => ?_) (fun h19 => ?_)
 ·have r20 := ite_t h19 r18
  refine q_ (.bool true) (q_ (pt_ b2 1) ?_)
  refine l_' (i_ To) (aL_ 3 (pt_ b2 1) H9) (u15.l_) ?_
  refine q_ (pt_ b8 1) ?_
  refine l_' (i_ To_) (aL_ 3 (pt_ b8 1) H9) (r12.l_) ?_
  refine q_ (.bool (decide (To < To_))) (q_ (.bool (decide (To < To_))) (q_ (.bool (decide (To < To_))) (q_ (.bool (decide (To < To_))) (s_nil (k14 _ _ ?_)))))
  refine w_ret ?_
  refine b_ret (fn := Try.f93) (vs := [.bool (decide (To < To_))]) (rt_ (rfl)) ?_
  obtain rfl := oi_ r20
  exact ⟨rfl, (((f0_ wf).extR e4).extR e10)⟩
 have r21 := ite_f h19 r18
 refine q_ (.bool false) (n_' (n_' (n_' (n_' (n_' (q_ (.bool false) (q_ (.bool false) (q_ (.bool false) (s_nil (k14 _ _ ?_))))))))))
 refine w_ret ?_
 refine b_ret (fn := Try.f93) (vs := [.bool false]) (rt_ (rfl)) ?_
 obtain rfl := oi_ r21
 exact ⟨rfl, (((f0_ wf).extR e4).extR e10)⟩
theorem c_viaductref04_Put {H : AH} {hd_l : Value} {fp_l : Fp} {l : List (Int × Int × Int)} {From : Int} {To : Int} {Weight : Int} {r : List (Int × Int × Int)}
    (wf : WF H) (h_l : Sq enc_i64_i64_i64 3 H hd_l l fp_l) (hr : z_viaductref04_Put l From To Weight = some r) :
    ACalls Try.prog 74 #[hd_l, .agg #[i_ From, i_ To, i_ Weight]] H fun v H' => ∃ (s3 : Value) (f4 : Fp), v = s3 ∧ FrS [] H H' ∧ Ow enc_i64_i64_i64 3 H' s3 r f4 ∧ Inn [] H f4 := by
 refine acalls_of_body mixed Try.func74 rfl (Nat.le_of_ble_eq_true rfl) ?_
 unfold z_viaductref04_Put at hr
 refine w_seqk fun _ k6 => g_' ?_
 refine s_rwl wf [i_ From, i_ To, i_ Weight] (one_cons (rfl) (one_cons (rfl) (one_cons (rfl) (one_nil)))) (by kernel_rfl) fun b7 H8 e9 hb10 r11 => ?_
 refine q_ (.slice none 0 0) (s_nil (k6 _ _ (w_seqk fun _ k13 => g_' (q_ (i_ 0) (s_nil (k13 _ _ (w_seqk fun _ k14 => ?_)))))))
 obtain ⟨o15, hx16, r17⟩ := bind_some hr
 refine w_mid (fun α H18 => Has α [(0, hd_l), (3, pt_ b7 0), (5, i_ o15)] ∧ FrS [] H8 H18) (fun _ k20 => ?_) (fun α H18 hM => ?_)
 ·refine w_block ?_
  obtain ⟨n22, hn23⟩ := loopO_iff.1 hx16
  refine w_loopn (fun n α H24 => ∃ (i0 : Int), iterO (fun zz_ => z_viaductref04_Put_l0 l From To Weight zz_) n i0 = some o15 ∧ Has α [(0, hd_l), (3, pt_ b7 0), (5, i_ i0)] ∧ FrS [] H8 H24) n22 ⟨0, hn23, ha_, (FrS.refl (W := []) e9.wf)⟩ ?_
  rintro n22 α H24 ⟨i0, hi27, hh26, e25⟩ K32 k32
  obtain ⟨n28, z29, rfl, hz30, hn31⟩ := iter_succ hi27
  obtain ⟨β, rfl⟩ := has_ex hh26
  clear hh26
  replace hz30 : z_viaductref04_Put_l0 l From To Weight i0 = some z29 := hz30
  unfold z_viaductref04_Put_l0 at hz30
  refine w_seqk fun _ k33 => w_seqk fun _ k34 => ?_
  refine w_draw [0, 1, 2, 3, 4, 5, 6, 7, 8, 9, 10, 11] (by kernel_rfl) ?_
  refine e_' (i_ i0) (e_' (hd_l) ?_)
  have u35 := ((h_l.ext e9).fr e25 Dj.nil_l)
  refine m_' (i_ (l.length : Int)) (aLen Try.prog 22 hd_l H24) (u35.lenb (by kernel_rfl)) ?_
  refine d_b (i0 < (l.length : Int)) (by kernel_rfl) (fun h36 => ?_) (fun h36 => ?_)
  ·have r37 := ite_t h36 hz30
   refine e_' (.bool true) (e_' (hd_l) (e_' (i_ i0) ?_))
   obtain ⟨g38, r39⟩ := G_some r37
   refine m_' (elp hd_l 3 i0.toNat 0) (aIndexAddr Try.prog 22 hd_l (i_ i0)) (u35.idxb (by kernel_rfl) g38 h36) ?_
   refine m_' (.agg #[i_ ((gt l i0).1), i_ ((gt l i0).2.1), i_ ((gt l i0).2.2)]) (aL_ 118 (elp hd_l 3 i0.toNat 0) H24) (u35.ld g38 h36 (by kernel_rfl)) ?_
   have u40 := (r11.frS e25 Dj.nil_l)
   refine m_' (.agg #[i_ From, i_ To, i_ Weight]) (aL_ 118 (pt_ b7 0) H24) (u40.l_) ?_
   obtain ⟨y41, hy42, r43⟩ := bind_some r39
   refine d_ck 93 #[.agg #[i_ ((gt l i0).1), i_ ((gt l i0).2.1), i_ ((gt l i0).2.2)], .agg #[i_ From, i_ To, i_ Weight]] (by kernel_rfl) (c_viaductref04_less e25.wf hy42) ?_
   rintro _ H44 ⟨rfl, e45⟩
   refine ⟨st_nil, ?_⟩
   refine e_' (.bool y41) ?_
   refine d_nil ?_
   refine k34 _ _ ?_
   refine w_cond (y41) (by kernel_rfl) rfl (fun h46 => ?_) (fun h46 => ?_)
   ·have r47 := ite_t h46 r43
    refine w_skip (k33 _ _ (w_block (g_' (q_ (i_ i0) ?_))))
    obtain ⟨g48, r49⟩ := G_some r47
    refine w_' (i0 + 1) (wrap64 (by have := g48; omega)) ?_
    refine q_ (i_ (i0 + 1)) (s_nil ?_)
    obtain rfl := oi_ r49
    exact k32 n28 _ _ (Nat.lt_succ_self _) ⟨(i0 + 1), hn31, ha_, (FrS.step e9.wf (FrS.step e9.wf (FrS.refl (W := []) e9.wf) e25 Inn.nil) e45 Inn.nil)⟩
   have r50 := ite_bf h46 r43
   refine w_exit (th_exit (th_exit (bl_eq ?_)))
   obtain rfl := oi_ r50
   obtain rfl := it_inr hn31
   exact k20 _ _ ⟨ha_, (FrS.step e9.wf (FrS.step e9.wf (FrS.refl (W := []) e9.wf) e25 Inn.nil) e45 Inn.nil)⟩
  have r51 := ite_f h36 hz30
  refine e_' (.bool false) (j_' (j_' (j_' (j_' (j_' (j_' (e_' (.bool false) ?_)))))))
  refine d_nil ?_
  refine k34 _ _ ?_
  refine w_cond false (by kernel_rfl) rfl (fun h => by cases h) (fun _ => ?_)
  refine w_exit (th_exit (th_exit (bl_eq ?_)))
  obtain rfl := oi_ r51
  obtain rfl := it_inr hn31
  exact k20 _ _ ⟨ha_, (FrS.step e9.wf (FrS.refl (W := []) e9.wf) e25 Inn.nil)⟩
 obtain ⟨hh21, e19⟩ := hM
 obtain ⟨β, rfl⟩ := has_ex hh21
 clear hh21
 refine k14 _ _ (w_seqk fun _ k52 => g_' (q_ (.slice none 0 0) (s_nil (k52 _ _ (w_seqk fun _ k53 => g_' (q_ (.slice none 0 0) (q_ (hd_l) (q_ (i_ o15) ?_))))))))
 obtain ⟨g54, r55⟩ := G_some r17
 have u59 := ((h_l.ext e9).fr e19 Dj.nil_l)
 obtain ⟨s56, q57, hs58⟩ := Sq.cut (P := Try.prog) u59 (t := 22) (by kernel_rfl) (lo := none) (hi := (some (i_ o15))) (l := 0) (r := o15.toNat) (rfl) (aBound_int _ (by have := g54; omega)) (by have := g54; omega) (by have := g54; omega)
 obtain ⟨a60, n61, c62, rfl⟩ := hs58.form
 refine s_ql (.slice a60 n61 c62) (by kernel_rfl) q57 ?_
 obtain ⟨g64, r65⟩ := G_some r55
 obtain ⟨s66, H67, f68, q72, e69, hm70, hf71⟩ := Ow.append (P := Try.prog) 24 e19.wf (Ow.nil (enc := enc_i64_i64_i64) (sz := 3) (by decide)) hs58 (fun _ _ => rfl) (at_ := #[22, 22]) rfl rfl (by kernel_rfl) (by kernel_rfl) (by decide) (by have := g64; first | omega | (simp only [List.length_cons, List.length_nil] at this ⊢; omega) | (simp at this ⊢; omega))
 obtain ⟨a73, n74, c75, rfl⟩ := hm70.form
 refine s_ek (.slice a73 n74 c75) (by kernel_rfl) (q72) ?_
 refine q_ (.slice a73 n74 c75) (s_nil (k53 _ _ (w_seqk fun _ k77 => w_seqk fun _ k78 => ?_)))
 obtain ⟨o79, hx80, r81⟩ := bind_some r65
 refine w_mid (fun α H82 => Has α [(0, hd_l), (3, pt_ b7 0), (5, i_ o15), (6, .slice a73 n74 c75), (49, .bool o79)] ∧ H67 = H82) (fun _ k84 => ?_) (fun α H82 hM => ?_)
 ·refine w_draw [0, 1, 2, 3, 4, 5, 6, 7, 8, 9, 10, 11, 12, 13, 14, 15, 16, 17, 18, 19, 20, 21, 22, 23] (by kernel_rfl) ?_
  refine e_' (i_ o15) (e_' (hd_l) ?_)
  have u86 := (u59.fr e69 Dj.nil_l)
  refine m_' (i_ (l.length : Int)) (aLen Try.prog 22 hd_l H67) (u86.lenb (by kernel_rfl)) ?_
  refine d_b (o15 < (l.length : Int)) (by kernel_rfl) (fun h87 => ?_) (fun h87 => ?_)
  ·have r88 := ite_t h87 hx80
   refine e_' (.bool true) (e_' (hd_l) (e_' (i_ o15) ?_))
   obtain ⟨g89, r90⟩ := G_some r88
   refine m_' (elp hd_l 3 o15.toNat 0) (aIndexAddr Try.prog 22 hd_l (i_ o15)) (u86.idxb (by kernel_rfl) g89 h87) ?_
   refine m_' (elp hd_l 3 o15.toNat 0) (aFieldAddr Try.prog 118 (elp hd_l 3 o15.toNat 0) 0) (Sq.fldq (d := 0) u86 g89 h87 (by kernel_rfl)) ?_
   refine m_' (i_ ((gt l o15).1)) (aL_ 3 (elp hd_l 3 o15.toNat 0) H67) (u86.ld g89 h87 (by kernel_rfl)) ?_
   refine e_' (pt_ b7 0) ?_
   have u91 := ((r11.frS e19 Dj.nil_l).frS e69 Dj.nil_l)
   refine m_' (i_ From) (aL_ 3 (pt_ b7 0) H67) (u91.l_) ?_
   refine d_b (((gt l o15).1) = From) (by kernel_rfl) (fun h92 => ?_) (fun h92 => ?_)
   ·have r93 := ite_t h92 r90
    refine e_' (.bool true) (e_' (.bool true) (e_' (hd_l) (e_' (i_ o15) ?_)))
    refine m_' (elp hd_l 3 o15.toNat 0) (aIndexAddr Try.prog 22 hd_l (i_ o15)) (u86.idxb (by kernel_rfl) g89 h87) ?_
    refine m_' (elp hd_l 3 o15.toNat 1) (aFieldAddr Try.prog 118 (elp hd_l 3 o15.toNat 0) 1) (Sq.fldq (d := 1) u86 g89 h87 (by kernel_rfl)) ?_
    refine m_' (i_ ((gt l o15).2.1)) (aL_ 3 (elp hd_l 3 o15.toNat 1) H67) (u86.ld g89 h87 (by kernel_rfl)) ?_
    refine e_' (pt_ b7 1) ?_
    refine m_' (i_ To) (aL_ 3 (pt_ b7 1) H67) (u91.l_) ?_
    refine e_' (.bool (decide (((gt l o15).2.1) = To))) (e_' (.bool (decide (((gt l o15).2.1) = To))) ?_)
    refine d_nil ?_
    obtain rfl := oi_ r93
    exact k84 _ _ ⟨ha_, rfl⟩
   have r94 := ite_f h92 r90
   refine e_' (.bool false) (e_' (.bool false) (j_' (j_' (j_' (j_' (j_' (j_' (j_' (j_' (e_' (.bool false) ?_))))))))))
   refine d_nil ?_
   obtain rfl := oi_ r94
   exact k84 _ _ ⟨ha_, rfl⟩
  have r95 := ite_f h87 hx80
  refine e_' (.bool false) (j_' (j_' (j_' (j_' (j_' (j_' (j_' (j_' (e_' (.bool false) (e_' (.bool false) (j_' (j_' (j_' (j_' (j_' (j_' (j_' (j_' (e_' (.bool false) ?_)))))))))))))))))))
  refine d_nil ?_
  obtain rfl := oi_ r95
  exact k84 _ _ ⟨ha_, rfl⟩
 obtain ⟨hh85, rfl⟩ := hM
 obtain ⟨β, rfl⟩ := has_ex hh85
 clear hh85
 refine k78 _ _ ?_
 refine w_cond (o79) (by kernel_rfl) rfl (fun h96 => ?_) (fun h96 => ?_)
 ·have r97 := ite_t h96 r81
  refine w_seqk fun _ k98 => ?_
  refine w_draw [0, 1, 2, 3, 4, 5, 6, 7, 8, 9] (by kernel_rfl) ?_
  refine e_' (pt_ b7 2) ?_
  have u99 := ((r11.frS e19 Dj.nil_l).frS e69 Dj.nil_l)
  refine m_' (i_ Weight) (aL_ 3 (pt_ b7 2) H67) (u99.l_) ?_
  refine e_' (hd_l) (e_' (i_ o15) ?_)
  obtain ⟨g100, r101⟩ := G_some r97
  have u102 := (u59.fr e69 Dj.nil_l)
  refine m_' (elp hd_l 3 o15.toNat 0) (aIndexAddr Try.prog 22 hd_l (i_ o15)) (u102.idxb (by kernel_rfl) g100.1 g100.2) ?_
  refine m_' (elp hd_l 3 o15.toNat 2) (aFieldAddr Try.prog 118 (elp hd_l 3 o15.toNat 0) 2) (Sq.fldq (d := 2) u102 g100.1 g100.2 (by kernel_rfl)) ?_
  refine m_' (i_ ((gt l o15).2.2)) (aL_ 3 (elp hd_l 3 o15.toNat 2) H67) (u102.ld g100.1 g100.2 (by kernel_rfl)) ?_
  refine m_' (i_ (min Weight ((gt l o15).2.2))) (aMin Try.prog [i_ Weight, i_ ((gt l o15).2.2)]) (aMin_two _ _) ?_
  refine e_' (pt_ b7 2) ?_
  obtain ⟨H103, q104, e105, r106⟩ := Row.store (P := Try.prog) (t := 3) (p := 2) e69.wf u99 (i_ (min Weight ((gt l o15).2.2))) [i_ (min Weight ((gt l o15).2.2))] (by kernel_rfl) (by kernel_rfl) (one_cons (rfl) (one_nil)) (Nat.le_of_ble_eq_true (by kernel_rfl)) [i_ From, i_ To, i_ (min Weight ((gt l o15).2.2))] (by kernel_rfl)
  refine d_ek (undef) (by kernel_rfl) (map_ok q104) (st_nil) ?_
  refine d_nil ?_
  refine k98 _ _ (w_seqk fun _ k107 => g_' (q_ (.slice a73 n74 c75) ?_))
  refine l_' (.agg #[i_ From, i_ To, i_ (min Weight ((gt l o15).2.2))]) (aL_ 118 (pt_ b7 0) H103) (r106.l_) ?_
  refine s_owk (enc := enc_i64_i64_i64) (sz := 3) e105.wf [(From, To, (min Weight ((gt l o15).2.2)))] 1 (by decide) (fun _ _ => rfl) (fun _ _ => rfl) rfl (by kernel_rfl) fun s108 f109 H110 e111 hf112 hm113 => ?_
  obtain ⟨a114, n115, c116, rfl⟩ := hm113.form
  have u118 := ((hm70.fr e105 (Dj.symm (hf71.djn (r11.ltF.le e19.n)))).ext e111)
  obtain ⟨g119, r120⟩ := G_some r101
  obtain ⟨s121, H122, f123, q127, e124, hm125, hf126⟩ := Ow.append (P := Try.prog) 24 e111.wf u118 hm113.sq (fun _ _ => rfl) (at_ := #[22, 22]) rfl rfl (by kernel_rfl) (by kernel_rfl) (by decide) (by have := g119; first | omega | (simp only [List.length_cons, List.length_nil] at this ⊢; omega) | (simp at this ⊢; omega))
  obtain ⟨a128, n129, c130, rfl⟩ := hm125.form
  refine s_ek (.slice a128 n129 c130) (by kernel_rfl) (q127) ?_
  refine q_ (.slice a128 n129 c130) (s_nil (k107 _ _ (w_seqk fun _ k132 => g_' (q_ (.slice a128 n129 c130) (q_ (hd_l) (q_ (i_ o15) ?_))))))
  obtain ⟨g133, r134⟩ := G_some r120
  refine w_' (o15 + 1) (wrap64 (by have := g133; omega)) ?_
  obtain ⟨g135, r136⟩ := G_some r134
  have u140 := (((u102.fr e105 (hb10.djn h_l.lt)).ext e111).fr e124 (hf71.djn (h_l.lt.le (t_ e9.n e19.n))))
  obtain ⟨s137, q138, hs139⟩ := Sq.cut (P := Try.prog) u140 (t := 22) (by kernel_rfl) (lo := (some (i_ (o15 + 1)))) (hi := none) (l := (o15 + 1).toNat) (r := l.length) (aBound_int _ (by have := g135; omega)) (rfl) (by have := g135; omega) (by have := g135; omega)
  obtain ⟨a141, n142, c143, rfl⟩ := hs139.form
  refine s_ql (.slice a141 n142 c143) (by kernel_rfl) q138 ?_
  obtain ⟨g145, r146⟩ := G_some r136
  obtain ⟨s147, H148, f149, q153, e150, hm151, hf152⟩ := Ow.append (P := Try.prog) 24 e124.wf hm125 hs139 (fun _ _ => rfl) (at_ := #[22, 22]) rfl rfl (by kernel_rfl) (by kernel_rfl) (by decide) (by have := g145; first | omega | (simp only [List.length_cons, List.length_nil] at this ⊢; omega) | (simp at this ⊢; omega))
  obtain ⟨a154, n155, c156, rfl⟩ := hm151.form
  refine s_ek (.slice a154 n155 c156) (by kernel_rfl) (q153) ?_
  refine q_ (.slice a154 n155 c156) (s_nil (k132 _ _ ?_))
  refine w_ret (th_ret ?_)
  refine b_ret (fn := Try.f74) (vs := [.slice a154 n155 c156]) (rt_ (rfl)) ?_
  obtain rfl := oi_ r146
  exact ⟨(.slice a154 n155 c156), f149, rfl, (FrS.step wf (FrS.step wf ((FrS.step wf (FrS.step wf (FrS.step wf ((f0_ wf).extR e9) e19 Inn.nil) e69 Inn.nil) e105 (hb10.fresh (Nat.le_refl _))).extR e111) e124 (hf71.fresh (t_ e9.n e19.n))) e150 (Inn.trans (hf71.fresh (t_ e9.n e19.n)) (t_ (t_ (t_ (t_ e9.n e19.n) e69.n) e105.n) e111.n) hf126)), hm151, (Inn.trans (Inn.trans (hf71.fresh (t_ e9.n e19.n)) (t_ (t_ (t_ (t_ e9.n e19.n) e69.n) e105.n) e111.n) hf126) (t_ (t_ (t_ (t_ (t_ e9.n e19.n) e69.n) e105.n) e111.n) e124.n) hf152)⟩
 have r158 := ite_bf h96 r81
 refine w_skip (k77 _ _ (w_seqk fun _ k159 => g_' (q_ (.slice a73 n74 c75) ?_)))
 have u160 := ((r11.frS e19 Dj.nil_l).frS e69 Dj.nil_l)
 refine l_' (.agg #[i_ From, i_ To, i_ Weight]) (aL_ 118 (pt_ b7 0) H67) (u160.l_) ?_
 refine s_owk (enc := enc_i64_i64_i64) (sz := 3) e69.wf [(From, To, Weight)] 1 (by decide) (fun _ _ => rfl) (fun _ _ => rfl) rfl (by kernel_rfl) fun s161 f162 H163 e164 hf165 hm166 => ?_
 obtain ⟨a167, n168, c169, rfl⟩ := hm166.form
 have u171 := (hm70.ext e164)
 obtain ⟨g172, r173⟩ := G_some r158
 obtain ⟨s174, H175, f176, q180, e177, hm178, hf179⟩ := Ow.append (P := Try.prog) 24 e164.wf u171 hm166.sq (fun _ _ => rfl) (at_ := #[22, 22]) rfl rfl (by kernel_rfl) (by kernel_rfl) (by decide) (by have := g172; first | omega | (simp only [List.length_cons, List.length_nil] at this ⊢; omega) | (simp at this ⊢; omega))
 obtain ⟨a181, n182, c183, rfl⟩ := hm178.form
 refine s_ek (.slice a181 n182 c183) (by kernel_rfl) (q180) ?_
 refine q_ (.slice a181 n182 c183) (s_nil (k159 _ _ (w_seqk fun _ k185 => g_' (q_ (.slice a181 n182 c183) (q_ (hd_l) (q_ (i_ o15) ?_))))))
 have u189 := (((u59.fr e69 Dj.nil_l).ext e164).fr e177 (hf71.djn (h_l.lt.le (t_ e9.n e19.n))))
 obtain ⟨s186, q187, hs188⟩ := Sq.cut (P := Try.prog) u189 (t := 22) (by kernel_rfl) (lo := (some (i_ o15))) (hi := none) (l := o15.toNat) (r := l.length) (aBound_int _ (by have := g54; omega)) (rfl) (by have := g54; omega) (by have := g54; omega)
 obtain ⟨a190, n191, c192, rfl⟩ := hs188.form
 refine s_ql (.slice a190 n191 c192) (by kernel_rfl) q187 ?_
 obtain ⟨g194, r195⟩ := G_some r173
 obtain ⟨s196, H197, f198, q202, e199, hm200, hf201⟩ := Ow.append (P := Try.prog) 24 e177.wf hm178 hs188 (fun _ _ => rfl) (at_ := #[22, 22]) rfl rfl (by kernel_rfl) (by kernel_rfl) (by decide) (by have := g194; first | omega | (simp only [List.length_cons, List.length_nil] at this ⊢; omega) | (simp at this ⊢; omega))
 obtain ⟨a203, n204, c205, rfl⟩ := hm200.form
 refine s_ek (.slice a203 n204 c205) (by kernel_rfl) (q202) ?_
 refine q_ (.slice a203 n204 c205) (s_nil (k185 _ _ ?_))
 refine w_ret ?_
 refine b_ret (fn := Try.f74) (vs := [.slice a203 n204 c205]) (rt_ (rfl)) ?_
 obtain rfl := oi_ r195
 exact ⟨(.slice a203 n204 c205), f198, rfl, (FrS.step wf (FrS.step wf ((FrS.step wf (FrS.step wf ((f0_ wf).extR e9) e19 Inn.nil) e69 Inn.nil).extR e164) e177 (hf71.fresh (t_ e9.n e19.n))) e199 (Inn.trans (hf71.fresh (t_ e9.n e19.n)) (t_ (t_ (t_ e9.n e19.n) e69.n) e164.n) hf179)), hm200, (Inn.trans (Inn.trans (hf71.fresh (t_ e9.n e19.n)) (t_ (t_ (t_ e9.n e19.n) e69.n) e164.n) hf179) (t_ (t_ (t_ (t_ e9.n e19.n) e69.n) e164.n) e177.n) hf201)⟩
end Go.Vd

/-! (KWg2) -/

set_option maxRecDepth 100000
set_option maxHeartbeats 4000000
set_option linter.unusedVariables false
namespace Go.Vd
open Go.Proofs
attribute [local irreducible] wpSeq wpOrd aWp
theorem c_viaductref04_Of {H : AH} {hd_Arcs : Value} {fp_Arcs : Fp} {N_ : Int} {Arcs : List (Int × Int × Int)} {r : Int × List (Int × Int × Int)}
    (wf : WF H) (h_Arcs : Sq enc_i64_i64_i64 3 H hd_Arcs Arcs fp_Arcs) (hr : z_viaductref04_Of N_ Arcs = some r) :
    ACalls Try.prog 63 #[.agg #[i_ N_, hd_Arcs]] H fun v H' => ∃ (s3 : Value) (f4 : Fp), v = .agg #[i_ r.1, s3] ∧ FrS [] H H' ∧ Ow enc_i64_i64_i64 3 H' s3 r.2 f4 ∧ Inn [] H f4 := by
 refine acalls_of_body mixed Try.func63 rfl (Nat.le_of_ble_eq_true rfl) ?_
 unfold z_viaductref04_Of at hr
 refine w_seqk fun _ k6 => g_' ?_
 refine s_rwl wf [i_ N_, hd_Arcs] (one_cons (rfl) (one_cons (h_Arcs.one1) (one_nil))) (by kernel_rfl) fun b7 H8 e9 hb10 r11 => ?_
 refine s_rwk e9.wf [i_ 0, .slice none 0 0] (by kernel_rfl) fun b13 H14 e15 hb16 r17 => ?_
 refine s_nil (k6 _ _ (w_seqk fun _ k19 => g_' (q_ (pt_ b7 0) ?_)))
 have u20 := (r11.ext e15)
 refine l_' (i_ N_) (aL_ 3 (pt_ b7 0) H14) (u20.l_) ?_
 refine q_ (.agg #[i_ N_, .slice none 0 0]) ?_
 refine s_rwk e15.wf [i_ 0, .slice none 0 0] (by kernel_rfl) fun b21 H22 e23 hb24 r25 => ?_
 obtain ⟨H27, q28, e29, r30⟩ := Row.store (P := Try.prog) (t := 24) (p := 0) e23.wf r25 (.agg #[i_ N_, .slice none 0 0]) [i_ N_, .slice none 0 0] (by kernel_rfl) (by kernel_rfl) (one_cons (rfl) (one_cons (rfl) (one_nil))) (Nat.le_of_ble_eq_true (by kernel_rfl)) [i_ N_, .slice none 0 0] (by kernel_rfl)
 refine s_ek (undef) (by kernel_rfl) (map_ok q28) ?_
 refine s_nil (k19 _ _ (w_seqk fun _ k31 => w_seqk fun _ k32 => g_' (q_ (pt_ b7 1) ?_)))
 have u33 := ((u20.ext e23).frS e29 (hb24.djn (r11.ltF.le e15.n)))
 refine l_' (hd_Arcs) (aL_ 22 (pt_ b7 1) H27) (u33.l_) ?_
 have u34 := ((((h_Arcs.ext e9).ext e15).ext e23).fr e29 (hb24.djn (h_Arcs.lt.le (t_ e9.n e15.n))))
 refine l_' (i_ (Arcs.length : Int)) (aLen Try.prog 22 hd_Arcs H27) (u34.lenb (by kernel_rfl)) ?_
 refine q_ (i_ 0) (s_nil (k32 _ _ ?_))
 obtain ⟨o35, hx36, r37⟩ := bind_some hr
 refine w_mid (fun α H38 => ∃ (s42 : Value) (f43 : Fp), Has α [(2, pt_ b13 0), (3, pt_ b21 0)] ∧ FrS [b21] H27 H38 ∧ Ow enc_i64_i64_i64 3 H38 s42 o35 f43 ∧ Row H38 b21 [i_ N_, s42] ∧ Inn [] H27 f43) (fun _ k47 => ?_) (fun α H38 hM => ?_)
 ·refine w_block ?_
  obtain ⟨n49, hn50⟩ := loopO_iff.1 hx36
  refine w_loopn (fun n α H51 => ∃ (i0 : Int), ∃ (c1 : List (Int × Int × Int)), ∃ (s55 : Value), ∃ (f56 : Fp), iterO (fun zz_ => z_viaductref04_Of_l0 Arcs zz_.1 zz_.2) n (i0, c1) = some o35 ∧ Has α [(2, pt_ b13 0), (3, pt_ b21 0), (10, hd_Arcs), (11, i_ (Arcs.length : Int)), (12, i_ i0)] ∧ FrS [b21] H27 H51 ∧ Ow enc_i64_i64_i64 3 H51 s55 c1 f56 ∧ Row H51 b21 [i_ N_, s55] ∧ Inn [] H27 f56) n49 ⟨0, [], (.slice none 0 0), [], hn50, ha_, (FrS.refl (W := [b21]) e29.wf), (Ow.nil (by decide)), r30, Inn.nil⟩ ?_
  rintro n49 α H51 ⟨i0, c1, s55, f56, hi61, hh60, e52, m54, m58, i59⟩ K66 k66
  obtain ⟨n62, z63, rfl, hz64, hn65⟩ := iter_succ hi61
  obtain ⟨β, rfl⟩ := has_ex hh60
  clear hh60
  replace hz64 : z_viaductref04_Of_l0 Arcs i0 c1 = some z63 := hz64
  unfold z_viaductref04_Of_l0 at hz64
  obtain ⟨a67, n68, c69, rfl⟩ := m54.form
  refine w_seqk fun _ k70 => g_' (q_ (.bool (decide (i0 < (Arcs.length : Int)))) (s_nil (k70 _ _ (w_seqk fun _ k71 => ?_))))
  refine w_condp (i0 < (Arcs.length : Int)) (by kernel_rfl) rfl (fun h72 => ?_) (fun h72 => ?_)
  ·have r73 := ite_t h72 hz64
   refine w_skip (k71 _ _ (w_seqk fun _ k74 => w_block (w_seqk fun _ k75 => g_' ?_)))
   obtain ⟨g76, r77⟩ := G_some r73
   have u78 := (u34.fr e52 (hb24.djn (h_Arcs.lt.le (t_ e9.n e15.n))))
   refine l_' (elp hd_Arcs 3 i0.toNat 0) (aIndexAddr Try.prog 22 hd_Arcs (i_ i0)) (u78.idxb (by kernel_rfl) g76 h72) ?_
   refine l_' (.agg #[i_ ((gt Arcs i0).1), i_ ((gt Arcs i0).2.1), i_ ((gt Arcs i0).2.2)]) (aL_ 118 (elp hd_Arcs 3 i0.toNat 0) H51) (u78.ld g76 h72 (by kernel_rfl)) ?_
   refine s_rwk e52.wf [i_ 0, i_ 0, i_ 0] (by kernel_rfl) fun b79 H80 e81 hb82 r83 => ?_
   obtain ⟨H85, q86, e87, r88⟩ := Row.store (P := Try.prog) (t := 118) (p := 0) e81.wf r83 (.agg #[i_ ((gt Arcs i0).1), i_ ((gt Arcs i0).2.1), i_ ((gt Arcs i0).2.2)]) [i_ ((gt Arcs i0).1), i_ ((gt Arcs i0).2.1), i_ ((gt Arcs i0).2.2)] (by kernel_rfl) (by kernel_rfl) (one_cons (rfl) (one_cons (rfl) (one_cons (rfl) (one_nil)))) (Nat.le_of_ble_eq_true (by kernel_rfl)) [i_ ((gt Arcs i0).1), i_ ((gt Arcs i0).2.1), i_ ((gt Arcs i0).2.2)] (by kernel_rfl)
   refine s_ek (undef) (by kernel_rfl) (map_ok q86) ?_
   refine s_nil (k75 _ _ (w_seqk fun _ k89 => g_' (q_ (pt_ b79 0) ?_)))
   refine l_' (i_ ((gt Arcs i0).1)) (aL_ 3 (pt_ b79 0) H85) (r88.l_) ?_
   refine q_ (pt_ b79 1) ?_
   refine l_' (i_ ((gt Arcs i0).2.1)) (aL_ 3 (pt_ b79 1) H85) (r88.l_) ?_
   refine q_ (.bool (!decide (((gt Arcs i0).1) = ((gt Arcs i0).2.1)))) (s_nil (k89 _ _ ?_))
   refine w_condn (((gt Arcs i0).1) = ((gt Arcs i0).2.1)) (by kernel_rfl) rfl (fun h90 => ?_) (fun h90 => ?_)
   ·have r91 := ite_f h90 r77
    refine g_' (q_ (pt_ b21 1) ?_)
    have u92 := ((m58.ext e81).frS e87 (hb82.djn (r25.ltF.le (t_ e29.n e52.n))))
    refine l_' (.slice a67 n68 c69) (aL_ 22 (pt_ b21 1) H85) (u92.l_) ?_
    refine l_' (.agg #[i_ ((gt Arcs i0).1), i_ ((gt Arcs i0).2.1), i_ ((gt Arcs i0).2.2)]) (aL_ 118 (pt_ b79 0) H85) (r88.l_) ?_
    have u93 := ((m54.ext e81).fr e87 (hb82.djn m54.lt))
    obtain ⟨y94, hy95, r96⟩ := bind_some r91
    refine s_ck 74 #[.slice a67 n68 c69, .agg #[i_ ((gt Arcs i0).1), i_ ((gt Arcs i0).2.1), i_ ((gt Arcs i0).2.2)]] (by kernel_rfl) (c_viaductref04_Put e87.wf u93.sq hy95) ?_
    rintro s97 H99 ⟨_, f98, rfl, e100, m101, i102⟩
    obtain ⟨a104, n105, c106, rfl⟩ := m101.form
    refine q_ (pt_ b21 1) ?_
    have u111 := (u92.frS e100 Dj.nil_l)
    obtain ⟨H107, q108, e109, r110⟩ := Row.store (P := Try.prog) (t := 22) (p := 1) e100.wf u111 (.slice a104 n105 c106) [.slice a104 n105 c106] (by kernel_rfl) (by kernel_rfl) (one_cons (m101.one1) (one_nil)) (Nat.le_of_ble_eq_true (by kernel_rfl)) [i_ N_, .slice a104 n105 c106] (by kernel_rfl)
    refine s_ek (undef) (by kernel_rfl) (map_ok q108) ?_
    refine s_nil (k74 _ _ (g_' ?_))
    obtain ⟨g112, r113⟩ := G_some r96
    refine w_' (i0 + 1) (wrap64 (by have := g112; omega)) ?_
    refine q_ (i_ (i0 + 1)) (s_nil ?_)
    have u114 := (m101.fr e109 (Dj.symm (i102.djn (r25.ltF.le (t_ (t_ (t_ e29.n e52.n) e81.n) e87.n)))))
    obtain rfl := oi_ r113
    exact k66 n62 _ _ (Nat.lt_succ_self _) ⟨(i0 + 1), y94, (.slice a104 n105 c106), f98, hn65, ha_, (FrS.step e29.wf (FrS.step e29.wf (FrS.step e29.wf ((FrS.step e29.wf (FrS.refl (W := [b21]) e29.wf) e52 Inn.refl').extR e81) e87 (hb82.fresh e52.n)) e100 Inn.nil) e109 Inn.refl'), u114, r110, (i102.fresh (t_ (t_ e52.n e81.n) e87.n))⟩
   have r115 := ite_t h90 r77
   refine w_skip (k74 _ _ (g_' ?_))
   obtain ⟨g116, r117⟩ := G_some r115
   refine w_' (i0 + 1) (wrap64 (by have := g116; omega)) ?_
   refine q_ (i_ (i0 + 1)) (s_nil ?_)
   have u118 := ((m54.ext e81).fr e87 (hb82.djn m54.lt))
   have u119 := ((m58.ext e81).frS e87 (hb82.djn (r25.ltF.le (t_ e29.n e52.n))))
   obtain rfl := oi_ r117
   exact k66 n62 _ _ (Nat.lt_succ_self _) ⟨(i0 + 1), c1, (.slice a67 n68 c69), f56, hn65, ha_, (FrS.step e29.wf ((FrS.step e29.wf (FrS.refl (W := [b21]) e29.wf) e52 Inn.refl').extR e81) e87 (hb82.fresh e52.n)), u118, u119, (i59.fresh (Nat.le_refl _))⟩
  have r120 := ite_f h72 hz64
  refine w_exit (th_exit (th_exit (bl_eq ?_)))
  obtain rfl := oi_ r120
  obtain rfl := it_inr hn65
  exact k47 _ _ ⟨(.slice a67 n68 c69), f56, ha_, (FrS.step e29.wf (FrS.refl (W := [b21]) e29.wf) e52 Inn.refl'), m54, m58, (i59.fresh (Nat.le_refl _))⟩
 obtain ⟨s42, f43, hh48, e39, m41, m45, i46⟩ := hM
 obtain ⟨β, rfl⟩ := has_ex hh48
 clear hh48
 obtain ⟨a121, n122, c123, rfl⟩ := m41.form
 refine k31 _ _ (w_seqk fun _ k124 => g_' ?_)
 refine l_' (.agg #[i_ N_, .slice a121 n122 c123]) (aL_ 24 (pt_ b21 0) H38) (m45.l_) ?_
 have u129 := (((r17.ext e23).frS e29 (hb24.djn r17.ltF)).frS e39 (hb24.djn r17.ltF))
 obtain ⟨H125, q126, e127, r128⟩ := Row.store (P := Try.prog) (t := 24) (p := 0) e39.wf u129 (.agg #[i_ N_, .slice a121 n122 c123]) [i_ N_, .slice a121 n122 c123] (by kernel_rfl) (by kernel_rfl) (one_cons (rfl) (one_cons (m41.one1) (one_nil))) (Nat.le_of_ble_eq_true (by kernel_rfl)) [i_ N_, .slice a121 n122 c123] (by kernel_rfl)
 refine s_ek (undef) (by kernel_rfl) (map_ok q126) ?_
 refine s_nil (k124 _ _ ?_)
 refine w_ret ?_
 refine b_ret (fn := Try.f63) (vs := [.agg #[i_ N_, .slice a121 n122 c123]]) (aRes_cell (Eq.trans (b := aL_ 24 (pt_ b13 0) H125) (by kernel_rfl) (r128.l_)) (rfl)) ?_
 have u130 := (m41.fr e127 (Dj.symm (i46.djn (r17.ltF.le (t_ e23.n e29.n)))))
 obtain rfl := oi_ r37
 exact ⟨(.slice a121 n122 c123), f43, rfl, (FrS.step wf (FrS.step wf (FrS.step wf ((((f0_ wf).extR e9).extR e15).extR e23) e29 (hb24.fresh (t_ e9.n e15.n))) e39 (hb24.fresh (t_ e9.n e15.n))) e127 (hb16.fresh e9.n)), u130, (i46.fresh (t_ (t_ (t_ e9.n e15.n) e23.n) e29.n))⟩
theorem c_viaductref04_DocOf {H : AH} {hd_Arcs : Value} {fp_Arcs : Fp} {N_ : Int} {Arcs : List (Int × Int × Int)} {r : Int × List (Int × Int × Int) × Int × List (Int × Int)}
    (wf : WF H) (h_Arcs : Sq enc_i64_i64_i64 3 H hd_Arcs Arcs fp_Arcs) (hr : z_viaductref04_DocOf N_ Arcs = some r) :
    ACalls Try.prog 47 #[.agg #[i_ N_, hd_Arcs]] H fun v H' => ∃ (s3 : Value) (f4 : Fp) (s7 : Value) (f8 : Fp), v = .tuple #[.agg #[i_ r.1, s3], .agg #[i_ r.2.2.1, s7]] ∧ FrS [] H H' ∧ Ow enc_i64_i64_i64 3 H' s3 r.2.1 f4 ∧ Ow enc_i64_i64 2 H' s7 r.2.2.2 f8 ∧ Inn [] H f4 ∧ Inn [] H f8 ∧ Dj f4 f8 := by
 refine acalls_of_body mixed Try.func47 rfl (Nat.le_of_ble_eq_true rfl) ?_
 unfold z_viaductref04_DocOf at hr
 refine w_seqk fun _ k12 => g_' ?_
 refine s_rwl wf [i_ N_, hd_Arcs] (one_cons (rfl) (one_cons (h_Arcs.one1) (one_nil))) (by kernel_rfl) fun b13 H14 e15 hb16 r17 => ?_
 refine s_rwk e15.wf [i_ 0, .slice none 0 0] (by kernel_rfl) fun b19 H20 e21 hb22 r23 => ?_
 refine s_rwk e21.wf [i_ 0, .slice none 0 0] (by kernel_rfl) fun b25 H26 e27 hb28 r29 => ?_
 refine s_nil (k12 _ _ (w_seqk fun _ k31 => w_seqk fun _ k32 => g_' ?_))
 have u33 := ((r17.ext e21).ext e27)
 refine l_' (.agg #[i_ N_, hd_Arcs]) (aL_ 24 (pt_ b13 0) H26) (u33.l_) ?_
 have u34 := (((h_Arcs.ext e15).ext e21).ext e27)
 obtain ⟨y35, hy36, r37⟩ := bind_some hr
 refine s_ck 44 #[.agg #[i_ N_, hd_Arcs]] (by kernel_rfl) (c_viaductref03_DocCheck e27.wf u34 hy36) ?_
 rintro _ H40 ⟨s38, f39, rfl, e41, m42, i43⟩
 obtain ⟨a45, n46, c47, rfl⟩ := m42.form
 refine s_rwk e41.wf [i_ 0, .slice none 0 0] (by kernel_rfl) fun b48 H49 e50 hb51 r52 => ?_
 have u58 := (m42.ext e50)
 obtain ⟨H54, q55, e56, r57⟩ := Row.store (P := Try.prog) (t := 79) (p := 0) e50.wf r52 (.agg #[i_ y35.1, .slice a45 n46 c47]) [i_ y35.1, .slice a45 n46 c47] (by kernel_rfl) (by kernel_rfl) (one_cons (rfl) (one_cons (u58.one1) (one_nil))) (Nat.le_of_ble_eq_true (by kernel_rfl)) [i_ y35.1, .slice a45 n46 c47] (by kernel_rfl)
 refine s_ek (undef) (by kernel_rfl) (map_ok q55) ?_
 refine s_nil (k32 _ _ (w_seqk fun _ k59 => g_' ?_))
 refine l_' (.agg #[i_ y35.1, .slice a45 n46 c47]) (aL_ 79 (pt_ b48 0) H54) (r57.l_) ?_
 have u60 := (u58.fr e56 (hb51.djn m42.lt))
 obtain ⟨y61, hy62, r63⟩ := bind_some r37
 refine s_ck 32 #[.agg #[i_ y35.1, .slice a45 n46 c47]] (by kernel_rfl) (c_viaductref01_Err_Bad e56.wf u60.sq hy62) ?_
 rintro _ H64 ⟨rfl, e65⟩
 refine s_nil (k59 _ _ ?_)
 refine w_cond (y61) (by kernel_rfl) rfl (fun h66 => ?_) (fun h66 => ?_)
 ·have r67 := ite_t h66 r63
  refine w_seqk fun _ k68 => ?_
  refine w_draw [0, 1, 2, 3] (by kernel_rfl) ?_
  refine e_' (.agg #[i_ 0, .slice none 0 0]) ?_
  have u69 := (r57.frS e65 Dj.nil_l)
  refine d_fl (.agg #[i_ y35.1, .slice a45 n46 c47]) (x := aL_ 79 (pt_ b48 0) H64) (by kernel_rfl) (u69.l_) ?_
  have u74 := (((((r23.ext e27).frS e41 Dj.nil_l).ext e50).frS e56 (hb51.djn (r23.ltF.le (t_ e27.n e41.n)))).frS e65 Dj.nil_l)
  obtain ⟨H70, q71, e72, r73⟩ := Row.store (P := Try.prog) (t := 24) (p := 0) e65.wf u74 (.agg #[i_ 0, .slice none 0 0]) [i_ 0, .slice none 0 0] (by kernel_rfl) (by kernel_rfl) (one_cons (rfl) (one_cons (rfl) (one_nil))) (Nat.le_of_ble_eq_true (by kernel_rfl)) [i_ 0, .slice none 0 0] (by kernel_rfl)
  have u75 := (u69.frS e72 (Dj.symm (hb51.djn (r23.ltF.le (t_ e27.n e41.n)))))
  refine d_ek (undef) (by kernel_rfl) (map_ok q71) (st_ql (y := aL_ 79 (pt_ b48 0) H70) (by kernel_rfl) (u75.l_) (st_nil)) ?_
  have u80 := (((((r29.frS e41 Dj.nil_l).ext e50).frS e56 (hb51.djn (r29.ltF.le e41.n))).frS e65 Dj.nil_l).frS e72 (Dj.symm (hb28.djn r23.ltF)))
  have u81 := ((u60.fr e65 Dj.nil_l).fr e72 (Dj.symm (i43.djn (r23.ltF.le e27.n))))
  obtain ⟨H76, q77, e78, r79⟩ := Row.store (P := Try.prog) (t := 79) (p := 0) e72.wf u80 (.agg #[i_ y35.1, .slice a45 n46 c47]) [i_ y35.1, .slice a45 n46 c47] (by kernel_rfl) (by kernel_rfl) (one_cons (rfl) (one_cons (u81.one1) (one_nil))) (Nat.le_of_ble_eq_true (by kernel_rfl)) [i_ y35.1, .slice a45 n46 c47] (by kernel_rfl)
  refine d_ek (undef) (by kernel_rfl) (map_ok q77) (st_anc (by kernel_rfl) (st_nil)) ?_
  refine d_nil ?_
  refine k68 _ _ ?_
  refine w_ret (th_ret ?_)
  have u82 := (r73.frS e78 (hb28.djn r23.ltF))
  refine b_ret (fn := Try.f47) (vs := [.agg #[i_ 0, .slice none 0 0], .agg #[i_ y35.1, .slice a45 n46 c47]]) (aRes_cell (Eq.trans (b := aL_ 24 (pt_ b19 0) H76) (by kernel_rfl) (u82.l_)) (aRes_cell (Eq.trans (b := aL_ 79 (pt_ b25 0) H76) (by kernel_rfl) (r79.l_)) (rfl))) ?_
  have u83 := (u81.fr e78 (Dj.symm (i43.djn r29.ltF)))
  obtain rfl := oi_ r67
  exact ⟨(.slice none 0 0), [], (.slice a45 n46 c47), f39, rfl, (FrS.step wf (FrS.step wf (FrS.step wf (FrS.step wf ((FrS.step wf ((((f0_ wf).extR e15).extR e21).extR e27) e41 Inn.nil).extR e50) e56 (hb51.fresh (t_ (t_ (t_ e15.n e21.n) e27.n) e41.n))) e65 Inn.nil) e72 (hb22.fresh e15.n)) e78 (hb28.fresh (t_ e15.n e21.n))), (Ow.nil (by decide)), u83, Inn.nil, (i43.fresh (t_ (t_ e15.n e21.n) e27.n)), Dj.nil_l⟩
 have r84 := ite_bf h66 r63
 refine w_skip (k31 _ _ (w_seqk fun _ k85 => g_' ?_))
 have u86 := ((((u33.frS e41 Dj.nil_l).ext e50).frS e56 (hb51.djn (r17.ltF.le (t_ (t_ e21.n e27.n) e41.n)))).frS e65 Dj.nil_l)
 refine l_' (.agg #[i_ N_, hd_Arcs]) (aL_ 24 (pt_ b13 0) H64) (u86.l_) ?_
 have u87 := ((((u34.fr e41 Dj.nil_l).ext e50).fr e56 (hb51.djn (h_Arcs.lt.le (t_ (t_ (t_ e15.n e21.n) e27.n) e41.n)))).fr e65 Dj.nil_l)
 obtain ⟨y88, hy89, r90⟩ := bind_some r84
 refine s_ck 63 #[.agg #[i_ N_, hd_Arcs]] (by kernel_rfl) (c_viaductref04_Of e65.wf u87 hy89) ?_
 rintro _ H93 ⟨s91, f92, rfl, e94, m95, i96⟩
 obtain ⟨a98, n99, c100, rfl⟩ := m95.form
 refine q_ (.agg #[i_ 0, .slice none 0 0]) ?_
 have u105 := ((((((r23.ext e27).frS e41 Dj.nil_l).ext e50).frS e56 (hb51.djn (r23.ltF.le (t_ e27.n e41.n)))).frS e65 Dj.nil_l).frS e94 Dj.nil_l)
 obtain ⟨H101, q102, e103, r104⟩ := Row.store (P := Try.prog) (t := 24) (p := 0) e94.wf u105 (.agg #[i_ y88.1, .slice a98 n99 c100]) [i_ y88.1, .slice a98 n99 c100] (by kernel_rfl) (by kernel_rfl) (one_cons (rfl) (one_cons (m95.one1) (one_nil))) (Nat.le_of_ble_eq_true (by kernel_rfl)) [i_ y88.1, .slice a98 n99 c100] (by kernel_rfl)
 refine s_ek (undef) (by kernel_rfl) (map_ok q102) ?_
 have u110 := ((((((r29.frS e41 Dj.nil_l).ext e50).frS e56 (hb51.djn (r29.ltF.le e41.n))).frS e65 Dj.nil_l).frS e94 Dj.nil_l).frS e103 (Dj.symm (hb28.djn r23.ltF)))
 obtain ⟨H106, q107, e108, r109⟩ := Row.store (P := Try.prog) (t := 79) (p := 0) e103.wf u110 (.agg #[i_ 0, .slice none 0 0]) [i_ 0, .slice none 0 0] (by kernel_rfl) (by kernel_rfl) (one_cons (rfl) (one_cons (rfl) (one_nil))) (Nat.le_of_ble_eq_true (by kernel_rfl)) [i_ 0, .slice none 0 0] (by kernel_rfl)
 refine s_ek (undef) (by kernel_rfl) (map_ok q107) ?_
 refine s_nil (k85 _ _ ?_)
 refine w_ret ?_
 have u111 := (r104.frS e108 (hb28.djn r23.ltF))
 refine b_ret (fn := Try.f47) (vs := [.agg #[i_ y88.1, .slice a98 n99 c100], .agg #[i_ 0, .slice none 0 0]]) (aRes_cell (Eq.trans (b := aL_ 24 (pt_ b19 0) H106) (by kernel_rfl) (u111.l_)) (aRes_cell (Eq.trans (b := aL_ 79 (pt_ b25 0) H106) (by kernel_rfl) (r109.l_)) (rfl))) ?_
 have u112 := ((m95.fr e103 (Dj.symm (i96.djn (r23.ltF.le (t_ (t_ (t_ (t_ e27.n e41.n) e50.n) e56.n) e65.n))))).fr e108 (Dj.symm (i96.djn (r29.ltF.le (t_ (t_ (t_ e41.n e50.n) e56.n) e65.n)))))
 obtain rfl := oi_ r90
 exact ⟨(.slice a98 n99 c100), f92, (.slice none 0 0), [], rfl, (FrS.step wf (FrS.step wf (FrS.step wf (FrS.step wf (FrS.step wf ((FrS.step wf ((((f0_ wf).extR e15).extR e21).extR e27) e41 Inn.nil).extR e50) e56 (hb51.fresh (t_ (t_ (t_ e15.n e21.n) e27.n) e41.n))) e65 Inn.nil) e94 Inn.nil) e103 (hb22.fresh e15.n)) e108 (hb28.fresh (t_ e15.n e21.n))), u112, (Ow.nil (by decide)), (i96.fresh (t_ (t_ (t_ (t_ (t_ (t_ e15.n e21.n) e27.n) e41.n) e50.n) e56.n) e65.n)), Inn.nil, Dj.nil_r⟩
theorem c_viaductref11_New {H : AH} {hd_Arcs : Value} {fp_Arcs : Fp} {N_ : Int} {Arcs : List (Int × Int × Int)} {r : List (Bool) × List (Int × Int × Int × Int)}
    (wf : WF H) (h_Arcs : Sq enc_i64_i64_i64 3 H hd_Arcs Arcs fp_Arcs) (hr : z_viaductref11_New N_ Arcs = some r) :
    ACalls Try.prog 48 #[.agg #[i_ N_, hd_Arcs]] H fun v H' => ∃ (s3 : Value) (f4 : Fp) (s7 : Value) (f8 : Fp), v = .agg #[s3, s7] ∧ FrS [] H H' ∧ Ow encB 1 H' s3 r.1 f4 ∧ Ow enc_i64_i64_u64_i64 4 H' s7 r.2 f8 ∧ Inn [] H f4 ∧ Inn [] H f8 ∧ Dj f4 f8 := by
 refine acalls_of_body mixed Try.func48 rfl (Nat.le_of_ble_eq_true rfl) ?_
 unfold z_viaductref11_New at hr
 refine w_seqk fun _ k12 => g_' ?_
 refine s_rwl wf [i_ N_, hd_Arcs] (one_cons (rfl) (one_cons (h_Arcs.one1) (one_nil))) (by kernel_rfl) fun b13 H14 e15 hb16 r17 => ?_
 refine s_rwk e15.wf [.slice none 0 0, .slice none 0 0] (by kernel_rfl) fun b19 H20 e21 hb22 r23 => ?_
 refine s_nil (k12 _ _ (w_seqk fun _ k25 => g_' (q_ (pt_ b13 0) ?_)))
 have u26 := (r17.ext e21)
 refine l_' (i_ N_) (aL_ 3 (pt_ b13 0) H20) (u26.l_) ?_
 obtain ⟨g27, r28⟩ := G_some hr
 refine s_mks (t := 30) (m := 1) (l := N_) (c := N_) (enc := encB) (sz := 1) e21.wf (false : Bool) (by kernel_rfl) (by decide) g27.1 (Int.le_refl _) (by omega) (by have := g27; omega) (by kernel_rfl) fun s29 f30 H31 e32 hf33 hm34 => ?_
 obtain ⟨a35, n36, c37, rfl⟩ := hm34.form
 have hm34 : Ow encB 1 H31 (.slice a35 n36 c37) (List.replicate N_.toNat (false : Bool)) f30 := hm34
 refine q_ (.agg #[.slice a35 n36 c37, .slice none 0 0]) ?_
 refine s_rwk e32.wf [.slice none 0 0, .slice none 0 0] (by kernel_rfl) fun b39 H40 e41 hb42 r43 => ?_
 have u49 := (hm34.ext e41)
 obtain ⟨H45, q46, e47, r48⟩ := Row.store (P := Try.prog) (t := 33) (p := 0) e41.wf r43 (.agg #[.slice a35 n36 c37, .slice none 0 0]) [.slice a35 n36 c37, .slice none 0 0] (by kernel_rfl) (by kernel_rfl) (one_cons (u49.one1) (one_cons (rfl) (one_nil))) (Nat.le_of_ble_eq_true (by kernel_rfl)) [.slice a35 n36 c37, .slice none 0 0] (by kernel_rfl)
 refine s_ek (undef) (by kernel_rfl) (map_ok q46) ?_
 refine s_nil (k25 _ _ (w_seqk fun _ k50 => w_seqk fun _ k51 => g_' (q_ (pt_ b39 0) ?_)))
 refine l_' (.slice a35 n36 c37) (aL_ 30 (pt_ b39 0) H45) (r48.l_) ?_
 have u52 := (u49.fr e47 (hb42.djn hm34.lt))
 refine l_' (i_ ((List.replicate N_.toNat (false : Bool)).length : Int)) (aLen Try.prog 30 (.slice a35 n36 c37) H45) (u52.sq.lenb (by kernel_rfl)) ?_
 refine q_ (i_ 0) (s_nil (k51 _ _ ?_))
 obtain ⟨o53, hx54, r55⟩ := bind_some r28
 refine w_mid (fun α H56 => Has α [(1, pt_ b13 0), (2, pt_ b19 0), (3, pt_ b39 0)] ∧ FrS f30 H45 H56 ∧ Ow encB 1 H56 (.slice a35 n36 c37) o53 f30) (fun _ k60 => ?_) (fun α H56 hM => ?_)
 ·refine w_block ?_
  obtain ⟨n62, hn63⟩ := loopO_iff.1 hx54
  refine w_loopn (fun n α H64 => ∃ (i0 : Int), ∃ (o1 : List (Bool)), iterO (fun zz_ => z_viaductref11_New_l0 N_ zz_.1 zz_.2) n (i0, o1) = some o53 ∧ Has α [(1, pt_ b13 0), (2, pt_ b19 0), (3, pt_ b39 0), (13, i_ ((List.replicate N_.toNat (false : Bool)).length : Int)), (14, i_ i0)] ∧ FrS f30 H45 H64 ∧ Ow encB 1 H64 (.slice a35 n36 c37) o1 f30) n62 ⟨0, (List.replicate N_.toNat (false : Bool)), hn63, ha_, (FrS.refl (W := f30) e47.wf), u52⟩ ?_
  rintro n62 α H64 ⟨i0, o1, hi69, hh68, e65, m67⟩ K74 k74
  obtain ⟨n70, z71, rfl, hz72, hn73⟩ := iter_succ hi69
  obtain ⟨β, rfl⟩ := has_ex hh68
  clear hh68
  replace hz72 : z_viaductref11_New_l0 N_ i0 o1 = some z71 := hz72
  unfold z_viaductref11_New_l0 at hz72
  refine w_seqk fun _ k75 => g_' (q_ (.bool (decide (i0 < ((List.replicate N_.toNat (false : Bool)).length : Int)))) (s_nil (k75 _ _ (w_seqk fun _ k76 => ?_))))
  refine w_condp (i0 < ((List.replicate N_.toNat (false : Bool)).length : Int)) (by kernel_rfl) rfl (fun h77 => ?_) (fun h77 => ?_)
  ·have r78 := ite_t h77 hz72
   refine w_skip (k76 _ _ (w_seqk fun _ k79 => w_block (w_seqk fun _ k80 => g_' (q_ (i_ i0) (q_ (i_ i0) (s_nil (k80 _ _ (g_' (q_ (pt_ b39 0) ?_)))))))))
   have u81 := (r48.frS e65 (Dj.symm (hb42.djn hm34.lt)))
   refine l_' (.slice a35 n36 c37) (aL_ 30 (pt_ b39 0) H64) (u81.l_) ?_
   refine q_ (i_ i0) ?_
   obtain ⟨g82, r83⟩ := G_some r78
   refine l_' (elp (.slice a35 n36 c37) 1 i0.toNat 0) (aIndexAddr Try.prog 30 (.slice a35 n36 c37) (i_ i0)) (m67.sq.idxb (by kernel_rfl) g82.1 g82.2) ?_
   obtain ⟨H84, q85, e86, hm87⟩ := Ow.store (P := Try.prog) (t := 4) (off := 0) e65.wf m67 g82.1 g82.2 (.bool true) [.bool true] (by kernel_rfl) (by kernel_rfl) rfl true (Nat.le_of_ble_eq_true rfl) (by kernel_rfl)
   refine s_ek (undef) (by kernel_rfl) (map_ok q85) ?_
   refine s_nil (k79 _ _ (g_' ?_))
   obtain ⟨g88, r89⟩ := G_some r83
   refine w_' (i0 + 1) (wrap64 (by have := g88; omega)) ?_
   refine q_ (i_ (i0 + 1)) (s_nil ?_)
   obtain rfl := oi_ r89
   exact k74 n70 _ _ (Nat.lt_succ_self _) ⟨(i0 + 1), (o1.set i0.toNat true), hn73, ha_, (FrS.step e47.wf (FrS.step e47.wf (FrS.refl (W := f30) e47.wf) e65 Inn.refl') e86 Inn.refl'), hm87⟩
  have r90 := ite_f h77 hz72
  refine w_exit (th_exit (th_exit (bl_eq ?_)))
  obtain rfl := oi_ r90
  obtain rfl := it_inr hn73
  exact k60 _ _ ⟨ha_, (FrS.step e47.wf (FrS.refl (W := f30) e47.wf) e65 Inn.refl'), m67⟩
 obtain ⟨hh61, e57, m59⟩ := hM
 obtain ⟨β, rfl⟩ := has_ex hh61
 clear hh61
 refine k50 _ _ (w_seqk fun _ k91 => w_seqk fun _ k92 => g_' (q_ (pt_ b13 1) ?_))
 have u93 := ((((u26.ext e32).ext e41).frS e47 (hb42.djn (r17.ltF.le (t_ e21.n e32.n)))).frS e57 (hf33.djn (r17.ltF.le e21.n)))
 refine l_' (hd_Arcs) (aL_ 22 (pt_ b13 1) H56) (u93.l_) ?_
 have u94 := ((((((h_Arcs.ext e15).ext e21).ext e32).ext e41).fr e47 (hb42.djn (h_Arcs.lt.le (t_ (t_ e15.n e21.n) e32.n)))).fr e57 (hf33.djn (h_Arcs.lt.le (t_ e15.n e21.n))))
 refine l_' (i_ (Arcs.length : Int)) (aLen Try.prog 22 hd_Arcs H56) (u94.lenb (by kernel_rfl)) ?_
 refine q_ (i_ 0) (s_nil (k92 _ _ ?_))
 obtain ⟨o95, hx96, r97⟩ := bind_some r55
 refine w_mid (fun α H98 => ∃ (s102 : Value) (f103 : Fp), Has α [(2, pt_ b19 0), (3, pt_ b39 0)] ∧ FrS [b39] H56 H98 ∧ Ow enc_i64_i64_u64_i64 4 H98 s102 o95 f103 ∧ Row H98 b39 [.slice a35 n36 c37, s102] ∧ Inn [] H56 f103) (fun _ k107 => ?_) (fun α H98 hM => ?_)
 ·refine w_block ?_
  obtain ⟨n109, hn110⟩ := loopO_iff.1 hx96
  have u126 := (r48.frS e57 (Dj.symm (hb42.djn hm34.lt)))
  refine w_loopn (fun n α H111 => ∃ (i2 : Int), ∃ (o3 : List (Int × Int × Int × Int)), ∃ (s115 : Value), ∃ (f116 : Fp), iterO (fun zz_ => z_viaductref11_New_l1 Arcs zz_.1 zz_.2) n (i2, o3) = some o95 ∧ Has α [(2, pt_ b19 0), (3, pt_ b39 0), (23, hd_Arcs), (24, i_ (Arcs.length : Int)), (25, i_ i2)] ∧ FrS [b39] H56 H111 ∧ Ow enc_i64_i64_u64_i64 4 H111 s115 o3 f116 ∧ Row H111 b39 [.slice a35 n36 c37, s115] ∧ Inn [] H56 f116) n109 ⟨0, [], (.slice none 0 0), [], hn110, ha_, (FrS.refl (W := [b39]) e57.wf), (Ow.nil (by decide)), u126, Inn.nil⟩ ?_
  rintro n109 α H111 ⟨i2, o3, s115, f116, hi121, hh120, e112, m114, m118, i119⟩ K127 k127
  obtain ⟨n122, z123, rfl, hz124, hn125⟩ := iter_succ hi121
  obtain ⟨β, rfl⟩ := has_ex hh120
  clear hh120
  replace hz124 : z_viaductref11_New_l1 Arcs i2 o3 = some z123 := hz124
  unfold z_viaductref11_New_l1 at hz124
  obtain ⟨a128, n129, c130, rfl⟩ := m114.form
  refine w_seqk fun _ k131 => g_' (q_ (.bool (decide (i2 < (Arcs.length : Int)))) (s_nil (k131 _ _ (w_seqk fun _ k132 => ?_))))
  refine w_condp (i2 < (Arcs.length : Int)) (by kernel_rfl) rfl (fun h133 => ?_) (fun h133 => ?_)
  ·have r134 := ite_t h133 hz124
   refine w_skip (k132 _ _ (w_seqk fun _ k135 => w_block (w_seqk fun _ k136 => g_' ?_)))
   obtain ⟨g137, r138⟩ := G_some r134
   have u139 := (u94.fr e112 (hb42.djn (h_Arcs.lt.le (t_ (t_ e15.n e21.n) e32.n))))
   refine l_' (elp hd_Arcs 3 i2.toNat 0) (aIndexAddr Try.prog 22 hd_Arcs (i_ i2)) (u139.idxb (by kernel_rfl) g137 h133) ?_
   refine l_' (.agg #[i_ ((gt Arcs i2).1), i_ ((gt Arcs i2).2.1), i_ ((gt Arcs i2).2.2)]) (aL_ 118 (elp hd_Arcs 3 i2.toNat 0) H111) (u139.ld g137 h133 (by kernel_rfl)) ?_
   refine s_rwk e112.wf [i_ 0, i_ 0, i_ 0] (by kernel_rfl) fun b140 H141 e142 hb143 r144 => ?_
   obtain ⟨H146, q147, e148, r149⟩ := Row.store (P := Try.prog) (t := 118) (p := 0) e142.wf r144 (.agg #[i_ ((gt Arcs i2).1), i_ ((gt Arcs i2).2.1), i_ ((gt Arcs i2).2.2)]) [i_ ((gt Arcs i2).1), i_ ((gt Arcs i2).2.1), i_ ((gt Arcs i2).2.2)] (by kernel_rfl) (by kernel_rfl) (one_cons (rfl) (one_cons (rfl) (one_cons (rfl) (one_nil)))) (Nat.le_of_ble_eq_true (by kernel_rfl)) [i_ ((gt Arcs i2).1), i_ ((gt Arcs i2).2.1), i_ ((gt Arcs i2).2.2)] (by kernel_rfl)
   refine s_ek (undef) (by kernel_rfl) (map_ok q147) ?_
   refine s_nil (k136 _ _ (g_' (q_ (pt_ b39 1) ?_)))
   have u150 := ((m118.ext e142).frS e148 (hb143.djn (r43.ltF.le (t_ (t_ e47.n e57.n) e112.n))))
   refine l_' (.slice a128 n129 c130) (aL_ 31 (pt_ b39 1) H146) (u150.l_) ?_
   refine q_ (pt_ b140 0) ?_
   refine l_' (i_ ((gt Arcs i2).1)) (aL_ 3 (pt_ b140 0) H146) (r149.l_) ?_
   refine q_ (pt_ b140 1) ?_
   refine l_' (i_ ((gt Arcs i2).2.1)) (aL_ 3 (pt_ b140 1) H146) (r149.l_) ?_
   refine q_ (pt_ b140 2) ?_
   refine l_' (i_ ((gt Arcs i2).2.2)) (aL_ 3 (pt_ b140 2) H146) (r149.l_) ?_
   obtain ⟨g151, r152⟩ := G_some r138
   refine s_w ((gt Arcs i2).2.2) (k := .u64) (x := (gt Arcs i2).2.2) (by kernel_rfl) (wrapu64 g151) ?_
   refine q_ (.agg #[i_ ((gt Arcs i2).1), i_ ((gt Arcs i2).2.1), .int .u64 ((gt Arcs i2).2.2), i_ (-1)]) ?_
   refine s_owk (enc := enc_i64_i64_u64_i64) (sz := 4) e148.wf [((gt Arcs i2).1, (gt Arcs i2).2.1, (gt Arcs i2).2.2, (-1))] 1 (by decide) (fun _ _ => rfl) (fun _ _ => rfl) rfl (by kernel_rfl) fun s153 f154 H155 e156 hf157 hm158 => ?_
   obtain ⟨a159, n160, c161, rfl⟩ := hm158.form
   have u163 := (((m114.ext e142).fr e148 (hb143.djn m114.lt)).ext e156)
   obtain ⟨g164, r165⟩ := G_some r152
   obtain ⟨s166, H167, f168, q172, e169, hm170, hf171⟩ := Ow.append (P := Try.prog) 32 e156.wf u163 hm158.sq (fun _ _ => rfl) (at_ := #[31, 31]) rfl rfl (by kernel_rfl) (by kernel_rfl) (by decide) (by have := g164; first | omega | (simp only [List.length_cons, List.length_nil] at this ⊢; omega) | (simp at this ⊢; omega))
   obtain ⟨a173, n174, c175, rfl⟩ := hm170.form
   refine s_ek (.slice a173 n174 c175) (by kernel_rfl) (q172) ?_
   refine q_ (pt_ b39 1) ?_
   have u181 := ((u150.ext e156).frS e169 (i119.djn (r43.ltF.le (t_ e47.n e57.n))))
   obtain ⟨H177, q178, e179, r180⟩ := Row.store (P := Try.prog) (t := 31) (p := 1) e169.wf u181 (.slice a173 n174 c175) [.slice a173 n174 c175] (by kernel_rfl) (by kernel_rfl) (one_cons (hm170.one1) (one_nil)) (Nat.le_of_ble_eq_true (by kernel_rfl)) [.slice a35 n36 c37, .slice a173 n174 c175] (by kernel_rfl)
   refine s_ek (undef) (by kernel_rfl) (map_ok q178) ?_
   refine s_nil (k135 _ _ (g_' ?_))
   obtain ⟨g182, r183⟩ := G_some r165
   refine w_' (i2 + 1) (wrap64 (by have := g182; omega)) ?_
   refine q_ (i_ (i2 + 1)) (s_nil ?_)
   have u184 := (hm170.fr e179 (Dj.symm (hf171.dj (i119.djn (r43.ltF.le (t_ e47.n e57.n))) (r43.ltF.le (t_ (t_ (t_ (t_ (t_ e47.n e57.n) e112.n) e142.n) e148.n) e156.n)))))
   obtain rfl := oi_ r183
   exact k127 n122 _ _ (Nat.lt_succ_self _) ⟨(i2 + 1), (o3 ++ [((gt Arcs i2).1, (gt Arcs i2).2.1, (gt Arcs i2).2.2, (-1))]), (.slice a173 n174 c175), f168, hn125, ha_, (FrS.step e57.wf (FrS.step e57.wf ((FrS.step e57.wf ((FrS.step e57.wf (FrS.refl (W := [b39]) e57.wf) e112 Inn.refl').extR e142) e148 (hb143.fresh e112.n)).extR e156) e169 (i119.fresh (Nat.le_refl _))) e179 Inn.refl'), u184, r180, (Inn.trans (i119.fresh (Nat.le_refl _)) (t_ (t_ (t_ e112.n e142.n) e148.n) e156.n) hf171)⟩
  have r185 := ite_f h133 hz124
  refine w_exit (th_exit (th_exit (bl_eq ?_)))
  obtain rfl := oi_ r185
  obtain rfl := it_inr hn125
  exact k107 _ _ ⟨(.slice a128 n129 c130), f116, ha_, (FrS.step e57.wf (FrS.refl (W := [b39]) e57.wf) e112 Inn.refl'), m114, m118, (i119.fresh (Nat.le_refl _))⟩
 obtain ⟨s102, f103, hh108, e99, m101, m105, i106⟩ := hM
 obtain ⟨β, rfl⟩ := has_ex hh108
 clear hh108
 obtain ⟨a186, n187, c188, rfl⟩ := m101.form
 refine k91 _ _ (w_seqk fun _ k189 => g_' ?_)
 refine l_' (.agg #[.slice a35 n36 c37, .slice a186 n187 c188]) (aL_ 33 (pt_ b39 0) H98) (m105.l_) ?_
 have u194 := (((((r23.ext e32).ext e41).frS e47 (hb42.djn (r23.ltF.le e32.n))).frS e57 (hf33.djn r23.ltF)).frS e99 (hb42.djn (r23.ltF.le e32.n)))
 have u195 := (m59.fr e99 (hb42.djn hm34.lt))
 obtain ⟨H190, q191, e192, r193⟩ := Row.store (P := Try.prog) (t := 33) (p := 0) e99.wf u194 (.agg #[.slice a35 n36 c37, .slice a186 n187 c188]) [.slice a35 n36 c37, .slice a186 n187 c188] (by kernel_rfl) (by kernel_rfl) (one_cons (u195.one1) (one_cons (m101.one1) (one_nil))) (Nat.le_of_ble_eq_true (by kernel_rfl)) [.slice a35 n36 c37, .slice a186 n187 c188] (by kernel_rfl)
 refine s_ek (undef) (by kernel_rfl) (map_ok q191) ?_
 refine s_nil (k189 _ _ ?_)
 refine w_ret ?_
 refine b_ret (fn := Try.f48) (vs := [.agg #[.slice a35 n36 c37, .slice a186 n187 c188]]) (aRes_cell (Eq.trans (b := aL_ 33 (pt_ b19 0) H190) (by kernel_rfl) (r193.l_)) (rfl)) ?_
 have u196 := (u195.fr e192 (Dj.symm (hf33.djn r23.ltF)))
 have u197 := (m101.fr e192 (Dj.symm (i106.djn (r23.ltF.le (t_ (t_ (t_ e32.n e41.n) e47.n) e57.n)))))
 obtain rfl := oi_ r97
 exact ⟨(.slice a35 n36 c37), f30, (.slice a186 n187 c188), f103, rfl, (FrS.step wf (FrS.step wf (FrS.step wf (FrS.step wf (((((f0_ wf).extR e15).extR e21).extR e32).extR e41) e47 (hb42.fresh (t_ (t_ e15.n e21.n) e32.n))) e57 (hf33.fresh (t_ e15.n e21.n))) e99 (hb42.fresh (t_ (t_ e15.n e21.n) e32.n))) e192 (hb22.fresh e15.n)), u196, u197, (hf33.fresh (t_ e15.n e21.n)), (i106.fresh (t_ (t_ (t_ (t_ (t_ e15.n e21.n) e32.n) e41.n) e47.n) e57.n)), (Dj.symm (i106.djn (hm34.lt.le (t_ (t_ e41.n e47.n) e57.n))))⟩
theorem c_viaductref11_DocNew {H : AH} {hd_Arcs : Value} {fp_Arcs : Fp} {N_ : Int} {Arcs : List (Int × Int × Int)} {r : List (Bool) × List (Int × Int × Int × Int) × Int × List (Int × Int)}
    (wf : WF H) (h_Arcs : Sq enc_i64_i64_i64 3 H hd_Arcs Arcs fp_Arcs) (hr : z_viaductref11_DocNew N_ Arcs = some r) :
    ACalls Try.prog 29 #[.agg #[i_ N_, hd_Arcs]] H fun v H' => ∃ (s3 : Value) (f4 : Fp) (s7 : Value) (f8 : Fp) (s11 : Value) (f12 : Fp), v = .tuple #[.agg #[s3, s7], .agg #[i_ r.2.2.1, s11]] ∧ FrS [] H H' ∧ Ow encB 1 H' s3 r.1 f4 ∧ Ow enc_i64_i64_u64_i64 4 H' s7 r.2.1 f8 ∧ Ow enc_i64_i64 2 H' s11 r.2.2.2 f12 ∧ Inn [] H f4 ∧ Inn [] H f8 ∧ Inn [] H f12 ∧ Dj f4 f8 ∧ Dj f4 f12 ∧ Dj f8 f12 := by
 refine acalls_of_body mixed Try.func29 rfl (Nat.le_of_ble_eq_true rfl) ?_
 unfold z_viaductref11_DocNew at hr
 refine w_seqk fun _ k19 => g_' ?_
 refine s_rwl wf [i_ N_, hd_Arcs] (one_cons (rfl) (one_cons (h_Arcs.one1) (one_nil))) (by kernel_rfl) fun b20 H21 e22 hb23 r24 => ?_
 refine s_rwk e22.wf [.slice none 0 0, .slice none 0 0] (by kernel_rfl) fun b26 H27 e28 hb29 r30 => ?_
 refine s_rwk e28.wf [i_ 0, .slice none 0 0] (by kernel_rfl) fun b32 H33 e34 hb35 r36 => ?_
 refine s_nil (k19 _ _ (w_seqk fun _ k38 => g_' ?_))
 have u39 := ((r24.ext e28).ext e34)
 refine l_' (.agg #[i_ N_, hd_Arcs]) (aL_ 24 (pt_ b20 0) H33) (u39.l_) ?_
 have u40 := (((h_Arcs.ext e22).ext e28).ext e34)
 obtain ⟨y41, hy42, r43⟩ := bind_some hr
 refine s_ck 47 #[.agg #[i_ N_, hd_Arcs]] (by kernel_rfl) (c_viaductref04_DocOf e34.wf u40 hy42) ?_
 rintro _ H48 ⟨s44, f45, s46, f47, rfl, e49, m50, m51, i52, i53, d54⟩
 obtain ⟨a57, n58, c59, rfl⟩ := m50.form
 obtain ⟨a60, n61, c62, rfl⟩ := m51.form
 refine q_ (.tuple #[.agg #[i_ y41.1, .slice a57 n58 c59], .agg #[i_ y41.2.2.1, .slice a60 n61 c62]]) (q_ (.agg #[i_ y41.1, .slice a57 n58 c59]) (q_ (.agg #[i_ y41.2.2.1, .slice a60 n61 c62]) ?_))
 refine s_rwk e49.wf [i_ 0, .slice none 0 0] (by kernel_rfl) fun b63 H64 e65 hb66 r67 => ?_
 refine s_rwk e65.wf [i_ 0, .slice none 0 0] (by kernel_rfl) fun b69 H70 e71 hb72 r73 => ?_
 have u79 := (r67.ext e71)
 have u80 := ((m50.ext e65).ext e71)
 obtain ⟨H75, q76, e77, r78⟩ := Row.store (P := Try.prog) (t := 24) (p := 0) e71.wf u79 (.agg #[i_ y41.1, .slice a57 n58 c59]) [i_ y41.1, .slice a57 n58 c59] (by kernel_rfl) (by kernel_rfl) (one_cons (rfl) (one_cons (u80.one1) (one_nil))) (Nat.le_of_ble_eq_true (by kernel_rfl)) [i_ y41.1, .slice a57 n58 c59] (by kernel_rfl)
 refine s_ek (undef) (by kernel_rfl) (map_ok q76) ?_
 have u85 := (r73.frS e77 (Dj.symm (hb72.djn r67.ltF)))
 have u86 := (((m51.ext e65).ext e71).fr e77 (hb66.djn m51.lt))
 obtain ⟨H81, q82, e83, r84⟩ := Row.store (P := Try.prog) (t := 79) (p := 0) e77.wf u85 (.agg #[i_ y41.2.2.1, .slice a60 n61 c62]) [i_ y41.2.2.1, .slice a60 n61 c62] (by kernel_rfl) (by kernel_rfl) (one_cons (rfl) (one_cons (u86.one1) (one_nil))) (Nat.le_of_ble_eq_true (by kernel_rfl)) [i_ y41.2.2.1, .slice a60 n61 c62] (by kernel_rfl)
 refine s_ek (undef) (by kernel_rfl) (map_ok q82) ?_
 refine s_nil (k38 _ _ (w_seqk fun _ k87 => w_seqk fun _ k88 => g_' ?_))
 refine l_' (.agg #[i_ y41.2.2.1, .slice a60 n61 c62]) (aL_ 79 (pt_ b69 0) H81) (r84.l_) ?_
 have u89 := (u86.fr e83 (hb72.djn (m51.lt.le e65.n)))
 obtain ⟨y90, hy91, r92⟩ := bind_some r43
 refine s_ck 32 #[.agg #[i_ y41.2.2.1, .slice a60 n61 c62]] (by kernel_rfl) (c_viaductref01_Err_Bad e83.wf u89.sq hy91) ?_
 rintro _ H93 ⟨rfl, e94⟩
 refine s_nil (k88 _ _ ?_)
 refine w_cond (y90) (by kernel_rfl) rfl (fun h95 => ?_) (fun h95 => ?_)
 ·have r96 := ite_t h95 r92
  refine w_seqk fun _ k97 => ?_
  refine w_draw [0, 1, 2, 3] (by kernel_rfl) ?_
  refine e_' (.agg #[.slice none 0 0, .slice none 0 0]) ?_
  have u98 := (r84.frS e94 Dj.nil_l)
  refine d_fl (.agg #[i_ y41.2.2.1, .slice a60 n61 c62]) (x := aL_ 79 (pt_ b69 0) H93) (by kernel_rfl) (u98.l_) ?_
  have u103 := (((((((r30.ext e34).frS e49 Dj.nil_l).ext e65).ext e71).frS e77 (hb66.djn (r30.ltF.le (t_ e34.n e49.n)))).frS e83 (hb72.djn (r30.ltF.le (t_ (t_ e34.n e49.n) e65.n)))).frS e94 Dj.nil_l)
  obtain ⟨H99, q100, e101, r102⟩ := Row.store (P := Try.prog) (t := 33) (p := 0) e94.wf u103 (.agg #[.slice none 0 0, .slice none 0 0]) [.slice none 0 0, .slice none 0 0] (by kernel_rfl) (by kernel_rfl) (one_cons (rfl) (one_cons (rfl) (one_nil))) (Nat.le_of_ble_eq_true (by kernel_rfl)) [.slice none 0 0, .slice none 0 0] (by kernel_rfl)
  have u104 := (u98.frS e101 (Dj.symm (hb72.djn (r30.ltF.le (t_ (t_ e34.n e49.n) e65.n)))))
  refine d_ek (undef) (by kernel_rfl) (map_ok q100) (st_ql (y := aL_ 79 (pt_ b69 0) H99) (by kernel_rfl) (u104.l_) (st_nil)) ?_
  have u109 := (((((((r36.frS e49 Dj.nil_l).ext e65).ext e71).frS e77 (hb66.djn (r36.ltF.le e49.n))).frS e83 (hb72.djn (r36.ltF.le (t_ e49.n e65.n)))).frS e94 Dj.nil_l).frS e101 (Dj.symm (hb35.djn r30.ltF)))
  have u110 := ((u89.fr e94 Dj.nil_l).fr e101 (Dj.symm (i53.djn (r30.ltF.le e34.n))))
  obtain ⟨H105, q106, e107, r108⟩ := Row.store (P := Try.prog) (t := 79) (p := 0) e101.wf u109 (.agg #[i_ y41.2.2.1, .slice a60 n61 c62]) [i_ y41.2.2.1, .slice a60 n61 c62] (by kernel_rfl) (by kernel_rfl) (one_cons (rfl) (one_cons (u110.one1) (one_nil))) (Nat.le_of_ble_eq_true (by kernel_rfl)) [i_ y41.2.2.1, .slice a60 n61 c62] (by kernel_rfl)
  refine d_ek (undef) (by kernel_rfl) (map_ok q106) (st_anc (by kernel_rfl) (st_nil)) ?_
  refine d_nil ?_
  refine k97 _ _ ?_
  refine w_ret (th_ret ?_)
  have u111 := (r102.frS e107 (hb35.djn r30.ltF))
  refine b_ret (fn := Try.f29) (vs := [.agg #[.slice none 0 0, .slice none 0 0], .agg #[i_ y41.2.2.1, .slice a60 n61 c62]]) (aRes_cell (Eq.trans (b := aL_ 33 (pt_ b26 0) H105) (by kernel_rfl) (u111.l_)) (aRes_cell (Eq.trans (b := aL_ 79 (pt_ b32 0) H105) (by kernel_rfl) (r108.l_)) (rfl))) ?_
  have u112 := (u110.fr e107 (Dj.symm (i53.djn r36.ltF)))
  obtain rfl := oi_ r96
  exact ⟨(.slice none 0 0), [], (.slice none 0 0), [], (.slice a60 n61 c62), f47, rfl, (FrS.step wf (FrS.step wf (FrS.step wf (FrS.step wf (FrS.step wf (((FrS.step wf ((((f0_ wf).extR e22).extR e28).extR e34) e49 Inn.nil).extR e65).extR e71) e77 (hb66.fresh (t_ (t_ (t_ e22.n e28.n) e34.n) e49.n))) e83 (hb72.fresh (t_ (t_ (t_ (t_ e22.n e28.n) e34.n) e49.n) e65.n))) e94 Inn.nil) e101 (hb29.fresh e22.n)) e107 (hb35.fresh (t_ e22.n e28.n))), (Ow.nil (by decide)), (Ow.nil (by decide)), u112, Inn.nil, Inn.nil, (i53.fresh (t_ (t_ e22.n e28.n) e34.n)), Dj.nil_l, Dj.nil_l, Dj.nil_l⟩
 have r113 := ite_bf h95 r92
 refine w_skip (k87 _ _ (w_seqk fun _ k114 => ?_))
 refine w_draw [0, 2, 1, 3, 4] (by kernel_rfl) ?_
 have u115 := ((r78.frS e83 (hb72.djn r67.ltF)).frS e94 Dj.nil_l)
 refine m_' (.agg #[i_ y41.1, .slice a57 n58 c59]) (aL_ 24 (pt_ b63 0) H93) (u115.l_) ?_
 have u116 := (r84.frS e94 Dj.nil_l)
 refine d_fl (.agg #[i_ y41.2.2.1, .slice a60 n61 c62]) (x := aL_ 79 (pt_ b69 0) H93) (by kernel_rfl) (u116.l_) ?_
 have u117 := (((u80.fr e77 (hb66.djn m50.lt)).fr e83 (hb72.djn (m50.lt.le e65.n))).fr e94 Dj.nil_l)
 obtain ⟨y118, hy119, r120⟩ := bind_some r113
 refine d_ck 48 #[.agg #[i_ y41.1, .slice a57 n58 c59]] (by kernel_rfl) (c_viaductref11_New e94.wf u117.sq hy119) ?_
 rintro _ H125 ⟨s121, f122, s123, f124, rfl, e126, m127, m128, i129, i130, d131⟩
 obtain ⟨a134, n135, c136, rfl⟩ := m127.form
 obtain ⟨a137, n138, c139, rfl⟩ := m128.form
 have u140 := (u116.frS e126 Dj.nil_l)
 refine ⟨st_ql (y := aL_ 79 (pt_ b69 0) H125) (by kernel_rfl) (u140.l_) (st_nil), ?_⟩
 have u145 := ((((((((r30.ext e34).frS e49 Dj.nil_l).ext e65).ext e71).frS e77 (hb66.djn (r30.ltF.le (t_ e34.n e49.n)))).frS e83 (hb72.djn (r30.ltF.le (t_ (t_ e34.n e49.n) e65.n)))).frS e94 Dj.nil_l).frS e126 Dj.nil_l)
 obtain ⟨H141, q142, e143, r144⟩ := Row.store (P := Try.prog) (t := 33) (p := 0) e126.wf u145 (.agg #[.slice a134 n135 c136, .slice a137 n138 c139]) [.slice a134 n135 c136, .slice a137 n138 c139] (by kernel_rfl) (by kernel_rfl) (one_cons (m127.one1) (one_cons (m128.one1) (one_nil))) (Nat.le_of_ble_eq_true (by kernel_rfl)) [.slice a134 n135 c136, .slice a137 n138 c139] (by kernel_rfl)
 have u146 := (u140.frS e143 (Dj.symm (hb72.djn (r30.ltF.le (t_ (t_ e34.n e49.n) e65.n)))))
 refine d_ek (undef) (by kernel_rfl) (map_ok q142) (st_ql (y := aL_ 79 (pt_ b69 0) H141) (by kernel_rfl) (u146.l_) (st_nil)) ?_
 have u151 := ((((((((r36.frS e49 Dj.nil_l).ext e65).ext e71).frS e77 (hb66.djn (r36.ltF.le e49.n))).frS e83 (hb72.djn (r36.ltF.le (t_ e49.n e65.n)))).frS e94 Dj.nil_l).frS e126 Dj.nil_l).frS e143 (Dj.symm (hb35.djn r30.ltF)))
 have u152 := (((u89.fr e94 Dj.nil_l).fr e126 Dj.nil_l).fr e143 (Dj.symm (i53.djn (r30.ltF.le e34.n))))
 obtain ⟨H147, q148, e149, r150⟩ := Row.store (P := Try.prog) (t := 79) (p := 0) e143.wf u151 (.agg #[i_ y41.2.2.1, .slice a60 n61 c62]) [i_ y41.2.2.1, .slice a60 n61 c62] (by kernel_rfl) (by kernel_rfl) (one_cons (rfl) (one_cons (u152.one1) (one_nil))) (Nat.le_of_ble_eq_true (by kernel_rfl)) [i_ y41.2.2.1, .slice a60 n61 c62] (by kernel_rfl)
 refine d_ek (undef) (by kernel_rfl) (map_ok q148) (st_anc (by kernel_rfl) (st_nil)) ?_
 refine d_nil ?_
 refine k114 _ _ ?_
 refine w_ret ?_
 have u153 := (r144.frS e149 (hb35.djn r30.ltF))
 refine b_ret (fn := Try.f29) (vs := [.agg #[.slice a134 n135 c136, .slice a137 n138 c139], .agg #[i_ y41.2.2.1, .slice a60 n61 c62]]) (aRes_cell (Eq.trans (b := aL_ 33 (pt_ b26 0) H147) (by kernel_rfl) (u153.l_)) (aRes_cell (Eq.trans (b := aL_ 79 (pt_ b32 0) H147) (by kernel_rfl) (r150.l_)) (rfl))) ?_
 have u154 := ((m127.fr e143 (Dj.symm (i129.djn (r30.ltF.le (t_ (t_ (t_ (t_ (t_ (t_ e34.n e49.n) e65.n) e71.n) e77.n) e83.n) e94.n))))).fr e149 (Dj.symm (i129.djn (r36.ltF.le (t_ (t_ (t_ (t_ (t_ e49.n e65.n) e71.n) e77.n) e83.n) e94.n)))))
 have u155 := ((m128.fr e143 (Dj.symm (i130.djn (r30.ltF.le (t_ (t_ (t_ (t_ (t_ (t_ e34.n e49.n) e65.n) e71.n) e77.n) e83.n) e94.n))))).fr e149 (Dj.symm (i130.djn (r36.ltF.le (t_ (t_ (t_ (t_ (t_ e49.n e65.n) e71.n) e77.n) e83.n) e94.n)))))
 have u156 := (u152.fr e149 (Dj.symm (i53.djn r36.ltF)))
 obtain rfl := oi_ r120
 exact ⟨(.slice a134 n135 c136), f122, (.slice a137 n138 c139), f124, (.slice a60 n61 c62), f47, rfl, (FrS.step wf (FrS.step wf (FrS.step wf (FrS.step wf (FrS.step wf (FrS.step wf (((FrS.step wf ((((f0_ wf).extR e22).extR e28).extR e34) e49 Inn.nil).extR e65).extR e71) e77 (hb66.fresh (t_ (t_ (t_ e22.n e28.n) e34.n) e49.n))) e83 (hb72.fresh (t_ (t_ (t_ (t_ e22.n e28.n) e34.n) e49.n) e65.n))) e94 Inn.nil) e126 Inn.nil) e143 (hb29.fresh e22.n)) e149 (hb35.fresh (t_ e22.n e28.n))), u154, u155, u156, (i129.fresh (t_ (t_ (t_ (t_ (t_ (t_ (t_ (t_ e22.n e28.n) e34.n) e49.n) e65.n) e71.n) e77.n) e83.n) e94.n)), (i130.fresh (t_ (t_ (t_ (t_ (t_ (t_ (t_ (t_ e22.n e28.n) e34.n) e49.n) e65.n) e71.n) e77.n) e83.n) e94.n)), (i53.fresh (t_ (t_ e22.n e28.n) e34.n)), d131, (i129.djn (m51.lt.le (t_ (t_ (t_ (t_ e65.n e71.n) e77.n) e83.n) e94.n))), (i130.djn (m51.lt.le (t_ (t_ (t_ (t_ e65.n e71.n) e77.n) e83.n) e94.n)))⟩
theorem c_overlay_Overlay_Put_nil {H : AH} {u : Int} {w : Int} {weight : Int} {via : Int} {r : Unit}
    (wf : WF H) (hr : z_overlay_Overlay_Put_nil u w weight via = some r) :
    ACalls Try.prog 30 #[.pointer none, i_ u, i_ w, .int .u64 weight, i_ via] H fun v H' => v = .tuple #[.bool false, .iface 90 (i_ 19)] ∧ H = H' := by
 refine acalls_of_body mixed Try.func30 rfl (Nat.le_of_ble_eq_true rfl) ?_
 unfold z_overlay_Overlay_Put_nil at hr
 refine w_seqk fun _ k1 => g_' (q_ (.bool false) (q_ (.nilIface) (s_nil (k1 _ _ (w_seqk fun _ k2 => w_block (w_seqk fun _ k3 => g_' (q_ (.pointer none) (q_ (.bool true) (q_ (.bool true) (s_nil (k3 _ _ ?_)))))))))))
 refine w_cond true (by kernel_rfl) rfl (fun _ => ?_) (fun h => by cases h)
 refine w_seqk fun _ k4 => g_' (q_ (.iface 90 (i_ 19)) (q_ (.bool false) (q_ (.iface 90 (i_ 19)) (s_nil (k4 _ _ ?_)))))
 refine w_ret (bl_ret (th_ret ?_))
 refine b_ret (fn := Try.f30) (vs := [.bool false, .iface 90 (i_ 19)]) (rt_ (aRes_tmp (by kernel_rfl) (rfl))) ?_
 obtain rfl := oi_ hr
 exact ⟨rfl, rfl⟩
theorem c_viaductref11_Lives {H : AH} {hd_Alive : Value} {fp_Alive : Fp} {hd_Arcs : Value} {fp_Arcs : Fp} {Alive : List (Bool)} {Arcs : List (Int × Int × Int × Int)} {v_ : Int} {r : Bool}
    (wf : WF H) (h_Alive : Sq encB 1 H hd_Alive Alive fp_Alive) (h_Arcs : Sq enc_i64_i64_u64_i64 4 H hd_Arcs Arcs fp_Arcs) (hr : z_viaductref11_Lives Alive Arcs v_ = some r) :
    ACalls Try.prog 12 #[.agg #[hd_Alive, hd_Arcs], i_ v_] H fun v H' => v = .bool r ∧ FrS [] H H' := by
 refine acalls_of_body mixed Try.func12 rfl (Nat.le_of_ble_eq_true rfl) ?_
 unfold z_viaductref11_Lives at hr
 refine w_seqk fun _ k1 => g_' ?_
 refine s_rwl wf [hd_Alive, hd_Arcs] (one_cons (h_Alive.one1) (one_cons (h_Arcs.one1) (one_nil))) (by kernel_rfl) fun b2 H3 e4 hb5 r6 => ?_
 refine q_ (.bool false) (s_nil (k1 _ _ (w_seqk fun _ k8 => g_' (q_ (i_ v_) ?_))))
 refine s_b (v_ ≥ 0) (by kernel_rfl) (fun h9 => ?_) (fun h9 => ?_)
 ·have r10 := ite_t h9 hr
  refine q_ (.bool true) (q_ (i_ v_) (q_ (pt_ b2 0) ?_))
  refine l_' (hd_Alive) (aL_ 30 (pt_ b2 0) H3) (r6.l_) ?_
  have u11 := (h_Alive.ext e4)
  refine l_' (i_ (Alive.length : Int)) (aLen Try.prog 30 hd_Alive H3) (u11.lenb (by kernel_rfl)) ?_
  refine s_b (v_ < (Alive.length : Int)) (by kernel_rfl) (fun h12 => ?_) (fun h12 => ?_)
  ·have r13 := ite_t h12 r10
   refine q_ (.bool true) (q_ (.bool true) (q_ (pt_ b2 0) ?_))
   refine l_' (hd_Alive) (aL_ 30 (pt_ b2 0) H3) (r6.l_) ?_
   refine q_ (i_ v_) ?_
   obtain ⟨g14, r15⟩ := G_some r13
   refine l_' (elp hd_Alive 1 v_.toNat 0) (aIndexAddr Try.prog 30 hd_Alive (i_ v_)) (u11.idxb (by kernel_rfl) g14 h12) ?_
   refine l_' (.bool (gt Alive v_)) (aL_ 4 (elp hd_Alive 1 v_.toNat 0) H3) (u11.ld g14 h12 (by kernel_rfl)) ?_
   refine q_ (.bool (gt Alive v_)) (q_ (.bool (gt Alive v_)) (s_nil (k8 _ _ ?_)))
   refine w_ret ?_
   refine b_ret (fn := Try.f12) (vs := [.bool (gt Alive v_)]) (rt_ (rfl)) ?_
   obtain rfl := oi_ r15
   exact ⟨rfl, ((f0_ wf).extR e4)⟩
  have r16 := ite_f h12 r10
  refine q_ (.bool false) (q_ (.bool false) (n_' (n_' (n_' (n_' (n_' (q_ (.bool false) (q_ (.bool false) (s_nil (k8 _ _ ?_))))))))))
  refine w_ret ?_
  refine b_ret (fn := Try.f12) (vs := [.bool false]) (rt_ (rfl)) ?_
  obtain rfl := oi_ r16
  exact ⟨rfl, ((f0_ wf).extR e4)⟩
 have r17 := ite_f h9 hr
 refine q_ (.bool false) (n_' (n_' (n_' (n_' (n_' (q_ (.bool false) (q_ (.bool false) (n_' (n_' (n_' (n_' (n_' (q_ (.bool false) (q_ (.bool false) (s_nil (k8 _ _ ?_))))))))))))))))
 refine w_ret ?_
 refine b_ret (fn := Try.f12) (vs := [.bool false]) (rt_ (rfl)) ?_
 obtain rfl := oi_ r17
 exact ⟨rfl, ((f0_ wf).extR e4)⟩
theorem c_viaductref11_DocPut {H : AH} {hd_Alive : Value} {fp_Alive : Fp} {hd_Arcs : Value} {fp_Arcs : Fp} {Alive : List (Bool)} {Arcs : List (Int × Int × Int × Int)} {u : Int} {w : Int} {weight : Int} {via : Int} {r : Int}
    (wf : WF H) (h_Alive : Sq encB 1 H hd_Alive Alive fp_Alive) (h_Arcs : Sq enc_i64_i64_u64_i64 4 H hd_Arcs Arcs fp_Arcs) (hr : z_viaductref11_DocPut Alive Arcs u w weight via = some r) :
    ACalls Try.prog 31 #[.agg #[hd_Alive, hd_Arcs], i_ u, i_ w, .int .u64 weight, i_ via] H fun v H' => v = .agg #[i_ r, .slice none 0 0] ∧ FrS [] H H' := by
 refine acalls_of_body mixed Try.func31 rfl (Nat.le_of_ble_eq_true rfl) ?_
 unfold z_viaductref11_DocPut at hr
 refine w_seqk fun _ k1 => g_' ?_
 refine s_rwl wf [hd_Alive, hd_Arcs] (one_cons (h_Alive.one1) (one_cons (h_Arcs.one1) (one_nil))) (by kernel_rfl) fun b2 H3 e4 hb5 r6 => ?_
 refine s_rwk e4.wf [i_ 0, .slice none 0 0] (by kernel_rfl) fun b8 H9 e10 hb11 r12 => ?_
 refine s_nil (k1 _ _ (w_seqk fun _ k14 => w_block (w_seqk fun _ k15 => ?_)))
 obtain ⟨o16, hx17, r18⟩ := bind_some hr
 refine w_mid (fun α H19 => Has α [(1, i_ u), (2, i_ w), (3, .int .u64 weight), (4, i_ via), (5, pt_ b2 0), (10, pt_ b8 0), (11, .bool o16)] ∧ FrS [] H9 H19) (fun _ k21 => ?_) (fun α H19 hM => ?_)
 ·refine g_' ?_
  have u23 := (r6.ext e10)
  refine l_' (.agg #[hd_Alive, hd_Arcs]) (aL_ 33 (pt_ b2 0) H9) (u23.l_) ?_
  refine q_ (i_ u) ?_
  have u24 := ((h_Alive.ext e4).ext e10)
  have u25 := ((h_Arcs.ext e4).ext e10)
  obtain ⟨y26, hy27, r28⟩ := bind_some hx17
  refine s_ck 12 #[.agg #[hd_Alive, hd_Arcs], i_ u] (by kernel_rfl) (c_viaductref11_Lives e10.wf u24 u25 hy27) ?_
  rintro _ H29 ⟨rfl, e30⟩
  by_cases h31 : y26 = true
  ·have r32 := ite_t h31 r28
   rw [h31]
   refine q_ (.bool false) (q_ (.bool false) ?_)
   have u34 := (u23.frS e30 Dj.nil_l)
   refine l_' (.agg #[hd_Alive, hd_Arcs]) (aL_ 33 (pt_ b2 0) H29) (u34.l_) ?_
   refine q_ (i_ w) ?_
   have u35 := (u24.fr e30 Dj.nil_l)
   have u36 := (u25.fr e30 Dj.nil_l)
   obtain ⟨y37, hy38, r39⟩ := bind_some r32
   refine s_ck 12 #[.agg #[hd_Alive, hd_Arcs], i_ w] (by kernel_rfl) (c_viaductref11_Lives e30.wf u35 u36 hy38) ?_
   rintro _ H40 ⟨rfl, e41⟩
   refine q_ (.bool (!y37)) (q_ (.bool (!y37)) (q_ (.bool (!y37)) (s_nil ?_)))
   obtain rfl := oi_ r39
   exact k21 _ _ ⟨ha_, (FrS.step e10.wf (FrS.step e10.wf (FrS.refl (W := []) e10.wf) e30 Inn.nil) e41 Inn.nil)⟩
  have r42 := ite_f h31 r28
  rw [nb h31]
  refine q_ (.bool true) (q_ (.bool true) (n_' (n_' (n_' (n_' (q_ (.bool true) (q_ (.bool true) (s_nil ?_))))))))
  obtain rfl := oi_ r42
  exact k21 _ _ ⟨ha_, (FrS.step e10.wf (FrS.refl (W := []) e10.wf) e30 Inn.nil)⟩
 obtain ⟨hh22, e20⟩ := hM
 obtain ⟨β, rfl⟩ := has_ex hh22
 clear hh22
 refine k15 _ _ ?_
 refine w_cond (o16) (by kernel_rfl) rfl (fun h44 => ?_) (fun h44 => ?_)
 ·have r45 := ite_t h44 r18
  refine w_seqk fun _ k46 => g_' ?_
  obtain ⟨y47, hy48, r49⟩ := bind_some r45
  refine s_ck 51 #[i_ 7] (by kernel_rfl) (c_viaductref01_E e20.wf hy48) ?_
  rintro _ H50 ⟨rfl, e51⟩
  have u56 := ((r12.frS e20 Dj.nil_l).frS e51 Dj.nil_l)
  obtain ⟨H52, q53, e54, r55⟩ := Row.store (P := Try.prog) (t := 79) (p := 0) e51.wf u56 (.agg #[i_ y47, .slice none 0 0]) [i_ y47, .slice none 0 0] (by kernel_rfl) (by kernel_rfl) (one_cons (rfl) (one_cons (rfl) (one_nil))) (Nat.le_of_ble_eq_true (by kernel_rfl)) [i_ y47, .slice none 0 0] (by kernel_rfl)
  refine s_ek (undef) (by kernel_rfl) (map_ok q53) ?_
  refine s_nil (k46 _ _ ?_)
  refine w_ret (bl_ret (th_ret ?_))
  refine b_ret (fn := Try.f31) (vs := [.agg #[i_ y47, .slice none 0 0]]) (aRes_cell (Eq.trans (b := aL_ 79 (pt_ b8 0) H52) (by kernel_rfl) (r55.l_)) (rfl)) ?_
  obtain rfl := oi_ r49
  exact ⟨rfl, (FrS.step wf (FrS.step wf (FrS.step wf (((f0_ wf).extR e4).extR e10) e20 Inn.nil) e51 Inn.nil) e54 (hb11.fresh e4.n))⟩
 have r57 := ite_bf h44 r18
 refine w_seqk fun _ k58 => g_' (q_ (i_ u) (q_ (i_ w) (q_ (.bool (decide (u = w))) (q_ (.bool (decide (u = w))) (s_nil (k58 _ _ ?_))))))
 refine w_condp (u = w) (by kernel_rfl) rfl (fun h59 => ?_) (fun h59 => ?_)
 ·have r60 := ite_t h59 r57
  refine w_seqk fun _ k61 => g_' ?_
  obtain ⟨y62, hy63, r64⟩ := bind_some r60
  refine s_ck 51 #[i_ 1] (by kernel_rfl) (c_viaductref01_E e20.wf hy63) ?_
  rintro _ H65 ⟨rfl, e66⟩
  have u71 := ((r12.frS e20 Dj.nil_l).frS e66 Dj.nil_l)
  obtain ⟨H67, q68, e69, r70⟩ := Row.store (P := Try.prog) (t := 79) (p := 0) e66.wf u71 (.agg #[i_ y62, .slice none 0 0]) [i_ y62, .slice none 0 0] (by kernel_rfl) (by kernel_rfl) (one_cons (rfl) (one_cons (rfl) (one_nil))) (Nat.le_of_ble_eq_true (by kernel_rfl)) [i_ y62, .slice none 0 0] (by kernel_rfl)
  refine s_ek (undef) (by kernel_rfl) (map_ok q68) ?_
  refine s_nil (k61 _ _ ?_)
  refine w_ret (bl_ret (th_ret ?_))
  refine b_ret (fn := Try.f31) (vs := [.agg #[i_ y62, .slice none 0 0]]) (aRes_cell (Eq.trans (b := aL_ 79 (pt_ b8 0) H67) (by kernel_rfl) (r70.l_)) (rfl)) ?_
  obtain rfl := oi_ r64
  exact ⟨rfl, (FrS.step wf (FrS.step wf (FrS.step wf (((f0_ wf).extR e4).extR e10) e20 Inn.nil) e66 Inn.nil) e69 (hb11.fresh e4.n))⟩
 have r72 := ite_f h59 r57
 refine w_seqk fun _ k73 => g_' (q_ (.int .u64 weight) (q_ (.bool (decide (weight > 140737488355328))) (q_ (.bool (decide (weight > 140737488355328))) (s_nil (k73 _ _ ?_)))))
 refine w_condp (weight > 140737488355328) (by kernel_rfl) rfl (fun h74 => ?_) (fun h74 => ?_)
 ·have r75 := ite_t h74 r72
  refine w_seqk fun _ k76 => g_' ?_
  obtain ⟨y77, hy78, r79⟩ := bind_some r75
  refine s_ck 51 #[i_ 8] (by kernel_rfl) (c_viaductref01_E e20.wf hy78) ?_
  rintro _ H80 ⟨rfl, e81⟩
  have u86 := ((r12.frS e20 Dj.nil_l).frS e81 Dj.nil_l)
  obtain ⟨H82, q83, e84, r85⟩ := Row.store (P := Try.prog) (t := 79) (p := 0) e81.wf u86 (.agg #[i_ y77, .slice none 0 0]) [i_ y77, .slice none 0 0] (by kernel_rfl) (by kernel_rfl) (one_cons (rfl) (one_cons (rfl) (one_nil))) (Nat.le_of_ble_eq_true (by kernel_rfl)) [i_ y77, .slice none 0 0] (by kernel_rfl)
  refine s_ek (undef) (by kernel_rfl) (map_ok q83) ?_
  refine s_nil (k76 _ _ ?_)
  refine w_ret (bl_ret (th_ret ?_))
  refine b_ret (fn := Try.f31) (vs := [.agg #[i_ y77, .slice none 0 0]]) (aRes_cell (Eq.trans (b := aL_ 79 (pt_ b8 0) H82) (by kernel_rfl) (r85.l_)) (rfl)) ?_
  obtain rfl := oi_ r79
  exact ⟨rfl, (FrS.step wf (FrS.step wf (FrS.step wf (((f0_ wf).extR e4).extR e10) e20 Inn.nil) e81 Inn.nil) e84 (hb11.fresh e4.n))⟩
 have r87 := ite_f h74 r72
 refine w_seqk fun _ k88 => ?_
 obtain ⟨o89, hx90, r91⟩ := bind_some r87
 refine w_mid (fun α H92 => Has α [(10, pt_ b8 0), (32, .bool o89)] ∧ H19 = H92) (fun _ k94 => ?_) (fun α H92 hM => ?_)
 ·refine g_' (q_ (i_ via) ?_)
  refine s_bn (via = (-1)) (by kernel_rfl) (fun h96 => ?_) (fun h96 => ?_)
  ·have r97 := ite_t h96 hx90
   refine q_ (.bool false) (n_' (n_' (n_' (n_' (n_' (n_' (n_' (n_' (n_' (n_' (n_' (n_' (n_' (n_' (n_' (n_' (q_ (.bool false) (q_ (.bool false) (s_nil ?_)))))))))))))))))))
   obtain rfl := oi_ r97
   exact k94 _ _ ⟨ha_, rfl⟩
  have r98 := ite_f h96 hx90
  refine q_ (.bool true) (q_ (i_ via) ?_)
  refine s_b (via < 0) (by kernel_rfl) (fun h99 => ?_) (fun h99 => ?_)
  ·have r100 := ite_t h99 r98
   refine q_ (.bool true) (n_' (n_' (n_' (n_' (n_' (q_ (.bool true) (q_ (.bool true) (n_' (n_' (n_' (n_' (n_' (q_ (.bool true) (q_ (.bool true) (q_ (.bool true) (s_nil ?_))))))))))))))))
   obtain rfl := oi_ r100
   exact k94 _ _ ⟨ha_, rfl⟩
  have r101 := ite_f h99 r98
  refine q_ (.bool false) (q_ (i_ via) (q_ (pt_ b2 0) ?_))
  have u102 := ((r6.ext e10).frS e20 Dj.nil_l)
  refine l_' (hd_Alive) (aL_ 30 (pt_ b2 0) H19) (u102.l_) ?_
  have u103 := (((h_Alive.ext e4).ext e10).fr e20 Dj.nil_l)
  refine l_' (i_ (Alive.length : Int)) (aLen Try.prog 30 hd_Alive H19) (u103.lenb (by kernel_rfl)) ?_
  refine s_b (via ≥ (Alive.length : Int)) (by kernel_rfl) (fun h104 => ?_) (fun h104 => ?_)
  ·have r105 := ite_t h104 r101
   refine q_ (.bool true) (q_ (.bool true) (n_' (n_' (n_' (n_' (n_' (q_ (.bool true) (q_ (.bool true) (q_ (.bool true) (s_nil ?_))))))))))
   obtain rfl := oi_ r105
   exact k94 _ _ ⟨ha_, rfl⟩
  have r106 := ite_f h104 r101
  refine q_ (.bool false) (q_ (.bool false) (q_ (pt_ b2 0) ?_))
  refine l_' (hd_Alive) (aL_ 30 (pt_ b2 0) H19) (u102.l_) ?_
  refine q_ (i_ via) ?_
  obtain ⟨g107, r108⟩ := G_some r106
  refine l_' (elp hd_Alive 1 via.toNat 0) (aIndexAddr Try.prog 30 hd_Alive (i_ via)) (u103.idxb (by kernel_rfl) g107.1 g107.2) ?_
  refine l_' (.bool (gt Alive via)) (aL_ 4 (elp hd_Alive 1 via.toNat 0) H19) (u103.ld g107.1 g107.2 (by kernel_rfl)) ?_
  refine q_ (.bool (gt Alive via)) (q_ (.bool (gt Alive via)) (q_ (.bool (gt Alive via)) (s_nil ?_)))
  obtain rfl := oi_ r108
  exact k94 _ _ ⟨ha_, rfl⟩
 obtain ⟨hh95, rfl⟩ := hM
 obtain ⟨β, rfl⟩ := has_ex hh95
 clear hh95
 refine k88 _ _ ?_
 refine w_cond (o89) (by kernel_rfl) rfl (fun h109 => ?_) (fun h109 => ?_)
 ·have r110 := ite_t h109 r91
  refine w_seqk fun _ k111 => g_' ?_
  obtain ⟨y112, hy113, r114⟩ := bind_some r110
  refine s_ck 51 #[i_ 1] (by kernel_rfl) (c_viaductref01_E e20.wf hy113) ?_
  rintro _ H115 ⟨rfl, e116⟩
  have u121 := ((r12.frS e20 Dj.nil_l).frS e116 Dj.nil_l)
  obtain ⟨H117, q118, e119, r120⟩ := Row.store (P := Try.prog) (t := 79) (p := 0) e116.wf u121 (.agg #[i_ y112, .slice none 0 0]) [i_ y112, .slice none 0 0] (by kernel_rfl) (by kernel_rfl) (one_cons (rfl) (one_cons (rfl) (one_nil))) (Nat.le_of_ble_eq_true (by kernel_rfl)) [i_ y112, .slice none 0 0] (by kernel_rfl)
  refine s_ek (undef) (by kernel_rfl) (map_ok q118) ?_
  refine s_nil (k111 _ _ ?_)
  refine w_ret (bl_ret (th_ret ?_))
  refine b_ret (fn := Try.f31) (vs := [.agg #[i_ y112, .slice none 0 0]]) (aRes_cell (Eq.trans (b := aL_ 79 (pt_ b8 0) H117) (by kernel_rfl) (r120.l_)) (rfl)) ?_
  obtain rfl := oi_ r114
  exact ⟨rfl, (FrS.step wf (FrS.step wf (FrS.step wf (((f0_ wf).extR e4).extR e10) e20 Inn.nil) e116 Inn.nil) e119 (hb11.fresh e4.n))⟩
 have r122 := ite_bf h109 r91
 refine w_skip (k14 _ _ (w_seqk fun _ k123 => g_' (q_ (.agg #[i_ 0, .slice none 0 0]) ?_)))
 have u128 := (r12.frS e20 Dj.nil_l)
 obtain ⟨H124, q125, e126, r127⟩ := Row.store (P := Try.prog) (t := 79) (p := 0) e20.wf u128 (.agg #[i_ 0, .slice none 0 0]) [i_ 0, .slice none 0 0] (by kernel_rfl) (by kernel_rfl) (one_cons (rfl) (one_cons (rfl) (one_nil))) (Nat.le_of_ble_eq_true (by kernel_rfl)) [i_ 0, .slice none 0 0] (by kernel_rfl)
 refine s_ek (undef) (by kernel_rfl) (map_ok q125) ?_
 refine s_nil (k123 _ _ ?_)
 refine w_ret ?_
 refine b_ret (fn := Try.f31) (vs := [.agg #[i_ 0, .slice none 0 0]]) (aRes_cell (Eq.trans (b := aL_ 79 (pt_ b8 0) H124) (by kernel_rfl) (r127.l_)) (rfl)) ?_
 obtain rfl := oi_ r122
 exact ⟨rfl, (FrS.step wf (FrS.step wf (((f0_ wf).extR e4).extR e10) e20 Inn.nil) e126 (hb11.fresh e4.n))⟩
end Go.Vd

/-! (KWg3) -/

set_option maxRecDepth 100000
set_option maxHeartbeats 4000000
set_option linter.unusedVariables false
namespace Go.Vd
open Go.Proofs
attribute [local irreducible] wpSeq wpOrd aWp
theorem c_viaductref11_Put {H : AH} {hd_Alive : Value} {fp_Alive : Fp} {hd_Arcs : Value} {fp_Arcs : Fp} {Alive : List (Bool)} {Arcs : List (Int × Int × Int × Int)} {From : Int} {To : Int} {Weight : Int} {Via : Int} {r : List (Int × Int × Int × Int) × Bool}
    (wf : WF H) (h_Alive : Sq encB 1 H hd_Alive Alive fp_Alive) (h_Arcs : Sq enc_i64_i64_u64_i64 4 H hd_Arcs Arcs fp_Arcs) (hr : z_viaductref11_Put Alive Arcs From To Weight Via = some r) :
    ACalls Try.prog 33 #[.agg #[hd_Alive, hd_Arcs], .agg #[i_ From, i_ To, .int .u64 Weight, i_ Via]] H fun v H' => ∃ (s3 : Value) (f4 : Fp), v = .tuple #[.agg #[hd_Alive, s3], .bool r.2] ∧ FrS [] H H' ∧ Sq enc_i64_i64_u64_i64 4 H' s3 r.1 f4 ∧ Inn fp_Arcs H f4 := by
 refine acalls_of_body mixed Try.func33 rfl (Nat.le_of_ble_eq_true rfl) ?_
 unfold z_viaductref11_Put at hr
 refine w_seqk fun _ k6 => g_' ?_
 refine s_rwl wf [hd_Alive, hd_Arcs] (one_cons (h_Alive.one1) (one_cons (h_Arcs.one1) (one_nil))) (by kernel_rfl) fun b7 H8 e9 hb10 r11 => ?_
 refine s_rwl e9.wf [i_ From, i_ To, .int .u64 Weight, i_ Via] (one_cons (rfl) (one_cons (rfl) (one_cons (rfl) (one_cons (rfl) (one_nil))))) (by kernel_rfl) fun b13 H14 e15 hb16 r17 => ?_
 refine s_rwk e15.wf [.slice none 0 0, .slice none 0 0] (by kernel_rfl) fun b19 H20 e21 hb22 r23 => ?_
 refine q_ (.bool false) (s_nil (k6 _ _ (w_seqk fun _ k25 => g_' (q_ (pt_ b7 0) ?_))))
 have u26 := ((r11.ext e15).ext e21)
 refine l_' (hd_Alive) (aL_ 30 (pt_ b7 0) H20) (u26.l_) ?_
 have u27 := (((h_Alive.ext e9).ext e15).ext e21)
 obtain ⟨a28, n29, c30, rfl⟩ := u27.form
 refine q_ (.agg #[.slice a28 n29 c30, .slice none 0 0]) ?_
 refine s_rwk e21.wf [.slice none 0 0, .slice none 0 0] (by kernel_rfl) fun b31 H32 e33 hb34 r35 => ?_
 have u41 := (u27.ext e33)
 obtain ⟨H37, q38, e39, r40⟩ := Row.store (P := Try.prog) (t := 33) (p := 0) e33.wf r35 (.agg #[.slice a28 n29 c30, .slice none 0 0]) [.slice a28 n29 c30, .slice none 0 0] (by kernel_rfl) (by kernel_rfl) (one_cons (u41.one1) (one_cons (rfl) (one_nil))) (Nat.le_of_ble_eq_true (by kernel_rfl)) [.slice a28 n29 c30, .slice none 0 0] (by kernel_rfl)
 refine s_ek (undef) (by kernel_rfl) (map_ok q38) ?_
 refine s_nil (k25 _ _ (w_seqk fun _ k42 => g_' (q_ (.bool true) (s_nil (k42 _ _ (w_seqk fun _ k43 => w_seqk fun _ k44 => g_' (q_ (pt_ b7 1) ?_)))))))
 have u45 := ((u26.ext e33).frS e39 (hb34.djn (r11.ltF.le (t_ e15.n e21.n))))
 refine l_' (hd_Arcs) (aL_ 31 (pt_ b7 1) H37) (u45.l_) ?_
 have u46 := (((((h_Arcs.ext e9).ext e15).ext e21).ext e33).fr e39 (hb34.djn (h_Arcs.lt.le (t_ (t_ e9.n e15.n) e21.n))))
 refine l_' (i_ (Arcs.length : Int)) (aLen Try.prog 31 hd_Arcs H37) (u46.lenb (by kernel_rfl)) ?_
 refine q_ (i_ 0) (s_nil (k44 _ _ ?_))
 obtain ⟨z50, hx48, r49⟩ := bind_some hr
 refine w_mid (fun α H51 => ∃ o47, z50 = Sum.inr o47 ∧ ∃ (s55 : Value) (f56 : Fp), Has α [(3, pt_ b13 0), (4, pt_ b19 0), (6, pt_ b31 0), (7, .bool true)] ∧ FrS [b31] H37 H51 ∧ Ow enc_i64_i64_u64_i64 4 H51 s55 o47 f56 ∧ Row H51 b31 [.slice a28 n29 c30, s55] ∧ Inn [] H37 f56) (fun _ k60 => ?_) (fun α H51 hM => ?_)
 ·refine w_block ?_
  obtain ⟨n62, hn63⟩ := loopO_iff.1 hx48
  refine w_loopn (fun n α H64 => ∃ (i0 : Int), ∃ (p1 : List (Int × Int × Int × Int)), ∃ (s68 : Value), ∃ (f69 : Fp), iterO (fun zz_ => z_viaductref11_Put_l0 Arcs From To Weight zz_.1 zz_.2) n (i0, p1) = some z50 ∧ Has α [(2, pt_ b7 0), (3, pt_ b13 0), (4, pt_ b19 0), (6, pt_ b31 0), (7, .bool true), (14, hd_Arcs), (15, i_ (Arcs.length : Int)), (16, i_ i0)] ∧ FrS [b31] H37 H64 ∧ Ow enc_i64_i64_u64_i64 4 H64 s68 p1 f69 ∧ Row H64 b31 [.slice a28 n29 c30, s68] ∧ Inn [] H37 f69) n62 ⟨0, [], (.slice none 0 0), [], hn63, ha_, (FrS.refl (W := [b31]) e39.wf), (Ow.nil (by decide)), r40, Inn.nil⟩ ?_
  rintro n62 α H64 ⟨i0, p1, s68, f69, hi74, hh73, e65, m67, m71, i72⟩ K79 k79
  obtain ⟨n75, z76, rfl, hz77, hn78⟩ := iter_succ hi74
  obtain ⟨β, rfl⟩ := has_ex hh73
  clear hh73
  replace hz77 : z_viaductref11_Put_l0 Arcs From To Weight i0 p1 = some z76 := hz77
  unfold z_viaductref11_Put_l0 at hz77
  obtain ⟨a80, n81, c82, rfl⟩ := m67.form
  refine w_seqk fun _ k83 => g_' (q_ (.bool (decide (i0 < (Arcs.length : Int)))) (s_nil (k83 _ _ (w_seqk fun _ k84 => ?_))))
  refine w_condp (i0 < (Arcs.length : Int)) (by kernel_rfl) rfl (fun h85 => ?_) (fun h85 => ?_)
  ·have r86 := ite_t h85 hz77
   refine w_skip (k84 _ _ (w_seqk fun _ k87 => w_block (w_seqk fun _ k88 => g_' ?_)))
   obtain ⟨g89, r90⟩ := G_some r86
   have u91 := (u46.fr e65 (hb34.djn (h_Arcs.lt.le (t_ (t_ e9.n e15.n) e21.n))))
   refine l_' (elp hd_Arcs 4 i0.toNat 0) (aIndexAddr Try.prog 31 hd_Arcs (i_ i0)) (u91.idxb (by kernel_rfl) g89 h85) ?_
   refine l_' (.agg #[i_ ((gt Arcs i0).1), i_ ((gt Arcs i0).2.1), .int .u64 ((gt Arcs i0).2.2.1), i_ ((gt Arcs i0).2.2.2)]) (aL_ 73 (elp hd_Arcs 4 i0.toNat 0) H64) (u91.ld g89 h85 (by kernel_rfl)) ?_
   refine s_rwk e65.wf [i_ 0, i_ 0, .int .u64 0, i_ 0] (by kernel_rfl) fun b92 H93 e94 hb95 r96 => ?_
   obtain ⟨H98, q99, e100, r101⟩ := Row.store (P := Try.prog) (t := 73) (p := 0) e94.wf r96 (.agg #[i_ ((gt Arcs i0).1), i_ ((gt Arcs i0).2.1), .int .u64 ((gt Arcs i0).2.2.1), i_ ((gt Arcs i0).2.2.2)]) [i_ ((gt Arcs i0).1), i_ ((gt Arcs i0).2.1), .int .u64 ((gt Arcs i0).2.2.1), i_ ((gt Arcs i0).2.2.2)] (by kernel_rfl) (by kernel_rfl) (one_cons (rfl) (one_cons (rfl) (one_cons (rfl) (one_cons (rfl) (one_nil))))) (Nat.le_of_ble_eq_true (by kernel_rfl)) [i_ ((gt Arcs i0).1), i_ ((gt Arcs i0).2.1), .int .u64 ((gt Arcs i0).2.2.1), i_ ((gt Arcs i0).2.2.2)] (by kernel_rfl)
   refine s_ek (undef) (by kernel_rfl) (map_ok q99) ?_
   refine s_nil (k88 _ _ (w_seqk fun _ k102 => w_seqk fun _ k103 => ?_))
   obtain ⟨o104, hx105, r106⟩ := bind_some r90
   refine w_mid (fun α H107 => Has α [(2, pt_ b7 0), (3, pt_ b13 0), (4, pt_ b19 0), (6, pt_ b31 0), (7, .bool true), (9, pt_ b92 0), (14, hd_Arcs), (15, i_ (Arcs.length : Int)), (16, i_ i0), (31, .bool o104)] ∧ H98 = H107) (fun _ k109 => ?_) (fun α H107 hM => ?_)
   ·refine g_' (q_ (pt_ b92 0) ?_)
    refine l_' (i_ ((gt Arcs i0).1)) (aL_ 3 (pt_ b92 0) H98) (r101.l_) ?_
    refine q_ (pt_ b13 0) ?_
    have u111 := ((((((r17.ext e21).ext e33).frS e39 (hb34.djn (r17.ltF.le e21.n))).frS e65 (hb34.djn (r17.ltF.le e21.n))).ext e94).frS e100 (hb95.djn (r17.ltF.le (t_ (t_ (t_ e21.n e33.n) e39.n) e65.n))))
    refine l_' (i_ From) (aL_ 3 (pt_ b13 0) H98) (u111.l_) ?_
    refine s_b (((gt Arcs i0).1) = From) (by kernel_rfl) (fun h112 => ?_) (fun h112 => ?_)
    ·have r113 := ite_t h112 hx105
     refine q_ (.bool true) (q_ (pt_ b92 1) ?_)
     refine l_' (i_ ((gt Arcs i0).2.1)) (aL_ 3 (pt_ b92 1) H98) (r101.l_) ?_
     refine q_ (pt_ b13 1) ?_
     refine l_' (i_ To) (aL_ 3 (pt_ b13 1) H98) (u111.l_) ?_
     refine q_ (.bool (decide (((gt Arcs i0).2.1) = To))) (q_ (.bool (decide (((gt Arcs i0).2.1) = To))) (s_nil ?_))
     obtain rfl := oi_ r113
     exact k109 _ _ ⟨ha_, rfl⟩
    have r114 := ite_f h112 hx105
    refine q_ (.bool false) (n_' (n_' (n_' (n_' (n_' (q_ (.bool false) (s_nil ?_)))))))
    obtain rfl := oi_ r114
    exact k109 _ _ ⟨ha_, rfl⟩
   obtain ⟨hh110, rfl⟩ := hM
   obtain ⟨β, rfl⟩ := has_ex hh110
   clear hh110
   refine k103 _ _ ?_
   refine w_cond (o104) (by kernel_rfl) rfl (fun h115 => ?_) (fun h115 => ?_)
   ·have r116 := ite_t h115 r106
    refine w_seqk fun _ k117 => w_seqk fun _ k118 => g_' (q_ (pt_ b92 2) ?_)
    refine l_' (.int .u64 ((gt Arcs i0).2.2.1)) (aL_ 27 (pt_ b92 2) H98) (r101.l_) ?_
    refine q_ (pt_ b13 2) ?_
    have u119 := ((((((r17.ext e21).ext e33).frS e39 (hb34.djn (r17.ltF.le e21.n))).frS e65 (hb34.djn (r17.ltF.le e21.n))).ext e94).frS e100 (hb95.djn (r17.ltF.le (t_ (t_ (t_ e21.n e33.n) e39.n) e65.n))))
    refine l_' (.int .u64 Weight) (aL_ 27 (pt_ b13 2) H98) (u119.l_) ?_
    refine q_ (.bool (decide (((gt Arcs i0).2.2.1) ≤ Weight))) (s_nil (k118 _ _ ?_))
    refine w_condp (((gt Arcs i0).2.2.1) ≤ Weight) (by kernel_rfl) rfl (fun h120 => ?_) (fun h120 => ?_)
    ·have r121 := ite_t h120 r116
     refine w_seqk fun _ k122 => g_' ?_
     have u123 := (((u45.frS e65 (hb34.djn (r11.ltF.le (t_ e15.n e21.n)))).ext e94).frS e100 (hb95.djn (r11.ltF.le (t_ (t_ (t_ (t_ e15.n e21.n) e33.n) e39.n) e65.n))))
     refine l_' (.agg #[.slice a28 n29 c30, hd_Arcs]) (aL_ 33 (pt_ b7 0) H98) (u123.l_) ?_
     have u128 := (((((r23.ext e33).frS e39 (hb34.djn r23.ltF)).frS e65 (hb34.djn r23.ltF)).ext e94).frS e100 (hb95.djn (r23.ltF.le (t_ (t_ e33.n e39.n) e65.n))))
     have u129 := ((u91.ext e94).fr e100 (hb95.djn (h_Arcs.lt.le (t_ (t_ (t_ (t_ (t_ e9.n e15.n) e21.n) e33.n) e39.n) e65.n))))
     have u130 := ((((u41.fr e39 (hb34.djn (h_Alive.lt.le (t_ (t_ e9.n e15.n) e21.n)))).fr e65 (hb34.djn (h_Alive.lt.le (t_ (t_ e9.n e15.n) e21.n)))).ext e94).fr e100 (hb95.djn (h_Alive.lt.le (t_ (t_ (t_ (t_ (t_ e9.n e15.n) e21.n) e33.n) e39.n) e65.n))))
     obtain ⟨H124, q125, e126, r127⟩ := Row.store (P := Try.prog) (t := 33) (p := 0) e100.wf u128 (.agg #[.slice a28 n29 c30, hd_Arcs]) [.slice a28 n29 c30, hd_Arcs] (by kernel_rfl) (by kernel_rfl) (one_cons (u130.one1) (one_cons (u129.one1) (one_nil))) (Nat.le_of_ble_eq_true (by kernel_rfl)) [.slice a28 n29 c30, hd_Arcs] (by kernel_rfl)
     refine s_ek (undef) (by kernel_rfl) (map_ok q125) ?_
     refine q_ (.bool false) (s_nil (k122 _ _ ?_))
     refine w_ret (th_ret (th_ret (bl_ret (th_ret (th_ret (bl_ret (th_ret (th_ret ?_))))))))
     obtain ⟨v131, hv132, hz133⟩ := map_some r121
     subst hz133
     obtain rfl := it_inr hn78
     have hq134 := elim_inl r49
     rw [hq134] at hv132
     refine b_ret (fn := Try.f33) (vs := [.agg #[.slice a28 n29 c30, hd_Arcs], .bool false]) (aRes_cell (Eq.trans (b := aL_ 33 (pt_ b19 0) H124) (by kernel_rfl) (r127.l_)) (rt_ (rfl))) ?_
     have u135 := (u129.fr e126 (hb22.djn (h_Arcs.lt.le (t_ e9.n e15.n))))
     obtain rfl := oi_ hv132
     exact ⟨(hd_Arcs), fp_Arcs, rfl, (FrS.step wf (FrS.step wf ((FrS.step wf (FrS.step wf (((((f0_ wf).extR e9).extR e15).extR e21).extR e33) e39 (hb34.fresh (t_ (t_ e9.n e15.n) e21.n))) e65 (hb34.fresh (t_ (t_ e9.n e15.n) e21.n))).extR e94) e100 (hb95.fresh (t_ (t_ (t_ (t_ (t_ e9.n e15.n) e21.n) e33.n) e39.n) e65.n))) e126 (hb22.fresh (t_ e9.n e15.n))), u135, Inn.refl'⟩
    have r136 := ite_f h120 r116
    refine w_skip (k117 _ _ ?_)
    refine w_exit (th_exit (bl_eq ?_))
    refine k87 _ _ (g_' ?_)
    obtain ⟨g137, r138⟩ := G_some r136
    refine w_' (i0 + 1) (wrap64 (by have := g137; omega)) ?_
    refine q_ (i_ (i0 + 1)) (s_nil ?_)
    have u139 := ((m67.ext e94).fr e100 (hb95.djn m67.lt))
    have u140 := ((m71.ext e94).frS e100 (hb95.djn (r35.ltF.le (t_ e39.n e65.n))))
    obtain rfl := oi_ r138
    exact k79 n75 _ _ (Nat.lt_succ_self _) ⟨(i0 + 1), p1, (.slice a80 n81 c82), f69, hn78, ha_, (FrS.step e39.wf ((FrS.step e39.wf (FrS.refl (W := [b31]) e39.wf) e65 Inn.refl').extR e94) e100 (hb95.fresh e65.n)), u139, u140, (i72.fresh (Nat.le_refl _))⟩
   have r141 := ite_bf h115 r106
   refine w_skip (k102 _ _ (g_' (q_ (pt_ b31 1) ?_)))
   have u142 := ((m71.ext e94).frS e100 (hb95.djn (r35.ltF.le (t_ e39.n e65.n))))
   refine l_' (.slice a80 n81 c82) (aL_ 31 (pt_ b31 1) H98) (u142.l_) ?_
   refine l_' (.agg #[i_ ((gt Arcs i0).1), i_ ((gt Arcs i0).2.1), .int .u64 ((gt Arcs i0).2.2.1), i_ ((gt Arcs i0).2.2.2)]) (aL_ 73 (pt_ b92 0) H98) (r101.l_) ?_
   refine s_owk (enc := enc_i64_i64_u64_i64) (sz := 4) e100.wf [((gt Arcs i0).1, (gt Arcs i0).2.1, (gt Arcs i0).2.2.1, (gt Arcs i0).2.2.2)] 1 (by decide) (fun _ _ => rfl) (fun _ _ => rfl) rfl (by kernel_rfl) fun s143 f144 H145 e146 hf147 hm148 => ?_
   obtain ⟨a149, n150, c151, rfl⟩ := hm148.form
   have u153 := (((m67.ext e94).fr e100 (hb95.djn m67.lt)).ext e146)
   obtain ⟨g154, r155⟩ := G_some r141
   obtain ⟨s156, H157, f158, q162, e159, hm160, hf161⟩ := Ow.append (P := Try.prog) 32 e146.wf u153 hm148.sq (fun _ _ => rfl) (at_ := #[31, 31]) rfl rfl (by kernel_rfl) (by kernel_rfl) (by decide) (by have := g154; first | omega | (simp only [List.length_cons, List.length_nil] at this ⊢; omega) | (simp at this ⊢; omega))
   obtain ⟨a163, n164, c165, rfl⟩ := hm160.form
   refine s_ek (.slice a163 n164 c165) (by kernel_rfl) (q162) ?_
   refine q_ (pt_ b31 1) ?_
   have u171 := ((u142.ext e146).frS e159 (i72.djn (r35.ltF.le e39.n)))
   obtain ⟨H167, q168, e169, r170⟩ := Row.store (P := Try.prog) (t := 31) (p := 1) e159.wf u171 (.slice a163 n164 c165) [.slice a163 n164 c165] (by kernel_rfl) (by kernel_rfl) (one_cons (hm160.one1) (one_nil)) (Nat.le_of_ble_eq_true (by kernel_rfl)) [.slice a28 n29 c30, .slice a163 n164 c165] (by kernel_rfl)
   refine s_ek (undef) (by kernel_rfl) (map_ok q168) ?_
   refine s_nil (k87 _ _ (g_' ?_))
   obtain ⟨g172, r173⟩ := G_some r155
   refine w_' (i0 + 1) (wrap64 (by have := g172; omega)) ?_
   refine q_ (i_ (i0 + 1)) (s_nil ?_)
   have u174 := (hm160.fr e169 (Dj.symm (hf161.dj (i72.djn (r35.ltF.le e39.n)) (r35.ltF.le (t_ (t_ (t_ (t_ e39.n e65.n) e94.n) e100.n) e146.n)))))
   obtain rfl := oi_ r173
   exact k79 n75 _ _ (Nat.lt_succ_self _) ⟨(i0 + 1), (p1 ++ [((gt Arcs i0).1, (gt Arcs i0).2.1, (gt Arcs i0).2.2.1, (gt Arcs i0).2.2.2)]), (.slice a163 n164 c165), f158, hn78, ha_, (FrS.step e39.wf (FrS.step e39.wf ((FrS.step e39.wf ((FrS.step e39.wf (FrS.refl (W := [b31]) e39.wf) e65 Inn.refl').extR e94) e100 (hb95.fresh e65.n)).extR e146) e159 (i72.fresh (Nat.le_refl _))) e169 Inn.refl'), u174, r170, (Inn.trans (i72.fresh (Nat.le_refl _)) (t_ (t_ (t_ e65.n e94.n) e100.n) e146.n) hf161)⟩
  have r175 := ite_f h85 hz77
  refine w_exit (th_exit (th_exit (bl_eq ?_)))
  obtain rfl := oi_ r175
  obtain rfl := it_inr hn78
  exact k60 _ _ ⟨_, rfl, (.slice a80 n81 c82), f69, ha_, (FrS.step e39.wf (FrS.refl (W := [b31]) e39.wf) e65 Inn.refl'), m67, m71, (i72.fresh (Nat.le_refl _))⟩
 obtain ⟨o47, rfl, s55, f56, hh61, e52, m54, m58, i59⟩ := hM
 have r176 := elim_inr r49
 obtain ⟨β, rfl⟩ := has_ex hh61
 clear hh61
 obtain ⟨a177, n178, c179, rfl⟩ := m54.form
 refine k43 _ _ (w_seqk fun _ k180 => g_' (q_ (pt_ b31 1) ?_))
 refine l_' (.slice a177 n178 c179) (aL_ 31 (pt_ b31 1) H51) (m58.l_) ?_
 have u181 := ((((r17.ext e21).ext e33).frS e39 (hb34.djn (r17.ltF.le e21.n))).frS e52 (hb34.djn (r17.ltF.le e21.n)))
 refine l_' (.agg #[i_ From, i_ To, .int .u64 Weight, i_ Via]) (aL_ 73 (pt_ b13 0) H51) (u181.l_) ?_
 refine s_owk (enc := enc_i64_i64_u64_i64) (sz := 4) e52.wf [(From, To, Weight, Via)] 1 (by decide) (fun _ _ => rfl) (fun _ _ => rfl) rfl (by kernel_rfl) fun s182 f183 H184 e185 hf186 hm187 => ?_
 obtain ⟨a188, n189, c190, rfl⟩ := hm187.form
 have u192 := (m54.ext e185)
 obtain ⟨g193, r194⟩ := G_some r176
 obtain ⟨s195, H196, f197, q201, e198, hm199, hf200⟩ := Ow.append (P := Try.prog) 32 e185.wf u192 hm187.sq (fun _ _ => rfl) (at_ := #[31, 31]) rfl rfl (by kernel_rfl) (by kernel_rfl) (by decide) (by have := g193; first | omega | (simp only [List.length_cons, List.length_nil] at this ⊢; omega) | (simp at this ⊢; omega))
 obtain ⟨a202, n203, c204, rfl⟩ := hm199.form
 refine s_ek (.slice a202 n203 c204) (by kernel_rfl) (q201) ?_
 refine q_ (pt_ b31 1) ?_
 have u210 := ((m58.ext e185).frS e198 (i59.djn (r35.ltF.le e39.n)))
 obtain ⟨H206, q207, e208, r209⟩ := Row.store (P := Try.prog) (t := 31) (p := 1) e198.wf u210 (.slice a202 n203 c204) [.slice a202 n203 c204] (by kernel_rfl) (by kernel_rfl) (one_cons (hm199.one1) (one_nil)) (Nat.le_of_ble_eq_true (by kernel_rfl)) [.slice a28 n29 c30, .slice a202 n203 c204] (by kernel_rfl)
 refine s_ek (undef) (by kernel_rfl) (map_ok q207) ?_
 refine s_nil (k180 _ _ (w_seqk fun _ k211 => g_' ?_))
 refine l_' (.agg #[.slice a28 n29 c30, .slice a202 n203 c204]) (aL_ 33 (pt_ b31 0) H206) (r209.l_) ?_
 refine q_ (.bool true) ?_
 have u216 := ((((((r23.ext e33).frS e39 (hb34.djn r23.ltF)).frS e52 (hb34.djn r23.ltF)).ext e185).frS e198 (i59.djn (r23.ltF.le (t_ e33.n e39.n)))).frS e208 (hb34.djn r23.ltF))
 have u217 := (hm199.fr e208 (Dj.symm (hf200.dj (i59.djn (r35.ltF.le e39.n)) (r35.ltF.le (t_ (t_ e39.n e52.n) e185.n)))))
 have u218 := (((((u41.fr e39 (hb34.djn (h_Alive.lt.le (t_ (t_ e9.n e15.n) e21.n)))).fr e52 (hb34.djn (h_Alive.lt.le (t_ (t_ e9.n e15.n) e21.n)))).ext e185).fr e198 (i59.djn (h_Alive.lt.le (t_ (t_ (t_ (t_ e9.n e15.n) e21.n) e33.n) e39.n)))).fr e208 (hb34.djn (h_Alive.lt.le (t_ (t_ e9.n e15.n) e21.n))))
 obtain ⟨H212, q213, e214, r215⟩ := Row.store (P := Try.prog) (t := 33) (p := 0) e208.wf u216 (.agg #[.slice a28 n29 c30, .slice a202 n203 c204]) [.slice a28 n29 c30, .slice a202 n203 c204] (by kernel_rfl) (by kernel_rfl) (one_cons (u218.one1) (one_cons (u217.one1) (one_nil))) (Nat.le_of_ble_eq_true (by kernel_rfl)) [.slice a28 n29 c30, .slice a202 n203 c204] (by kernel_rfl)
 refine s_ek (undef) (by kernel_rfl) (map_ok q213) ?_
 refine q_ (.bool true) (s_nil (k211 _ _ ?_))
 refine w_ret ?_
 refine b_ret (fn := Try.f33) (vs := [.agg #[.slice a28 n29 c30, .slice a202 n203 c204], .bool true]) (aRes_cell (Eq.trans (b := aL_ 33 (pt_ b19 0) H212) (by kernel_rfl) (r215.l_)) (rt_ (rfl))) ?_
 have u219 := (u217.fr e214 (Dj.symm (hf200.dj (i59.djn (r23.ltF.le (t_ e33.n e39.n))) (r23.ltF.le (t_ (t_ (t_ e33.n e39.n) e52.n) e185.n)))))
 obtain rfl := oi_ r194
 exact ⟨(.slice a202 n203 c204), f197, rfl, (FrS.step wf (FrS.step wf (FrS.step wf ((FrS.step wf (FrS.step wf (((((f0_ wf).extR e9).extR e15).extR e21).extR e33) e39 (hb34.fresh (t_ (t_ e9.n e15.n) e21.n))) e52 (hb34.fresh (t_ (t_ e9.n e15.n) e21.n))).extR e185) e198 (i59.fresh (t_ (t_ (t_ (t_ e9.n e15.n) e21.n) e33.n) e39.n))) e208 (hb34.fresh (t_ (t_ e9.n e15.n) e21.n))) e214 (hb22.fresh (t_ e9.n e15.n))), u219.sq, (Inn.trans (i59.fresh (t_ (t_ (t_ (t_ e9.n e15.n) e21.n) e33.n) e39.n)) (t_ (t_ (t_ (t_ (t_ (t_ e9.n e15.n) e21.n) e33.n) e39.n) e52.n) e185.n) hf200)⟩
theorem c_overlay_Overlay_Remove_nil {H : AH} {v_ : Int} {r : Unit}
    (wf : WF H) (hr : z_overlay_Overlay_Remove_nil v_ = some r) :
    ACalls Try.prog 34 #[.pointer none, i_ v_] H fun v H' => v = .iface 90 (i_ 19) ∧ H = H' := by
 refine acalls_of_body mixed Try.func34 rfl (Nat.le_of_ble_eq_true rfl) ?_
 unfold z_overlay_Overlay_Remove_nil at hr
 refine w_seqk fun _ k1 => g_' (q_ (.nilIface) (s_nil (k1 _ _ (w_seqk fun _ k2 => w_seqk fun _ k3 => g_' (q_ (.pointer none) (q_ (.bool true) (s_nil (k3 _ _ ?_))))))))
 refine w_cond true (by kernel_rfl) rfl (fun _ => ?_) (fun h => by cases h)
 refine w_seqk fun _ k4 => g_' (q_ (.iface 90 (i_ 19)) (q_ (.iface 90 (i_ 19)) (s_nil (k4 _ _ ?_))))
 refine w_ret (th_ret ?_)
 refine b_ret (fn := Try.f34) (vs := [.iface 90 (i_ 19)]) (rt_ (rfl)) ?_
 obtain rfl := oi_ hr
 exact ⟨rfl, rfl⟩
theorem c_viaductref11_Remove {H : AH} {hd_Alive : Value} {fp_Alive : Fp} {hd_Arcs : Value} {fp_Arcs : Fp} {Alive : List (Bool)} {Arcs : List (Int × Int × Int × Int)} {v_ : Int} {r : List (Bool) × List (Int × Int × Int × Int)}
    (wf : WF H) (h_Alive : Sq encB 1 H hd_Alive Alive fp_Alive) (h_Arcs : Sq enc_i64_i64_u64_i64 4 H hd_Arcs Arcs fp_Arcs) (hr : z_viaductref11_Remove Alive Arcs v_ = some r) :
    ACalls Try.prog 15 #[.agg #[hd_Alive, hd_Arcs], i_ v_] H fun v H' => ∃ (s3 : Value) (f4 : Fp) (s7 : Value) (f8 : Fp), v = .agg #[s3, s7] ∧ FrS [] H H' ∧ Ow encB 1 H' s3 r.1 f4 ∧ Ow enc_i64_i64_u64_i64 4 H' s7 r.2 f8 ∧ Inn [] H f4 ∧ Inn [] H f8 ∧ Dj f4 f8 := by
 refine acalls_of_body mixed Try.func15 rfl (Nat.le_of_ble_eq_true rfl) ?_
 unfold z_viaductref11_Remove at hr
 refine w_seqk fun _ k12 => g_' ?_
 refine s_rwl wf [hd_Alive, hd_Arcs] (one_cons (h_Alive.one1) (one_cons (h_Arcs.one1) (one_nil))) (by kernel_rfl) fun b13 H14 e15 hb16 r17 => ?_
 refine s_rwk e15.wf [.slice none 0 0, .slice none 0 0] (by kernel_rfl) fun b19 H20 e21 hb22 r23 => ?_
 refine s_nil (k12 _ _ (w_seqk fun _ k25 => g_' ?_))
 refine s_rwk e21.wf [.slice none 0 0, .slice none 0 0] (by kernel_rfl) fun b26 H27 e28 hb29 r30 => ?_
 refine s_nil (k25 _ _ (w_seqk fun _ k32 => g_' (q_ (pt_ b26 0) ?_)))
 refine l_' (.slice none 0 0) (aL_ 30 (pt_ b26 0) H27) (r30.l_) ?_
 refine q_ (pt_ b13 0) ?_
 have u33 := ((r17.ext e21).ext e28)
 refine l_' (hd_Alive) (aL_ 30 (pt_ b13 0) H27) (u33.l_) ?_
 obtain ⟨g34, r35⟩ := G_some hr
 have u43 := (((h_Alive.ext e15).ext e21).ext e28)
 obtain ⟨s36, H37, f38, q42, e39, hm40, hf41⟩ := Ow.append (P := Try.prog) 1 e28.wf (Ow.nil (enc := encB) (sz := 1) (by decide)) u43 (fun _ _ => rfl) (at_ := #[30, 30]) rfl rfl (by kernel_rfl) (by kernel_rfl) (by decide) (by have := g34; first | omega | (simp only [List.length_cons, List.length_nil] at this ⊢; omega) | (simp at this ⊢; omega))
 obtain ⟨a44, n45, c46, rfl⟩ := hm40.form
 refine s_ek (.slice a44 n45 c46) (by kernel_rfl) (q42) ?_
 refine q_ (pt_ b26 0) ?_
 have u52 := (r30.frS e39 Dj.nil_l)
 obtain ⟨H48, q49, e50, r51⟩ := Row.store (P := Try.prog) (t := 30) (p := 0) e39.wf u52 (.slice a44 n45 c46) [.slice a44 n45 c46] (by kernel_rfl) (by kernel_rfl) (one_cons (hm40.one1) (one_nil)) (Nat.le_of_ble_eq_true (by kernel_rfl)) [.slice a44 n45 c46, .slice none 0 0] (by kernel_rfl)
 refine s_ek (undef) (by kernel_rfl) (map_ok q49) ?_
 refine s_nil (k32 _ _ (w_seqk fun _ k53 => g_' (q_ (pt_ b26 0) ?_)))
 refine l_' (.slice a44 n45 c46) (aL_ 30 (pt_ b26 0) H48) (r51.l_) ?_
 refine q_ (i_ v_) ?_
 obtain ⟨g54, r55⟩ := G_some r35
 have u56 := (hm40.fr e50 (Dj.symm (hf41.djn r30.ltF)))
 refine l_' (elp (.slice a44 n45 c46) 1 v_.toNat 0) (aIndexAddr Try.prog 30 (.slice a44 n45 c46) (i_ v_)) (u56.sq.idxb (by kernel_rfl) g54.1 g54.2) ?_
 obtain ⟨H57, q58, e59, hm60⟩ := Ow.store (P := Try.prog) (t := 4) (off := 0) e50.wf u56 g54.1 g54.2 (.bool false) [.bool false] (by kernel_rfl) (by kernel_rfl) rfl false (Nat.le_of_ble_eq_true rfl) (by kernel_rfl)
 refine s_ek (undef) (by kernel_rfl) (map_ok q58) ?_
 refine s_nil (k53 _ _ (w_seqk fun _ k61 => w_seqk fun _ k62 => g_' (q_ (pt_ b13 1) ?_)))
 have u63 := (((u33.frS e39 Dj.nil_l).frS e50 (hb29.djn (r17.ltF.le e21.n))).frS e59 (hf41.djn (r17.ltF.le (t_ e21.n e28.n))))
 refine l_' (hd_Arcs) (aL_ 31 (pt_ b13 1) H57) (u63.l_) ?_
 have u64 := ((((((h_Arcs.ext e15).ext e21).ext e28).fr e39 Dj.nil_l).fr e50 (hb29.djn (h_Arcs.lt.le (t_ e15.n e21.n)))).fr e59 (hf41.djn (h_Arcs.lt.le (t_ (t_ e15.n e21.n) e28.n))))
 refine l_' (i_ (Arcs.length : Int)) (aLen Try.prog 31 hd_Arcs H57) (u64.lenb (by kernel_rfl)) ?_
 refine q_ (i_ 0) (s_nil (k62 _ _ ?_))
 obtain ⟨o65, hx66, r67⟩ := bind_some r55
 refine w_mid (fun α H68 => ∃ (s72 : Value) (f73 : Fp), Has α [(4, pt_ b19 0), (5, pt_ b26 0)] ∧ FrS [b26] H57 H68 ∧ Ow enc_i64_i64_u64_i64 4 H68 s72 o65 f73 ∧ Row H68 b26 [.slice a44 n45 c46, s72] ∧ Inn [] H57 f73) (fun _ k77 => ?_) (fun α H68 hM => ?_)
 ·refine w_block ?_
  obtain ⟨n79, hn80⟩ := loopO_iff.1 hx66
  have u96 := (r51.frS e59 (hf41.djn r30.ltF))
  refine w_loopn (fun n α H81 => ∃ (i0 : Int), ∃ (p1 : List (Int × Int × Int × Int)), ∃ (s85 : Value), ∃ (f86 : Fp), iterO (fun zz_ => z_viaductref11_Remove_l0 Arcs v_ zz_.1 zz_.2) n (i0, p1) = some o65 ∧ Has α [(1, i_ v_), (4, pt_ b19 0), (5, pt_ b26 0), (19, hd_Arcs), (20, i_ (Arcs.length : Int)), (21, i_ i0)] ∧ FrS [b26] H57 H81 ∧ Ow enc_i64_i64_u64_i64 4 H81 s85 p1 f86 ∧ Row H81 b26 [.slice a44 n45 c46, s85] ∧ Inn [] H57 f86) n79 ⟨0, [], (.slice none 0 0), [], hn80, ha_, (FrS.refl (W := [b26]) e59.wf), (Ow.nil (by decide)), u96, Inn.nil⟩ ?_
  rintro n79 α H81 ⟨i0, p1, s85, f86, hi91, hh90, e82, m84, m88, i89⟩ K97 k97
  obtain ⟨n92, z93, rfl, hz94, hn95⟩ := iter_succ hi91
  obtain ⟨β, rfl⟩ := has_ex hh90
  clear hh90
  replace hz94 : z_viaductref11_Remove_l0 Arcs v_ i0 p1 = some z93 := hz94
  unfold z_viaductref11_Remove_l0 at hz94
  obtain ⟨a98, n99, c100, rfl⟩ := m84.form
  refine w_seqk fun _ k101 => g_' (q_ (.bool (decide (i0 < (Arcs.length : Int)))) (s_nil (k101 _ _ (w_seqk fun _ k102 => ?_))))
  refine w_condp (i0 < (Arcs.length : Int)) (by kernel_rfl) rfl (fun h103 => ?_) (fun h103 => ?_)
  ·have r104 := ite_t h103 hz94
   refine w_skip (k102 _ _ (w_seqk fun _ k105 => w_block (w_seqk fun _ k106 => g_' ?_)))
   obtain ⟨g107, r108⟩ := G_some r104
   have u109 := (u64.fr e82 (hb29.djn (h_Arcs.lt.le (t_ e15.n e21.n))))
   refine l_' (elp hd_Arcs 4 i0.toNat 0) (aIndexAddr Try.prog 31 hd_Arcs (i_ i0)) (u109.idxb (by kernel_rfl) g107 h103) ?_
   refine l_' (.agg #[i_ ((gt Arcs i0).1), i_ ((gt Arcs i0).2.1), .int .u64 ((gt Arcs i0).2.2.1), i_ ((gt Arcs i0).2.2.2)]) (aL_ 73 (elp hd_Arcs 4 i0.toNat 0) H81) (u109.ld g107 h103 (by kernel_rfl)) ?_
   refine s_rwk e82.wf [i_ 0, i_ 0, .int .u64 0, i_ 0] (by kernel_rfl) fun b110 H111 e112 hb113 r114 => ?_
   obtain ⟨H116, q117, e118, r119⟩ := Row.store (P := Try.prog) (t := 73) (p := 0) e112.wf r114 (.agg #[i_ ((gt Arcs i0).1), i_ ((gt Arcs i0).2.1), .int .u64 ((gt Arcs i0).2.2.1), i_ ((gt Arcs i0).2.2.2)]) [i_ ((gt Arcs i0).1), i_ ((gt Arcs i0).2.1), .int .u64 ((gt Arcs i0).2.2.1), i_ ((gt Arcs i0).2.2.2)] (by kernel_rfl) (by kernel_rfl) (one_cons (rfl) (one_cons (rfl) (one_cons (rfl) (one_cons (rfl) (one_nil))))) (Nat.le_of_ble_eq_true (by kernel_rfl)) [i_ ((gt Arcs i0).1), i_ ((gt Arcs i0).2.1), .int .u64 ((gt Arcs i0).2.2.1), i_ ((gt Arcs i0).2.2.2)] (by kernel_rfl)
   refine s_ek (undef) (by kernel_rfl) (map_ok q117) ?_
   refine s_nil (k106 _ _ (w_seqk fun _ k120 => ?_))
   obtain ⟨o121, hx122, r123⟩ := bind_some r108
   refine w_mid (fun α H124 => Has α [(1, i_ v_), (4, pt_ b19 0), (5, pt_ b26 0), (7, pt_ b110 0), (19, hd_Arcs), (20, i_ (Arcs.length : Int)), (21, i_ i0), (34, .bool o121)] ∧ H116 = H124) (fun _ k126 => ?_) (fun α H124 hM => ?_)
   ·refine g_' (q_ (pt_ b110 0) ?_)
    refine l_' (i_ ((gt Arcs i0).1)) (aL_ 3 (pt_ b110 0) H116) (r119.l_) ?_
    refine q_ (i_ v_) ?_
    refine s_bn (((gt Arcs i0).1) = v_) (by kernel_rfl) (fun h128 => ?_) (fun h128 => ?_)
    ·have r129 := ite_t h128 hx122
     refine q_ (.bool false) (n_' (n_' (n_' (n_' (q_ (.bool false) (s_nil ?_))))))
     obtain rfl := oi_ r129
     exact k126 _ _ ⟨ha_, rfl⟩
    have r130 := ite_f h128 hx122
    refine q_ (.bool true) (q_ (pt_ b110 1) ?_)
    refine l_' (i_ ((gt Arcs i0).2.1)) (aL_ 3 (pt_ b110 1) H116) (r119.l_) ?_
    refine q_ (i_ v_) (q_ (.bool (!decide (((gt Arcs i0).2.1) = v_))) (q_ (.bool (!decide (((gt Arcs i0).2.1) = v_))) (s_nil ?_)))
    obtain rfl := oi_ r130
    exact k126 _ _ ⟨ha_, rfl⟩
   obtain ⟨hh127, rfl⟩ := hM
   obtain ⟨β, rfl⟩ := has_ex hh127
   clear hh127
   refine k120 _ _ ?_
   refine w_cond (o121) (by kernel_rfl) rfl (fun h131 => ?_) (fun h131 => ?_)
   ·have r132 := ite_t h131 r123
    refine g_' (q_ (pt_ b26 1) ?_)
    have u133 := ((m88.ext e112).frS e118 (hb113.djn (r30.ltF.le (t_ (t_ (t_ e39.n e50.n) e59.n) e82.n))))
    refine l_' (.slice a98 n99 c100) (aL_ 31 (pt_ b26 1) H116) (u133.l_) ?_
    refine l_' (.agg #[i_ ((gt Arcs i0).1), i_ ((gt Arcs i0).2.1), .int .u64 ((gt Arcs i0).2.2.1), i_ ((gt Arcs i0).2.2.2)]) (aL_ 73 (pt_ b110 0) H116) (r119.l_) ?_
    refine s_owk (enc := enc_i64_i64_u64_i64) (sz := 4) e118.wf [((gt Arcs i0).1, (gt Arcs i0).2.1, (gt Arcs i0).2.2.1, (gt Arcs i0).2.2.2)] 1 (by decide) (fun _ _ => rfl) (fun _ _ => rfl) rfl (by kernel_rfl) fun s134 f135 H136 e137 hf138 hm139 => ?_
    obtain ⟨a140, n141, c142, rfl⟩ := hm139.form
    have u144 := (((m84.ext e112).fr e118 (hb113.djn m84.lt)).ext e137)
    obtain ⟨g145, r146⟩ := G_some r132
    obtain ⟨s147, H148, f149, q153, e150, hm151, hf152⟩ := Ow.append (P := Try.prog) 32 e137.wf u144 hm139.sq (fun _ _ => rfl) (at_ := #[31, 31]) rfl rfl (by kernel_rfl) (by kernel_rfl) (by decide) (by have := g145; first | omega | (simp only [List.length_cons, List.length_nil] at this ⊢; omega) | (simp at this ⊢; omega))
    obtain ⟨a154, n155, c156, rfl⟩ := hm151.form
    refine s_ek (.slice a154 n155 c156) (by kernel_rfl) (q153) ?_
    refine q_ (pt_ b26 1) ?_
    have u162 := ((u133.ext e137).frS e150 (i89.djn (r30.ltF.le (t_ (t_ e39.n e50.n) e59.n))))
    obtain ⟨H158, q159, e160, r161⟩ := Row.store (P := Try.prog) (t := 31) (p := 1) e150.wf u162 (.slice a154 n155 c156) [.slice a154 n155 c156] (by kernel_rfl) (by kernel_rfl) (one_cons (hm151.one1) (one_nil)) (Nat.le_of_ble_eq_true (by kernel_rfl)) [.slice a44 n45 c46, .slice a154 n155 c156] (by kernel_rfl)
    refine s_ek (undef) (by kernel_rfl) (map_ok q159) ?_
    refine s_nil (k105 _ _ (g_' ?_))
    obtain ⟨g163, r164⟩ := G_some r146
    refine w_' (i0 + 1) (wrap64 (by have := g163; omega)) ?_
    refine q_ (i_ (i0 + 1)) (s_nil ?_)
    have u165 := (hm151.fr e160 (Dj.symm (hf152.dj (i89.djn (r30.ltF.le (t_ (t_ e39.n e50.n) e59.n))) (r30.ltF.le (t_ (t_ (t_ (t_ (t_ (t_ e39.n e50.n) e59.n) e82.n) e112.n) e118.n) e137.n)))))
    obtain rfl := oi_ r164
    exact k97 n92 _ _ (Nat.lt_succ_self _) ⟨(i0 + 1), (p1 ++ [((gt Arcs i0).1, (gt Arcs i0).2.1, (gt Arcs i0).2.2.1, (gt Arcs i0).2.2.2)]), (.slice a154 n155 c156), f149, hn95, ha_, (FrS.step e59.wf (FrS.step e59.wf ((FrS.step e59.wf ((FrS.step e59.wf (FrS.refl (W := [b26]) e59.wf) e82 Inn.refl').extR e112) e118 (hb113.fresh e82.n)).extR e137) e150 (i89.fresh (Nat.le_refl _))) e160 Inn.refl'), u165, r161, (Inn.trans (i89.fresh (Nat.le_refl _)) (t_ (t_ (t_ e82.n e112.n) e118.n) e137.n) hf152)⟩
   have r166 := ite_bf h131 r123
   refine w_skip (k105 _ _ (g_' ?_))
   obtain ⟨g167, r168⟩ := G_some r166
   refine w_' (i0 + 1) (wrap64 (by have := g167; omega)) ?_
   refine q_ (i_ (i0 + 1)) (s_nil ?_)
   have u169 := ((m84.ext e112).fr e118 (hb113.djn m84.lt))
   have u170 := ((m88.ext e112).frS e118 (hb113.djn (r30.ltF.le (t_ (t_ (t_ e39.n e50.n) e59.n) e82.n))))
   obtain rfl := oi_ r168
   exact k97 n92 _ _ (Nat.lt_succ_self _) ⟨(i0 + 1), p1, (.slice a98 n99 c100), f86, hn95, ha_, (FrS.step e59.wf ((FrS.step e59.wf (FrS.refl (W := [b26]) e59.wf) e82 Inn.refl').extR e112) e118 (hb113.fresh e82.n)), u169, u170, (i89.fresh (Nat.le_refl _))⟩
  have r171 := ite_f h103 hz94
  refine w_exit (th_exit (th_exit (bl_eq ?_)))
  obtain rfl := oi_ r171
  obtain rfl := it_inr hn95
  exact k77 _ _ ⟨(.slice a98 n99 c100), f86, ha_, (FrS.step e59.wf (FrS.refl (W := [b26]) e59.wf) e82 Inn.refl'), m84, m88, (i89.fresh (Nat.le_refl _))⟩
 obtain ⟨s72, f73, hh78, e69, m71, m75, i76⟩ := hM
 obtain ⟨β, rfl⟩ := has_ex hh78
 clear hh78
 obtain ⟨a172, n173, c174, rfl⟩ := m71.form
 refine k61 _ _ (w_seqk fun _ k175 => g_' ?_)
 refine l_' (.agg #[.slice a44 n45 c46, .slice a172 n173 c174]) (aL_ 33 (pt_ b26 0) H68) (m75.l_) ?_
 have u180 := (((((r23.ext e28).frS e39 Dj.nil_l).frS e50 (hb29.djn r23.ltF)).frS e59 (hf41.djn (r23.ltF.le e28.n))).frS e69 (hb29.djn r23.ltF))
 have u181 := (hm60.fr e69 (Dj.symm (hf41.djn r30.ltF)))
 obtain ⟨H176, q177, e178, r179⟩ := Row.store (P := Try.prog) (t := 33) (p := 0) e69.wf u180 (.agg #[.slice a44 n45 c46, .slice a172 n173 c174]) [.slice a44 n45 c46, .slice a172 n173 c174] (by kernel_rfl) (by kernel_rfl) (one_cons (u181.one1) (one_cons (m71.one1) (one_nil))) (Nat.le_of_ble_eq_true (by kernel_rfl)) [.slice a44 n45 c46, .slice a172 n173 c174] (by kernel_rfl)
 refine s_ek (undef) (by kernel_rfl) (map_ok q177) ?_
 refine s_nil (k175 _ _ ?_)
 refine w_ret ?_
 refine b_ret (fn := Try.f15) (vs := [.agg #[.slice a44 n45 c46, .slice a172 n173 c174]]) (aRes_cell (Eq.trans (b := aL_ 33 (pt_ b19 0) H176) (by kernel_rfl) (r179.l_)) (rfl)) ?_
 have u182 := (u181.fr e178 (Dj.symm (hf41.djn (r23.ltF.le e28.n))))
 have u183 := (m71.fr e178 (Dj.symm (i76.djn (r23.ltF.le (t_ (t_ (t_ e28.n e39.n) e50.n) e59.n)))))
 obtain rfl := oi_ r67
 exact ⟨(.slice a44 n45 c46), f38, (.slice a172 n173 c174), f73, rfl, (FrS.step wf (FrS.step wf (FrS.step wf (FrS.step wf (FrS.step wf ((((f0_ wf).extR e15).extR e21).extR e28) e39 Inn.nil) e50 (hb29.fresh (t_ e15.n e21.n))) e59 (hf41.fresh (t_ (t_ e15.n e21.n) e28.n))) e69 (hb29.fresh (t_ e15.n e21.n))) e178 (hb22.fresh e15.n)), u182, u183, (hf41.fresh (t_ (t_ e15.n e21.n) e28.n)), (i76.fresh (t_ (t_ (t_ (t_ (t_ e15.n e21.n) e28.n) e39.n) e50.n) e59.n)), (Dj.symm (i76.djn (hm40.lt.le (t_ e50.n e59.n))))⟩
theorem c_overlay_Overlay_Alive {H : AH} {b_o : Nat} {hd_o_ : Value} {fp_o_ : Fp} {o_ : List (Bool × List (Int × Int × Int) × List (Int × Int × Int))} {o_2 : Int} {o_3 : Int} {v_ : Int} {r : Bool}
    (wf : WF H) (h_o_ : Nd enc_i64_u64_i64 3 H hd_o_ o_ fp_o_ []) (h_o : Row H b_o [hd_o_, i_ o_2, i_ o_3]) (hr : z_overlay_Overlay_Alive o_ o_2 o_3 v_ = some r) :
    ACalls Try.prog 24 #[pt_ b_o 0, i_ v_] H fun v H' => v = .bool r ∧ H = H' := by
 refine acalls_of_body mixed Try.func24 rfl (Nat.le_of_ble_eq_true rfl) ?_
 unfold z_overlay_Overlay_Alive at hr
 refine w_seqk fun _ k1 => g_' (q_ (.bool false) (s_nil (k1 _ _ (w_seqk fun _ k2 => g_' (q_ (pt_ b_o 0) (q_ (.bool true) (q_ (.bool true) (q_ (i_ v_) ?_))))))))
 refine s_b (v_ ≥ 0) (by kernel_rfl) (fun h3 => ?_) (fun h3 => ?_)
 ·have r4 := ite_t h3 hr
  refine q_ (.bool true) (q_ (.bool true) (q_ (i_ v_) (q_ (pt_ b_o 0) (q_ (pt_ b_o 0) (q_ (pt_ b_o 0) ?_)))))
  refine l_' (hd_o_) (aL_ 114 (pt_ b_o 0) H) (h_o.l_) ?_
  refine l_' (i_ (o_.length : Int)) (aLen Try.prog 114 hd_o_ H) (h_o_.lenb (by kernel_rfl)) ?_
  refine s_b (v_ < (o_.length : Int)) (by kernel_rfl) (fun h5 => ?_) (fun h5 => ?_)
  ·have r6 := ite_t h5 r4
   refine q_ (.bool true) (q_ (.bool true) (q_ (pt_ b_o 0) (q_ (pt_ b_o 0) (q_ (pt_ b_o 0) ?_))))
   refine l_' (hd_o_) (aL_ 114 (pt_ b_o 0) H) (h_o.l_) ?_
   refine q_ (i_ v_) ?_
   obtain ⟨g7, r8⟩ := G_some r6
   refine l_' (elp hd_o_ 3 v_.toNat 0) (aIndexAddr Try.prog 114 hd_o_ (i_ v_)) (h_o_.idxb (by kernel_rfl) g7 h5) ?_
   refine l_' (elp hd_o_ 3 v_.toNat 0) (aFieldAddr Try.prog 120 (elp hd_o_ 3 v_.toNat 0) 0) (Nd.fldq (d := 0) h_o_ g7 h5 (by kernel_rfl)) ?_
   obtain ⟨u9, u10, hl11, hk12⟩ := Nd.at h_o_ g7 h5
   refine l_' (.bool ((gt o_ v_).1)) (aL_ 4 (elp hd_o_ 3 v_.toNat 0) H) (hl11 _ _ _ _ (by kernel_rfl)) ?_
   refine q_ (.bool (!(gt o_ v_).1)) (q_ (.bool (!(gt o_ v_).1)) (q_ (.bool (!(gt o_ v_).1)) (s_nil (k2 _ _ ?_))))
   refine w_ret ?_
   refine b_ret (fn := Try.f24) (vs := [.bool (!(gt o_ v_).1)]) (rt_ (rfl)) ?_
   obtain rfl := oi_ r8
   exact ⟨rfl, rfl⟩
  have r13 := ite_f h5 r4
  refine q_ (.bool false) (q_ (.bool false) (n_' (n_' (n_' (n_' (n_' (n_' (n_' (n_' (n_' (q_ (.bool false) (q_ (.bool false) (s_nil (k2 _ _ ?_))))))))))))))
  refine w_ret ?_
  refine b_ret (fn := Try.f24) (vs := [.bool false]) (rt_ (rfl)) ?_
  obtain rfl := oi_ r13
  exact ⟨rfl, rfl⟩
 have r14 := ite_f h3 hr
 refine q_ (.bool false) (q_ (.bool false) (n_' (n_' (n_' (n_' (n_' (n_' (n_' (q_ (.bool false) (q_ (.bool false) (n_' (n_' (n_' (n_' (n_' (n_' (n_' (n_' (n_' (q_ (.bool false) (q_ (.bool false) (s_nil (k2 _ _ ?_)))))))))))))))))))))))
 refine w_ret ?_
 refine b_ret (fn := Try.f24) (vs := [.bool false]) (rt_ (rfl)) ?_
 obtain rfl := oi_ r14
 exact ⟨rfl, rfl⟩
theorem c_overlay_find_1 {H : AH} {Node : Int} {Weight : Int} {Via : Int} {v_ : Int} {r : Int}
    (wf : WF H) (hr : z_overlay_find_1 Node Weight Via v_ = some r) :
    ACalls Try.prog 76 #[.agg #[i_ Node, .int .u64 Weight, i_ Via], i_ v_] H fun v H' => v = i_ r ∧ FrS [] H H' := by
 refine acalls_of_body mixed Try.func76 rfl (Nat.le_of_ble_eq_true rfl) ?_
 unfold z_overlay_find_1 at hr
 refine w_seqk fun _ k1 => g_' ?_
 refine s_rwl wf [i_ Node, .int .u64 Weight, i_ Via] (one_cons (rfl) (one_cons (rfl) (one_cons (rfl) (one_nil)))) (by kernel_rfl) fun b2 H3 e4 hb5 r6 => ?_
 refine q_ (i_ 0) (s_nil (k1 _ _ (w_seqk fun _ k8 => g_' (q_ (pt_ b2 0) ?_))))
 refine l_' (i_ Node) (aL_ 3 (pt_ b2 0) H3) (r6.l_) ?_
 refine q_ (i_ v_) (q_ (i_ (IntKind.i64.wrap (Node - v_))) (q_ (i_ (IntKind.i64.wrap (Node - v_))) (s_nil (k8 _ _ ?_))))
 refine w_ret ?_
 refine b_ret (fn := Try.f76) (vs := [i_ (IntKind.i64.wrap (Node - v_))]) (rt_ (rfl)) ?_
 obtain rfl := oi_ hr
 exact ⟨rfl, ((f0_ wf).extR e4)⟩
theorem c_slices_BinarySearchFunc {H : AH} {hd_x : Value} {fp_x : Fp} {x : List (Int × Int × Int)} {target : Int} {r : Int × Bool}
    (wf : WF H) (h_x : Sq enc_i64_u64_i64 3 H hd_x x fp_x) (hr : z_slices_BinarySearchFunc x target = some r) :
    ACalls Try.prog 75 #[hd_x, i_ target, .func (.func 76) #[] #[]] H fun v H' => v = .tuple #[i_ r.1, .bool r.2] ∧ FrS [] H H' := by
 refine acalls_of_body mixed Try.func75 rfl (Nat.le_of_ble_eq_true rfl) ?_
 unfold z_slices_BinarySearchFunc at hr
 refine w_seqk fun _ k1 => g_' (q_ (i_ 0) (q_ (.bool false) (s_nil (k1 _ _ (w_seqk fun _ k2 => g_' (q_ (hd_x) ?_))))))
 refine l_' (i_ (x.length : Int)) (aLen Try.prog 69 hd_x H) (h_x.lenb (by kernel_rfl)) ?_
 refine q_ (i_ (x.length : Int)) (s_nil (k2 _ _ (w_seqk fun _ k3 => g_' (q_ (i_ (x.length : Int)) (q_ (i_ 0) (q_ (i_ (x.length : Int)) (s_nil (k3 _ _ (w_seqk fun _ k4 => ?_)))))))))
 obtain ⟨o5, hx6, r7⟩ := bind_some hr
 refine w_mid (fun α H8 => Has α [(0, hd_x), (1, i_ target), (2, .func (.func 76) #[] #[]), (8, i_ (x.length : Int)), (9, i_ o5)] ∧ FrS [] H H8) (fun _ k10 => ?_) (fun α H8 hM => ?_)
 ·refine w_block ?_
  obtain ⟨n12, hn13⟩ := loopO_iff.1 hx6
  refine w_loopn (fun n α H14 => ∃ (j0 : Int), ∃ (i1 : Int), iterO (fun zz_ => z_slices_BinarySearchFunc_l0 x target zz_.1 zz_.2) n (j0, i1) = some o5 ∧ Has α [(0, hd_x), (1, i_ target), (2, .func (.func 76) #[] #[]), (8, i_ (x.length : Int)), (9, i_ i1), (10, i_ j0)] ∧ FrS [] H H14) n12 ⟨(x.length : Int), 0, hn13, ha_, (f0_ wf)⟩ ?_
  rintro n12 α H14 ⟨j0, i1, hi17, hh16, e15⟩ K22 k22
  obtain ⟨n18, z19, rfl, hz20, hn21⟩ := iter_succ hi17
  obtain ⟨β, rfl⟩ := has_ex hh16
  clear hh16
  replace hz20 : z_slices_BinarySearchFunc_l0 x target j0 i1 = some z19 := hz20
  unfold z_slices_BinarySearchFunc_l0 at hz20
  refine w_seqk fun _ k23 => w_seqk fun _ k24 => g_' (q_ (i_ i1) (q_ (i_ j0) (q_ (.bool (decide (i1 < j0))) (s_nil (k24 _ _ ?_)))))
  refine w_condp (i1 < j0) (by kernel_rfl) rfl (fun h25 => ?_) (fun h25 => ?_)
  ·have r26 := ite_t h25 hz20
   refine w_skip (k23 _ _ (w_block (w_seqk fun _ k27 => g_' (q_ (i_ i1) (q_ (i_ j0) ?_)))))
   obtain ⟨g28, r29⟩ := G_some r26
   refine w_' (i1 + j0) (wrap64 g28) ?_
   obtain ⟨g30, r31⟩ := G_some r29
   refine s_w ((i1 + j0)) (k := .u64) (x := (i1 + j0)) (by kernel_rfl) (wrapu64 g30) ?_
   refine l_' (.int .u64 ((i1 + j0) / 2)) (some (.int .u64 (Int.fdiv (i1 + j0) 2))) (by rw [Int.fdiv_eq_ediv_of_nonneg _ (by decide)]) ?_
   obtain ⟨g32, r33⟩ := G_some r31
   refine w_' ((i1 + j0) / 2) (wrap64 g32) ?_
   refine q_ (i_ ((i1 + j0) / 2)) (s_nil (k27 _ _ (w_seqk fun _ k34 => g_' (q_ (.func (.func 76) #[] #[]) (q_ (hd_x) (q_ (i_ ((i1 + j0) / 2)) ?_))))))
   obtain ⟨g35, r36⟩ := G_some r33
   have u37 := (h_x.fr e15 Dj.nil_l)
   refine l_' (elp hd_x 3 ((i1 + j0) / 2).toNat 0) (aIndexAddr Try.prog 69 hd_x (i_ ((i1 + j0) / 2))) (u37.idxb (by kernel_rfl) g35.1 g35.2) ?_
   refine l_' (.agg #[i_ ((gt x ((i1 + j0) / 2)).1), .int .u64 ((gt x ((i1 + j0) / 2)).2.1), i_ ((gt x ((i1 + j0) / 2)).2.2)]) (aL_ 71 (elp hd_x 3 ((i1 + j0) / 2).toNat 0) H14) (u37.ld g35.1 g35.2 (by kernel_rfl)) ?_
   refine q_ (i_ target) ?_
   obtain ⟨y38, hy39, r40⟩ := bind_some r36
   refine s_ck 76 #[.agg #[i_ ((gt x ((i1 + j0) / 2)).1), .int .u64 ((gt x ((i1 + j0) / 2)).2.1), i_ ((gt x ((i1 + j0) / 2)).2.2)], i_ target] (by kernel_rfl) (c_overlay_find_1 e15.wf hy39) ?_
   rintro _ H41 ⟨rfl, e42⟩
   refine q_ (.bool (decide (y38 < 0))) (s_nil (k34 _ _ ?_))
   refine w_condp (y38 < 0) (by kernel_rfl) rfl (fun h43 => ?_) (fun h43 => ?_)
   ·have r44 := ite_t h43 r40
    refine g_' (q_ (i_ ((i1 + j0) / 2)) ?_)
    obtain ⟨g45, r46⟩ := G_some r44
    refine w_' (((i1 + j0) / 2) + 1) (wrap64 (by have := g45; omega)) ?_
    refine q_ (i_ (((i1 + j0) / 2) + 1)) (s_nil ?_)
    obtain rfl := oi_ r46
    exact k22 n18 _ _ (Nat.lt_succ_self _) ⟨j0, (((i1 + j0) / 2) + 1), hn21, ha_, (FrS.step wf (FrS.step wf (f0_ wf) e15 Inn.nil) e42 Inn.nil)⟩
   have r47 := ite_f h43 r40
   refine g_' (q_ (i_ ((i1 + j0) / 2)) (q_ (i_ ((i1 + j0) / 2)) (s_nil ?_)))
   obtain rfl := oi_ r47
   exact k22 n18 _ _ (Nat.lt_succ_self _) ⟨((i1 + j0) / 2), i1, hn21, ha_, (FrS.step wf (FrS.step wf (f0_ wf) e15 Inn.nil) e42 Inn.nil)⟩
  have r48 := ite_f h25 hz20
  refine w_exit (th_exit (th_exit (bl_eq ?_)))
  obtain rfl := oi_ r48
  obtain rfl := it_inr hn21
  exact k10 _ _ ⟨ha_, (FrS.step wf (f0_ wf) e15 Inn.nil)⟩
 obtain ⟨hh11, e9⟩ := hM
 obtain ⟨β, rfl⟩ := has_ex hh11
 clear hh11
 refine k4 _ _ (w_seqk fun _ k49 => g_' (q_ (i_ o5) (q_ (i_ o5) (q_ (i_ (x.length : Int)) ?_))))
 refine s_b (o5 < (x.length : Int)) (by kernel_rfl) (fun h50 => ?_) (fun h50 => ?_)
 ·have r51 := ite_t h50 r7
  refine q_ (.bool true) (q_ (.func (.func 76) #[] #[]) (q_ (hd_x) (q_ (i_ o5) ?_)))
  obtain ⟨g52, r53⟩ := G_some r51
  have u54 := (h_x.fr e9 Dj.nil_l)
  refine l_' (elp hd_x 3 o5.toNat 0) (aIndexAddr Try.prog 69 hd_x (i_ o5)) (u54.idxb (by kernel_rfl) g52 h50) ?_
  refine l_' (.agg #[i_ ((gt x o5).1), .int .u64 ((gt x o5).2.1), i_ ((gt x o5).2.2)]) (aL_ 71 (elp hd_x 3 o5.toNat 0) H8) (u54.ld g52 h50 (by kernel_rfl)) ?_
  refine q_ (i_ target) ?_
  obtain ⟨y55, hy56, r57⟩ := bind_some r53
  refine s_ck 76 #[.agg #[i_ ((gt x o5).1), .int .u64 ((gt x o5).2.1), i_ ((gt x o5).2.2)], i_ target] (by kernel_rfl) (c_overlay_find_1 e9.wf hy56) ?_
  rintro _ H58 ⟨rfl, e59⟩
  refine q_ (.bool (decide (y55 = 0))) (q_ (.bool (decide (y55 = 0))) (q_ (i_ o5) (q_ (.bool (decide (y55 = 0))) (s_nil (k49 _ _ ?_)))))
  refine w_ret ?_
  refine b_ret (fn := Try.f75) (vs := [i_ o5, .bool (decide (y55 = 0))]) (rt_ (aRes_tmp (by kernel_rfl) (rfl))) ?_
  obtain rfl := oi_ r57
  exact ⟨rfl, (FrS.step wf (FrS.step wf (f0_ wf) e9 Inn.nil) e59 Inn.nil)⟩
 have r60 := ite_f h50 r7
 refine q_ (.bool false) (n_' (n_' (n_' (n_' (n_' (n_' (n_' (n_' (q_ (.bool false) (q_ (i_ o5) (q_ (.bool false) (s_nil (k49 _ _ ?_)))))))))))))
 refine w_ret ?_
 refine b_ret (fn := Try.f75) (vs := [i_ o5, .bool false]) (rt_ (aRes_tmp (by kernel_rfl) (rfl))) ?_
 obtain rfl := oi_ r60
 exact ⟨rfl, (FrS.step wf (f0_ wf) e9 Inn.nil)⟩
theorem c_overlay_find {H : AH} {hd_l : Value} {fp_l : Fp} {l : List (Int × Int × Int)} {v_ : Int} {r : Int × Bool}
    (wf : WF H) (h_l : Sq enc_i64_u64_i64 3 H hd_l l fp_l) (hr : z_overlay_find l v_ = some r) :
    ACalls Try.prog 64 #[hd_l, i_ v_] H fun v H' => v = .tuple #[i_ r.1, .bool r.2] ∧ FrS [] H H' := by
 refine acalls_of_body mixed Try.func64 rfl (Nat.le_of_ble_eq_true rfl) ?_
 unfold z_overlay_find at hr
 refine w_seqk fun _ k1 => g_' (q_ (i_ 0) (q_ (.bool false) (s_nil (k1 _ _ (w_seqk fun _ k2 => g_' (q_ (hd_l) (q_ (i_ v_) ?_)))))))
 obtain ⟨y3, hy4, r5⟩ := bind_some hr
 refine s_ck 75 #[hd_l, i_ v_, .func (.func 76) #[] #[]] (by kernel_rfl) (c_slices_BinarySearchFunc wf h_l hy4) ?_
 rintro _ H6 ⟨rfl, e7⟩
 refine q_ (i_ y3.1) (q_ (.bool y3.2) (q_ (i_ y3.1) (q_ (.bool y3.2) (s_nil (k2 _ _ ?_)))))
 refine w_ret ?_
 refine b_ret (fn := Try.f64) (vs := [i_ y3.1, .bool y3.2]) (rt_ (aRes_tmp (by kernel_rfl) (rfl))) ?_
 obtain rfl := oi_ r5
 exact ⟨rfl, (FrS.step wf (f0_ wf) e7 Inn.nil)⟩
theorem c_overlay_Overlay_Weight {H : AH} {b_o : Nat} {hd_o_ : Value} {fp_o_ : Fp} {o_ : List (Bool × List (Int × Int × Int) × List (Int × Int × Int))} {o_2 : Int} {o_3 : Int} {u : Int} {w : Int} {r : Int × Bool}
    (wf : WF H) (h_o_ : Nd enc_i64_u64_i64 3 H hd_o_ o_ fp_o_ []) (h_o : Row H b_o [hd_o_, i_ o_2, i_ o_3]) (hr : z_overlay_Overlay_Weight o_ o_2 o_3 u w = some r) :
    ACalls Try.prog 49 #[pt_ b_o 0, i_ u, i_ w] H fun v H' => v = .tuple #[.int .u64 r.1, .bool r.2] ∧ FrS [] H H' := by
 refine acalls_of_body mixed Try.func49 rfl (Nat.le_of_ble_eq_true rfl) ?_
 unfold z_overlay_Overlay_Weight at hr
 refine w_seqk fun _ k1 => g_' (q_ (.int .u64 0) (q_ (.bool false) (s_nil (k1 _ _ (w_seqk fun _ k2 => w_seqk fun _ k3 => g_' (q_ (pt_ b_o 0) (q_ (i_ u) ?_)))))))
 obtain ⟨y4, hy5, r6⟩ := bind_some hr
 refine s_ck 24 #[pt_ b_o 0, i_ u] (by kernel_rfl) (c_overlay_Overlay_Alive wf h_o_ h_o hy5) ?_
 rintro _ _ ⟨rfl, rfl⟩
 refine q_ (.bool (!y4)) (s_nil (k3 _ _ ?_))
 refine w_cond ((!y4)) (by kernel_rfl) rfl (fun h9 => ?_) (fun h9 => ?_)
 ·have r10 := ite_t h9 r6
  refine w_seqk fun _ k11 => g_' (q_ (.int .u64 0) (q_ (.bool false) (s_nil (k11 _ _ ?_))))
  refine w_ret (th_ret ?_)
  refine b_ret (fn := Try.f49) (vs := [.int .u64 0, .bool false]) (rt_ (aRes_tmp (by kernel_rfl) (rfl))) ?_
  obtain rfl := oi_ r10
  exact ⟨rfl, (f0_ wf)⟩
 have r12 := ite_bf h9 r6
 refine w_skip (k2 _ _ (w_seqk fun _ k13 => g_' (q_ (pt_ b_o 0) (q_ (pt_ b_o 0) (q_ (pt_ b_o 0) ?_)))))
 refine l_' (hd_o_) (aL_ 114 (pt_ b_o 0) H) (h_o.l_) ?_
 refine q_ (i_ u) ?_
 obtain ⟨g14, r15⟩ := G_some r12
 refine l_' (elp hd_o_ 3 u.toNat 0) (aIndexAddr Try.prog 114 hd_o_ (i_ u)) (h_o_.idxb (by kernel_rfl) g14.1 g14.2) ?_
 refine l_' (elp hd_o_ 3 u.toNat 1) (aFieldAddr Try.prog 120 (elp hd_o_ 3 u.toNat 0) 1) (Nd.fldq (d := 1) h_o_ g14.1 g14.2 (by kernel_rfl)) ?_
 obtain ⟨u16, u17, hl18, hk19⟩ := Nd.at h_o_ g14.1 g14.2
 have kd20 : KdS enc_i64_u64_i64 3 H u16 ((gt o_ u).2.1) fp_o_ hd_o_ 3 u.toNat 1 := hk19 false (by simp)
 obtain ⟨a21, n22, c23, rfl⟩ := kd20.sq.form
 refine l_' (.slice a21 n22 c23) (aL_ 69 (elp hd_o_ 3 u.toNat 1) H) (hl18 _ _ _ _ (by kernel_rfl)) ?_
 refine q_ (i_ w) ?_
 obtain ⟨y25, hy26, r27⟩ := bind_some r15
 refine s_ck 64 #[.slice a21 n22 c23, i_ w] (by kernel_rfl) (c_overlay_find wf kd20.sq hy26) ?_
 rintro _ H28 ⟨rfl, e29⟩
 refine q_ (.tuple #[i_ y25.1, .bool y25.2]) (q_ (i_ y25.1) (q_ (.bool y25.2) (q_ (i_ y25.1) (q_ (.bool y25.2) (s_nil (k13 _ _ (w_seqk fun _ k30 => w_seqk fun _ k31 => g_' (q_ (.bool y25.2) (q_ (.bool (!y25.2)) (s_nil (k31 _ _ ?_)))))))))))
 refine w_cond ((!y25.2)) (by kernel_rfl) rfl (fun h32 => ?_) (fun h32 => ?_)
 ·have r33 := ite_t h32 r27
  refine w_seqk fun _ k34 => g_' (q_ (.int .u64 0) (q_ (.bool false) (s_nil (k34 _ _ ?_))))
  refine w_ret (th_ret ?_)
  refine b_ret (fn := Try.f49) (vs := [.int .u64 0, .bool false]) (rt_ (aRes_tmp (by kernel_rfl) (rfl))) ?_
  obtain rfl := oi_ r33
  exact ⟨rfl, (FrS.step wf (f0_ wf) e29 Inn.nil)⟩
 have r35 := ite_bf h32 r27
 refine w_skip (k30 _ _ (w_seqk fun _ k36 => g_' (q_ (pt_ b_o 0) (q_ (pt_ b_o 0) (q_ (pt_ b_o 0) ?_)))))
 have u37 := (h_o.frS e29 Dj.nil_l)
 refine l_' (hd_o_) (aL_ 114 (pt_ b_o 0) H28) (u37.l_) ?_
 refine q_ (i_ u) ?_
 have u38 := (h_o_.fr e29 Dj.nil_l)
 refine l_' (elp hd_o_ 3 u.toNat 0) (aIndexAddr Try.prog 114 hd_o_ (i_ u)) (u38.idxb (by kernel_rfl) g14.1 g14.2) ?_
 refine l_' (elp hd_o_ 3 u.toNat 1) (aFieldAddr Try.prog 120 (elp hd_o_ 3 u.toNat 0) 1) (Nd.fldq (d := 1) u38 g14.1 g14.2 (by kernel_rfl)) ?_
 obtain ⟨u39, u40, hl41, hk42⟩ := Nd.at u38 g14.1 g14.2
 have kd43 : KdS enc_i64_u64_i64 3 H28 u39 ((gt o_ u).2.1) fp_o_ hd_o_ 3 u.toNat 1 := hk42 false (by simp)
 obtain ⟨a44, n45, c46, rfl⟩ := kd43.sq.form
 refine l_' (.slice a44 n45 c46) (aL_ 69 (elp hd_o_ 3 u.toNat 1) H28) (hl41 _ _ _ _ (by kernel_rfl)) ?_
 refine q_ (i_ y25.1) ?_
 obtain ⟨g48, r49⟩ := G_some r35
 refine l_' (elp (.slice a44 n45 c46) 3 y25.1.toNat 0) (aIndexAddr Try.prog 69 (.slice a44 n45 c46) (i_ y25.1)) (kd43.sq.idxb (by kernel_rfl) g48.1 g48.2) ?_
 refine l_' (elp (.slice a44 n45 c46) 3 y25.1.toNat 1) (aFieldAddr Try.prog 71 (elp (.slice a44 n45 c46) 3 y25.1.toNat 0) 1) (Sq.fldq (d := 1) kd43.sq g48.1 g48.2 (by kernel_rfl)) ?_
 refine l_' (.int .u64 ((gt ((gt o_ u).2.1) y25.1).2.1)) (aL_ 27 (elp (.slice a44 n45 c46) 3 y25.1.toNat 1) H28) (kd43.sq.ld g48.1 g48.2 (by kernel_rfl)) ?_
 refine q_ (.int .u64 ((gt ((gt o_ u).2.1) y25.1).2.1)) (q_ (.bool true) (s_nil (k36 _ _ ?_)))
 refine w_ret ?_
 refine b_ret (fn := Try.f49) (vs := [.int .u64 ((gt ((gt o_ u).2.1) y25.1).2.1), .bool true]) (rt_ (aRes_tmp (by kernel_rfl) (rfl))) ?_
 obtain rfl := oi_ r49
 exact ⟨rfl, (FrS.step wf (f0_ wf) e29 Inn.nil)⟩
theorem c_overlay_laid {H : AH} {hd_l : Value} {fp_l : Fp} {l : List (Int × Int × Int)} {Node : Int} {Weight : Int} {Via : Int} {r : List (Int × Int × Int)}
    (wf : WF H) (h_l : Ow enc_i64_u64_i64 3 H hd_l l fp_l) (hr : z_overlay_laid l Node Weight Via = some r) :
    ACalls Try.prog 50 #[hd_l, .agg #[i_ Node, .int .u64 Weight, i_ Via]] H fun v H' => ∃ (s3 : Value) (f4 : Fp), v = s3 ∧ FrS fp_l H H' ∧ Ow enc_i64_u64_i64 3 H' s3 r f4 ∧ Inn fp_l H f4 := by
 refine acalls_of_body mixed Try.func50 rfl (Nat.le_of_ble_eq_true rfl) ?_
 unfold z_overlay_laid at hr
 refine w_seqk fun _ k6 => g_' ?_
 refine s_rwl wf [i_ Node, .int .u64 Weight, i_ Via] (one_cons (rfl) (one_cons (rfl) (one_cons (rfl) (one_nil)))) (by kernel_rfl) fun b7 H8 e9 hb10 r11 => ?_
 refine q_ (.slice none 0 0) (s_nil (k6 _ _ (w_seqk fun _ k13 => g_' (q_ (hd_l) (q_ (pt_ b7 0) ?_)))))
 refine l_' (i_ Node) (aL_ 3 (pt_ b7 0) H8) (r11.l_) ?_
 have u14 := (h_l.ext e9)
 obtain ⟨y15, hy16, r17⟩ := bind_some hr
 refine s_ck 64 #[hd_l, i_ Node] (by kernel_rfl) (c_overlay_find e9.wf u14.sq hy16) ?_
 rintro _ H18 ⟨rfl, e19⟩
 refine q_ (.tuple #[i_ y15.1, .bool y15.2]) (q_ (i_ y15.1) (q_ (.bool y15.2) (q_ (i_ y15.1) (q_ (.bool y15.2) (s_nil (k13 _ _ (w_seqk fun _ k20 => w_seqk fun _ k21 => g_' (q_ (.bool y15.2) (s_nil (k21 _ _ ?_))))))))))
 refine w_cond (y15.2) (by kernel_rfl) rfl (fun h22 => ?_) (fun h22 => ?_)
 ·have r23 := ite_t h22 r17
  refine w_seqk fun _ k24 => g_' (q_ (hd_l) (q_ (i_ y15.1) ?_))
  have u25 := (r11.frS e19 Dj.nil_l)
  refine l_' (.agg #[i_ Node, .int .u64 Weight, i_ Via]) (aL_ 71 (pt_ b7 0) H18) (u25.l_) ?_
  obtain ⟨g26, r27⟩ := G_some r23
  have u28 := (u14.fr e19 Dj.nil_l)
  refine l_' (elp hd_l 3 y15.1.toNat 0) (aIndexAddr Try.prog 69 hd_l (i_ y15.1)) (u28.sq.idxb (by kernel_rfl) g26.1 g26.2) ?_
  obtain ⟨H29, q30, e31, hm32⟩ := Ow.store (P := Try.prog) (t := 71) (off := 0) e19.wf u28 g26.1 g26.2 (.agg #[i_ Node, .int .u64 Weight, i_ Via]) [i_ Node, .int .u64 Weight, i_ Via] (by kernel_rfl) (by kernel_rfl) rfl (Node, Weight, Via) (Nat.le_of_ble_eq_true rfl) (by kernel_rfl)
  refine s_ek (undef) (by kernel_rfl) (map_ok q30) ?_
  refine s_nil (k24 _ _ (w_seqk fun _ k33 => g_' (q_ (hd_l) (q_ (hd_l) (s_nil (k33 _ _ ?_))))))
  refine w_ret (th_ret ?_)
  refine b_ret (fn := Try.f50) (vs := [hd_l]) (rt_ (rfl)) ?_
  obtain rfl := oi_ r27
  exact ⟨(hd_l), fp_l, rfl, (FrS.step wf (FrS.step wf ((FrS.refl (W := fp_l) wf).extR e9) e19 Inn.nil) e31 Inn.refl'), hm32, Inn.refl'⟩
 have r34 := ite_bf h22 r17
 refine w_skip (k20 _ _ (w_seqk fun _ k35 => g_' (q_ (hd_l) (q_ (i_ y15.1) ?_))))
 have u36 := (r11.frS e19 Dj.nil_l)
 refine l_' (.agg #[i_ Node, .int .u64 Weight, i_ Via]) (aL_ 71 (pt_ b7 0) H18) (u36.l_) ?_
 refine s_owk (enc := enc_i64_u64_i64) (sz := 3) e19.wf [(Node, Weight, Via)] 1 (by decide) (fun _ _ => rfl) (fun _ _ => rfl) rfl (by kernel_rfl) fun s37 f38 H39 e40 hf41 hm42 => ?_
 obtain ⟨a43, n44, c45, rfl⟩ := hm42.form
 have u47 := ((u14.fr e19 Dj.nil_l).ext e40)
 obtain ⟨g48, r49⟩ := G_some r34
 refine s_ck 65 #[hd_l, i_ y15.1, .slice a43 n44 c45] (by kernel_rfl) (a_Insert e40.wf u47 hm42 (Dj.symm (hf41.djn (h_l.lt.le (t_ e9.n e19.n)))) g48) ?_
 rintro s50 H51 ⟨f52, e53, hm54, hf55⟩
 obtain ⟨a56, n57, c58, rfl⟩ := hm54.form
 refine q_ (.slice a56 n57 c58) (s_nil (k35 _ _ ?_))
 refine w_ret ?_
 refine b_ret (fn := Try.f50) (vs := [.slice a56 n57 c58]) (rt_ (rfl)) ?_
 obtain rfl := oi_ r49
 exact ⟨(.slice a56 n57 c58), f52, rfl, (FrS.step wf ((FrS.step wf ((FrS.refl (W := fp_l) wf).extR e9) e19 Inn.nil).extR e40) e53 Inn.refl'), hm54, (Inn.trans Inn.refl' (t_ (t_ e9.n e19.n) e40.n) hf55)⟩
end Go.Vd
