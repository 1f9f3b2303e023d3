/- The walks of the functions (printed by a program of ours). -/
import Derived.Test.YtbjamignglibpaaDoorPkl1
import Derived.Test.YtbjamignglibpaaDoorIWn
/-! (KWn0) -/

set_option maxRecDepth 100000
set_option maxHeartbeats 4000000
set_option linter.unusedVariables false
namespace Go.Vd
open Go.Proofs
attribute [local irreducible] wpSeq wpOrd aWp
theorem c_viaductlaw09_awake_ev : evB Tryd.prog 100000 9 #[] = some true := by kernel_rfl
theorem c_viaductlaw09_awake {H : AH} : ACalls Tryd.prog 9 #[] H fun v H' => H = H' ∧ v = .bool true :=
 (acalls_evB mixed c_viaductlaw09_awake_ev rfl H).mono fun _ _ ⟨a, b⟩ => ⟨b.symm, a⟩

theorem c_viaductref01_E {H : AH} {n_ : Int} {r : Int}
  (wf : WF H) (hr : z_viaductref01_E n_ = some r) :
  ACalls Tryd.prog 41 #[.int .i64 n_] H fun v H' => v = .agg #[.int .i64 r, .slice none 0 0] ∧ FrS [] H H' := by
 refine acalls_of_body mixed Tryd.func41 rfl (Nat.le_of_ble_eq_true rfl) ?_
 unfold z_viaductref01_E at hr
 refine w_seqk fun K1 k1 => ?_
 refine w_reg (by kernel_rfl) ?_
 refine s_rwk wf [.int .i64 0, .slice none 0 0] (by kernel_rfl) fun b2 H3 e4 hb5 r6 => ?_
 refine s_nil ?_
 refine k1 _ _ ?_
 refine w_seqk fun K8 k8 => ?_
 refine w_reg (by kernel_rfl) ?_
 refine s_qk (.int .i64 n_) (by kernel_rfl) ?_
 refine s_qk (.agg #[.int .i64 n_, .slice none 0 0]) (by kernel_rfl) ?_
 obtain ⟨H9, q10, e11, r12⟩ := Row.store (P := Tryd.prog) (t := 31) (p := 0) e4.wf r6 (.agg #[.int .i64 n_, .slice none 0 0]) [.int .i64 n_, .slice none 0 0] (by kernel_rfl) (by kernel_rfl) (one_cons (rfl) (one_cons (rfl) (one_nil))) (Nat.le_of_ble_eq_true (by kernel_rfl)) [.int .i64 n_, .slice none 0 0] (by kernel_rfl)
 refine s_ek (undef) (by kernel_rfl) (map_ok q10) ?_
 refine s_nil ?_
 refine k8 _ _ ?_
 refine w_ret ?_
 refine b_ret (fn := Tryd.f41) (vs := [.agg #[.int .i64 n_, .slice none 0 0]]) (aRes_cell (Eq.trans (b := aLoad Tryd.prog 31 (.pointer (some ⟨b2, 0, none⟩)) H9) (by kernel_rfl) (r12.ld (by kernel_rfl))) (rfl)) ?_
 obtain rfl := Option.some.inj hr
 exact ⟨rfl, (FrS.step wf ((FrS.refl (W := []) wf).extR e4) e11 (hb5.fresh (Nat.le_refl _)))⟩

theorem c_viaductref01_At {H : AH} {hd_Places : Value} {fp_Places : Fp} {kind : Int} {at_ : Int} {Code : Int} {Places : List (Int × Int)} {r : Int × List (Int × Int)}
  (wf : WF H) (h_Places : Sq enc_i64_i64 2 H hd_Places Places fp_Places) (hr : z_viaductref01_At kind at_ Code Places = some r) :
  ACalls Tryd.prog 42 #[.int .i64 kind, .int .i64 at_, .agg #[.int .i64 Code, hd_Places]] H fun v H' => ∃ (s3 : Value) (f4 : Fp), v = .agg #[.int .i64 r.1, s3] ∧ FrS [] H H' ∧ Ow enc_i64_i64 2 H' s3 r.2 f4 ∧ Inn [] H f4 := by
 refine acalls_of_body mixed Tryd.func42 rfl (Nat.le_of_ble_eq_true rfl) ?_
 unfold z_viaductref01_At at hr
 refine w_seqk fun K6 k6 => ?_
 refine w_reg (by kernel_rfl) ?_
 refine s_rwl wf [.int .i64 Code, hd_Places] (one_cons (rfl) (one_cons (h_Places.one1) (one_nil))) (by kernel_rfl) fun b7 H8 e9 hb10 r11 => ?_
 refine s_rwk e9.wf [.int .i64 0, .slice none 0 0] (by kernel_rfl) fun b13 H14 e15 hb16 r17 => ?_
 refine s_nil ?_
 refine k6 _ _ ?_
 refine w_seqk fun K19 k19 => ?_
 refine w_reg (by kernel_rfl) ?_
 refine s_qk (.int .i64 kind) (by kernel_rfl) ?_
 refine s_qk (.int .i64 at_) (by kernel_rfl) ?_
 refine s_qk (.agg #[.int .i64 kind, .int .i64 at_]) (by kernel_rfl) ?_
 refine s_owk (enc := enc_i64_i64) (sz := 2) e15.wf [(kind, at_)] 1 (by decide) (fun _ _ => rfl) (fun _ _ => rfl) rfl (by kernel_rfl) fun s20 f21 H22 e23 hf24 hm25 => ?_
 obtain ⟨a26, n27, c28, rfl⟩ := hm25.form
 refine s_qk (.slice a26 n27 c28) (by kernel_rfl) ?_
 refine s_nil ?_
 refine k19 _ _ ?_
 refine w_seqk fun K30 k30 => ?_
 refine w_reg (by kernel_rfl) ?_
 refine s_qk (.slice a26 n27 c28) (by kernel_rfl) ?_
 refine s_qk (.pointer (some ⟨b7, 1, none⟩)) (by kernel_rfl) ?_
 have u31 := ((r11.ext e15).ext e23)
 refine s_ql (hd_Places) (x := aLoad Tryd.prog 29 (.pointer (some ⟨b7, 1, none⟩)) H22) (by kernel_rfl) (u31.ld (by kernel_rfl)) ?_
 obtain ⟨g32, r33⟩ := G_some hr
 have u41 := (((h_Places.ext e9).ext e15).ext e23)
 obtain ⟨s34, H35, f36, q40, e37, hm38, hf39⟩ := Ow.append (P := Tryd.prog) 16 e23.wf hm25 u41 (fun _ _ => rfl) (at_ := #[29, 29]) rfl rfl (by kernel_rfl) (by kernel_rfl) (by decide) (by have := g32; first | omega | (simp only [List.length_cons, List.length_nil] at this ⊢; omega) | (simp at this ⊢; omega))
 obtain ⟨a42, n43, c44, rfl⟩ := hm38.form
 refine s_ek (.slice a42 n43 c44) (by kernel_rfl) (q40) ?_
 refine s_qk (.slice a42 n43 c44) (by kernel_rfl) ?_
 refine s_nil ?_
 refine k30 _ _ ?_
 refine w_seqk fun K46 k46 => ?_
 refine w_reg (by kernel_rfl) ?_
 refine s_qk (.pointer (some ⟨b7, 0, none⟩)) (by kernel_rfl) ?_
 have u47 := (u31.frS e37 (hf24.djn (r11.ltF.le e15.next)))
 refine s_ql (.int .i64 Code) (x := aLoad Tryd.prog 3 (.pointer (some ⟨b7, 0, none⟩)) H35) (by kernel_rfl) (u47.ld (by kernel_rfl)) ?_
 refine s_qk (.slice a42 n43 c44) (by kernel_rfl) ?_
 refine s_qk (.agg #[.int .i64 Code, .slice a42 n43 c44]) (by kernel_rfl) ?_
 have u52 := ((r17.ext e23).frS e37 (hf24.djn r17.ltF))
 obtain ⟨H48, q49, e50, r51⟩ := Row.store (P := Tryd.prog) (t := 31) (p := 0) e37.wf u52 (.agg #[.int .i64 Code, .slice a42 n43 c44]) [.int .i64 Code, .slice a42 n43 c44] (by kernel_rfl) (by kernel_rfl) (one_cons (rfl) (one_cons (hm38.one1) (one_nil))) (Nat.le_of_ble_eq_true (by kernel_rfl)) [.int .i64 Code, .slice a42 n43 c44] (by kernel_rfl)
 refine s_ek (undef) (by kernel_rfl) (map_ok q49) ?_
 refine s_nil ?_
 refine k46 _ _ ?_
 refine w_ret ?_
 refine b_ret (fn := Tryd.f42) (vs := [.agg #[.int .i64 Code, .slice a42 n43 c44]]) (aRes_cell (Eq.trans (b := aLoad Tryd.prog 31 (.pointer (some ⟨b13, 0, none⟩)) H48) (by kernel_rfl) (r51.ld (by kernel_rfl))) (rfl)) ?_
 have u53 := (hm38.fr e50 (Dj.symm (hf39.dj (hf24.djn r17.ltF) (r17.ltF.le e23.next))))
 obtain rfl := Option.some.inj r33
 exact ⟨(.slice a42 n43 c44), f36, rfl, (FrS.step wf (FrS.step wf ((((FrS.refl (W := []) wf).extR e9).extR e15).extR e23) e37 (hf24.fresh (ntr e9.next e15.next))) e50 (hb16.fresh e9.next)), u53, (Inn.trans (hf24.fresh (ntr e9.next e15.next)) (ntr (ntr e9.next e15.next) e23.next) hf39)⟩

theorem c_viaductref05_DocCheck {H : AH} {hd_First : Value} {fp_First : Fp} {hd_To : Value} {fp_To : Fp} {hd_Weight : Value} {fp_Weight : Fp} {First : List (Int)} {To : List (Int)} {Weight : List (Int)} {r : Int × List (Int × Int)}
  (wf : WF H) (h_First : Sq (encI .i64) 1 H hd_First First fp_First) (h_To : Sq (encI .i64) 1 H hd_To To fp_To) (h_Weight : Sq (encI .i64) 1 H hd_Weight Weight fp_Weight) (hr : z_viaductref05_DocCheck First To Weight = some r) :
  ACalls Tryd.prog 48 #[.agg #[hd_First, hd_To, hd_Weight]] H fun v H' => ∃ (s3 : Value) (f4 : Fp), v = .agg #[.int .i64 r.1, s3] ∧ FrS [] H H' ∧ Ow enc_i64_i64 2 H' s3 r.2 f4 ∧ Inn [] H f4 := by
 refine acalls_of_body mixed Tryd.func48 rfl (Nat.le_of_ble_eq_true rfl) ?_
 unfold z_viaductref05_DocCheck at hr
 refine w_seqk fun K6 k6 => ?_
 refine w_reg (by kernel_rfl) ?_
 refine s_rwl wf [hd_First, hd_To, hd_Weight] (one_cons (h_First.one1) (one_cons (h_To.one1) (one_cons (h_Weight.one1) (one_nil)))) (by kernel_rfl) fun b7 H8 e9 hb10 r11 => ?_
 refine s_rwk e9.wf [.int .i64 0, .slice none 0 0] (by kernel_rfl) fun b13 H14 e15 hb16 r17 => ?_
 refine s_nil ?_
 refine k6 _ _ ?_
 refine w_seqk fun K19 k19 => ?_
 refine w_draw [0, 1, 2, 3, 4, 5, 6, 7, 8] (by kernel_rfl) ?_
 refine d_qk (.pointer (some ⟨b7, 0, none⟩)) (by kernel_rfl) ?_
 have u20 := (r11.ext e15)
 refine d_ql (hd_First) (x := aLoad Tryd.prog 22 (.pointer (some ⟨b7, 0, none⟩)) H14) (by kernel_rfl) (u20.ld (by kernel_rfl)) ?_
 have u21 := ((h_First.ext e9).ext e15)
 refine d_ql (.int .i64 (First.length : Int)) (x := aLen Tryd.prog 22 hd_First H14) (by kernel_rfl) (u21.lenb (by kernel_rfl)) ?_
 obtain ⟨g22, r23⟩ := G_some hr
 refine d_w (((First.length : Int) - 1)) (k := .i64) (x := ((First.length : Int) - 1)) (by kernel_rfl) (wrap64 g22) ?_
 refine d_qk (.pointer (some ⟨b7, 1, none⟩)) (by kernel_rfl) ?_
 refine d_ql (hd_To) (x := aLoad Tryd.prog 22 (.pointer (some ⟨b7, 1, none⟩)) H14) (by kernel_rfl) (u20.ld (by kernel_rfl)) ?_
 have u24 := ((h_To.ext e9).ext e15)
 refine d_ql (.int .i64 (To.length : Int)) (x := aLen Tryd.prog 22 hd_To H14) (by kernel_rfl) (u24.lenb (by kernel_rfl)) ?_
 refine d_qk (.int .i64 ((First.length : Int) - 1)) (by kernel_rfl) ?_
 refine d_qk (.int .i64 (To.length : Int)) (by kernel_rfl) ?_
 refine d_nil ?_
 refine k19 _ _ ?_
 refine w_seqk fun K25 k25 => ?_
 refine w_seqk fun K26 k26 => ?_
 obtain ⟨o27, hx28, r29⟩ := bind_some r23
 refine w_mid (fun α H30 => Has α [(1, .pointer (some ⟨b7, 0, none⟩)), (2, .pointer (some ⟨b13, 0, none⟩)), (3, .int .i64 ((First.length : Int) - 1)), (4, .int .i64 (To.length : Int)), (40, .bool o27)] ∧ H14 = H30) (fun K32 k32 => ?_) (fun α H30 hM => ?_)
 ·refine w_reg (by kernel_rfl) ?_
  refine s_qk (.int .i64 ((First.length : Int) - 1)) (by kernel_rfl) ?_
  refine s_b (((First.length : Int) - 1) < 0) (by kernel_rfl) (fun h34 => ?_) (fun h34 => ?_)
  ·have r35 := ite_t h34 hx28
   refine s_qk (.bool true) (by kernel_rfl) ?_
   refine s_no (by kernel_rfl) ?_
   refine s_no (by kernel_rfl) ?_
   refine s_no (by kernel_rfl) ?_
   refine s_no (by kernel_rfl) ?_
   refine s_no (by kernel_rfl) ?_
   refine s_qk (.bool true) (by kernel_rfl) ?_
   refine s_qk (.bool true) (by kernel_rfl) ?_
   refine s_no (by kernel_rfl) ?_
   refine s_no (by kernel_rfl) ?_
   refine s_no (by kernel_rfl) ?_
   refine s_no (by kernel_rfl) ?_
   refine s_no (by kernel_rfl) ?_
   refine s_no (by kernel_rfl) ?_
   refine s_no (by kernel_rfl) ?_
   refine s_qk (.bool true) (by kernel_rfl) ?_
   refine s_qk (.bool true) (by kernel_rfl) ?_
   refine s_no (by kernel_rfl) ?_
   refine s_no (by kernel_rfl) ?_
   refine s_no (by kernel_rfl) ?_
   refine s_no (by kernel_rfl) ?_
   refine s_no (by kernel_rfl) ?_
   refine s_qk (.bool true) (by kernel_rfl) ?_
   refine s_nil ?_
   obtain rfl := Option.some.inj r35
   exact k32 _ _ ⟨⟨by kernel_rfl, by kernel_rfl, by kernel_rfl, by kernel_rfl, by kernel_rfl, trivial⟩, rfl⟩
  ·have r36 := ite_f h34 hx28
   refine s_qk (.bool false) (by kernel_rfl) ?_
   refine s_qk (.pointer (some ⟨b7, 0, none⟩)) (by kernel_rfl) ?_
   refine s_ql (hd_First) (x := aLoad Tryd.prog 22 (.pointer (some ⟨b7, 0, none⟩)) H14) (by kernel_rfl) (u20.ld (by kernel_rfl)) ?_
   obtain ⟨g37, r38⟩ := G_some r36
   refine s_ql (elp hd_First 1 (0 : Int).toNat 0) (x := aIndexAddr Tryd.prog 22 hd_First (.int .i64 0)) (by kernel_rfl) (u21.idxb (by kernel_rfl) (by decide) g37) ?_
   refine s_ql (.int .i64 (gt First 0)) (x := aLoad Tryd.prog 3 (elp hd_First 1 (0 : Int).toNat 0) H14) (by kernel_rfl) (u21.ld (by decide) g37 (by kernel_rfl)) ?_
   refine s_bn ((gt First 0) = 0) (by kernel_rfl) (fun h39 => ?_) (fun h39 => ?_)
   ·have r40 := ite_t h39 r38
    refine s_qk (.bool false) (by kernel_rfl) ?_
    refine s_qk (.bool false) (by kernel_rfl) ?_
    refine s_qk (.pointer (some ⟨b7, 0, none⟩)) (by kernel_rfl) ?_
    refine s_ql (hd_First) (x := aLoad Tryd.prog 22 (.pointer (some ⟨b7, 0, none⟩)) H14) (by kernel_rfl) (u20.ld (by kernel_rfl)) ?_
    refine s_qk (.int .i64 ((First.length : Int) - 1)) (by kernel_rfl) ?_
    obtain ⟨g41, r42⟩ := G_some r40
    refine s_ql (elp hd_First 1 ((First.length : Int) - 1).toNat 0) (x := aIndexAddr Tryd.prog 22 hd_First (.int .i64 ((First.length : Int) - 1))) (by kernel_rfl) (u21.idxb (by kernel_rfl) g41.1 g41.2) ?_
    refine s_ql (.int .i64 (gt First ((First.length : Int) - 1))) (x := aLoad Tryd.prog 3 (elp hd_First 1 ((First.length : Int) - 1).toNat 0) H14) (by kernel_rfl) (u21.ld g41.1 g41.2 (by kernel_rfl)) ?_
    refine s_qk (.int .i64 (To.length : Int)) (by kernel_rfl) ?_
    refine s_bn ((gt First ((First.length : Int) - 1)) = (To.length : Int)) (by kernel_rfl) (fun h43 => ?_) (fun h43 => ?_)
    ·have r44 := ite_t h43 r42
     refine s_qk (.bool false) (by kernel_rfl) ?_
     refine s_qk (.bool false) (by kernel_rfl) ?_
     refine s_qk (.pointer (some ⟨b7, 2, none⟩)) (by kernel_rfl) ?_
     refine s_ql (hd_Weight) (x := aLoad Tryd.prog 22 (.pointer (some ⟨b7, 2, none⟩)) H14) (by kernel_rfl) (u20.ld (by kernel_rfl)) ?_
     have u45 := ((h_Weight.ext e9).ext e15)
     refine s_ql (.int .i64 (Weight.length : Int)) (x := aLen Tryd.prog 22 hd_Weight H14) (by kernel_rfl) (u45.lenb (by kernel_rfl)) ?_
     refine s_qk (.int .i64 (To.length : Int)) (by kernel_rfl) ?_
     refine s_qk (.bool (!decide ((Weight.length : Int) = (To.length : Int)))) (by kernel_rfl) ?_
     refine s_qk (.bool (!decide ((Weight.length : Int) = (To.length : Int)))) (by kernel_rfl) ?_
     refine s_nil ?_
     obtain rfl := Option.some.inj r44
     exact k32 _ _ ⟨⟨by kernel_rfl, by kernel_rfl, by kernel_rfl, by kernel_rfl, by kernel_rfl, trivial⟩, rfl⟩
    ·have r46 := ite_f h43 r42
     refine s_qk (.bool true) (by kernel_rfl) ?_
     refine s_qk (.bool true) (by kernel_rfl) ?_
     refine s_no (by kernel_rfl) ?_
     refine s_no (by kernel_rfl) ?_
     refine s_no (by kernel_rfl) ?_
     refine s_no (by kernel_rfl) ?_
     refine s_no (by kernel_rfl) ?_
     refine s_qk (.bool true) (by kernel_rfl) ?_
     refine s_nil ?_
     obtain rfl := Option.some.inj r46
     exact k32 _ _ ⟨⟨by kernel_rfl, by kernel_rfl, by kernel_rfl, by kernel_rfl, by kernel_rfl, trivial⟩, rfl⟩
   ·have r47 := ite_f h39 r38
    refine s_qk (.bool true) (by kernel_rfl) ?_
    refine s_qk (.bool true) (by kernel_rfl) ?_
    refine s_no (by kernel_rfl) ?_
    refine s_no (by kernel_rfl) ?_
    refine s_no (by kernel_rfl) ?_
    refine s_no (by kernel_rfl) ?_
    refine s_no (by kernel_rfl) ?_
    refine s_no (by kernel_rfl) ?_
    refine s_no (by kernel_rfl) ?_
    refine s_qk (.bool true) (by kernel_rfl) ?_
    refine s_qk (.bool true) (by kernel_rfl) ?_
    refine s_no (by kernel_rfl) ?_
    refine s_no (by kernel_rfl) ?_
    refine s_no (by kernel_rfl) ?_
    refine s_no (by kernel_rfl) ?_
    refine s_no (by kernel_rfl) ?_
    refine s_qk (.bool true) (by kernel_rfl) ?_
    refine s_nil ?_
    obtain rfl := Option.some.inj r47
    exact k32 _ _ ⟨⟨by kernel_rfl, by kernel_rfl, by kernel_rfl, by kernel_rfl, by kernel_rfl, trivial⟩, rfl⟩
 ·obtain ⟨hh33, rfl⟩ := hM
  obtain ⟨β, rfl⟩ := has_ex hh33
  clear hh33
  refine k26 _ _ ?_
  refine w_cond (o27) (by kernel_rfl) rfl (fun h48 => ?_) (fun h48 => ?_)
  ·have r49 := ite_t h48 r29
   refine w_seqk fun K50 k50 => ?_
   refine w_reg (by kernel_rfl) ?_
   obtain ⟨y51, hy52, r53⟩ := bind_some r49
   refine s_ck 41 #[.int .i64 14] (by kernel_rfl) (c_viaductref01_E e15.wf hy52) ?_
   rintro _ H54 ⟨rfl, e55⟩
   have u60 := (r17.frS e55 Dj.nil_l)
   obtain ⟨H56, q57, e58, r59⟩ := Row.store (P := Tryd.prog) (t := 31) (p := 0) e55.wf u60 (.agg #[.int .i64 y51, .slice none 0 0]) [.int .i64 y51, .slice none 0 0] (by kernel_rfl) (by kernel_rfl) (one_cons (rfl) (one_cons (rfl) (one_nil))) (Nat.le_of_ble_eq_true (by kernel_rfl)) [.int .i64 y51, .slice none 0 0] (by kernel_rfl)
   refine s_ek (undef) (by kernel_rfl) (map_ok q57) ?_
   refine s_nil ?_
   refine k50 _ _ ?_
   refine w_ret (th_ret ?_)
   refine b_ret (fn := Tryd.f48) (vs := [.agg #[.int .i64 y51, .slice none 0 0]]) (aRes_cell (Eq.trans (b := aLoad Tryd.prog 31 (.pointer (some ⟨b13, 0, none⟩)) H56) (by kernel_rfl) (r59.ld (by kernel_rfl))) (rfl)) ?_
   obtain rfl := Option.some.inj r53
   exact ⟨(.slice none 0 0), [], rfl, (FrS.step wf (FrS.step wf (((FrS.refl (W := []) wf).extR e9).extR e15) e55 Inn.nil) e58 (hb16.fresh e9.next)), (Ow.nil (by decide)), Inn.nil⟩
  ·have r61 := ite_bf h48 r29
   refine w_skip ?_
   refine k25 _ _ ?_
   refine w_seqk fun K62 k62 => ?_
   refine w_seqk fun K63 k63 => ?_
   obtain ⟨o64, hx65, r66⟩ := bind_some r61
   refine w_mid (fun α H67 => Has α [(1, .pointer (some ⟨b7, 0, none⟩)), (2, .pointer (some ⟨b13, 0, none⟩)), (3, .int .i64 ((First.length : Int) - 1)), (4, .int .i64 (To.length : Int)), (47, .bool o64)] ∧ H14 = H67) (fun K69 k69 => ?_) (fun α H67 hM => ?_)
   ·refine w_reg (by kernel_rfl) ?_
    refine s_qk (.int .i64 ((First.length : Int) - 1)) (by kernel_rfl) ?_
    refine s_b (((First.length : Int) - 1) > 65536) (by kernel_rfl) (fun h71 => ?_) (fun h71 => ?_)
    ·have r72 := ite_t h71 hx65
     refine s_qk (.bool true) (by kernel_rfl) ?_
     refine s_no (by kernel_rfl) ?_
     refine s_no (by kernel_rfl) ?_
     refine s_qk (.bool true) (by kernel_rfl) ?_
     refine s_nil ?_
     obtain rfl := Option.some.inj r72
     exact k69 _ _ ⟨⟨by kernel_rfl, by kernel_rfl, by kernel_rfl, by kernel_rfl, by kernel_rfl, trivial⟩, rfl⟩
    ·have r73 := ite_f h71 hx65
     refine s_qk (.bool false) (by kernel_rfl) ?_
     refine s_qk (.int .i64 (To.length : Int)) (by kernel_rfl) ?_
     refine s_qk (.bool (decide ((To.length : Int) > 262144))) (by kernel_rfl) ?_
     refine s_qk (.bool (decide ((To.length : Int) > 262144))) (by kernel_rfl) ?_
     refine s_nil ?_
     obtain rfl := Option.some.inj r73
     exact k69 _ _ ⟨⟨by kernel_rfl, by kernel_rfl, by kernel_rfl, by kernel_rfl, by kernel_rfl, trivial⟩, rfl⟩
   ·obtain ⟨hh70, rfl⟩ := hM
    obtain ⟨β, rfl⟩ := has_ex hh70
    clear hh70
    refine k63 _ _ ?_
    refine w_cond (o64) (by kernel_rfl) rfl (fun h74 => ?_) (fun h74 => ?_)
    ·have r75 := ite_t h74 r66
     refine w_seqk fun K76 k76 => ?_
     refine w_reg (by kernel_rfl) ?_
     obtain ⟨y77, hy78, r79⟩ := bind_some r75
     refine s_ck 41 #[.int .i64 9] (by kernel_rfl) (c_viaductref01_E e15.wf hy78) ?_
     rintro _ H80 ⟨rfl, e81⟩
     have u86 := (r17.frS e81 Dj.nil_l)
     obtain ⟨H82, q83, e84, r85⟩ := Row.store (P := Tryd.prog) (t := 31) (p := 0) e81.wf u86 (.agg #[.int .i64 y77, .slice none 0 0]) [.int .i64 y77, .slice none 0 0] (by kernel_rfl) (by kernel_rfl) (one_cons (rfl) (one_cons (rfl) (one_nil))) (Nat.le_of_ble_eq_true (by kernel_rfl)) [.int .i64 y77, .slice none 0 0] (by kernel_rfl)
     refine s_ek (undef) (by kernel_rfl) (map_ok q83) ?_
     refine s_nil ?_
     refine k76 _ _ ?_
     refine w_ret (th_ret ?_)
     refine b_ret (fn := Tryd.f48) (vs := [.agg #[.int .i64 y77, .slice none 0 0]]) (aRes_cell (Eq.trans (b := aLoad Tryd.prog 31 (.pointer (some ⟨b13, 0, none⟩)) H82) (by kernel_rfl) (r85.ld (by kernel_rfl))) (rfl)) ?_
     obtain rfl := Option.some.inj r79
     exact ⟨(.slice none 0 0), [], rfl, (FrS.step wf (FrS.step wf (((FrS.refl (W := []) wf).extR e9).extR e15) e81 Inn.nil) e84 (hb16.fresh e9.next)), (Ow.nil (by decide)), Inn.nil⟩
    ·have r87 := ite_bf h74 r66
     refine w_skip ?_
     refine k62 _ _ ?_
     refine w_seqk fun K88 k88 => ?_
     refine w_seqk fun K89 k89 => ?_
     refine w_reg (by kernel_rfl) ?_
     refine s_qk (.int .i64 0) (by kernel_rfl) ?_
     refine s_nil ?_
     refine k89 _ _ ?_
     obtain ⟨z93, hx91, r92⟩ := bind_some r87
     refine w_mid (fun α H94 => ∃ o90, z93 = Sum.inr o90 ∧ Has α [(1, .pointer (some ⟨b7, 0, none⟩)), (2, .pointer (some ⟨b13, 0, none⟩)), (3, .int .i64 ((First.length : Int) - 1)), (4, .int .i64 (To.length : Int))] ∧ H14 = H94) (fun K96 k96 => ?_) (fun α H94 hM => ?_)
     ·refine w_block ?_
      obtain ⟨n98, hn99⟩ := loopO_iff.1 hx91
      refine w_loopn (fun n α H100 => ∃ (v0 : Int), iterO (fun zz_ => z_viaductref05_DocCheck_l0 First zz_) n v0 = some z93 ∧ Has α [(1, .pointer (some ⟨b7, 0, none⟩)), (2, .pointer (some ⟨b13, 0, none⟩)), (3, .int .i64 ((First.length : Int) - 1)), (4, .int .i64 (To.length : Int)), (5, .int .i64 v0)] ∧ H14 = H100) n98 ⟨0, hn99, ⟨by kernel_rfl, by kernel_rfl, by kernel_rfl, by kernel_rfl, by kernel_rfl, trivial⟩, rfl⟩ ?_
      rintro n98 α H100 ⟨v0, hi103, hh102, rfl⟩ K108 k108
      obtain ⟨n104, z105, rfl, hz106, hn107⟩ := iter_succ hi103
      obtain ⟨β, rfl⟩ := has_ex hh102
      clear hh102
      replace hz106 : z_viaductref05_DocCheck_l0 First v0 = some z105 := hz106
      unfold z_viaductref05_DocCheck_l0 at hz106
      refine w_seqk fun K109 k109 => ?_
      refine w_seqk fun K110 k110 => ?_
      refine w_reg (by kernel_rfl) ?_
      refine s_qk (.int .i64 v0) (by kernel_rfl) ?_
      refine s_qk (.int .i64 ((First.length : Int) - 1)) (by kernel_rfl) ?_
      refine s_qk (.bool (decide (v0 < ((First.length : Int) - 1)))) (by kernel_rfl) ?_
      refine s_nil ?_
      refine k110 _ _ ?_
      refine w_condp (v0 < ((First.length : Int) - 1)) (by kernel_rfl) rfl (fun h111 => ?_) (fun h111 => ?_)
      ·have r112 := ite_t h111 hz106
       refine w_skip ?_
       refine k109 _ _ ?_
       refine w_seqk fun K113 k113 => ?_
       refine w_block ?_
       refine w_seqk fun K114 k114 => ?_
       refine w_draw [0, 1, 2, 3, 4, 5, 6, 7, 8, 9, 10, 11] (by kernel_rfl) ?_
       refine d_qk (.pointer (some ⟨b7, 0, none⟩)) (by kernel_rfl) ?_
       refine d_ql (hd_First) (x := aLoad Tryd.prog 22 (.pointer (some ⟨b7, 0, none⟩)) H14) (by kernel_rfl) (u20.ld (by kernel_rfl)) ?_
       refine d_qk (.int .i64 v0) (by kernel_rfl) ?_
       obtain ⟨g115, r116⟩ := G_some r112
       refine d_w ((v0 + 1)) (k := .i64) (x := (v0 + 1)) (by kernel_rfl) (wrap64 g115) ?_
       obtain ⟨g117, r118⟩ := G_some r116
       refine d_ql (elp hd_First 1 (v0 + 1).toNat 0) (x := aIndexAddr Tryd.prog 22 hd_First (.int .i64 (v0 + 1))) (by kernel_rfl) (u21.idxb (by kernel_rfl) g117.1 g117.2) ?_
       refine d_ql (.int .i64 (gt First (v0 + 1))) (x := aLoad Tryd.prog 3 (elp hd_First 1 (v0 + 1).toNat 0) H14) (by kernel_rfl) (u21.ld g117.1 g117.2 (by kernel_rfl)) ?_
       refine d_qk (.pointer (some ⟨b7, 0, none⟩)) (by kernel_rfl) ?_
       refine d_ql (hd_First) (x := aLoad Tryd.prog 22 (.pointer (some ⟨b7, 0, none⟩)) H14) (by kernel_rfl) (u20.ld (by kernel_rfl)) ?_
       refine d_qk (.int .i64 v0) (by kernel_rfl) ?_
       obtain ⟨g119, r120⟩ := G_some r118
       refine d_ql (elp hd_First 1 v0.toNat 0) (x := aIndexAddr Tryd.prog 22 hd_First (.int .i64 v0)) (by kernel_rfl) (u21.idxb (by kernel_rfl) g119.1 g119.2) ?_
       refine d_ql (.int .i64 (gt First v0)) (x := aLoad Tryd.prog 3 (elp hd_First 1 v0.toNat 0) H14) (by kernel_rfl) (u21.ld g119.1 g119.2 (by kernel_rfl)) ?_
       refine d_qk (.bool (decide ((gt First (v0 + 1)) < (gt First v0)))) (by kernel_rfl) ?_
       refine d_nil ?_
       refine k114 _ _ ?_
       refine w_condp ((gt First (v0 + 1)) < (gt First v0)) (by kernel_rfl) rfl (fun h121 => ?_) (fun h121 => ?_)
       ·have r122 := ite_t h121 r120
        refine w_seqk fun K123 k123 => ?_
        refine w_reg (by kernel_rfl) ?_
        refine s_qk (.int .i64 v0) (by kernel_rfl) ?_
        obtain ⟨y124, hy125, r126⟩ := bind_some r122
        refine s_ck 41 #[.int .i64 14] (by kernel_rfl) (c_viaductref01_E e15.wf hy125) ?_
        rintro _ H127 ⟨rfl, e128⟩
        obtain ⟨y129, hy130, r131⟩ := bind_some r126
        refine s_ck 42 #[.int .i64 3, .int .i64 v0, .agg #[.int .i64 y124, .slice none 0 0]] (by kernel_rfl) (c_viaductref01_At e128.wf (Sq.nil (enc := enc_i64_i64) (sz := 2) (by decide)) hy130) ?_
        rintro _ H134 ⟨s132, f133, rfl, e135, m136, i137⟩
        obtain ⟨a139, n140, c141, rfl⟩ := m136.form
        have u146 := ((r17.frS e128 Dj.nil_l).frS e135 Dj.nil_l)
        obtain ⟨H142, q143, e144, r145⟩ := Row.store (P := Tryd.prog) (t := 31) (p := 0) e135.wf u146 (.agg #[.int .i64 y129.1, .slice a139 n140 c141]) [.int .i64 y129.1, .slice a139 n140 c141] (by kernel_rfl) (by kernel_rfl) (one_cons (rfl) (one_cons (m136.one1) (one_nil))) (Nat.le_of_ble_eq_true (by kernel_rfl)) [.int .i64 y129.1, .slice a139 n140 c141] (by kernel_rfl)
        refine s_ek (undef) (by kernel_rfl) (map_ok q143) ?_
        refine s_nil ?_
        refine k123 _ _ ?_
        refine w_ret (bl_ret (th_ret (th_ret (bl_ret (th_ret (th_ret ?_))))))
        obtain ⟨v147, hv148, hz149⟩ := map_some r131
        subst hz149
        obtain rfl := it_inr hn107
        have hq150 := elim_inl r92
        rw [hq150] at hv148
        refine b_ret (fn := Tryd.f48) (vs := [.agg #[.int .i64 y129.1, .slice a139 n140 c141]]) (aRes_cell (Eq.trans (b := aLoad Tryd.prog 31 (.pointer (some ⟨b13, 0, none⟩)) H142) (by kernel_rfl) (r145.ld (by kernel_rfl))) (rfl)) ?_
        have u151 := (m136.fr e144 (Dj.symm (i137.djn (r17.ltF.le e128.next))))
        obtain rfl := Option.some.inj hv148
        exact ⟨(.slice a139 n140 c141), f133, rfl, (FrS.step wf (FrS.step wf (FrS.step wf (((FrS.refl (W := []) wf).extR e9).extR e15) e128 Inn.nil) e135 Inn.nil) e144 (hb16.fresh e9.next)), u151, (i137.fresh (ntr (ntr e9.next e15.next) e128.next))⟩
       ·have r152 := ite_f h121 r120
        refine w_skip ?_
        refine k113 _ _ ?_
        refine w_reg (by kernel_rfl) ?_
        refine s_qk (.int .i64 v0) (by kernel_rfl) ?_
        obtain ⟨g153, r154⟩ := G_some r152
        refine s_w ((v0 + 1)) (k := .i64) (x := (v0 + 1)) (by kernel_rfl) (wrap64 (by have := g153; omega)) ?_
        refine s_qk (.int .i64 (v0 + 1)) (by kernel_rfl) ?_
        refine s_nil ?_
        obtain rfl := Option.some.inj r154
        exact k108 n104 _ _ (Nat.lt_succ_self _) ⟨(v0 + 1), hn107, ⟨by kernel_rfl, by kernel_rfl, by kernel_rfl, by kernel_rfl, by kernel_rfl, trivial⟩, rfl⟩
      ·have r155 := ite_f h111 hz106
       refine w_exit (th_exit (th_exit (bl_eq ?_)))
       obtain rfl := Option.some.inj r155
       obtain rfl := it_inr hn107
       exact k96 _ _ ⟨_, rfl, ⟨by kernel_rfl, by kernel_rfl, by kernel_rfl, by kernel_rfl, trivial⟩, rfl⟩
     ·obtain ⟨o90, rfl, hh97, rfl⟩ := hM
      have r156 := elim_inr r92
      obtain ⟨β, rfl⟩ := has_ex hh97
      clear hh97
      refine k88 _ _ ?_
      refine w_seqk fun K157 k157 => ?_
      refine w_reg (by kernel_rfl) ?_
      refine s_qk (.int .i64 0) (by kernel_rfl) ?_
      refine s_nil ?_
      refine k157 _ _ ?_
      refine w_seqk fun K158 k158 => ?_
      refine w_seqk fun K159 k159 => ?_
      refine w_reg (by kernel_rfl) ?_
      refine s_qk (.int .i64 0) (by kernel_rfl) ?_
      refine s_nil ?_
      refine k159 _ _ ?_
      obtain ⟨z163, hx161, r162⟩ := bind_some r156
      refine w_mid (fun α H164 => ∃ o160, z163 = Sum.inr o160 ∧ Has α [(2, .pointer (some ⟨b13, 0, none⟩))] ∧ H14 = H164) (fun K166 k166 => ?_) (fun α H164 hM => ?_)
      ·refine w_block ?_
       obtain ⟨n168, hn169⟩ := loopO_iff.1 hx161
       refine w_loopn (fun n α H170 => ∃ (v2 : Int), ∃ (i3 : Int), iterO (fun zz_ => z_viaductref05_DocCheck_l2 First To Weight zz_.1 zz_.2) n (v2, i3) = some z163 ∧ Has α [(1, .pointer (some ⟨b7, 0, none⟩)), (2, .pointer (some ⟨b13, 0, none⟩)), (3, .int .i64 ((First.length : Int) - 1)), (4, .int .i64 (To.length : Int)), (6, .int .i64 v2), (7, .int .i64 i3)] ∧ H14 = H170) n168 ⟨0, 0, hn169, ⟨by kernel_rfl, by kernel_rfl, by kernel_rfl, by kernel_rfl, by kernel_rfl, by kernel_rfl, trivial⟩, rfl⟩ ?_
       rintro n168 α H170 ⟨v2, i3, hi173, hh172, rfl⟩ K178 k178
       obtain ⟨n174, z175, rfl, hz176, hn177⟩ := iter_succ hi173
       obtain ⟨β, rfl⟩ := has_ex hh172
       clear hh172
       replace hz176 : z_viaductref05_DocCheck_l2 First To Weight v2 i3 = some z175 := hz176
       unfold z_viaductref05_DocCheck_l2 at hz176
       refine w_seqk fun K179 k179 => ?_
       refine w_seqk fun K180 k180 => ?_
       refine w_reg (by kernel_rfl) ?_
       refine s_qk (.int .i64 i3) (by kernel_rfl) ?_
       refine s_qk (.int .i64 (To.length : Int)) (by kernel_rfl) ?_
       refine s_qk (.bool (decide (i3 < (To.length : Int)))) (by kernel_rfl) ?_
       refine s_nil ?_
       refine k180 _ _ ?_
       refine w_condp (i3 < (To.length : Int)) (by kernel_rfl) rfl (fun h181 => ?_) (fun h181 => ?_)
       ·have r182 := ite_t h181 hz176
        refine w_skip ?_
        refine k179 _ _ ?_
        refine w_seqk fun K183 k183 => ?_
        refine w_block ?_
        refine w_seqk fun K184 k184 => ?_
        obtain ⟨o185, hx186, r187⟩ := bind_some r182
        refine w_mid (fun α H188 => Has α [(1, .pointer (some ⟨b7, 0, none⟩)), (2, .pointer (some ⟨b13, 0, none⟩)), (3, .int .i64 ((First.length : Int) - 1)), (4, .int .i64 (To.length : Int)), (6, .int .i64 o185), (7, .int .i64 i3)] ∧ H14 = H188) (fun K190 k190 => ?_) (fun α H188 hM => ?_)
        ·refine w_block ?_
         obtain ⟨n192, hn193⟩ := loopO_iff.1 hx186
         refine w_loopn (fun n α H194 => ∃ (v1 : Int), iterO (fun zz_ => z_viaductref05_DocCheck_l1 First i3 zz_) n v1 = some o185 ∧ Has α [(1, .pointer (some ⟨b7, 0, none⟩)), (2, .pointer (some ⟨b13, 0, none⟩)), (3, .int .i64 ((First.length : Int) - 1)), (4, .int .i64 (To.length : Int)), (6, .int .i64 v1), (7, .int .i64 i3)] ∧ H14 = H194) n192 ⟨v2, hn193, ⟨by kernel_rfl, by kernel_rfl, by kernel_rfl, by kernel_rfl, by kernel_rfl, by kernel_rfl, trivial⟩, rfl⟩ ?_
         rintro n192 α H194 ⟨v1, hi197, hh196, rfl⟩ K202 k202
         obtain ⟨n198, z199, rfl, hz200, hn201⟩ := iter_succ hi197
         obtain ⟨β, rfl⟩ := has_ex hh196
         clear hh196
         replace hz200 : z_viaductref05_DocCheck_l1 First i3 v1 = some z199 := hz200
         unfold z_viaductref05_DocCheck_l1 at hz200
         refine w_seqk fun K203 k203 => ?_
         refine w_seqk fun K204 k204 => ?_
         refine w_reg (by kernel_rfl) ?_
         refine s_qk (.pointer (some ⟨b7, 0, none⟩)) (by kernel_rfl) ?_
         refine s_ql (hd_First) (x := aLoad Tryd.prog 22 (.pointer (some ⟨b7, 0, none⟩)) H14) (by kernel_rfl) (u20.ld (by kernel_rfl)) ?_
         refine s_qk (.int .i64 v1) (by kernel_rfl) ?_
         obtain ⟨g205, r206⟩ := G_some hz200
         refine s_w ((v1 + 1)) (k := .i64) (x := (v1 + 1)) (by kernel_rfl) (wrap64 g205) ?_
         obtain ⟨g207, r208⟩ := G_some r206
         refine s_ql (elp hd_First 1 (v1 + 1).toNat 0) (x := aIndexAddr Tryd.prog 22 hd_First (.int .i64 (v1 + 1))) (by kernel_rfl) (u21.idxb (by kernel_rfl) g207.1 g207.2) ?_
         refine s_ql (.int .i64 (gt First (v1 + 1))) (x := aLoad Tryd.prog 3 (elp hd_First 1 (v1 + 1).toNat 0) H14) (by kernel_rfl) (u21.ld g207.1 g207.2 (by kernel_rfl)) ?_
         refine s_qk (.int .i64 i3) (by kernel_rfl) ?_
         refine s_qk (.bool (decide ((gt First (v1 + 1)) ≤ i3))) (by kernel_rfl) ?_
         refine s_nil ?_
         refine k204 _ _ ?_
         refine w_condp ((gt First (v1 + 1)) ≤ i3) (by kernel_rfl) rfl (fun h209 => ?_) (fun h209 => ?_)
         ·have r210 := ite_t h209 r208
          refine w_skip ?_
          refine k203 _ _ ?_
          refine w_block ?_
          refine w_reg (by kernel_rfl) ?_
          refine s_qk (.int .i64 v1) (by kernel_rfl) ?_
          obtain ⟨g211, r212⟩ := G_some r210
          refine s_w ((v1 + 1)) (k := .i64) (x := (v1 + 1)) (by kernel_rfl) (wrap64 (by have := g211; omega)) ?_
          refine s_qk (.int .i64 (v1 + 1)) (by kernel_rfl) ?_
          refine s_nil ?_
          obtain rfl := Option.some.inj r212
          exact k202 n198 _ _ (Nat.lt_succ_self _) ⟨(v1 + 1), hn201, ⟨by kernel_rfl, by kernel_rfl, by kernel_rfl, by kernel_rfl, by kernel_rfl, by kernel_rfl, trivial⟩, rfl⟩
         ·have r213 := ite_f h209 r208
          refine w_exit (th_exit (th_exit (bl_eq ?_)))
          obtain rfl := Option.some.inj r213
          obtain rfl := it_inr hn201
          exact k190 _ _ ⟨⟨by kernel_rfl, by kernel_rfl, by kernel_rfl, by kernel_rfl, by kernel_rfl, by kernel_rfl, trivial⟩, rfl⟩
        ·obtain ⟨hh191, rfl⟩ := hM
         obtain ⟨β, rfl⟩ := has_ex hh191
         clear hh191
         refine k184 _ _ ?_
         refine w_seqk fun K214 k214 => ?_
         refine w_reg (by kernel_rfl) ?_
         refine s_qk (.int .i64 0) (by kernel_rfl) ?_
         refine s_nil ?_
         refine k214 _ _ ?_
         refine w_seqk fun K215 k215 => ?_
         refine w_block ?_
         refine w_seqk fun K216 k216 => ?_
         obtain ⟨o217, hx218, r219⟩ := bind_some r187
         refine w_mid (fun α H220 => Has α [(1, .pointer (some ⟨b7, 0, none⟩)), (2, .pointer (some ⟨b13, 0, none⟩)), (3, .int .i64 ((First.length : Int) - 1)), (4, .int .i64 (To.length : Int)), (6, .int .i64 o185), (7, .int .i64 i3), (8, .int .i64 0), (84, .bool o217)] ∧ H14 = H220) (fun K222 k222 => ?_) (fun α H220 hM => ?_)
         ·refine w_reg (by kernel_rfl) ?_
          refine s_qk (.pointer (some ⟨b7, 1, none⟩)) (by kernel_rfl) ?_
          refine s_ql (hd_To) (x := aLoad Tryd.prog 22 (.pointer (some ⟨b7, 1, none⟩)) H14) (by kernel_rfl) (u20.ld (by kernel_rfl)) ?_
          refine s_qk (.int .i64 i3) (by kernel_rfl) ?_
          obtain ⟨g224, r225⟩ := G_some hx218
          refine s_ql (elp hd_To 1 i3.toNat 0) (x := aIndexAddr Tryd.prog 22 hd_To (.int .i64 i3)) (by kernel_rfl) (u24.idxb (by kernel_rfl) g224 h181) ?_
          refine s_ql (.int .i64 (gt To i3)) (x := aLoad Tryd.prog 3 (elp hd_To 1 i3.toNat 0) H14) (by kernel_rfl) (u24.ld g224 h181 (by kernel_rfl)) ?_
          refine s_b ((gt To i3) < 0) (by kernel_rfl) (fun h226 => ?_) (fun h226 => ?_)
          ·have r227 := ite_t h226 r225
           refine s_qk (.bool true) (by kernel_rfl) ?_
           refine s_no (by kernel_rfl) ?_
           refine s_no (by kernel_rfl) ?_
           refine s_no (by kernel_rfl) ?_
           refine s_no (by kernel_rfl) ?_
           refine s_no (by kernel_rfl) ?_
           refine s_no (by kernel_rfl) ?_
           refine s_no (by kernel_rfl) ?_
           refine s_qk (.bool true) (by kernel_rfl) ?_
           refine s_qk (.bool true) (by kernel_rfl) ?_
           refine s_nil ?_
           obtain rfl := Option.some.inj r227
           exact k222 _ _ ⟨⟨by kernel_rfl, by kernel_rfl, by kernel_rfl, by kernel_rfl, by kernel_rfl, by kernel_rfl, by kernel_rfl, by kernel_rfl, trivial⟩, rfl⟩
          ·have r228 := ite_f h226 r225
           refine s_qk (.bool false) (by kernel_rfl) ?_
           refine s_qk (.pointer (some ⟨b7, 1, none⟩)) (by kernel_rfl) ?_
           refine s_ql (hd_To) (x := aLoad Tryd.prog 22 (.pointer (some ⟨b7, 1, none⟩)) H14) (by kernel_rfl) (u20.ld (by kernel_rfl)) ?_
           refine s_qk (.int .i64 i3) (by kernel_rfl) ?_
           refine s_ql (elp hd_To 1 i3.toNat 0) (x := aIndexAddr Tryd.prog 22 hd_To (.int .i64 i3)) (by kernel_rfl) (u24.idxb (by kernel_rfl) g224 h181) ?_
           refine s_ql (.int .i64 (gt To i3)) (x := aLoad Tryd.prog 3 (elp hd_To 1 i3.toNat 0) H14) (by kernel_rfl) (u24.ld g224 h181 (by kernel_rfl)) ?_
           refine s_qk (.int .i64 ((First.length : Int) - 1)) (by kernel_rfl) ?_
           refine s_qk (.bool (decide ((gt To i3) ≥ ((First.length : Int) - 1)))) (by kernel_rfl) ?_
           refine s_qk (.bool (decide ((gt To i3) ≥ ((First.length : Int) - 1)))) (by kernel_rfl) ?_
           refine s_qk (.bool (decide ((gt To i3) ≥ ((First.length : Int) - 1)))) (by kernel_rfl) ?_
           refine s_nil ?_
           obtain rfl := Option.some.inj r228
           exact k222 _ _ ⟨⟨by kernel_rfl, by kernel_rfl, by kernel_rfl, by kernel_rfl, by kernel_rfl, by kernel_rfl, by kernel_rfl, by kernel_rfl, trivial⟩, rfl⟩
         ·obtain ⟨hh223, rfl⟩ := hM
          obtain ⟨β, rfl⟩ := has_ex hh223
          clear hh223
          refine k216 _ _ ?_
          obtain ⟨o229, hx230, r231⟩ := bind_some r219
          refine w_mid (fun α H232 => Has α [(1, .pointer (some ⟨b7, 0, none⟩)), (2, .pointer (some ⟨b13, 0, none⟩)), (3, .int .i64 ((First.length : Int) - 1)), (4, .int .i64 (To.length : Int)), (6, .int .i64 o185), (7, .int .i64 i3), (8, .int .i64 o229)] ∧ H14 = H232) (fun K234 k234 => ?_) (fun α H232 hM => ?_)
          ·refine w_cond (o217) (by kernel_rfl) rfl (fun h236 => ?_) (fun h236 => ?_)
           ·have r237 := ite_t h236 hx230
            refine w_reg (by kernel_rfl) ?_
            refine s_qk (.int .i64 7) (by kernel_rfl) ?_
            refine s_nil ?_
            obtain rfl := Option.some.inj r237
            exact k234 _ _ ⟨⟨by kernel_rfl, by kernel_rfl, by kernel_rfl, by kernel_rfl, by kernel_rfl, by kernel_rfl, by kernel_rfl, trivial⟩, rfl⟩
           ·have r238 := ite_bf h236 hx230
            refine w_seqk fun K239 k239 => ?_
            obtain ⟨o240, hx241, r242⟩ := bind_some r238
            refine w_mid (fun α H243 => Has α [(1, .pointer (some ⟨b7, 0, none⟩)), (2, .pointer (some ⟨b13, 0, none⟩)), (3, .int .i64 ((First.length : Int) - 1)), (4, .int .i64 (To.length : Int)), (6, .int .i64 o185), (7, .int .i64 i3), (8, .int .i64 0), (100, .bool o240)] ∧ H14 = H243) (fun K245 k245 => ?_) (fun α H243 hM => ?_)
            ·refine w_draw [0, 1, 2, 3, 4, 5, 6, 7, 8, 9, 10, 11, 12, 13, 14, 15, 16, 17, 18, 19, 20, 21, 22, 23, 24, 25, 26, 27, 28, 29, 30] (by kernel_rfl) ?_
             refine d_qk (.pointer (some ⟨b7, 1, none⟩)) (by kernel_rfl) ?_
             refine d_ql (hd_To) (x := aLoad Tryd.prog 22 (.pointer (some ⟨b7, 1, none⟩)) H14) (by kernel_rfl) (u20.ld (by kernel_rfl)) ?_
             refine d_qk (.int .i64 i3) (by kernel_rfl) ?_
             obtain ⟨g247, r248⟩ := G_some hx241
             refine d_ql (elp hd_To 1 i3.toNat 0) (x := aIndexAddr Tryd.prog 22 hd_To (.int .i64 i3)) (by kernel_rfl) (u24.idxb (by kernel_rfl) g247 h181) ?_
             refine d_ql (.int .i64 (gt To i3)) (x := aLoad Tryd.prog 3 (elp hd_To 1 i3.toNat 0) H14) (by kernel_rfl) (u24.ld g247 h181 (by kernel_rfl)) ?_
             refine d_qk (.int .i64 o185) (by kernel_rfl) ?_
             refine d_b ((gt To i3) = o185) (by kernel_rfl) (fun h249 => ?_) (fun h249 => ?_)
             ·have r250 := ite_t h249 r248
              refine d_qk (.bool true) (by kernel_rfl) ?_
              refine d_idle (by kernel_rfl) ?_
              refine d_idle (by kernel_rfl) ?_
              refine d_idle (by kernel_rfl) ?_
              refine d_idle (by kernel_rfl) ?_
              refine d_idle (by kernel_rfl) ?_
              refine d_idle (by kernel_rfl) ?_
              refine d_idle (by kernel_rfl) ?_
              refine d_idle (by kernel_rfl) ?_
              refine d_idle (by kernel_rfl) ?_
              refine d_idle (by kernel_rfl) ?_
              refine d_idle (by kernel_rfl) ?_
              refine d_idle (by kernel_rfl) ?_
              refine d_idle (by kernel_rfl) ?_
              refine d_idle (by kernel_rfl) ?_
              refine d_idle (by kernel_rfl) ?_
              refine d_idle (by kernel_rfl) ?_
              refine d_idle (by kernel_rfl) ?_
              refine d_idle (by kernel_rfl) ?_
              refine d_idle (by kernel_rfl) ?_
              refine d_idle (by kernel_rfl) ?_
              refine d_idle (by kernel_rfl) ?_
              refine d_qk (.bool true) (by kernel_rfl) ?_
              refine d_qk (.bool true) (by kernel_rfl) ?_
              refine d_nil ?_
              obtain rfl := Option.some.inj r250
              exact k245 _ _ ⟨⟨by kernel_rfl, by kernel_rfl, by kernel_rfl, by kernel_rfl, by kernel_rfl, by kernel_rfl, by kernel_rfl, by kernel_rfl, trivial⟩, rfl⟩
             ·have r251 := ite_f h249 r248
              refine d_qk (.bool false) (by kernel_rfl) ?_
              refine d_qk (.int .i64 i3) (by kernel_rfl) ?_
              refine d_qk (.pointer (some ⟨b7, 0, none⟩)) (by kernel_rfl) ?_
              refine d_ql (hd_First) (x := aLoad Tryd.prog 22 (.pointer (some ⟨b7, 0, none⟩)) H14) (by kernel_rfl) (u20.ld (by kernel_rfl)) ?_
              refine d_qk (.int .i64 o185) (by kernel_rfl) ?_
              obtain ⟨g252, r253⟩ := G_some r251
              refine d_ql (elp hd_First 1 o185.toNat 0) (x := aIndexAddr Tryd.prog 22 hd_First (.int .i64 o185)) (by kernel_rfl) (u21.idxb (by kernel_rfl) g252.1 g252.2) ?_
              refine d_ql (.int .i64 (gt First o185)) (x := aLoad Tryd.prog 3 (elp hd_First 1 o185.toNat 0) H14) (by kernel_rfl) (u21.ld g252.1 g252.2 (by kernel_rfl)) ?_
              refine d_b (i3 > (gt First o185)) (by kernel_rfl) (fun h254 => ?_) (fun h254 => ?_)
              ·have r255 := ite_t h254 r253
               refine d_qk (.bool true) (by kernel_rfl) ?_
               refine d_qk (.pointer (some ⟨b7, 1, none⟩)) (by kernel_rfl) ?_
               refine d_ql (hd_To) (x := aLoad Tryd.prog 22 (.pointer (some ⟨b7, 1, none⟩)) H14) (by kernel_rfl) (u20.ld (by kernel_rfl)) ?_
               refine d_qk (.int .i64 i3) (by kernel_rfl) ?_
               refine d_ql (elp hd_To 1 i3.toNat 0) (x := aIndexAddr Tryd.prog 22 hd_To (.int .i64 i3)) (by kernel_rfl) (u24.idxb (by kernel_rfl) g247 h181) ?_
               refine d_ql (.int .i64 (gt To i3)) (x := aLoad Tryd.prog 3 (elp hd_To 1 i3.toNat 0) H14) (by kernel_rfl) (u24.ld g247 h181 (by kernel_rfl)) ?_
               refine d_qk (.pointer (some ⟨b7, 1, none⟩)) (by kernel_rfl) ?_
               refine d_ql (hd_To) (x := aLoad Tryd.prog 22 (.pointer (some ⟨b7, 1, none⟩)) H14) (by kernel_rfl) (u20.ld (by kernel_rfl)) ?_
               refine d_qk (.int .i64 i3) (by kernel_rfl) ?_
               obtain ⟨g256, r257⟩ := G_some r255
               refine d_w ((i3 - 1)) (k := .i64) (x := (i3 - 1)) (by kernel_rfl) (wrap64 g256) ?_
               obtain ⟨g258, r259⟩ := G_some r257
               refine d_ql (elp hd_To 1 (i3 - 1).toNat 0) (x := aIndexAddr Tryd.prog 22 hd_To (.int .i64 (i3 - 1))) (by kernel_rfl) (u24.idxb (by kernel_rfl) g258.1 g258.2) ?_
               refine d_ql (.int .i64 (gt To (i3 - 1))) (x := aLoad Tryd.prog 3 (elp hd_To 1 (i3 - 1).toNat 0) H14) (by kernel_rfl) (u24.ld g258.1 g258.2 (by kernel_rfl)) ?_
               refine d_qk (.bool (decide ((gt To i3) ≤ (gt To (i3 - 1))))) (by kernel_rfl) ?_
               refine d_qk (.bool (decide ((gt To i3) ≤ (gt To (i3 - 1))))) (by kernel_rfl) ?_
               refine d_qk (.bool (decide ((gt To i3) ≤ (gt To (i3 - 1))))) (by kernel_rfl) ?_
               refine d_qk (.bool (decide ((gt To i3) ≤ (gt To (i3 - 1))))) (by kernel_rfl) ?_
               refine d_nil ?_
               obtain rfl := Option.some.inj r259
               exact k245 _ _ ⟨⟨by kernel_rfl, by kernel_rfl, by kernel_rfl, by kernel_rfl, by kernel_rfl, by kernel_rfl, by kernel_rfl, by kernel_rfl, trivial⟩, rfl⟩
              ·have r260 := ite_f h254 r253
               refine d_qk (.bool false) (by kernel_rfl) ?_
               refine d_idle (by kernel_rfl) ?_
               refine d_idle (by kernel_rfl) ?_
               refine d_idle (by kernel_rfl) ?_
               refine d_idle (by kernel_rfl) ?_
               refine d_idle (by kernel_rfl) ?_
               refine d_idle (by kernel_rfl) ?_
               refine d_idle (by kernel_rfl) ?_
               refine d_idle (by kernel_rfl) ?_
               refine d_idle (by kernel_rfl) ?_
               refine d_idle (by kernel_rfl) ?_
               refine d_idle (by kernel_rfl) ?_
               refine d_idle (by kernel_rfl) ?_
               refine d_qk (.bool false) (by kernel_rfl) ?_
               refine d_qk (.bool false) (by kernel_rfl) ?_
               refine d_qk (.bool false) (by kernel_rfl) ?_
               refine d_nil ?_
               obtain rfl := Option.some.inj r260
               exact k245 _ _ ⟨⟨by kernel_rfl, by kernel_rfl, by kernel_rfl, by kernel_rfl, by kernel_rfl, by kernel_rfl, by kernel_rfl, by kernel_rfl, trivial⟩, rfl⟩
            ·obtain ⟨hh246, rfl⟩ := hM
             obtain ⟨β, rfl⟩ := has_ex hh246
             clear hh246
             refine k239 _ _ ?_
             refine w_cond (o240) (by kernel_rfl) rfl (fun h261 => ?_) (fun h261 => ?_)
             ·have r262 := ite_t h261 r242
              refine w_reg (by kernel_rfl) ?_
              refine s_qk (.int .i64 14) (by kernel_rfl) ?_
              refine s_nil ?_
              obtain rfl := Option.some.inj r262
              exact k234 _ _ ⟨⟨by kernel_rfl, by kernel_rfl, by kernel_rfl, by kernel_rfl, by kernel_rfl, by kernel_rfl, by kernel_rfl, trivial⟩, rfl⟩
             ·have r263 := ite_bf h261 r242
              refine w_seqk fun K264 k264 => ?_
              refine w_reg (by kernel_rfl) ?_
              refine s_qk (.pointer (some ⟨b7, 2, none⟩)) (by kernel_rfl) ?_
              refine s_ql (hd_Weight) (x := aLoad Tryd.prog 22 (.pointer (some ⟨b7, 2, none⟩)) H14) (by kernel_rfl) (u20.ld (by kernel_rfl)) ?_
              refine s_qk (.int .i64 i3) (by kernel_rfl) ?_
              obtain ⟨g265, r266⟩ := G_some r263
              have u267 := ((h_Weight.ext e9).ext e15)
              refine s_ql (elp hd_Weight 1 i3.toNat 0) (x := aIndexAddr Tryd.prog 22 hd_Weight (.int .i64 i3)) (by kernel_rfl) (u267.idxb (by kernel_rfl) g265.1 g265.2) ?_
              refine s_ql (.int .i64 (gt Weight i3)) (x := aLoad Tryd.prog 3 (elp hd_Weight 1 i3.toNat 0) H14) (by kernel_rfl) (u267.ld g265.1 g265.2 (by kernel_rfl)) ?_
              refine s_b ((gt Weight i3) < 0) (by kernel_rfl) (fun h268 => ?_) (fun h268 => ?_)
              ·have r269 := ite_t h268 r266
               refine s_qk (.bool true) (by kernel_rfl) ?_
               refine s_no (by kernel_rfl) ?_
               refine s_no (by kernel_rfl) ?_
               refine s_no (by kernel_rfl) ?_
               refine s_no (by kernel_rfl) ?_
               refine s_no (by kernel_rfl) ?_
               refine s_no (by kernel_rfl) ?_
               refine s_qk (.bool true) (by kernel_rfl) ?_
               refine s_qk (.bool true) (by kernel_rfl) ?_
               refine s_nil ?_
               refine k264 _ _ ?_
               refine w_cond true (by kernel_rfl) rfl (fun _ => ?_) (fun h => by cases h)
               refine w_reg (by kernel_rfl) ?_
               refine s_qk (.int .i64 8) (by kernel_rfl) ?_
               refine s_nil ?_
               obtain rfl := Option.some.inj r269
               exact k234 _ _ ⟨⟨by kernel_rfl, by kernel_rfl, by kernel_rfl, by kernel_rfl, by kernel_rfl, by kernel_rfl, by kernel_rfl, trivial⟩, rfl⟩
              ·have r270 := ite_f h268 r266
               refine s_qk (.bool false) (by kernel_rfl) ?_
               refine s_qk (.pointer (some ⟨b7, 2, none⟩)) (by kernel_rfl) ?_
               refine s_ql (hd_Weight) (x := aLoad Tryd.prog 22 (.pointer (some ⟨b7, 2, none⟩)) H14) (by kernel_rfl) (u20.ld (by kernel_rfl)) ?_
               refine s_qk (.int .i64 i3) (by kernel_rfl) ?_
               refine s_ql (elp hd_Weight 1 i3.toNat 0) (x := aIndexAddr Tryd.prog 22 hd_Weight (.int .i64 i3)) (by kernel_rfl) (u267.idxb (by kernel_rfl) g265.1 g265.2) ?_
               refine s_ql (.int .i64 (gt Weight i3)) (x := aLoad Tryd.prog 3 (elp hd_Weight 1 i3.toNat 0) H14) (by kernel_rfl) (u267.ld g265.1 g265.2 (by kernel_rfl)) ?_
               refine s_qk (.bool (decide ((gt Weight i3) > 2147483647))) (by kernel_rfl) ?_
               refine s_qk (.bool (decide ((gt Weight i3) > 2147483647))) (by kernel_rfl) ?_
               refine s_qk (.bool (decide ((gt Weight i3) > 2147483647))) (by kernel_rfl) ?_
               refine s_nil ?_
               refine k264 _ _ ?_
               refine w_condp ((gt Weight i3) > 2147483647) (by kernel_rfl) rfl (fun h271 => ?_) (fun h271 => ?_)
               ·have r272 := ite_t h271 r270
                refine w_reg (by kernel_rfl) ?_
                refine s_qk (.int .i64 8) (by kernel_rfl) ?_
                refine s_nil ?_
                obtain rfl := Option.some.inj r272
                exact k234 _ _ ⟨⟨by kernel_rfl, by kernel_rfl, by kernel_rfl, by kernel_rfl, by kernel_rfl, by kernel_rfl, by kernel_rfl, trivial⟩, rfl⟩
               ·have r273 := ite_f h271 r270
                refine w_skip ?_
                obtain rfl := Option.some.inj r273
                exact k234 _ _ ⟨⟨by kernel_rfl, by kernel_rfl, by kernel_rfl, by kernel_rfl, by kernel_rfl, by kernel_rfl, by kernel_rfl, trivial⟩, rfl⟩
          ·obtain ⟨hh235, rfl⟩ := hM
           obtain ⟨β, rfl⟩ := has_ex hh235
           clear hh235
           refine k215 _ _ ?_
           refine w_seqk fun K274 k274 => ?_
           refine w_reg (by kernel_rfl) ?_
           refine s_qk (.int .i64 o229) (by kernel_rfl) ?_
           refine s_qk (.bool (!decide (o229 = 0))) (by kernel_rfl) ?_
           refine s_nil ?_
           refine k274 _ _ ?_
           refine w_condn (o229 = 0) (by kernel_rfl) rfl (fun h275 => ?_) (fun h275 => ?_)
           ·have r276 := ite_f h275 r231
            refine w_seqk fun K277 k277 => ?_
            refine w_reg (by kernel_rfl) ?_
            refine s_qk (.int .i64 i3) (by kernel_rfl) ?_
            refine s_qk (.int .i64 o229) (by kernel_rfl) ?_
            obtain ⟨y278, hy279, r280⟩ := bind_some r276
            refine s_ck 41 #[.int .i64 o229] (by kernel_rfl) (c_viaductref01_E e15.wf hy279) ?_
            rintro _ H281 ⟨rfl, e282⟩
            obtain ⟨y283, hy284, r285⟩ := bind_some r280
            refine s_ck 42 #[.int .i64 4, .int .i64 i3, .agg #[.int .i64 y278, .slice none 0 0]] (by kernel_rfl) (c_viaductref01_At e282.wf (Sq.nil (enc := enc_i64_i64) (sz := 2) (by decide)) hy284) ?_
            rintro _ H288 ⟨s286, f287, rfl, e289, m290, i291⟩
            obtain ⟨a293, n294, c295, rfl⟩ := m290.form
            have u300 := ((r17.frS e282 Dj.nil_l).frS e289 Dj.nil_l)
            obtain ⟨H296, q297, e298, r299⟩ := Row.store (P := Tryd.prog) (t := 31) (p := 0) e289.wf u300 (.agg #[.int .i64 y283.1, .slice a293 n294 c295]) [.int .i64 y283.1, .slice a293 n294 c295] (by kernel_rfl) (by kernel_rfl) (one_cons (rfl) (one_cons (m290.one1) (one_nil))) (Nat.le_of_ble_eq_true (by kernel_rfl)) [.int .i64 y283.1, .slice a293 n294 c295] (by kernel_rfl)
            refine s_ek (undef) (by kernel_rfl) (map_ok q297) ?_
            refine s_nil ?_
            refine k277 _ _ ?_
            refine w_ret (bl_ret (th_ret (th_ret (bl_ret (th_ret (th_ret ?_))))))
            obtain ⟨v301, hv302, hz303⟩ := map_some r285
            subst hz303
            obtain rfl := it_inr hn177
            have hq304 := elim_inl r162
            rw [hq304] at hv302
            refine b_ret (fn := Tryd.f48) (vs := [.agg #[.int .i64 y283.1, .slice a293 n294 c295]]) (aRes_cell (Eq.trans (b := aLoad Tryd.prog 31 (.pointer (some ⟨b13, 0, none⟩)) H296) (by kernel_rfl) (r299.ld (by kernel_rfl))) (rfl)) ?_
            have u305 := (m290.fr e298 (Dj.symm (i291.djn (r17.ltF.le e282.next))))
            obtain rfl := Option.some.inj hv302
            exact ⟨(.slice a293 n294 c295), f287, rfl, (FrS.step wf (FrS.step wf (FrS.step wf (((FrS.refl (W := []) wf).extR e9).extR e15) e282 Inn.nil) e289 Inn.nil) e298 (hb16.fresh e9.next)), u305, (i291.fresh (ntr (ntr e9.next e15.next) e282.next))⟩
           ·have r306 := ite_t h275 r231
            refine w_skip ?_
            refine k183 _ _ ?_
            refine w_reg (by kernel_rfl) ?_
            refine s_qk (.int .i64 i3) (by kernel_rfl) ?_
            obtain ⟨g307, r308⟩ := G_some r306
            refine s_w ((i3 + 1)) (k := .i64) (x := (i3 + 1)) (by kernel_rfl) (wrap64 g307) ?_
            refine s_qk (.int .i64 (i3 + 1)) (by kernel_rfl) ?_
            refine s_nil ?_
            obtain rfl := Option.some.inj r308
            exact k178 n174 _ _ (Nat.lt_succ_self _) ⟨o185, (i3 + 1), hn177, ⟨by kernel_rfl, by kernel_rfl, by kernel_rfl, by kernel_rfl, by kernel_rfl, by kernel_rfl, trivial⟩, rfl⟩
       ·have r309 := ite_f h181 hz176
        refine w_exit (th_exit (th_exit (bl_eq ?_)))
        obtain rfl := Option.some.inj r309
        obtain rfl := it_inr hn177
        exact k166 _ _ ⟨_, rfl, ⟨by kernel_rfl, trivial⟩, rfl⟩
      ·obtain ⟨o160, rfl, hh167, rfl⟩ := hM
       have r310 := elim_inr r162
       obtain ⟨β, rfl⟩ := has_ex hh167
       clear hh167
       refine k158 _ _ ?_
       refine w_seqk fun K311 k311 => ?_
       refine w_reg (by kernel_rfl) ?_
       refine s_qk (.agg #[.int .i64 0, .slice none 0 0]) (by kernel_rfl) ?_
       obtain ⟨H312, q313, e314, r315⟩ := Row.store (P := Tryd.prog) (t := 31) (p := 0) e15.wf r17 (.agg #[.int .i64 0, .slice none 0 0]) [.int .i64 0, .slice none 0 0] (by kernel_rfl) (by kernel_rfl) (one_cons (rfl) (one_cons (rfl) (one_nil))) (Nat.le_of_ble_eq_true (by kernel_rfl)) [.int .i64 0, .slice none 0 0] (by kernel_rfl)
       refine s_ek (undef) (by kernel_rfl) (map_ok q313) ?_
       refine s_nil ?_
       refine k311 _ _ ?_
       refine w_ret ?_
       refine b_ret (fn := Tryd.f48) (vs := [.agg #[.int .i64 0, .slice none 0 0]]) (aRes_cell (Eq.trans (b := aLoad Tryd.prog 31 (.pointer (some ⟨b13, 0, none⟩)) H312) (by kernel_rfl) (r315.ld (by kernel_rfl))) (rfl)) ?_
       obtain rfl := Option.some.inj r310
       exact ⟨(.slice none 0 0), [], rfl, (FrS.step wf (((FrS.refl (W := []) wf).extR e9).extR e15) e314 (hb16.fresh e9.next)), (Ow.nil (by decide)), Inn.nil⟩

theorem c_viaductref01_Err_Bad {H : AH} {hd_Places : Value} {fp_Places : Fp} {Code : Int} {Places : List (Int × Int)} {r : Bool}
  (wf : WF H) (h_Places : Sq enc_i64_i64 2 H hd_Places Places fp_Places) (hr : z_viaductref01_Err_Bad Code Places = some r) :
  ACalls Tryd.prog 24 #[.agg #[.int .i64 Code, hd_Places]] H fun v H' => v = .bool r ∧ FrS [] H H' := by
 refine acalls_of_body mixed Tryd.func24 rfl (Nat.le_of_ble_eq_true rfl) ?_
 unfold z_viaductref01_Err_Bad at hr
 refine w_seqk fun K1 k1 => ?_
 refine w_reg (by kernel_rfl) ?_
 refine s_rwl wf [.int .i64 Code, hd_Places] (one_cons (rfl) (one_cons (h_Places.one1) (one_nil))) (by kernel_rfl) fun b2 H3 e4 hb5 r6 => ?_
 refine s_qk (.bool false) (by kernel_rfl) ?_
 refine s_nil ?_
 refine k1 _ _ ?_
 refine w_seqk fun K8 k8 => ?_
 refine w_reg (by kernel_rfl) ?_
 refine s_qk (.pointer (some ⟨b2, 0, none⟩)) (by kernel_rfl) ?_
 refine s_ql (.int .i64 Code) (x := aLoad Tryd.prog 3 (.pointer (some ⟨b2, 0, none⟩)) H3) (by kernel_rfl) (r6.ld (by kernel_rfl)) ?_
 refine s_bn (Code = 0) (by kernel_rfl) (fun h9 => ?_) (fun h9 => ?_)
 ·have r10 := ite_t h9 hr
  refine s_qk (.bool false) (by kernel_rfl) ?_
  refine s_qk (.pointer (some ⟨b2, 1, none⟩)) (by kernel_rfl) ?_
  refine s_ql (hd_Places) (x := aLoad Tryd.prog 29 (.pointer (some ⟨b2, 1, none⟩)) H3) (by kernel_rfl) (r6.ld (by kernel_rfl)) ?_
  have u11 := (h_Places.ext e4)
  refine s_ql (.int .i64 (Places.length : Int)) (x := aLen Tryd.prog 29 hd_Places H3) (by kernel_rfl) (u11.lenb (by kernel_rfl)) ?_
  refine s_qk (.bool (decide ((Places.length : Int) > 0))) (by kernel_rfl) ?_
  refine s_qk (.bool (decide ((Places.length : Int) > 0))) (by kernel_rfl) ?_
  refine s_qk (.bool (decide ((Places.length : Int) > 0))) (by kernel_rfl) ?_
  refine s_nil ?_
  refine k8 _ _ ?_
  refine w_ret ?_
  refine b_ret (fn := Tryd.f24) (vs := [.bool (decide ((Places.length : Int) > 0))]) (aRes_tmp (by kernel_rfl) (rfl)) ?_
  obtain rfl := Option.some.inj r10
  exact ⟨rfl, ((FrS.refl (W := []) wf).extR e4)⟩
 ·have r12 := ite_f h9 hr
  refine s_qk (.bool true) (by kernel_rfl) ?_
  refine s_no (by kernel_rfl) ?_
  refine s_no (by kernel_rfl) ?_
  refine s_no (by kernel_rfl) ?_
  refine s_no (by kernel_rfl) ?_
  refine s_qk (.bool true) (by kernel_rfl) ?_
  refine s_qk (.bool true) (by kernel_rfl) ?_
  refine s_nil ?_
  refine k8 _ _ ?_
  refine w_ret ?_
  refine b_ret (fn := Tryd.f24) (vs := [.bool true]) (aRes_tmp (by kernel_rfl) (rfl)) ?_
  obtain rfl := Option.some.inj r12
  exact ⟨rfl, ((FrS.refl (W := []) wf).extR e4)⟩

theorem c_viaductlaw09_few {H : AH} {hd_First : Value} {fp_First : Fp} {hd_To : Value} {fp_To : Fp} {hd_Weight : Value} {fp_Weight : Fp} {hd_l : Value} {fp_l : Fp} {First : List (Int)} {To : List (Int)} {Weight : List (Int)} {l : List (Int)} {r : Bool}
  (wf : WF H) (h_First : Sq (encI .i64) 1 H hd_First First fp_First) (h_To : Sq (encI .i64) 1 H hd_To To fp_To) (h_Weight : Sq (encI .i64) 1 H hd_Weight Weight fp_Weight) (h_l : Sq (encI .i64) 1 H hd_l l fp_l) (hr : z_viaductlaw09_few First To Weight l = some r) :
  ACalls Tryd.prog 34 #[.agg #[hd_First, hd_To, hd_Weight], hd_l] H fun v H' => v = .bool r ∧ FrS [] H H' := by
 refine acalls_of_body mixed Tryd.func34 rfl (Nat.le_of_ble_eq_true rfl) ?_
 unfold z_viaductlaw09_few at hr
 refine w_seqk fun K1 k1 => ?_
 refine w_reg (by kernel_rfl) ?_
 refine s_rwl wf [hd_First, hd_To, hd_Weight] (one_cons (h_First.one1) (one_cons (h_To.one1) (one_cons (h_Weight.one1) (one_nil)))) (by kernel_rfl) fun b2 H3 e4 hb5 r6 => ?_
 refine s_qk (.bool false) (by kernel_rfl) ?_
 refine s_nil ?_
 refine k1 _ _ ?_
 refine w_seqk fun K8 k8 => ?_
 refine w_reg (by kernel_rfl) ?_
 refine s_ql (.agg #[hd_First, hd_To, hd_Weight]) (x := aLoad Tryd.prog 37 (.pointer (some ⟨b2, 0, none⟩)) H3) (by kernel_rfl) (r6.ld (by kernel_rfl)) ?_
 have u9 := (h_First.ext e4)
 have u10 := (h_To.ext e4)
 have u11 := (h_Weight.ext e4)
 obtain ⟨y12, hy13, r14⟩ := bind_some hr
 refine s_ck 48 #[.agg #[hd_First, hd_To, hd_Weight]] (by kernel_rfl) (c_viaductref05_DocCheck e4.wf u9 u10 u11 hy13) ?_
 rintro _ H17 ⟨s15, f16, rfl, e18, m19, i20⟩
 obtain ⟨a22, n23, c24, rfl⟩ := m19.form
 refine s_rwk e18.wf [.int .i64 0, .slice none 0 0] (by kernel_rfl) fun b25 H26 e27 hb28 r29 => ?_
 have u35 := (m19.ext e27)
 obtain ⟨H31, q32, e33, r34⟩ := Row.store (P := Tryd.prog) (t := 31) (p := 0) e27.wf r29 (.agg #[.int .i64 y12.1, .slice a22 n23 c24]) [.int .i64 y12.1, .slice a22 n23 c24] (by kernel_rfl) (by kernel_rfl) (one_cons (rfl) (one_cons (u35.one1) (one_nil))) (Nat.le_of_ble_eq_true (by kernel_rfl)) [.int .i64 y12.1, .slice a22 n23 c24] (by kernel_rfl)
 refine s_ek (undef) (by kernel_rfl) (map_ok q32) ?_
 refine s_nil ?_
 refine k8 _ _ ?_
 refine w_seqk fun K36 k36 => ?_
 refine w_reg (by kernel_rfl) ?_
 refine s_qk (hd_l) (by kernel_rfl) ?_
 have u37 := ((((h_l.ext e4).fr e18 Dj.nil_l).ext e27).fr e33 (hb28.djn (h_l.lt.le (ntr e4.next e18.next))))
 refine s_ql (.int .i64 (l.length : Int)) (x := aLen Tryd.prog 22 hd_l H31) (by kernel_rfl) (u37.lenb (by kernel_rfl)) ?_
 refine s_b ((l.length : Int) ≤ 2000) (by kernel_rfl) (fun h38 => ?_) (fun h38 => ?_)
 ·have r39 := ite_t h38 r14
  refine s_qk (.bool true) (by kernel_rfl) ?_
  refine s_ql (.agg #[.int .i64 y12.1, .slice a22 n23 c24]) (x := aLoad Tryd.prog 31 (.pointer (some ⟨b25, 0, none⟩)) H31) (by kernel_rfl) (r34.ld (by kernel_rfl)) ?_
  have u40 := (u35.fr e33 (hb28.djn m19.lt))
  obtain ⟨y41, hy42, r43⟩ := bind_some r39
  refine s_ck 24 #[.agg #[.int .i64 y12.1, .slice a22 n23 c24]] (by kernel_rfl) (c_viaductref01_Err_Bad e33.wf u40.sq hy42) ?_
  rintro _ H44 ⟨rfl, e45⟩
  by_cases h46 : y41 = true
  ·have r47 := ite_t h46 r43
   rw [h46]
   refine s_qk (.bool true) (by kernel_rfl) ?_
   refine s_no (by kernel_rfl) ?_
   refine s_no (by kernel_rfl) ?_
   refine s_no (by kernel_rfl) ?_
   refine s_no (by kernel_rfl) ?_
   refine s_qk (.bool true) (by kernel_rfl) ?_
   refine s_qk (.bool true) (by kernel_rfl) ?_
   refine s_qk (.bool true) (by kernel_rfl) ?_
   refine s_nil ?_
   refine k36 _ _ ?_
   refine w_ret ?_
   refine b_ret (fn := Tryd.f34) (vs := [.bool true]) (aRes_tmp (by kernel_rfl) (rfl)) ?_
   obtain rfl := Option.some.inj r47
   exact ⟨rfl, (FrS.step wf (FrS.step wf ((FrS.step wf ((FrS.refl (W := []) wf).extR e4) e18 Inn.nil).extR e27) e33 (hb28.fresh (ntr e4.next e18.next))) e45 Inn.nil)⟩
  ·have r49 := ite_f h46 r43
   rw [nb h46]
   refine s_qk (.bool false) (by kernel_rfl) ?_
   refine s_qk (.pointer (some ⟨b2, 0, none⟩)) (by kernel_rfl) ?_
   have u51 := ((((r6.frS e18 Dj.nil_l).ext e27).frS e33 (hb28.djn (r6.ltF.le e18.next))).frS e45 Dj.nil_l)
   refine s_ql (hd_First) (x := aLoad Tryd.prog 22 (.pointer (some ⟨b2, 0, none⟩)) H44) (by kernel_rfl) (u51.ld (by kernel_rfl)) ?_
   have u52 := ((((u9.fr e18 Dj.nil_l).ext e27).fr e33 (hb28.djn (h_First.lt.le (ntr e4.next e18.next)))).fr e45 Dj.nil_l)
   refine s_ql (.int .i64 (First.length : Int)) (x := aLen Tryd.prog 22 hd_First H44) (by kernel_rfl) (u52.lenb (by kernel_rfl)) ?_
   refine s_qk (.bool (decide ((First.length : Int) ≤ 30))) (by kernel_rfl) ?_
   refine s_qk (.bool (decide ((First.length : Int) ≤ 30))) (by kernel_rfl) ?_
   refine s_qk (.bool (decide ((First.length : Int) ≤ 30))) (by kernel_rfl) ?_
   refine s_qk (.bool (decide ((First.length : Int) ≤ 30))) (by kernel_rfl) ?_
   refine s_nil ?_
   refine k36 _ _ ?_
   refine w_ret ?_
   refine b_ret (fn := Tryd.f34) (vs := [.bool (decide ((First.length : Int) ≤ 30))]) (aRes_tmp (by kernel_rfl) (rfl)) ?_
   obtain rfl := Option.some.inj r49
   exact ⟨rfl, (FrS.step wf (FrS.step wf ((FrS.step wf ((FrS.refl (W := []) wf).extR e4) e18 Inn.nil).extR e27) e33 (hb28.fresh (ntr e4.next e18.next))) e45 Inn.nil)⟩
 ·have r53 := ite_f h38 r14
  refine s_qk (.bool false) (by kernel_rfl) ?_
  refine s_no (by kernel_rfl) ?_
  refine s_no (by kernel_rfl) ?_
  refine s_no (by kernel_rfl) ?_
  refine s_no (by kernel_rfl) ?_
  refine s_no (by kernel_rfl) ?_
  refine s_no (by kernel_rfl) ?_
  refine s_no (by kernel_rfl) ?_
  refine s_no (by kernel_rfl) ?_
  refine s_qk (.bool false) (by kernel_rfl) ?_
  refine s_qk (.bool false) (by kernel_rfl) ?_
  refine s_nil ?_
  refine k36 _ _ ?_
  refine w_ret ?_
  refine b_ret (fn := Tryd.f34) (vs := [.bool false]) (aRes_tmp (by kernel_rfl) (rfl)) ?_
  obtain rfl := Option.some.inj r53
  exact ⟨rfl, (FrS.step wf ((FrS.step wf ((FrS.refl (W := []) wf).extR e4) e18 Inn.nil).extR e27) e33 (hb28.fresh (ntr e4.next e18.next)))⟩

theorem c_viaductref02_TwinInts {H : AH} {hd_l : Value} {fp_l : Fp} {l : List (Int)} {r : List (Int)}
  (wf : WF H) (h_l : Sq (encI .i64) 1 H hd_l l fp_l) (hr : z_viaductref02_TwinInts l = some r) :
  ACalls Tryd.prog 11 #[hd_l] H fun v H' => ∃ (s3 : Value) (f4 : Fp), v = s3 ∧ FrS [] H H' ∧ Ow (encI .i64) 1 H' s3 r f4 ∧ Inn [] H f4 := by
 refine acalls_of_body mixed Tryd.func11 rfl (Nat.le_of_ble_eq_true rfl) ?_
 unfold z_viaductref02_TwinInts at hr
 refine w_seqk fun K6 k6 => ?_
 refine w_reg (by kernel_rfl) ?_
 refine s_qk (.slice none 0 0) (by kernel_rfl) ?_
 refine s_nil ?_
 refine k6 _ _ ?_
 refine w_seqk fun K7 k7 => ?_
 refine w_reg (by kernel_rfl) ?_
 refine s_qk (.slice none 0 0) (by kernel_rfl) ?_
 refine s_nil ?_
 refine k7 _ _ ?_
 refine w_seqk fun K8 k8 => ?_
 refine w_seqk fun K9 k9 => ?_
 refine w_reg (by kernel_rfl) ?_
 refine s_qk (hd_l) (by kernel_rfl) ?_
 refine s_ql (.int .i64 (l.length : Int)) (x := aLen Tryd.prog 22 hd_l H) (by kernel_rfl) (h_l.lenb (by kernel_rfl)) ?_
 refine s_qk (.int .i64 0) (by kernel_rfl) ?_
 refine s_nil ?_
 refine k9 _ _ ?_
 obtain ⟨o10, hx11, r12⟩ := bind_some hr
 refine w_mid (fun α H13 => ∃ (s17 : Value) (f18 : Fp), Has α [(3, s17)] ∧ FrS [] H H13 ∧ Ow (encI .i64) 1 H13 s17 o10 f18 ∧ Inn [] H f18) (fun K20 k20 => ?_) (fun α H13 hM => ?_)
 ·refine w_block ?_
  obtain ⟨n22, hn23⟩ := loopO_iff.1 hx11
  refine w_loopn (fun n α H24 => ∃ (m0 : List (Int)), ∃ (i1 : Int), ∃ (s28 : Value), ∃ (f29 : Fp), iterO (fun zz_ => z_viaductref02_TwinInts_l0 l zz_.1 zz_.2) n (m0, i1) = some o10 ∧ Has α [(3, s28), (6, hd_l), (7, .int .i64 (l.length : Int)), (8, .int .i64 i1)] ∧ FrS [] H H24 ∧ Ow (encI .i64) 1 H24 s28 m0 f29 ∧ Inn [] H f29) n22 ⟨[], 0, (.slice none 0 0), [], hn23, ⟨by kernel_rfl, by kernel_rfl, by kernel_rfl, by kernel_rfl, trivial⟩, (FrS.refl (W := []) wf), (Ow.nil (by decide)), Inn.nil⟩ ?_
  rintro n22 α H24 ⟨m0, i1, s28, f29, hi32, hh31, e25, m27, i30⟩ K37 k37
  obtain ⟨n33, z34, rfl, hz35, hn36⟩ := iter_succ hi32
  obtain ⟨β, rfl⟩ := has_ex hh31
  clear hh31
  replace hz35 : z_viaductref02_TwinInts_l0 l m0 i1 = some z34 := hz35
  unfold z_viaductref02_TwinInts_l0 at hz35
  obtain ⟨a38, n39, c40, rfl⟩ := m27.form
  refine w_seqk fun K41 k41 => ?_
  refine w_reg (by kernel_rfl) ?_
  refine s_qk (.bool (decide (i1 < (l.length : Int)))) (by kernel_rfl) ?_
  refine s_nil ?_
  refine k41 _ _ ?_
  refine w_seqk fun K42 k42 => ?_
  refine w_condp (i1 < (l.length : Int)) (by kernel_rfl) rfl (fun h43 => ?_) (fun h43 => ?_)
  ·have r44 := ite_t h43 hz35
   refine w_skip ?_
   refine k42 _ _ ?_
   refine w_seqk fun K45 k45 => ?_
   refine w_block ?_
   refine w_seqk fun K46 k46 => ?_
   refine w_reg (by kernel_rfl) ?_
   obtain ⟨g47, r48⟩ := G_some r44
   have u49 := (h_l.fr e25 Dj.nil_l)
   refine s_ql (elp hd_l 1 i1.toNat 0) (x := aIndexAddr Tryd.prog 22 hd_l (.int .i64 i1)) (by kernel_rfl) (u49.idxb (by kernel_rfl) g47 h43) ?_
   refine s_ql (.int .i64 (gt l i1)) (x := aLoad Tryd.prog 3 (elp hd_l 1 i1.toNat 0) H24) (by kernel_rfl) (u49.ld g47 h43 (by kernel_rfl)) ?_
   refine s_qk (.int .i64 (gt l i1)) (by kernel_rfl) ?_
   refine s_nil ?_
   refine k46 _ _ ?_
   refine w_reg (by kernel_rfl) ?_
   refine s_qk (.slice a38 n39 c40) (by kernel_rfl) ?_
   refine s_qk (.int .i64 (gt l i1)) (by kernel_rfl) ?_
   refine s_owk (enc := (encI .i64)) (sz := 1) e25.wf [(gt l i1)] 1 (by decide) (fun _ _ => rfl) (fun _ _ => rfl) rfl (by kernel_rfl) fun s50 f51 H52 e53 hf54 hm55 => ?_
   obtain ⟨a56, n57, c58, rfl⟩ := hm55.form
   have u60 := (m27.ext e53)
   obtain ⟨g61, r62⟩ := G_some r48
   obtain ⟨s63, H64, f65, q69, e66, hm67, hf68⟩ := Ow.append (P := Tryd.prog) 8 e53.wf u60 hm55.sq (fun _ _ => rfl) (at_ := #[22, 22]) rfl rfl (by kernel_rfl) (by kernel_rfl) (by decide) (by have := g61; first | omega | (simp only [List.length_cons, List.length_nil] at this ⊢; omega) | (simp at this ⊢; omega))
   obtain ⟨a70, n71, c72, rfl⟩ := hm67.form
   refine s_ek (.slice a70 n71 c72) (by kernel_rfl) (q69) ?_
   refine s_qk (.slice a70 n71 c72) (by kernel_rfl) ?_
   refine s_nil ?_
   refine k45 _ _ ?_
   refine w_reg (by kernel_rfl) ?_
   obtain ⟨g74, r75⟩ := G_some r62
   refine s_w ((i1 + 1)) (k := .i64) (x := (i1 + 1)) (by kernel_rfl) (wrap64 (by have := g74; omega)) ?_
   refine s_qk (.int .i64 (i1 + 1)) (by kernel_rfl) ?_
   refine s_nil ?_
   obtain rfl := Option.some.inj r75
   exact k37 n33 _ _ (Nat.lt_succ_self _) ⟨(m0 ++ [(gt l i1)]), (i1 + 1), (.slice a70 n71 c72), f65, hn36, ⟨by kernel_rfl, by kernel_rfl, by kernel_rfl, by kernel_rfl, trivial⟩, (FrS.step wf ((FrS.step wf (FrS.refl (W := []) wf) e25 Inn.nil).extR e53) e66 (i30.fresh (Nat.le_refl _))), hm67, (Inn.trans (i30.fresh (Nat.le_refl _)) (ntr e25.next e53.next) hf68)⟩
  ·have r76 := ite_f h43 hz35
   refine w_exit (th_exit (th_exit (bl_eq ?_)))
   obtain rfl := Option.some.inj r76
   obtain rfl := it_inr hn36
   exact k20 _ _ ⟨(.slice a38 n39 c40), f29, ⟨by kernel_rfl, trivial⟩, (FrS.step wf (FrS.refl (W := []) wf) e25 Inn.nil), m27, (i30.fresh (Nat.le_refl _))⟩
 ·obtain ⟨s17, f18, hh21, e14, m16, i19⟩ := hM
  obtain ⟨β, rfl⟩ := has_ex hh21
  clear hh21
  obtain ⟨a77, n78, c79, rfl⟩ := m16.form
  refine k8 _ _ ?_
  refine w_seqk fun K80 k80 => ?_
  refine w_reg (by kernel_rfl) ?_
  refine s_qk (.slice a77 n78 c79) (by kernel_rfl) ?_
  refine s_qk (.slice a77 n78 c79) (by kernel_rfl) ?_
  refine s_nil ?_
  refine k80 _ _ ?_
  refine w_ret ?_
  refine b_ret (fn := Tryd.f11) (vs := [.slice a77 n78 c79]) (aRes_tmp (by kernel_rfl) (rfl)) ?_
  obtain rfl := Option.some.inj r12
  exact ⟨(.slice a77 n78 c79), f18, rfl, (FrS.step wf (FrS.refl (W := []) wf) e14 Inn.nil), m16, (i19.fresh (Nat.le_refl _))⟩

theorem c_viaductref05_Twin {H : AH} {hd_First : Value} {fp_First : Fp} {hd_To : Value} {fp_To : Fp} {hd_Weight : Value} {fp_Weight : Fp} {First : List (Int)} {To : List (Int)} {Weight : List (Int)} {r : List (Int) × List (Int) × List (Int)}
  (wf : WF H) (h_First : Sq (encI .i64) 1 H hd_First First fp_First) (h_To : Sq (encI .i64) 1 H hd_To To fp_To) (h_Weight : Sq (encI .i64) 1 H hd_Weight Weight fp_Weight) (hr : z_viaductref05_Twin First To Weight = some r) :
  ACalls Tryd.prog 53 #[.agg #[hd_First, hd_To, hd_Weight]] H fun v H' => ∃ (s3 : Value) (f4 : Fp) (s7 : Value) (f8 : Fp) (s11 : Value) (f12 : Fp), v = .agg #[s3, s7, s11] ∧ FrS [] H H' ∧ Ow (encI .i64) 1 H' s3 r.1 f4 ∧ Ow (encI .i64) 1 H' s7 r.2.1 f8 ∧ Ow (encI .i64) 1 H' s11 r.2.2 f12 ∧ Inn [] H f4 ∧ Inn [] H f8 ∧ Inn [] H f12 ∧ Dj f4 f8 ∧ Dj f4 f12 ∧ Dj f8 f12 := by
 refine acalls_of_body mixed Tryd.func53 rfl (Nat.le_of_ble_eq_true rfl) ?_
 unfold z_viaductref05_Twin at hr
 refine w_seqk fun K19 k19 => ?_
 refine w_reg (by kernel_rfl) ?_
 refine s_rwl wf [hd_First, hd_To, hd_Weight] (one_cons (h_First.one1) (one_cons (h_To.one1) (one_cons (h_Weight.one1) (one_nil)))) (by kernel_rfl) fun b20 H21 e22 hb23 r24 => ?_
 refine s_rwk e22.wf [.slice none 0 0, .slice none 0 0, .slice none 0 0] (by kernel_rfl) fun b26 H27 e28 hb29 r30 => ?_
 refine s_nil ?_
 refine k19 _ _ ?_
 refine w_seqk fun K32 k32 => ?_
 refine w_draw [0, 1, 3, 4, 6, 7, 2, 5, 8, 9, 10] (by kernel_rfl) ?_
 refine d_qk (.pointer (some ⟨b20, 0, none⟩)) (by kernel_rfl) ?_
 have u33 := (r24.ext e28)
 refine d_ql (hd_First) (x := aLoad Tryd.prog 22 (.pointer (some ⟨b20, 0, none⟩)) H27) (by kernel_rfl) (u33.ld (by kernel_rfl)) ?_
 refine d_qk (.pointer (some ⟨b20, 1, none⟩)) (by kernel_rfl) ?_
 refine d_fl (hd_To) (x := aLoad Tryd.prog 22 (.pointer (some ⟨b20, 1, none⟩)) H27) (by kernel_rfl) (u33.ld (by kernel_rfl)) ?_
 refine d_qk (.pointer (some ⟨b20, 2, none⟩)) (by kernel_rfl) ?_
 refine d_fl (hd_Weight) (x := aLoad Tryd.prog 22 (.pointer (some ⟨b20, 2, none⟩)) H27) (by kernel_rfl) (u33.ld (by kernel_rfl)) ?_
 have u34 := ((h_First.ext e22).ext e28)
 obtain ⟨y35, hy36, r37⟩ := bind_some hr
 refine d_ck 11 #[hd_First] (by kernel_rfl) (c_viaductref02_TwinInts e28.wf u34 hy36) ?_
 rintro s38 H40 ⟨_, f39, rfl, e41, m42, i43⟩
 obtain ⟨a45, n46, c47, rfl⟩ := m42.form
 have u48 := (u33.frS e41 Dj.nil_l)
 refine ⟨st_ql (y := aLoad Tryd.prog 22 (.pointer (some ⟨b20, 2, none⟩)) H40) (by kernel_rfl) (u48.ld (by kernel_rfl)) (st_ql (y := aLoad Tryd.prog 22 (.pointer (some ⟨b20, 1, none⟩)) H40) (by kernel_rfl) (u48.ld (by kernel_rfl)) (st_nil)), ?_⟩
 have u49 := (((h_To.ext e22).ext e28).fr e41 Dj.nil_l)
 obtain ⟨y50, hy51, r52⟩ := bind_some r37
 refine d_ck 11 #[hd_To] (by kernel_rfl) (c_viaductref02_TwinInts e41.wf u49 hy51) ?_
 rintro s53 H55 ⟨_, f54, rfl, e56, m57, i58⟩
 obtain ⟨a60, n61, c62, rfl⟩ := m57.form
 have u63 := (u48.frS e56 Dj.nil_l)
 refine ⟨st_ql (y := aLoad Tryd.prog 22 (.pointer (some ⟨b20, 2, none⟩)) H55) (by kernel_rfl) (u63.ld (by kernel_rfl)) (st_anc (by kernel_rfl) (st_nil)), ?_⟩
 have u64 := ((((h_Weight.ext e22).ext e28).fr e41 Dj.nil_l).fr e56 Dj.nil_l)
 obtain ⟨y65, hy66, r67⟩ := bind_some r52
 refine d_ck 11 #[hd_Weight] (by kernel_rfl) (c_viaductref02_TwinInts e56.wf u64 hy66) ?_
 rintro s68 H70 ⟨_, f69, rfl, e71, m72, i73⟩
 obtain ⟨a75, n76, c77, rfl⟩ := m72.form
 refine ⟨st_anc (by kernel_rfl) (st_anc (by kernel_rfl) (st_nil)), ?_⟩
 refine d_qk (.agg #[.slice a45 n46 c47, .slice a60 n61 c62, .slice a75 n76 c77]) (by kernel_rfl) ?_
 have u82 := (((r30.frS e41 Dj.nil_l).frS e56 Dj.nil_l).frS e71 Dj.nil_l)
 have u83 := (m57.fr e71 Dj.nil_l)
 have u84 := ((m42.fr e56 Dj.nil_l).fr e71 Dj.nil_l)
 obtain ⟨H78, q79, e80, r81⟩ := Row.store (P := Tryd.prog) (t := 37) (p := 0) e71.wf u82 (.agg #[.slice a45 n46 c47, .slice a60 n61 c62, .slice a75 n76 c77]) [.slice a45 n46 c47, .slice a60 n61 c62, .slice a75 n76 c77] (by kernel_rfl) (by kernel_rfl) (one_cons (u84.one1) (one_cons (u83.one1) (one_cons (m72.one1) (one_nil)))) (Nat.le_of_ble_eq_true (by kernel_rfl)) [.slice a45 n46 c47, .slice a60 n61 c62, .slice a75 n76 c77] (by kernel_rfl)
 refine d_ek (undef) (by kernel_rfl) (map_ok q79) (st_anc (by kernel_rfl) (st_anc (by kernel_rfl) (st_nil))) ?_
 refine d_nil ?_
 refine k32 _ _ ?_
 refine w_ret ?_
 refine b_ret (fn := Tryd.f53) (vs := [.agg #[.slice a45 n46 c47, .slice a60 n61 c62, .slice a75 n76 c77]]) (aRes_cell (Eq.trans (b := aLoad Tryd.prog 37 (.pointer (some ⟨b26, 0, none⟩)) H78) (by kernel_rfl) (r81.ld (by kernel_rfl))) (rfl)) ?_
 have u85 := (u84.fr e80 (Dj.symm (i43.djn r30.ltF)))
 have u86 := (u83.fr e80 (Dj.symm (i58.djn (r30.ltF.le e41.next))))
 have u87 := (m72.fr e80 (Dj.symm (i73.djn (r30.ltF.le (ntr e41.next e56.next)))))
 obtain rfl := Option.some.inj r67
 exact ⟨(.slice a45 n46 c47), f39, (.slice a60 n61 c62), f54, (.slice a75 n76 c77), f69, rfl, (FrS.step wf (FrS.step wf (FrS.step wf (FrS.step wf (((FrS.refl (W := []) wf).extR e22).extR e28) e41 Inn.nil) e56 Inn.nil) e71 Inn.nil) e80 (hb29.fresh e22.next)), u85, u86, u87, (i43.fresh (ntr e22.next e28.next)), (i58.fresh (ntr (ntr e22.next e28.next) e41.next)), (i73.fresh (ntr (ntr (ntr e22.next e28.next) e41.next) e56.next)), (Dj.symm (i58.djn m42.lt)), (Dj.symm (i73.djn (m42.lt.le e56.next))), (Dj.symm (i73.djn m57.lt))⟩

theorem c_viaductlaw09_of {H : AH} {hd_First : Value} {fp_First : Fp} {hd_To : Value} {fp_To : Fp} {hd_Weight : Value} {fp_Weight : Fp} {First : List (Int)} {To : List (Int)} {Weight : List (Int)} {r : List (Int) × List (Int) × List (Int)}
  (wf : WF H) (h_First : Sq (encI .i64) 1 H hd_First First fp_First) (h_To : Sq (encI .i64) 1 H hd_To To fp_To) (h_Weight : Sq (encI .i64) 1 H hd_Weight Weight fp_Weight) (hr : z_viaductlaw09_of First To Weight = some r) :
  ACalls Tryd.prog 36 #[.agg #[hd_First, hd_To, hd_Weight]] H fun v H' => ∃ (s3 : Value) (f4 : Fp) (s7 : Value) (f8 : Fp) (s11 : Value) (f12 : Fp), v = .agg #[s3, s7, s11] ∧ FrS [] H H' ∧ Ow (encI .i64) 1 H' s3 r.1 f4 ∧ Ow (encI .i64) 1 H' s7 r.2.1 f8 ∧ Ow (encI .i64) 1 H' s11 r.2.2 f12 ∧ Inn [] H f4 ∧ Inn [] H f8 ∧ Inn [] H f12 ∧ Dj f4 f8 ∧ Dj f4 f12 ∧ Dj f8 f12 := by
 refine acalls_of_body mixed Tryd.func36 rfl (Nat.le_of_ble_eq_true rfl) ?_
 unfold z_viaductlaw09_of at hr
 refine w_seqk fun K19 k19 => ?_
 refine w_reg (by kernel_rfl) ?_
 refine s_rwl wf [hd_First, hd_To, hd_Weight] (one_cons (h_First.one1) (one_cons (h_To.one1) (one_cons (h_Weight.one1) (one_nil)))) (by kernel_rfl) fun b20 H21 e22 hb23 r24 => ?_
 refine s_rwk e22.wf [.slice none 0 0, .slice none 0 0, .slice none 0 0] (by kernel_rfl) fun b26 H27 e28 hb29 r30 => ?_
 refine s_nil ?_
 refine k19 _ _ ?_
 refine w_seqk fun K32 k32 => ?_
 refine w_reg (by kernel_rfl) ?_
 have u33 := (r24.ext e28)
 refine s_ql (.agg #[hd_First, hd_To, hd_Weight]) (x := aLoad Tryd.prog 37 (.pointer (some ⟨b20, 0, none⟩)) H27) (by kernel_rfl) (u33.ld (by kernel_rfl)) ?_
 have u34 := ((h_First.ext e22).ext e28)
 have u35 := ((h_To.ext e22).ext e28)
 have u36 := ((h_Weight.ext e22).ext e28)
 obtain ⟨y37, hy38, r39⟩ := bind_some hr
 refine s_ck 53 #[.agg #[hd_First, hd_To, hd_Weight]] (by kernel_rfl) (c_viaductref05_Twin e28.wf u34 u35 u36 hy38) ?_
 rintro _ H46 ⟨s40, f41, s42, f43, s44, f45, rfl, e47, m48, m49, m50, i51, i52, i53, d54, d55, d56⟩
 obtain ⟨a60, n61, c62, rfl⟩ := m48.form
 obtain ⟨a63, n64, c65, rfl⟩ := m49.form
 obtain ⟨a66, n67, c68, rfl⟩ := m50.form
 refine s_rwk e47.wf [.slice none 0 0, .slice none 0 0, .slice none 0 0] (by kernel_rfl) fun b69 H70 e71 hb72 r73 => ?_
 have u79 := (m50.ext e71)
 have u80 := (m49.ext e71)
 have u81 := (m48.ext e71)
 obtain ⟨H75, q76, e77, r78⟩ := Row.store (P := Tryd.prog) (t := 37) (p := 0) e71.wf r73 (.agg #[.slice a60 n61 c62, .slice a63 n64 c65, .slice a66 n67 c68]) [.slice a60 n61 c62, .slice a63 n64 c65, .slice a66 n67 c68] (by kernel_rfl) (by kernel_rfl) (one_cons (u81.one1) (one_cons (u80.one1) (one_cons (u79.one1) (one_nil)))) (Nat.le_of_ble_eq_true (by kernel_rfl)) [.slice a60 n61 c62, .slice a63 n64 c65, .slice a66 n67 c68] (by kernel_rfl)
 refine s_ek (undef) (by kernel_rfl) (map_ok q76) ?_
 refine s_nil ?_
 refine k32 _ _ ?_
 refine w_seqk fun K82 k82 => ?_
 refine w_reg (by kernel_rfl) ?_
 refine s_qk (.pointer (some ⟨b69, 0, none⟩)) (by kernel_rfl) ?_
 refine s_ql (.slice a60 n61 c62) (x := aLoad Tryd.prog 22 (.pointer (some ⟨b69, 0, none⟩)) H75) (by kernel_rfl) (r78.ld (by kernel_rfl)) ?_
 refine s_qk (.pointer (some ⟨b69, 1, none⟩)) (by kernel_rfl) ?_
 refine s_ql (.slice a63 n64 c65) (x := aLoad Tryd.prog 22 (.pointer (some ⟨b69, 1, none⟩)) H75) (by kernel_rfl) (r78.ld (by kernel_rfl)) ?_
 refine s_qk (.pointer (some ⟨b69, 2, none⟩)) (by kernel_rfl) ?_
 refine s_ql (.slice a66 n67 c68) (x := aLoad Tryd.prog 22 (.pointer (some ⟨b69, 2, none⟩)) H75) (by kernel_rfl) (r78.ld (by kernel_rfl)) ?_
 refine s_qk (.agg #[.slice a60 n61 c62, .slice a63 n64 c65, .slice a66 n67 c68]) (by kernel_rfl) ?_
 have u87 := (((r30.frS e47 Dj.nil_l).ext e71).frS e77 (hb72.djn (r30.ltF.le e47.next)))
 have u88 := (u79.fr e77 (hb72.djn m50.lt))
 have u89 := (u80.fr e77 (hb72.djn m49.lt))
 have u90 := (u81.fr e77 (hb72.djn m48.lt))
 obtain ⟨H83, q84, e85, r86⟩ := Row.store (P := Tryd.prog) (t := 40) (p := 0) e77.wf u87 (.agg #[.slice a60 n61 c62, .slice a63 n64 c65, .slice a66 n67 c68]) [.slice a60 n61 c62, .slice a63 n64 c65, .slice a66 n67 c68] (by kernel_rfl) (by kernel_rfl) (one_cons (u90.one1) (one_cons (u89.one1) (one_cons (u88.one1) (one_nil)))) (Nat.le_of_ble_eq_true (by kernel_rfl)) [.slice a60 n61 c62, .slice a63 n64 c65, .slice a66 n67 c68] (by kernel_rfl)
 refine s_ek (undef) (by kernel_rfl) (map_ok q84) ?_
 refine s_nil ?_
 refine k82 _ _ ?_
 refine w_ret ?_
 refine b_ret (fn := Tryd.f36) (vs := [.agg #[.slice a60 n61 c62, .slice a63 n64 c65, .slice a66 n67 c68]]) (aRes_cell (Eq.trans (b := aLoad Tryd.prog 40 (.pointer (some ⟨b26, 0, none⟩)) H83) (by kernel_rfl) (r86.ld (by kernel_rfl))) (rfl)) ?_
 have u91 := (u90.fr e85 (Dj.symm (i51.djn r30.ltF)))
 have u92 := (u89.fr e85 (Dj.symm (i52.djn r30.ltF)))
 have u93 := (u88.fr e85 (Dj.symm (i53.djn r30.ltF)))
 obtain rfl := Option.some.inj r39
 exact ⟨(.slice a60 n61 c62), f41, (.slice a63 n64 c65), f43, (.slice a66 n67 c68), f45, rfl, (FrS.step wf (FrS.step wf ((FrS.step wf (((FrS.refl (W := []) wf).extR e22).extR e28) e47 Inn.nil).extR e71) e77 (hb72.fresh (ntr (ntr e22.next e28.next) e47.next))) e85 (hb29.fresh e22.next)), u91, u92, u93, (i51.fresh (ntr e22.next e28.next)), (i52.fresh (ntr e22.next e28.next)), (i53.fresh (ntr e22.next e28.next)), d54, d55, d56⟩

theorem c_csr_Csr_nodes {H : AH} {hd_First : Value} {fp_First : Fp} {hd_To : Value} {fp_To : Fp} {hd_Weight : Value} {fp_Weight : Fp} {First : List (Int)} {To : List (Int)} {Weight : List (Int)} {r : Int}
  (wf : WF H) (h_First : Sq (encI .i64) 1 H hd_First First fp_First) (h_To : Sq (encI .i64) 1 H hd_To To fp_To) (h_Weight : Sq (encI .i64) 1 H hd_Weight Weight fp_Weight) (hr : z_csr_Csr_nodes First To Weight = some r) :
  ACalls Tryd.prog 83 #[.agg #[hd_First, hd_To, hd_Weight]] H fun v H' => v = .int .i64 r ∧ FrS [] H H' := by
 refine acalls_of_body mixed Tryd.func83 rfl (Nat.le_of_ble_eq_true rfl) ?_
 unfold z_csr_Csr_nodes at hr
 refine w_seqk fun K1 k1 => ?_
 refine w_reg (by kernel_rfl) ?_
 refine s_rwl wf [hd_First, hd_To, hd_Weight] (one_cons (h_First.one1) (one_cons (h_To.one1) (one_cons (h_Weight.one1) (one_nil)))) (by kernel_rfl) fun b2 H3 e4 hb5 r6 => ?_
 refine s_qk (.int .i64 0) (by kernel_rfl) ?_
 refine s_nil ?_
 refine k1 _ _ ?_
 refine w_seqk fun K8 k8 => ?_
 refine w_reg (by kernel_rfl) ?_
 refine s_qk (.pointer (some ⟨b2, 0, none⟩)) (by kernel_rfl) ?_
 refine s_ql (hd_First) (x := aLoad Tryd.prog 22 (.pointer (some ⟨b2, 0, none⟩)) H3) (by kernel_rfl) (r6.ld (by kernel_rfl)) ?_
 have u9 := (h_First.ext e4)
 refine s_ql (.int .i64 (First.length : Int)) (x := aLen Tryd.prog 22 hd_First H3) (by kernel_rfl) (u9.lenb (by kernel_rfl)) ?_
 obtain ⟨g10, r11⟩ := G_some hr
 refine s_w (((First.length : Int) - 1)) (k := .i64) (x := ((First.length : Int) - 1)) (by kernel_rfl) (wrap64 g10) ?_
 refine s_qk (.int .i64 ((First.length : Int) - 1)) (by kernel_rfl) ?_
 refine s_nil ?_
 refine k8 _ _ ?_
 refine w_ret ?_
 refine b_ret (fn := Tryd.f83) (vs := [.int .i64 ((First.length : Int) - 1)]) (aRes_tmp (by kernel_rfl) (rfl)) ?_
 obtain rfl := Option.some.inj r11
 exact ⟨rfl, ((FrS.refl (W := []) wf).extR e4)⟩

theorem c_fault_At {H : AH} {ev_err : Value} {fp_err : Fp} {kind : Int} {at_ : Int} {err : Er} {r : Er}
  (wf : WF H) (h_err : Ev 80 86 H ev_err err fp_err) (hr : z_fault_At kind at_ err = some r) :
  ACalls Tryd.prog 65 #[.int .i64 kind, .int .i64 at_, ev_err] H fun v H' => ∃ (v3 : Value) (f4 : Fp), v = v3 ∧ FrS [] H H' ∧ Ev 80 86 H' v3 r f4 ∧ Inn fp_err H f4 := by
 refine acalls_of_body mixed Tryd.func65 rfl (Nat.le_of_ble_eq_true rfl) ?_
 unfold z_fault_At at hr
 refine w_seqk fun K6 k6 => ?_
 refine w_reg (by kernel_rfl) ?_
 refine s_qk (.nilIface) (by kernel_rfl) ?_
 refine s_nil ?_
 refine k6 _ _ ?_
 refine w_seqk fun K7 k7 => ?_
 refine w_seqk fun K8 k8 => ?_
 refine w_reg (by kernel_rfl) ?_
 refine s_qk (ev_err) (by kernel_rfl) ?_
 rcases (h_err).cases with ⟨h9, rfl⟩ | ⟨h9, t10, x11, rfl⟩
 ·have r12 := ite_t h9 hr
  refine s_qk (.bool true) (by kernel_rfl) ?_
  refine s_nil ?_
  refine k8 _ _ ?_
  refine w_cond true (by kernel_rfl) rfl (fun _ => ?_) (fun h => by cases h)
  refine w_seqk fun K13 k13 => ?_
  refine w_reg (by kernel_rfl) ?_
  refine s_qk (.nilIface) (by kernel_rfl) ?_
  refine s_nil ?_
  refine k13 _ _ ?_
  refine w_ret (th_ret ?_)
  refine b_ret (fn := Tryd.f65) (vs := [.nilIface]) (aRes_tmp (by kernel_rfl) (rfl)) ?_
  obtain rfl := Option.some.inj r12
  exact ⟨(.nilIface), [], rfl, (FrS.refl (W := []) wf), Ev.nil, Inn.nil⟩
 ·have r14 := ite_f h9 hr
  refine s_ql (.bool false) (x := aBin Tryd.prog .eql 25 (.tmp 7) (.const .nilIface) (.iface t10 x11) .nilIface) (by kernel_rfl) (aBin_nil (by kernel_rfl)) ?_
  refine s_nil ?_
  refine k8 _ _ ?_
  refine w_cond false (by kernel_rfl) rfl (fun h => by cases h) (fun _ => ?_)
  refine w_skip ?_
  refine k7 _ _ ?_
  refine w_seqk fun K15 k15 => ?_
  refine w_reg (by kernel_rfl) ?_
  refine s_qk (.int .i64 kind) (by kernel_rfl) ?_
  refine s_qk (.int .i64 at_) (by kernel_rfl) ?_
  refine s_qk (.agg #[.int .i64 kind, .int .i64 at_]) (by kernel_rfl) ?_
  refine s_qk (.iface t10 x11) (by kernel_rfl) ?_
  refine s_qk (.agg #[.int .i64 kind, .int .i64 at_, .iface t10 x11]) (by kernel_rfl) ?_
  refine s_rwl wf [.int .i64 kind, .int .i64 at_, .iface t10 x11] (one_cons (rfl) (one_cons (rfl) (one_cons (h_err.one1) (one_nil)))) (by kernel_rfl) fun b16 H17 e18 hb19 r20 => ?_
  have u22 := (h_err.ext e18)
  obtain ⟨fq23, he24, hi25⟩ := Ev.at r20 u22 hb19
  refine s_qk (.iface 86 (.pointer (some ⟨b16, 0, none⟩))) (by kernel_rfl) ?_
  refine s_qk (.iface 86 (.pointer (some ⟨b16, 0, none⟩))) (by kernel_rfl) ?_
  refine s_nil ?_
  refine k15 _ _ ?_
  refine w_ret ?_
  refine b_ret (fn := Tryd.f65) (vs := [.iface 86 (.pointer (some ⟨b16, 0, none⟩))]) (aRes_tmp (by kernel_rfl) (rfl)) ?_
  obtain rfl := Option.some.inj r14
  exact ⟨(.iface 86 (.pointer (some ⟨b16, 0, none⟩))), fq23, rfl, ((FrS.refl (W := []) wf).extR e18), he24, (Inn.trans Inn.refl' (Nat.le_refl _) hi25)⟩


end Go.Vd

/-! (KWn1) -/

set_option maxRecDepth 100000
set_option maxHeartbeats 4000000
set_option linter.unusedVariables false
namespace Go.Vd
open Go.Proofs
attribute [local irreducible] wpSeq wpOrd aWp
theorem c_csr_Csr_arc {H : AH} {hd_First : Value} {fp_First : Fp} {hd_To : Value} {fp_To : Fp} {hd_Weight : Value} {fp_Weight : Fp} {First : List (Int)} {To : List (Int)} {Weight : List (Int)} {v_ : Int} {i : Int} {r : Er}
  (wf : WF H) (h_First : Sq (encI .i64) 1 H hd_First First fp_First) (h_To : Sq (encI .i64) 1 H hd_To To fp_To) (h_Weight : Sq (encI .i64) 1 H hd_Weight Weight fp_Weight) (hr : z_csr_Csr_arc First To Weight v_ i = some r) :
  ACalls Tryd.prog 84 #[.agg #[hd_First, hd_To, hd_Weight], .int .i64 v_, .int .i64 i] H fun v H' => ∃ (v3 : Value) (f4 : Fp), v = v3 ∧ FrS [] H H' ∧ Ev 80 86 H' v3 r f4 ∧ Inn [] H f4 := by
 refine acalls_of_body mixed Tryd.func84 rfl (Nat.le_of_ble_eq_true rfl) ?_
 unfold z_csr_Csr_arc at hr
 refine w_seqk fun K6 k6 => ?_
 refine w_reg (by kernel_rfl) ?_
 refine s_rwl wf [hd_First, hd_To, hd_Weight] (one_cons (h_First.one1) (one_cons (h_To.one1) (one_cons (h_Weight.one1) (one_nil)))) (by kernel_rfl) fun b7 H8 e9 hb10 r11 => ?_
 refine s_qk (.nilIface) (by kernel_rfl) ?_
 refine s_nil ?_
 refine k6 _ _ ?_
 refine w_seqk fun K13 k13 => ?_
 refine w_reg (by kernel_rfl) ?_
 refine s_qk (.pointer (some ⟨b7, 1, none⟩)) (by kernel_rfl) ?_
 refine s_ql (hd_To) (x := aLoad Tryd.prog 22 (.pointer (some ⟨b7, 1, none⟩)) H8) (by kernel_rfl) (r11.ld (by kernel_rfl)) ?_
 refine s_qk (.int .i64 i) (by kernel_rfl) ?_
 obtain ⟨g14, r15⟩ := G_some hr
 have u16 := (h_To.ext e9)
 refine s_ql (elp hd_To 1 i.toNat 0) (x := aIndexAddr Tryd.prog 22 hd_To (.int .i64 i)) (by kernel_rfl) (u16.idxb (by kernel_rfl) g14.1 g14.2) ?_
 refine s_ql (.int .i64 (gt To i)) (x := aLoad Tryd.prog 3 (elp hd_To 1 i.toNat 0) H8) (by kernel_rfl) (u16.ld g14.1 g14.2 (by kernel_rfl)) ?_
 refine s_qk (.int .i64 (gt To i)) (by kernel_rfl) ?_
 refine s_nil ?_
 refine k13 _ _ ?_
 refine w_seqk fun K17 k17 => ?_
 refine w_block ?_
 refine w_seqk fun K18 k18 => ?_
 obtain ⟨o19, hx20, r21⟩ := bind_some r15
 refine w_mid (fun α H22 => Has α [(1, .int .i64 v_), (2, .int .i64 i), (3, .pointer (some ⟨b7, 0, none⟩)), (7, .int .i64 (gt To i)), (13, .bool o19)] ∧ FrS [] H8 H22) (fun K24 k24 => ?_) (fun α H22 hM => ?_)
 ·refine w_reg (by kernel_rfl) ?_
  refine s_qk (.int .i64 (gt To i)) (by kernel_rfl) ?_
  refine s_b ((gt To i) < 0) (by kernel_rfl) (fun h26 => ?_) (fun h26 => ?_)
  ·have r27 := ite_t h26 hx20
   refine s_qk (.bool true) (by kernel_rfl) ?_
   refine s_no (by kernel_rfl) ?_
   refine s_no (by kernel_rfl) ?_
   refine s_no (by kernel_rfl) ?_
   refine s_no (by kernel_rfl) ?_
   refine s_qk (.bool true) (by kernel_rfl) ?_
   refine s_qk (.bool true) (by kernel_rfl) ?_
   refine s_nil ?_
   obtain rfl := Option.some.inj r27
   exact k24 _ _ ⟨⟨by kernel_rfl, by kernel_rfl, by kernel_rfl, by kernel_rfl, by kernel_rfl, trivial⟩, (FrS.refl (W := []) e9.wf)⟩
  ·have r28 := ite_f h26 hx20
   refine s_qk (.bool false) (by kernel_rfl) ?_
   refine s_qk (.int .i64 (gt To i)) (by kernel_rfl) ?_
   refine s_ql (.agg #[hd_First, hd_To, hd_Weight]) (x := aLoad Tryd.prog 40 (.pointer (some ⟨b7, 0, none⟩)) H8) (by kernel_rfl) (r11.ld (by kernel_rfl)) ?_
   have u29 := (h_First.ext e9)
   have u30 := (h_Weight.ext e9)
   obtain ⟨y31, hy32, r33⟩ := bind_some r28
   refine s_ck 83 #[.agg #[hd_First, hd_To, hd_Weight]] (by kernel_rfl) (c_csr_Csr_nodes e9.wf u29 u16 u30 hy32) ?_
   rintro _ H34 ⟨rfl, e35⟩
   refine s_qk (.bool (decide ((gt To i) ≥ y31))) (by kernel_rfl) ?_
   refine s_qk (.bool (decide ((gt To i) ≥ y31))) (by kernel_rfl) ?_
   refine s_qk (.bool (decide ((gt To i) ≥ y31))) (by kernel_rfl) ?_
   refine s_nil ?_
   obtain rfl := Option.some.inj r33
   exact k24 _ _ ⟨⟨by kernel_rfl, by kernel_rfl, by kernel_rfl, by kernel_rfl, by kernel_rfl, trivial⟩, (FrS.step e9.wf (FrS.refl (W := []) e9.wf) e35 Inn.nil)⟩
 ·obtain ⟨hh25, e23⟩ := hM
  obtain ⟨β, rfl⟩ := has_ex hh25
  clear hh25
  refine k18 _ _ ?_
  refine w_cond (o19) (by kernel_rfl) rfl (fun h36 => ?_) (fun h36 => ?_)
  ·have r37 := ite_t h36 r21
   refine w_seqk fun K38 k38 => ?_
   refine w_reg (by kernel_rfl) ?_
   refine s_qk (.iface 80 (.int .i64 7)) (by kernel_rfl) ?_
   refine s_qk (.iface 80 (.int .i64 7)) (by kernel_rfl) ?_
   refine s_nil ?_
   refine k38 _ _ ?_
   refine w_ret (bl_ret (th_ret ?_))
   refine b_ret (fn := Tryd.f84) (vs := [.iface 80 (.int .i64 7)]) (aRes_tmp (by kernel_rfl) (rfl)) ?_
   obtain rfl := Option.some.inj r37
   exact ⟨(.iface 80 (.int .i64 7)), [], rfl, (FrS.step wf ((FrS.refl (W := []) wf).extR e9) e23 Inn.nil), Ev.no, Inn.nil⟩
  ·have r39 := ite_bf h36 r21
   refine w_seqk fun K40 k40 => ?_
   obtain ⟨o41, hx42, r43⟩ := bind_some r39
   refine w_mid (fun α H44 => Has α [(2, .int .i64 i), (3, .pointer (some ⟨b7, 0, none⟩)), (23, .bool o41)] ∧ H22 = H44) (fun K46 k46 => ?_) (fun α H44 hM => ?_)
   ·refine w_reg (by kernel_rfl) ?_
    refine s_qk (.int .i64 (gt To i)) (by kernel_rfl) ?_
    refine s_qk (.int .i64 v_) (by kernel_rfl) ?_
    refine s_b ((gt To i) = v_) (by kernel_rfl) (fun h48 => ?_) (fun h48 => ?_)
    ·have r49 := ite_t h48 hx42
     refine s_qk (.bool true) (by kernel_rfl) ?_
     refine s_no (by kernel_rfl) ?_
     refine s_no (by kernel_rfl) ?_
     refine s_no (by kernel_rfl) ?_
     refine s_no (by kernel_rfl) ?_
     refine s_no (by kernel_rfl) ?_
     refine s_no (by kernel_rfl) ?_
     refine s_no (by kernel_rfl) ?_
     refine s_no (by kernel_rfl) ?_
     refine s_no (by kernel_rfl) ?_
     refine s_no (by kernel_rfl) ?_
     refine s_no (by kernel_rfl) ?_
     refine s_no (by kernel_rfl) ?_
     refine s_no (by kernel_rfl) ?_
     refine s_no (by kernel_rfl) ?_
     refine s_no (by kernel_rfl) ?_
     refine s_no (by kernel_rfl) ?_
     refine s_no (by kernel_rfl) ?_
     refine s_qk (.bool true) (by kernel_rfl) ?_
     refine s_qk (.bool true) (by kernel_rfl) ?_
     refine s_nil ?_
     obtain rfl := Option.some.inj r49
     exact k46 _ _ ⟨⟨by kernel_rfl, by kernel_rfl, by kernel_rfl, trivial⟩, rfl⟩
    ·have r50 := ite_f h48 hx42
     refine s_qk (.bool false) (by kernel_rfl) ?_
     refine s_qk (.int .i64 i) (by kernel_rfl) ?_
     refine s_qk (.pointer (some ⟨b7, 0, none⟩)) (by kernel_rfl) ?_
     have u51 := (r11.frS e23 Dj.nil_l)
     refine s_ql (hd_First) (x := aLoad Tryd.prog 22 (.pointer (some ⟨b7, 0, none⟩)) H22) (by kernel_rfl) (u51.ld (by kernel_rfl)) ?_
     refine s_qk (.int .i64 v_) (by kernel_rfl) ?_
     obtain ⟨g52, r53⟩ := G_some r50
     have u54 := ((h_First.ext e9).fr e23 Dj.nil_l)
     refine s_ql (elp hd_First 1 v_.toNat 0) (x := aIndexAddr Tryd.prog 22 hd_First (.int .i64 v_)) (by kernel_rfl) (u54.idxb (by kernel_rfl) g52.1 g52.2) ?_
     refine s_ql (.int .i64 (gt First v_)) (x := aLoad Tryd.prog 3 (elp hd_First 1 v_.toNat 0) H22) (by kernel_rfl) (u54.ld g52.1 g52.2 (by kernel_rfl)) ?_
     refine s_b (i > (gt First v_)) (by kernel_rfl) (fun h55 => ?_) (fun h55 => ?_)
     ·have r56 := ite_t h55 r53
      refine s_qk (.bool true) (by kernel_rfl) ?_
      refine s_qk (.int .i64 (gt To i)) (by kernel_rfl) ?_
      refine s_qk (.pointer (some ⟨b7, 1, none⟩)) (by kernel_rfl) ?_
      refine s_ql (hd_To) (x := aLoad Tryd.prog 22 (.pointer (some ⟨b7, 1, none⟩)) H22) (by kernel_rfl) (u51.ld (by kernel_rfl)) ?_
      refine s_qk (.int .i64 i) (by kernel_rfl) ?_
      obtain ⟨g57, r58⟩ := G_some r56
      refine s_w ((i - 1)) (k := .i64) (x := (i - 1)) (by kernel_rfl) (wrap64 g57) ?_
      obtain ⟨g59, r60⟩ := G_some r58
      have u61 := (u16.fr e23 Dj.nil_l)
      refine s_ql (elp hd_To 1 (i - 1).toNat 0) (x := aIndexAddr Tryd.prog 22 hd_To (.int .i64 (i - 1))) (by kernel_rfl) (u61.idxb (by kernel_rfl) g59.1 g59.2) ?_
      refine s_ql (.int .i64 (gt To (i - 1))) (x := aLoad Tryd.prog 3 (elp hd_To 1 (i - 1).toNat 0) H22) (by kernel_rfl) (u61.ld g59.1 g59.2 (by kernel_rfl)) ?_
      refine s_qk (.bool (decide ((gt To i) ≤ (gt To (i - 1))))) (by kernel_rfl) ?_
      refine s_qk (.bool (decide ((gt To i) ≤ (gt To (i - 1))))) (by kernel_rfl) ?_
      refine s_qk (.bool (decide ((gt To i) ≤ (gt To (i - 1))))) (by kernel_rfl) ?_
      refine s_qk (.bool (decide ((gt To i) ≤ (gt To (i - 1))))) (by kernel_rfl) ?_
      refine s_nil ?_
      obtain rfl := Option.some.inj r60
      exact k46 _ _ ⟨⟨by kernel_rfl, by kernel_rfl, by kernel_rfl, trivial⟩, rfl⟩
     ·have r62 := ite_f h55 r53
      refine s_qk (.bool false) (by kernel_rfl) ?_
      refine s_no (by kernel_rfl) ?_
      refine s_no (by kernel_rfl) ?_
      refine s_no (by kernel_rfl) ?_
      refine s_no (by kernel_rfl) ?_
      refine s_no (by kernel_rfl) ?_
      refine s_no (by kernel_rfl) ?_
      refine s_no (by kernel_rfl) ?_
      refine s_no (by kernel_rfl) ?_
      refine s_qk (.bool false) (by kernel_rfl) ?_
      refine s_qk (.bool false) (by kernel_rfl) ?_
      refine s_qk (.bool false) (by kernel_rfl) ?_
      refine s_nil ?_
      obtain rfl := Option.some.inj r62
      exact k46 _ _ ⟨⟨by kernel_rfl, by kernel_rfl, by kernel_rfl, trivial⟩, rfl⟩
   ·obtain ⟨hh47, rfl⟩ := hM
    obtain ⟨β, rfl⟩ := has_ex hh47
    clear hh47
    refine k40 _ _ ?_
    refine w_cond (o41) (by kernel_rfl) rfl (fun h63 => ?_) (fun h63 => ?_)
    ·have r64 := ite_t h63 r43
     refine w_seqk fun K65 k65 => ?_
     refine w_reg (by kernel_rfl) ?_
     refine s_qk (.iface 80 (.int .i64 14)) (by kernel_rfl) ?_
     refine s_qk (.iface 80 (.int .i64 14)) (by kernel_rfl) ?_
     refine s_nil ?_
     refine k65 _ _ ?_
     refine w_ret (bl_ret (th_ret ?_))
     refine b_ret (fn := Tryd.f84) (vs := [.iface 80 (.int .i64 14)]) (aRes_tmp (by kernel_rfl) (rfl)) ?_
     obtain rfl := Option.some.inj r64
     exact ⟨(.iface 80 (.int .i64 14)), [], rfl, (FrS.step wf ((FrS.refl (W := []) wf).extR e9) e23 Inn.nil), Ev.no, Inn.nil⟩
    ·have r66 := ite_bf h63 r43
     refine w_seqk fun K67 k67 => ?_
     refine w_reg (by kernel_rfl) ?_
     refine s_qk (.pointer (some ⟨b7, 2, none⟩)) (by kernel_rfl) ?_
     have u68 := (r11.frS e23 Dj.nil_l)
     refine s_ql (hd_Weight) (x := aLoad Tryd.prog 22 (.pointer (some ⟨b7, 2, none⟩)) H22) (by kernel_rfl) (u68.ld (by kernel_rfl)) ?_
     refine s_qk (.int .i64 i) (by kernel_rfl) ?_
     obtain ⟨g69, r70⟩ := G_some r66
     have u71 := ((h_Weight.ext e9).fr e23 Dj.nil_l)
     refine s_ql (elp hd_Weight 1 i.toNat 0) (x := aIndexAddr Tryd.prog 22 hd_Weight (.int .i64 i)) (by kernel_rfl) (u71.idxb (by kernel_rfl) g14.1 g69) ?_
     refine s_ql (.int .i64 (gt Weight i)) (x := aLoad Tryd.prog 3 (elp hd_Weight 1 i.toNat 0) H22) (by kernel_rfl) (u71.ld g14.1 g69 (by kernel_rfl)) ?_
     refine s_b ((gt Weight i) < 0) (by kernel_rfl) (fun h72 => ?_) (fun h72 => ?_)
     ·have r73 := ite_t h72 r70
      refine s_qk (.bool true) (by kernel_rfl) ?_
      refine s_no (by kernel_rfl) ?_
      refine s_no (by kernel_rfl) ?_
      refine s_no (by kernel_rfl) ?_
      refine s_no (by kernel_rfl) ?_
      refine s_no (by kernel_rfl) ?_
      refine s_no (by kernel_rfl) ?_
      refine s_qk (.bool true) (by kernel_rfl) ?_
      refine s_qk (.bool true) (by kernel_rfl) ?_
      refine s_nil ?_
      refine k67 _ _ ?_
      refine w_cond true (by kernel_rfl) rfl (fun _ => ?_) (fun h => by cases h)
      refine w_seqk fun K74 k74 => ?_
      refine w_reg (by kernel_rfl) ?_
      refine s_qk (.iface 80 (.int .i64 8)) (by kernel_rfl) ?_
      refine s_qk (.iface 80 (.int .i64 8)) (by kernel_rfl) ?_
      refine s_nil ?_
      refine k74 _ _ ?_
      refine w_ret (bl_ret (th_ret ?_))
      refine b_ret (fn := Tryd.f84) (vs := [.iface 80 (.int .i64 8)]) (aRes_tmp (by kernel_rfl) (rfl)) ?_
      obtain rfl := Option.some.inj r73
      exact ⟨(.iface 80 (.int .i64 8)), [], rfl, (FrS.step wf ((FrS.refl (W := []) wf).extR e9) e23 Inn.nil), Ev.no, Inn.nil⟩
     ·have r75 := ite_f h72 r70
      refine s_qk (.bool false) (by kernel_rfl) ?_
      refine s_qk (.pointer (some ⟨b7, 2, none⟩)) (by kernel_rfl) ?_
      refine s_ql (hd_Weight) (x := aLoad Tryd.prog 22 (.pointer (some ⟨b7, 2, none⟩)) H22) (by kernel_rfl) (u68.ld (by kernel_rfl)) ?_
      refine s_qk (.int .i64 i) (by kernel_rfl) ?_
      refine s_ql (elp hd_Weight 1 i.toNat 0) (x := aIndexAddr Tryd.prog 22 hd_Weight (.int .i64 i)) (by kernel_rfl) (u71.idxb (by kernel_rfl) g14.1 g69) ?_
      refine s_ql (.int .i64 (gt Weight i)) (x := aLoad Tryd.prog 3 (elp hd_Weight 1 i.toNat 0) H22) (by kernel_rfl) (u71.ld g14.1 g69 (by kernel_rfl)) ?_
      refine s_qk (.bool (decide ((gt Weight i) > 2147483647))) (by kernel_rfl) ?_
      refine s_qk (.bool (decide ((gt Weight i) > 2147483647))) (by kernel_rfl) ?_
      refine s_qk (.bool (decide ((gt Weight i) > 2147483647))) (by kernel_rfl) ?_
      refine s_nil ?_
      refine k67 _ _ ?_
      refine w_condp ((gt Weight i) > 2147483647) (by kernel_rfl) rfl (fun h76 => ?_) (fun h76 => ?_)
      ·have r77 := ite_t h76 r75
       refine w_seqk fun K78 k78 => ?_
       refine w_reg (by kernel_rfl) ?_
       refine s_qk (.iface 80 (.int .i64 8)) (by kernel_rfl) ?_
       refine s_qk (.iface 80 (.int .i64 8)) (by kernel_rfl) ?_
       refine s_nil ?_
       refine k78 _ _ ?_
       refine w_ret (bl_ret (th_ret ?_))
       refine b_ret (fn := Tryd.f84) (vs := [.iface 80 (.int .i64 8)]) (aRes_tmp (by kernel_rfl) (rfl)) ?_
       obtain rfl := Option.some.inj r77
       exact ⟨(.iface 80 (.int .i64 8)), [], rfl, (FrS.step wf ((FrS.refl (W := []) wf).extR e9) e23 Inn.nil), Ev.no, Inn.nil⟩
      ·have r79 := ite_f h76 r75
       refine w_skip ?_
       refine k17 _ _ ?_
       refine w_seqk fun K80 k80 => ?_
       refine w_reg (by kernel_rfl) ?_
       refine s_qk (.nilIface) (by kernel_rfl) ?_
       refine s_nil ?_
       refine k80 _ _ ?_
       refine w_ret ?_
       refine b_ret (fn := Tryd.f84) (vs := [.nilIface]) (aRes_tmp (by kernel_rfl) (rfl)) ?_
       obtain rfl := Option.some.inj r79
       exact ⟨(.nilIface), [], rfl, (FrS.step wf ((FrS.refl (W := []) wf).extR e9) e23 Inn.nil), Ev.nil, Inn.nil⟩

theorem c_csr_Check {H : AH} {hd_First : Value} {fp_First : Fp} {hd_To : Value} {fp_To : Fp} {hd_Weight : Value} {fp_Weight : Fp} {First : List (Int)} {To : List (Int)} {Weight : List (Int)} {r : Er}
  (wf : WF H) (h_First : Sq (encI .i64) 1 H hd_First First fp_First) (h_To : Sq (encI .i64) 1 H hd_To To fp_To) (h_Weight : Sq (encI .i64) 1 H hd_Weight Weight fp_Weight) (hr : z_csr_Check First To Weight = some r) :
  ACalls Tryd.prog 59 #[.agg #[hd_First, hd_To, hd_Weight]] H fun v H' => ∃ (v3 : Value) (f4 : Fp), v = v3 ∧ FrS [] H H' ∧ Ev 80 86 H' v3 r f4 ∧ Inn [] H f4 := by
 refine acalls_of_body mixed Tryd.func59 rfl (Nat.le_of_ble_eq_true rfl) ?_
 unfold z_csr_Check at hr
 refine w_seqk fun K6 k6 => ?_
 refine w_reg (by kernel_rfl) ?_
 refine s_rwl wf [hd_First, hd_To, hd_Weight] (one_cons (h_First.one1) (one_cons (h_To.one1) (one_cons (h_Weight.one1) (one_nil)))) (by kernel_rfl) fun b7 H8 e9 hb10 r11 => ?_
 refine s_qk (.nilIface) (by kernel_rfl) ?_
 refine s_nil ?_
 refine k6 _ _ ?_
 refine w_seqk fun K13 k13 => ?_
 refine w_reg (by kernel_rfl) ?_
 refine s_ql (.agg #[hd_First, hd_To, hd_Weight]) (x := aLoad Tryd.prog 40 (.pointer (some ⟨b7, 0, none⟩)) H8) (by kernel_rfl) (r11.ld (by kernel_rfl)) ?_
 have u14 := (h_First.ext e9)
 have u15 := (h_To.ext e9)
 have u16 := (h_Weight.ext e9)
 obtain ⟨y17, hy18, r19⟩ := bind_some hr
 refine s_ck 83 #[.agg #[hd_First, hd_To, hd_Weight]] (by kernel_rfl) (c_csr_Csr_nodes e9.wf u14 u15 u16 hy18) ?_
 rintro _ H20 ⟨rfl, e21⟩
 refine s_qk (.int .i64 y17) (by kernel_rfl) ?_
 refine s_nil ?_
 refine k13 _ _ ?_
 refine w_seqk fun K22 k22 => ?_
 refine w_block ?_
 refine w_seqk fun K23 k23 => ?_
 obtain ⟨o24, hx25, r26⟩ := bind_some r19
 refine w_mid (fun α H27 => Has α [(1, .pointer (some ⟨b7, 0, none⟩)), (3, .int .i64 y17), (10, .bool o24)] ∧ H20 = H27) (fun K29 k29 => ?_) (fun α H27 hM => ?_)
 ·refine w_draw [0, 1, 2, 3, 4, 5, 6, 7, 8, 9, 10, 11, 12, 13, 14, 15, 16, 17, 18, 19, 20, 21, 22, 23, 24, 25, 26, 27, 28, 29] (by kernel_rfl) ?_
  refine d_qk (.int .i64 y17) (by kernel_rfl) ?_
  refine d_b (y17 < 0) (by kernel_rfl) (fun h31 => ?_) (fun h31 => ?_)
  ·have r32 := ite_t h31 hx25
   refine d_qk (.bool true) (by kernel_rfl) ?_
   refine d_idle (by kernel_rfl) ?_
   refine d_idle (by kernel_rfl) ?_
   refine d_idle (by kernel_rfl) ?_
   refine d_idle (by kernel_rfl) ?_
   refine d_idle (by kernel_rfl) ?_
   refine d_qk (.bool true) (by kernel_rfl) ?_
   refine d_qk (.bool true) (by kernel_rfl) ?_
   refine d_idle (by kernel_rfl) ?_
   refine d_idle (by kernel_rfl) ?_
   refine d_idle (by kernel_rfl) ?_
   refine d_idle (by kernel_rfl) ?_
   refine d_idle (by kernel_rfl) ?_
   refine d_idle (by kernel_rfl) ?_
   refine d_idle (by kernel_rfl) ?_
   refine d_idle (by kernel_rfl) ?_
   refine d_idle (by kernel_rfl) ?_
   refine d_qk (.bool true) (by kernel_rfl) ?_
   refine d_qk (.bool true) (by kernel_rfl) ?_
   refine d_idle (by kernel_rfl) ?_
   refine d_idle (by kernel_rfl) ?_
   refine d_idle (by kernel_rfl) ?_
   refine d_idle (by kernel_rfl) ?_
   refine d_idle (by kernel_rfl) ?_
   refine d_idle (by kernel_rfl) ?_
   refine d_idle (by kernel_rfl) ?_
   refine d_qk (.bool true) (by kernel_rfl) ?_
   refine d_qk (.bool true) (by kernel_rfl) ?_
   refine d_nil ?_
   obtain rfl := Option.some.inj r32
   exact k29 _ _ ⟨⟨by kernel_rfl, by kernel_rfl, by kernel_rfl, trivial⟩, rfl⟩
  ·have r33 := ite_f h31 hx25
   refine d_qk (.bool false) (by kernel_rfl) ?_
   refine d_qk (.pointer (some ⟨b7, 0, none⟩)) (by kernel_rfl) ?_
   have u34 := (r11.frS e21 Dj.nil_l)
   refine d_ql (hd_First) (x := aLoad Tryd.prog 22 (.pointer (some ⟨b7, 0, none⟩)) H20) (by kernel_rfl) (u34.ld (by kernel_rfl)) ?_
   obtain ⟨g35, r36⟩ := G_some r33
   have u37 := (u14.fr e21 Dj.nil_l)
   refine d_ql (elp hd_First 1 (0 : Int).toNat 0) (x := aIndexAddr Tryd.prog 22 hd_First (.int .i64 0)) (by kernel_rfl) (u37.idxb (by kernel_rfl) (by decide) g35) ?_
   refine d_ql (.int .i64 (gt First 0)) (x := aLoad Tryd.prog 3 (elp hd_First 1 (0 : Int).toNat 0) H20) (by kernel_rfl) (u37.ld (by decide) g35 (by kernel_rfl)) ?_
   refine d_bn ((gt First 0) = 0) (by kernel_rfl) (fun h38 => ?_) (fun h38 => ?_)
   ·have r39 := ite_t h38 r36
    refine d_qk (.bool false) (by kernel_rfl) ?_
    refine d_qk (.bool false) (by kernel_rfl) ?_
    refine d_qk (.pointer (some ⟨b7, 0, none⟩)) (by kernel_rfl) ?_
    refine d_ql (hd_First) (x := aLoad Tryd.prog 22 (.pointer (some ⟨b7, 0, none⟩)) H20) (by kernel_rfl) (u34.ld (by kernel_rfl)) ?_
    refine d_qk (.int .i64 y17) (by kernel_rfl) ?_
    obtain ⟨g40, r41⟩ := G_some r39
    refine d_ql (elp hd_First 1 y17.toNat 0) (x := aIndexAddr Tryd.prog 22 hd_First (.int .i64 y17)) (by kernel_rfl) (u37.idxb (by kernel_rfl) g40.1 g40.2) ?_
    refine d_ql (.int .i64 (gt First y17)) (x := aLoad Tryd.prog 3 (elp hd_First 1 y17.toNat 0) H20) (by kernel_rfl) (u37.ld g40.1 g40.2 (by kernel_rfl)) ?_
    refine d_qk (.pointer (some ⟨b7, 1, none⟩)) (by kernel_rfl) ?_
    refine d_ql (hd_To) (x := aLoad Tryd.prog 22 (.pointer (some ⟨b7, 1, none⟩)) H20) (by kernel_rfl) (u34.ld (by kernel_rfl)) ?_
    have u42 := (u15.fr e21 Dj.nil_l)
    refine d_ql (.int .i64 (To.length : Int)) (x := aLen Tryd.prog 22 hd_To H20) (by kernel_rfl) (u42.lenb (by kernel_rfl)) ?_
    refine d_bn ((gt First y17) = (To.length : Int)) (by kernel_rfl) (fun h43 => ?_) (fun h43 => ?_)
    ·have r44 := ite_t h43 r41
     refine d_qk (.bool false) (by kernel_rfl) ?_
     refine d_qk (.bool false) (by kernel_rfl) ?_
     refine d_qk (.pointer (some ⟨b7, 1, none⟩)) (by kernel_rfl) ?_
     refine d_ql (hd_To) (x := aLoad Tryd.prog 22 (.pointer (some ⟨b7, 1, none⟩)) H20) (by kernel_rfl) (u34.ld (by kernel_rfl)) ?_
     refine d_ql (.int .i64 (To.length : Int)) (x := aLen Tryd.prog 22 hd_To H20) (by kernel_rfl) (u42.lenb (by kernel_rfl)) ?_
     refine d_qk (.pointer (some ⟨b7, 2, none⟩)) (by kernel_rfl) ?_
     refine d_ql (hd_Weight) (x := aLoad Tryd.prog 22 (.pointer (some ⟨b7, 2, none⟩)) H20) (by kernel_rfl) (u34.ld (by kernel_rfl)) ?_
     have u45 := (u16.fr e21 Dj.nil_l)
     refine d_ql (.int .i64 (Weight.length : Int)) (x := aLen Tryd.prog 22 hd_Weight H20) (by kernel_rfl) (u45.lenb (by kernel_rfl)) ?_
     refine d_qk (.bool (!decide ((To.length : Int) = (Weight.length : Int)))) (by kernel_rfl) ?_
     refine d_qk (.bool (!decide ((To.length : Int) = (Weight.length : Int)))) (by kernel_rfl) ?_
     refine d_qk (.bool (!decide ((To.length : Int) = (Weight.length : Int)))) (by kernel_rfl) ?_
     refine d_nil ?_
     obtain rfl := Option.some.inj r44
     exact k29 _ _ ⟨⟨by kernel_rfl, by kernel_rfl, by kernel_rfl, trivial⟩, rfl⟩
    ·have r46 := ite_f h43 r41
     refine d_qk (.bool true) (by kernel_rfl) ?_
     refine d_qk (.bool true) (by kernel_rfl) ?_
     refine d_idle (by kernel_rfl) ?_
     refine d_idle (by kernel_rfl) ?_
     refine d_idle (by kernel_rfl) ?_
     refine d_idle (by kernel_rfl) ?_
     refine d_idle (by kernel_rfl) ?_
     refine d_idle (by kernel_rfl) ?_
     refine d_idle (by kernel_rfl) ?_
     refine d_qk (.bool true) (by kernel_rfl) ?_
     refine d_qk (.bool true) (by kernel_rfl) ?_
     refine d_nil ?_
     obtain rfl := Option.some.inj r46
     exact k29 _ _ ⟨⟨by kernel_rfl, by kernel_rfl, by kernel_rfl, trivial⟩, rfl⟩
   ·have r47 := ite_f h38 r36
    refine d_qk (.bool true) (by kernel_rfl) ?_
    refine d_qk (.bool true) (by kernel_rfl) ?_
    refine d_idle (by kernel_rfl) ?_
    refine d_idle (by kernel_rfl) ?_
    refine d_idle (by kernel_rfl) ?_
    refine d_idle (by kernel_rfl) ?_
    refine d_idle (by kernel_rfl) ?_
    refine d_idle (by kernel_rfl) ?_
    refine d_idle (by kernel_rfl) ?_
    refine d_idle (by kernel_rfl) ?_
    refine d_idle (by kernel_rfl) ?_
    refine d_qk (.bool true) (by kernel_rfl) ?_
    refine d_qk (.bool true) (by kernel_rfl) ?_
    refine d_idle (by kernel_rfl) ?_
    refine d_idle (by kernel_rfl) ?_
    refine d_idle (by kernel_rfl) ?_
    refine d_idle (by kernel_rfl) ?_
    refine d_idle (by kernel_rfl) ?_
    refine d_idle (by kernel_rfl) ?_
    refine d_idle (by kernel_rfl) ?_
    refine d_qk (.bool true) (by kernel_rfl) ?_
    refine d_qk (.bool true) (by kernel_rfl) ?_
    refine d_nil ?_
    obtain rfl := Option.some.inj r47
    exact k29 _ _ ⟨⟨by kernel_rfl, by kernel_rfl, by kernel_rfl, trivial⟩, rfl⟩
 ·obtain ⟨hh30, rfl⟩ := hM
  obtain ⟨β, rfl⟩ := has_ex hh30
  clear hh30
  refine k23 _ _ ?_
  refine w_cond (o24) (by kernel_rfl) rfl (fun h48 => ?_) (fun h48 => ?_)
  ·have r49 := ite_t h48 r26
   refine w_seqk fun K50 k50 => ?_
   refine w_reg (by kernel_rfl) ?_
   refine s_qk (.iface 80 (.int .i64 14)) (by kernel_rfl) ?_
   refine s_qk (.iface 80 (.int .i64 14)) (by kernel_rfl) ?_
   refine s_nil ?_
   refine k50 _ _ ?_
   refine w_ret (bl_ret (th_ret ?_))
   refine b_ret (fn := Tryd.f59) (vs := [.iface 80 (.int .i64 14)]) (aRes_tmp (by kernel_rfl) (rfl)) ?_
   obtain rfl := Option.some.inj r49
   exact ⟨(.iface 80 (.int .i64 14)), [], rfl, (FrS.step wf ((FrS.refl (W := []) wf).extR e9) e21 Inn.nil), Ev.no, Inn.nil⟩
  ·have r51 := ite_bf h48 r26
   refine w_seqk fun K52 k52 => ?_
   obtain ⟨o53, hx54, r55⟩ := bind_some r51
   refine w_mid (fun α H56 => Has α [(1, .pointer (some ⟨b7, 0, none⟩)), (3, .int .i64 y17), (41, .bool o53)] ∧ H20 = H56) (fun K58 k58 => ?_) (fun α H56 hM => ?_)
   ·refine w_reg (by kernel_rfl) ?_
    refine s_qk (.int .i64 y17) (by kernel_rfl) ?_
    refine s_b (y17 > 65536) (by kernel_rfl) (fun h60 => ?_) (fun h60 => ?_)
    ·have r61 := ite_t h60 hx54
     refine s_qk (.bool true) (by kernel_rfl) ?_
     refine s_no (by kernel_rfl) ?_
     refine s_no (by kernel_rfl) ?_
     refine s_no (by kernel_rfl) ?_
     refine s_no (by kernel_rfl) ?_
     refine s_qk (.bool true) (by kernel_rfl) ?_
     refine s_qk (.bool true) (by kernel_rfl) ?_
     refine s_nil ?_
     obtain rfl := Option.some.inj r61
     exact k58 _ _ ⟨⟨by kernel_rfl, by kernel_rfl, by kernel_rfl, trivial⟩, rfl⟩
    ·have r62 := ite_f h60 hx54
     refine s_qk (.bool false) (by kernel_rfl) ?_
     refine s_qk (.pointer (some ⟨b7, 1, none⟩)) (by kernel_rfl) ?_
     have u63 := (r11.frS e21 Dj.nil_l)
     refine s_ql (hd_To) (x := aLoad Tryd.prog 22 (.pointer (some ⟨b7, 1, none⟩)) H20) (by kernel_rfl) (u63.ld (by kernel_rfl)) ?_
     have u64 := (u15.fr e21 Dj.nil_l)
     refine s_ql (.int .i64 (To.length : Int)) (x := aLen Tryd.prog 22 hd_To H20) (by kernel_rfl) (u64.lenb (by kernel_rfl)) ?_
     refine s_qk (.bool (decide ((To.length : Int) > 262144))) (by kernel_rfl) ?_
     refine s_qk (.bool (decide ((To.length : Int) > 262144))) (by kernel_rfl) ?_
     refine s_qk (.bool (decide ((To.length : Int) > 262144))) (by kernel_rfl) ?_
     refine s_nil ?_
     obtain rfl := Option.some.inj r62
     exact k58 _ _ ⟨⟨by kernel_rfl, by kernel_rfl, by kernel_rfl, trivial⟩, rfl⟩
   ·obtain ⟨hh59, rfl⟩ := hM
    obtain ⟨β, rfl⟩ := has_ex hh59
    clear hh59
    refine k52 _ _ ?_
    refine w_cond (o53) (by kernel_rfl) rfl (fun h65 => ?_) (fun h65 => ?_)
    ·have r66 := ite_t h65 r55
     refine w_seqk fun K67 k67 => ?_
     refine w_reg (by kernel_rfl) ?_
     refine s_qk (.iface 80 (.int .i64 9)) (by kernel_rfl) ?_
     refine s_qk (.iface 80 (.int .i64 9)) (by kernel_rfl) ?_
     refine s_nil ?_
     refine k67 _ _ ?_
     refine w_ret (bl_ret (th_ret ?_))
     refine b_ret (fn := Tryd.f59) (vs := [.iface 80 (.int .i64 9)]) (aRes_tmp (by kernel_rfl) (rfl)) ?_
     obtain rfl := Option.some.inj r66
     exact ⟨(.iface 80 (.int .i64 9)), [], rfl, (FrS.step wf ((FrS.refl (W := []) wf).extR e9) e21 Inn.nil), Ev.no, Inn.nil⟩
    ·have r68 := ite_bf h65 r55
     refine w_skip ?_
     refine k22 _ _ ?_
     refine w_seqk fun K69 k69 => ?_
     refine w_seqk fun K70 k70 => ?_
     refine w_reg (by kernel_rfl) ?_
     refine s_qk (.int .i64 y17) (by kernel_rfl) ?_
     refine s_qk (.int .i64 0) (by kernel_rfl) ?_
     refine s_nil ?_
     refine k70 _ _ ?_
     obtain ⟨z74, hx72, r73⟩ := bind_some r68
     refine w_mid (fun α H75 => ∃ o71, z74 = Sum.inr o71 ∧ Has α [(1, .pointer (some ⟨b7, 0, none⟩)), (3, .int .i64 y17)] ∧ H20 = H75) (fun K77 k77 => ?_) (fun α H75 hM => ?_)
     ·refine w_block ?_
      obtain ⟨n79, hn80⟩ := loopO_iff.1 hx72
      refine w_loopn (fun n α H81 => ∃ (i0 : Int), iterO (fun zz_ => z_csr_Check_l0 First y17 zz_) n i0 = some z74 ∧ Has α [(1, .pointer (some ⟨b7, 0, none⟩)), (3, .int .i64 y17), (51, .int .i64 y17), (52, .int .i64 i0)] ∧ H20 = H81) n79 ⟨0, hn80, ⟨by kernel_rfl, by kernel_rfl, by kernel_rfl, by kernel_rfl, trivial⟩, rfl⟩ ?_
      rintro n79 α H81 ⟨i0, hi84, hh83, rfl⟩ K89 k89
      obtain ⟨n85, z86, rfl, hz87, hn88⟩ := iter_succ hi84
      obtain ⟨β, rfl⟩ := has_ex hh83
      clear hh83
      replace hz87 : z_csr_Check_l0 First y17 i0 = some z86 := hz87
      unfold z_csr_Check_l0 at hz87
      refine w_seqk fun K90 k90 => ?_
      refine w_reg (by kernel_rfl) ?_
      refine s_qk (.bool (decide (i0 < y17))) (by kernel_rfl) ?_
      refine s_nil ?_
      refine k90 _ _ ?_
      refine w_seqk fun K91 k91 => ?_
      refine w_condp (i0 < y17) (by kernel_rfl) rfl (fun h92 => ?_) (fun h92 => ?_)
      ·have r93 := ite_t h92 hz87
       refine w_skip ?_
       refine k91 _ _ ?_
       refine w_seqk fun K94 k94 => ?_
       refine w_block ?_
       refine w_seqk fun K95 k95 => ?_
       refine w_reg (by kernel_rfl) ?_
       refine s_qk (.int .i64 i0) (by kernel_rfl) ?_
       refine s_qk (.int .i64 i0) (by kernel_rfl) ?_
       refine s_nil ?_
       refine k95 _ _ ?_
       refine w_seqk fun K96 k96 => ?_
       refine w_draw [0, 1, 2, 3, 4, 5, 6, 7, 8, 9, 10, 11] (by kernel_rfl) ?_
       refine d_qk (.pointer (some ⟨b7, 0, none⟩)) (by kernel_rfl) ?_
       have u97 := (r11.frS e21 Dj.nil_l)
       refine d_ql (hd_First) (x := aLoad Tryd.prog 22 (.pointer (some ⟨b7, 0, none⟩)) H20) (by kernel_rfl) (u97.ld (by kernel_rfl)) ?_
       refine d_qk (.int .i64 i0) (by kernel_rfl) ?_
       obtain ⟨g98, r99⟩ := G_some r93
       refine d_w ((i0 + 1)) (k := .i64) (x := (i0 + 1)) (by kernel_rfl) (wrap64 g98) ?_
       obtain ⟨g100, r101⟩ := G_some r99
       have u102 := (u14.fr e21 Dj.nil_l)
       refine d_ql (elp hd_First 1 (i0 + 1).toNat 0) (x := aIndexAddr Tryd.prog 22 hd_First (.int .i64 (i0 + 1))) (by kernel_rfl) (u102.idxb (by kernel_rfl) g100.1 g100.2) ?_
       refine d_ql (.int .i64 (gt First (i0 + 1))) (x := aLoad Tryd.prog 3 (elp hd_First 1 (i0 + 1).toNat 0) H20) (by kernel_rfl) (u102.ld g100.1 g100.2 (by kernel_rfl)) ?_
       refine d_qk (.pointer (some ⟨b7, 0, none⟩)) (by kernel_rfl) ?_
       refine d_ql (hd_First) (x := aLoad Tryd.prog 22 (.pointer (some ⟨b7, 0, none⟩)) H20) (by kernel_rfl) (u97.ld (by kernel_rfl)) ?_
       refine d_qk (.int .i64 i0) (by kernel_rfl) ?_
       obtain ⟨g103, r104⟩ := G_some r101
       refine d_ql (elp hd_First 1 i0.toNat 0) (x := aIndexAddr Tryd.prog 22 hd_First (.int .i64 i0)) (by kernel_rfl) (u102.idxb (by kernel_rfl) g103.1 g103.2) ?_
       refine d_ql (.int .i64 (gt First i0)) (x := aLoad Tryd.prog 3 (elp hd_First 1 i0.toNat 0) H20) (by kernel_rfl) (u102.ld g103.1 g103.2 (by kernel_rfl)) ?_
       refine d_qk (.bool (decide ((gt First (i0 + 1)) < (gt First i0)))) (by kernel_rfl) ?_
       refine d_nil ?_
       refine k96 _ _ ?_
       refine w_condp ((gt First (i0 + 1)) < (gt First i0)) (by kernel_rfl) rfl (fun h105 => ?_) (fun h105 => ?_)
       ·have r106 := ite_t h105 r104
        refine w_seqk fun K107 k107 => ?_
        refine w_reg (by kernel_rfl) ?_
        refine s_qk (.int .i64 i0) (by kernel_rfl) ?_
        refine s_qk (.iface 80 (.int .i64 14)) (by kernel_rfl) ?_
        obtain ⟨y108, hy109, r110⟩ := bind_some r106
        refine s_ck 65 #[.int .i64 3, .int .i64 i0, .iface 80 (.int .i64 14)] (by kernel_rfl) (c_fault_At e21.wf (Ev.no (tf := 86)) hy109) ?_
        rintro v111 H113 ⟨_, f112, rfl, e114, m115, i116⟩
        refine s_qk (v111) (by kernel_rfl) ?_
        refine s_nil ?_
        refine k107 _ _ ?_
        refine w_ret (bl_ret (th_ret (th_ret (bl_ret (th_ret (th_ret ?_))))))
        obtain ⟨v118, hv119, hz120⟩ := map_some r110
        subst hz120
        obtain rfl := it_inr hn88
        have hq121 := elim_inl r73
        rw [hq121] at hv119
        refine b_ret (fn := Tryd.f59) (vs := [v111]) (aRes_tmp (by kernel_rfl) (rfl)) ?_
        obtain rfl := Option.some.inj hv119
        exact ⟨(v111), f112, rfl, (FrS.step wf (FrS.step wf ((FrS.refl (W := []) wf).extR e9) e21 Inn.nil) e114 Inn.nil), m115, (i116.fresh (ntr e9.next e21.next))⟩
       ·have r122 := ite_f h105 r104
        refine w_skip ?_
        refine k94 _ _ ?_
        refine w_reg (by kernel_rfl) ?_
        obtain ⟨g123, r124⟩ := G_some r122
        refine s_w ((i0 + 1)) (k := .i64) (x := (i0 + 1)) (by kernel_rfl) (wrap64 (by have := g123; omega)) ?_
        refine s_qk (.int .i64 (i0 + 1)) (by kernel_rfl) ?_
        refine s_nil ?_
        obtain rfl := Option.some.inj r124
        exact k89 n85 _ _ (Nat.lt_succ_self _) ⟨(i0 + 1), hn88, ⟨by kernel_rfl, by kernel_rfl, by kernel_rfl, by kernel_rfl, trivial⟩, rfl⟩
      ·have r125 := ite_f h92 hz87
       refine w_exit (th_exit (th_exit (bl_eq ?_)))
       obtain rfl := Option.some.inj r125
       obtain rfl := it_inr hn88
       exact k77 _ _ ⟨_, rfl, ⟨by kernel_rfl, by kernel_rfl, trivial⟩, rfl⟩
     ·obtain ⟨o71, rfl, hh78, rfl⟩ := hM
      have r126 := elim_inr r73
      obtain ⟨β, rfl⟩ := has_ex hh78
      clear hh78
      refine k69 _ _ ?_
      refine w_seqk fun K127 k127 => ?_
      refine w_seqk fun K128 k128 => ?_
      refine w_reg (by kernel_rfl) ?_
      refine s_qk (.int .i64 y17) (by kernel_rfl) ?_
      refine s_qk (.int .i64 0) (by kernel_rfl) ?_
      refine s_nil ?_
      refine k128 _ _ ?_
      obtain ⟨z132, hx130, r131⟩ := bind_some r126
      refine w_mid (fun α H133 => ∃ o129, z132 = Sum.inr o129 ∧ Has α [] ∧ FrS [] H20 H133) (fun K135 k135 => ?_) (fun α H133 hM => ?_)
      ·refine w_block ?_
       obtain ⟨n137, hn138⟩ := loopO_iff.1 hx130
       refine w_loopn (fun n α H139 => ∃ (i2 : Int), iterO (fun zz_ => z_csr_Check_l2 First To Weight y17 zz_) n i2 = some z132 ∧ Has α [(1, .pointer (some ⟨b7, 0, none⟩)), (71, .int .i64 y17), (72, .int .i64 i2)] ∧ FrS [] H20 H139) n137 ⟨0, hn138, ⟨by kernel_rfl, by kernel_rfl, by kernel_rfl, trivial⟩, (FrS.refl (W := []) e21.wf)⟩ ?_
       rintro n137 α H139 ⟨i2, hi142, hh141, e140⟩ K147 k147
       obtain ⟨n143, z144, rfl, hz145, hn146⟩ := iter_succ hi142
       obtain ⟨β, rfl⟩ := has_ex hh141
       clear hh141
       replace hz145 : z_csr_Check_l2 First To Weight y17 i2 = some z144 := hz145
       unfold z_csr_Check_l2 at hz145
       refine w_seqk fun K148 k148 => ?_
       refine w_reg (by kernel_rfl) ?_
       refine s_qk (.bool (decide (i2 < y17))) (by kernel_rfl) ?_
       refine s_nil ?_
       refine k148 _ _ ?_
       refine w_seqk fun K149 k149 => ?_
       refine w_condp (i2 < y17) (by kernel_rfl) rfl (fun h150 => ?_) (fun h150 => ?_)
       ·have r151 := ite_t h150 hz145
        refine w_skip ?_
        refine k149 _ _ ?_
        refine w_seqk fun K152 k152 => ?_
        refine w_block ?_
        refine w_seqk fun K153 k153 => ?_
        refine w_reg (by kernel_rfl) ?_
        refine s_qk (.int .i64 i2) (by kernel_rfl) ?_
        refine s_qk (.int .i64 i2) (by kernel_rfl) ?_
        refine s_nil ?_
        refine k153 _ _ ?_
        refine w_seqk fun K154 k154 => ?_
        refine w_reg (by kernel_rfl) ?_
        refine s_qk (.pointer (some ⟨b7, 0, none⟩)) (by kernel_rfl) ?_
        have u155 := ((r11.frS e21 Dj.nil_l).frS e140 Dj.nil_l)
        refine s_ql (hd_First) (x := aLoad Tryd.prog 22 (.pointer (some ⟨b7, 0, none⟩)) H139) (by kernel_rfl) (u155.ld (by kernel_rfl)) ?_
        refine s_qk (.int .i64 i2) (by kernel_rfl) ?_
        obtain ⟨g156, r157⟩ := G_some r151
        have u158 := ((u14.fr e21 Dj.nil_l).fr e140 Dj.nil_l)
        refine s_ql (elp hd_First 1 i2.toNat 0) (x := aIndexAddr Tryd.prog 22 hd_First (.int .i64 i2)) (by kernel_rfl) (u158.idxb (by kernel_rfl) g156.1 g156.2) ?_
        refine s_ql (.int .i64 (gt First i2)) (x := aLoad Tryd.prog 3 (elp hd_First 1 i2.toNat 0) H139) (by kernel_rfl) (u158.ld g156.1 g156.2 (by kernel_rfl)) ?_
        refine s_qk (.int .i64 (gt First i2)) (by kernel_rfl) ?_
        refine s_nil ?_
        refine k154 _ _ ?_
        obtain ⟨z162, hx160, r161⟩ := bind_some r157
        refine w_mid (fun α H163 => ∃ o159, z162 = Sum.inr o159 ∧ Has α [(1, .pointer (some ⟨b7, 0, none⟩)), (71, .int .i64 y17), (72, .int .i64 i2)] ∧ FrS [] H139 H163) (fun K165 k165 => ?_) (fun α H163 hM => ?_)
        ·refine w_block ?_
         obtain ⟨n167, hn168⟩ := loopO_iff.1 hx160
         refine w_loopn (fun n α H169 => ∃ (i1 : Int), iterO (fun zz_ => z_csr_Check_l1 First To Weight i2 zz_) n i1 = some z162 ∧ Has α [(1, .pointer (some ⟨b7, 0, none⟩)), (5, .int .i64 i2), (6, .int .i64 i1), (71, .int .i64 y17), (72, .int .i64 i2)] ∧ FrS [] H139 H169) n167 ⟨(gt First i2), hn168, ⟨by kernel_rfl, by kernel_rfl, by kernel_rfl, by kernel_rfl, by kernel_rfl, trivial⟩, (FrS.refl (W := []) e140.wf)⟩ ?_
         rintro n167 α H169 ⟨i1, hi172, hh171, e170⟩ K177 k177
         obtain ⟨n173, z174, rfl, hz175, hn176⟩ := iter_succ hi172
         obtain ⟨β, rfl⟩ := has_ex hh171
         clear hh171
         replace hz175 : z_csr_Check_l1 First To Weight i2 i1 = some z174 := hz175
         unfold z_csr_Check_l1 at hz175
         refine w_seqk fun K178 k178 => ?_
         refine w_seqk fun K179 k179 => ?_
         refine w_reg (by kernel_rfl) ?_
         refine s_qk (.int .i64 i1) (by kernel_rfl) ?_
         refine s_qk (.pointer (some ⟨b7, 0, none⟩)) (by kernel_rfl) ?_
         have u180 := (u155.frS e170 Dj.nil_l)
         refine s_ql (hd_First) (x := aLoad Tryd.prog 22 (.pointer (some ⟨b7, 0, none⟩)) H169) (by kernel_rfl) (u180.ld (by kernel_rfl)) ?_
         refine s_qk (.int .i64 i2) (by kernel_rfl) ?_
         obtain ⟨g181, r182⟩ := G_some hz175
         refine s_w ((i2 + 1)) (k := .i64) (x := (i2 + 1)) (by kernel_rfl) (wrap64 (by have := g181; omega)) ?_
         obtain ⟨g183, r184⟩ := G_some r182
         have u185 := (u158.fr e170 Dj.nil_l)
         refine s_ql (elp hd_First 1 (i2 + 1).toNat 0) (x := aIndexAddr Tryd.prog 22 hd_First (.int .i64 (i2 + 1))) (by kernel_rfl) (u185.idxb (by kernel_rfl) g183.1 g183.2) ?_
         refine s_ql (.int .i64 (gt First (i2 + 1))) (x := aLoad Tryd.prog 3 (elp hd_First 1 (i2 + 1).toNat 0) H169) (by kernel_rfl) (u185.ld g183.1 g183.2 (by kernel_rfl)) ?_
         refine s_qk (.bool (decide (i1 < (gt First (i2 + 1))))) (by kernel_rfl) ?_
         refine s_nil ?_
         refine k179 _ _ ?_
         refine w_condp (i1 < (gt First (i2 + 1))) (by kernel_rfl) rfl (fun h186 => ?_) (fun h186 => ?_)
         ·have r187 := ite_t h186 r184
          refine w_skip ?_
          refine k178 _ _ ?_
          refine w_seqk fun K188 k188 => ?_
          refine w_block ?_
          refine w_seqk fun K189 k189 => ?_
          refine w_reg (by kernel_rfl) ?_
          refine s_ql (.agg #[hd_First, hd_To, hd_Weight]) (x := aLoad Tryd.prog 40 (.pointer (some ⟨b7, 0, none⟩)) H169) (by kernel_rfl) (u180.ld (by kernel_rfl)) ?_
          refine s_qk (.int .i64 i2) (by kernel_rfl) ?_
          refine s_qk (.int .i64 i1) (by kernel_rfl) ?_
          have u190 := (((u15.fr e21 Dj.nil_l).fr e140 Dj.nil_l).fr e170 Dj.nil_l)
          have u191 := (((u16.fr e21 Dj.nil_l).fr e140 Dj.nil_l).fr e170 Dj.nil_l)
          obtain ⟨y192, hy193, r194⟩ := bind_some r187
          refine s_ck 84 #[.agg #[hd_First, hd_To, hd_Weight], .int .i64 i2, .int .i64 i1] (by kernel_rfl) (c_csr_Csr_arc e170.wf u185 u190 u191 hy193) ?_
          rintro v195 H197 ⟨_, f196, rfl, e198, m199, i200⟩
          refine s_qk (v195) (by kernel_rfl) ?_
          refine s_nil ?_
          refine k189 _ _ ?_
          refine w_seqk fun K202 k202 => ?_
          refine w_reg (by kernel_rfl) ?_
          refine s_qk (v195) (by kernel_rfl) ?_
          rcases (m199).cases with ⟨h203, rfl⟩ | ⟨h203, t204, x205, rfl⟩
          ·have r206 := ite_t h203 r194
           refine s_qk (.bool false) (by kernel_rfl) ?_
           refine s_nil ?_
           refine k202 _ _ ?_
           refine w_cond false (by kernel_rfl) rfl (fun h => by cases h) (fun _ => ?_)
           refine w_skip ?_
           refine k188 _ _ ?_
           refine w_reg (by kernel_rfl) ?_
           refine s_qk (.int .i64 i1) (by kernel_rfl) ?_
           obtain ⟨g207, r208⟩ := G_some r206
           refine s_w ((i1 + 1)) (k := .i64) (x := (i1 + 1)) (by kernel_rfl) (wrap64 g207) ?_
           refine s_qk (.int .i64 (i1 + 1)) (by kernel_rfl) ?_
           refine s_nil ?_
           obtain rfl := Option.some.inj r208
           exact k177 n173 _ _ (Nat.lt_succ_self _) ⟨(i1 + 1), hn176, ⟨by kernel_rfl, by kernel_rfl, by kernel_rfl, by kernel_rfl, by kernel_rfl, trivial⟩, (FrS.step e140.wf (FrS.step e140.wf (FrS.refl (W := []) e140.wf) e170 Inn.nil) e198 Inn.nil)⟩
          ·have r209 := ite_f h203 r194
           refine s_ql (.bool true) (x := aBin Tryd.prog .neq 25 (.tmp 94) (.const .nilIface) (.iface t204 x205) .nilIface) (by kernel_rfl) (aBin_nnil (by kernel_rfl)) ?_
           refine s_nil ?_
           refine k202 _ _ ?_
           refine w_cond true (by kernel_rfl) rfl (fun _ => ?_) (fun h => by cases h)
           refine w_seqk fun K210 k210 => ?_
           refine w_reg (by kernel_rfl) ?_
           refine s_qk (.int .i64 i1) (by kernel_rfl) ?_
           refine s_qk (.iface t204 x205) (by kernel_rfl) ?_
           obtain ⟨y211, hy212, r213⟩ := bind_some r209
           refine s_ck 65 #[.int .i64 4, .int .i64 i1, .iface t204 x205] (by kernel_rfl) (c_fault_At e198.wf m199 hy212) ?_
           rintro v214 H216 ⟨_, f215, rfl, e217, m218, i219⟩
           refine s_qk (v214) (by kernel_rfl) ?_
           refine s_nil ?_
           refine k210 _ _ ?_
           refine w_ret (bl_ret (th_ret (th_ret (bl_ret (th_ret (bl_ret (th_ret (th_ret (bl_ret (th_ret (th_ret ?_)))))))))))
           obtain ⟨v221, hv222, hz223⟩ := map_some r213
           subst hz223
           obtain rfl := it_inr hn176
           have hq224 := elim_inl r161
           rw [hq224] at hv222
           obtain ⟨v225, hv226, hz227⟩ := map_some hv222
           subst hz227
           obtain rfl := it_inr hn146
           have hq228 := elim_inl r131
           rw [hq228] at hv226
           refine b_ret (fn := Tryd.f59) (vs := [v214]) (aRes_tmp (by kernel_rfl) (rfl)) ?_
           obtain rfl := Option.some.inj hv226
           exact ⟨(v214), f215, rfl, (FrS.step wf (FrS.step wf (FrS.step wf (FrS.step wf (FrS.step wf ((FrS.refl (W := []) wf).extR e9) e21 Inn.nil) e140 Inn.nil) e170 Inn.nil) e198 Inn.nil) e217 Inn.nil), m218, (Inn.trans (i200.fresh (ntr (ntr (ntr e9.next e21.next) e140.next) e170.next)) (ntr (ntr (ntr (ntr e9.next e21.next) e140.next) e170.next) e198.next) i219)⟩
         ·have r229 := ite_f h186 r184
          refine w_exit (th_exit (th_exit (bl_eq ?_)))
          obtain rfl := Option.some.inj r229
          obtain rfl := it_inr hn176
          exact k165 _ _ ⟨_, rfl, ⟨by kernel_rfl, by kernel_rfl, by kernel_rfl, trivial⟩, (FrS.step e140.wf (FrS.refl (W := []) e140.wf) e170 Inn.nil)⟩
        ·obtain ⟨o159, rfl, hh166, e164⟩ := hM
         have r230 := elim_inr r161
         obtain ⟨β, rfl⟩ := has_ex hh166
         clear hh166
         refine k152 _ _ ?_
         refine w_reg (by kernel_rfl) ?_
         obtain ⟨g231, r232⟩ := G_some r230
         refine s_w ((i2 + 1)) (k := .i64) (x := (i2 + 1)) (by kernel_rfl) (wrap64 (by have := g231; omega)) ?_
         refine s_qk (.int .i64 (i2 + 1)) (by kernel_rfl) ?_
         refine s_nil ?_
         obtain rfl := Option.some.inj r232
         exact k147 n143 _ _ (Nat.lt_succ_self _) ⟨(i2 + 1), hn146, ⟨by kernel_rfl, by kernel_rfl, by kernel_rfl, trivial⟩, (FrS.step e21.wf (FrS.step e21.wf (FrS.refl (W := []) e21.wf) e140 Inn.nil) e164 Inn.nil)⟩
       ·have r233 := ite_f h150 hz145
        refine w_exit (th_exit (th_exit (bl_eq ?_)))
        obtain rfl := Option.some.inj r233
        obtain rfl := it_inr hn146
        exact k135 _ _ ⟨_, rfl, trivial, (FrS.step e21.wf (FrS.refl (W := []) e21.wf) e140 Inn.nil)⟩
      ·obtain ⟨o129, rfl, hh136, e134⟩ := hM
       have r234 := elim_inr r131
       obtain ⟨β, rfl⟩ := has_ex hh136
       clear hh136
       refine k127 _ _ ?_
       refine w_seqk fun K235 k235 => ?_
       refine w_reg (by kernel_rfl) ?_
       refine s_qk (.nilIface) (by kernel_rfl) ?_
       refine s_nil ?_
       refine k235 _ _ ?_
       refine w_ret ?_
       refine b_ret (fn := Tryd.f59) (vs := [.nilIface]) (aRes_tmp (by kernel_rfl) (rfl)) ?_
       obtain rfl := Option.some.inj r234
       exact ⟨(.nilIface), [], rfl, (FrS.step wf (FrS.step wf ((FrS.refl (W := []) wf).extR e9) e21 Inn.nil) e134 Inn.nil), Ev.nil, Inn.nil⟩

theorem c_cmp_isNaN {H : AH} {x : Int} {r : Bool}
  (wf : WF H) (hr : z_cmp_isNaN x = some r) :
  ACalls Tryd.prog 99 #[.int .i64 x] H fun v H' => v = .bool r ∧ H = H' := by
 refine acalls_of_body mixed Tryd.func99 rfl (Nat.le_of_ble_eq_true rfl) ?_
 unfold z_cmp_isNaN at hr
 refine w_seqk fun K1 k1 => ?_
 refine w_reg (by kernel_rfl) ?_
 refine s_qk (.bool false) (by kernel_rfl) ?_
 refine s_nil ?_
 refine k1 _ _ ?_
 refine w_seqk fun K2 k2 => ?_
 refine w_reg (by kernel_rfl) ?_
 refine s_qk (.int .i64 x) (by kernel_rfl) ?_
 refine s_qk (.int .i64 x) (by kernel_rfl) ?_
 refine s_qk (.bool (!decide (x = x))) (by kernel_rfl) ?_
 refine s_qk (.bool (!decide (x = x))) (by kernel_rfl) ?_
 refine s_nil ?_
 refine k2 _ _ ?_
 refine w_ret ?_
 refine b_ret (fn := Tryd.f99) (vs := [.bool (!decide (x = x))]) (aRes_tmp (by kernel_rfl) (rfl)) ?_
 obtain rfl := Option.some.inj hr
 exact ⟨rfl, rfl⟩

theorem c_cmp_Less {H : AH} {x : Int} {y : Int} {r : Bool}
  (wf : WF H) (hr : z_cmp_Less x y = some r) :
  ACalls Tryd.prog 92 #[.int .i64 x, .int .i64 y] H fun v H' => v = .bool r ∧ H = H' := by
 refine acalls_of_body mixed Tryd.func92 rfl (Nat.le_of_ble_eq_true rfl) ?_
 unfold z_cmp_Less at hr
 refine w_seqk fun K1 k1 => ?_
 refine w_reg (by kernel_rfl) ?_
 refine s_qk (.bool false) (by kernel_rfl) ?_
 refine s_nil ?_
 refine k1 _ _ ?_
 refine w_seqk fun K2 k2 => ?_
 refine w_reg (by kernel_rfl) ?_
 refine s_qk (.int .i64 x) (by kernel_rfl) ?_
 obtain ⟨y3, hy4, r5⟩ := bind_some hr
 refine s_ck 99 #[.int .i64 x] (by kernel_rfl) (c_cmp_isNaN wf hy4) ?_
 rintro _ _ ⟨rfl, rfl⟩
 by_cases h8 : y3 = true
 ·have r9 := ite_t h8 r5
  rw [h8]
  refine s_qk (.bool true) (by kernel_rfl) ?_
  refine s_qk (.int .i64 y) (by kernel_rfl) ?_
  obtain ⟨y11, hy12, r13⟩ := bind_some r9
  refine s_ck 99 #[.int .i64 y] (by kernel_rfl) (c_cmp_isNaN wf hy12) ?_
  rintro _ _ ⟨rfl, rfl⟩
  by_cases h16 : y11 = true
  ·have r17 := ite_t h16 r13
   rw [h16]
   refine s_qk (.bool false) (by kernel_rfl) ?_
   refine s_qk (.bool false) (by kernel_rfl) ?_
   refine s_qk (.bool false) (by kernel_rfl) ?_
   refine s_qk (.int .i64 x) (by kernel_rfl) ?_
   refine s_qk (.int .i64 y) (by kernel_rfl) ?_
   refine s_qk (.bool (decide (x < y))) (by kernel_rfl) ?_
   refine s_qk (.bool (decide (x < y))) (by kernel_rfl) ?_
   refine s_qk (.bool (decide (x < y))) (by kernel_rfl) ?_
   refine s_nil ?_
   refine k2 _ _ ?_
   refine w_ret ?_
   refine b_ret (fn := Tryd.f92) (vs := [.bool (decide (x < y))]) (aRes_tmp (by kernel_rfl) (rfl)) ?_
   obtain rfl := Option.some.inj r17
   exact ⟨rfl, rfl⟩
  ·have r19 := ite_f h16 r13
   rw [nb h16]
   refine s_qk (.bool true) (by kernel_rfl) ?_
   refine s_qk (.bool true) (by kernel_rfl) ?_
   refine s_qk (.bool true) (by kernel_rfl) ?_
   refine s_no (by kernel_rfl) ?_
   refine s_no (by kernel_rfl) ?_
   refine s_no (by kernel_rfl) ?_
   refine s_qk (.bool true) (by kernel_rfl) ?_
   refine s_qk (.bool true) (by kernel_rfl) ?_
   refine s_nil ?_
   refine k2 _ _ ?_
   refine w_ret ?_
   refine b_ret (fn := Tryd.f92) (vs := [.bool true]) (aRes_tmp (by kernel_rfl) (rfl)) ?_
   obtain rfl := Option.some.inj r19
   exact ⟨rfl, rfl⟩
 ·have r21 := ite_f h8 r5
  rw [nb h8]
  refine s_qk (.bool false) (by kernel_rfl) ?_
  refine s_no (by kernel_rfl) ?_
  refine s_no (by kernel_rfl) ?_
  refine s_no (by kernel_rfl) ?_
  refine s_qk (.bool false) (by kernel_rfl) ?_
  refine s_qk (.bool false) (by kernel_rfl) ?_
  refine s_qk (.int .i64 x) (by kernel_rfl) ?_
  refine s_qk (.int .i64 y) (by kernel_rfl) ?_
  refine s_qk (.bool (decide (x < y))) (by kernel_rfl) ?_
  refine s_qk (.bool (decide (x < y))) (by kernel_rfl) ?_
  refine s_qk (.bool (decide (x < y))) (by kernel_rfl) ?_
  refine s_nil ?_
  refine k2 _ _ ?_
  refine w_ret ?_
  refine b_ret (fn := Tryd.f92) (vs := [.bool (decide (x < y))]) (aRes_tmp (by kernel_rfl) (rfl)) ?_
  obtain rfl := Option.some.inj r21
  exact ⟨rfl, rfl⟩

theorem c_slices_isNaN {H : AH} {x : Int} {r : Bool}
  (wf : WF H) (hr : z_slices_isNaN x = some r) :
  ACalls Tryd.prog 93 #[.int .i64 x] H fun v H' => v = .bool r ∧ H = H' := by
 refine acalls_of_body mixed Tryd.func93 rfl (Nat.le_of_ble_eq_true rfl) ?_
 unfold z_slices_isNaN at hr
 refine w_seqk fun K1 k1 => ?_
 refine w_reg (by kernel_rfl) ?_
 refine s_qk (.bool false) (by kernel_rfl) ?_
 refine s_nil ?_
 refine k1 _ _ ?_
 refine w_seqk fun K2 k2 => ?_
 refine w_reg (by kernel_rfl) ?_
 refine s_qk (.int .i64 x) (by kernel_rfl) ?_
 refine s_qk (.int .i64 x) (by kernel_rfl) ?_
 refine s_qk (.bool (!decide (x = x))) (by kernel_rfl) ?_
 refine s_qk (.bool (!decide (x = x))) (by kernel_rfl) ?_
 refine s_nil ?_
 refine k2 _ _ ?_
 refine w_ret ?_
 refine b_ret (fn := Tryd.f93) (vs := [.bool (!decide (x = x))]) (aRes_tmp (by kernel_rfl) (rfl)) ?_
 obtain rfl := Option.some.inj hr
 exact ⟨rfl, rfl⟩

theorem c_slices_BinarySearch {H : AH} {hd_x : Value} {fp_x : Fp} {x : List (Int)} {target : Int} {r : Int × Bool}
  (wf : WF H) (h_x : Sq (encI .i64) 1 H hd_x x fp_x) (hr : z_slices_BinarySearch x target = some r) :
  ACalls Tryd.prog 86 #[hd_x, .int .i64 target] H fun v H' => v = .tuple #[.int .i64 r.1, .bool r.2] ∧ H = H' := by
 refine acalls_of_body mixed Tryd.func86 rfl (Nat.le_of_ble_eq_true rfl) ?_
 unfold z_slices_BinarySearch at hr
 refine w_seqk fun K1 k1 => ?_
 refine w_reg (by kernel_rfl) ?_
 refine s_qk (.int .i64 0) (by kernel_rfl) ?_
 refine s_qk (.bool false) (by kernel_rfl) ?_
 refine s_nil ?_
 refine k1 _ _ ?_
 refine w_seqk fun K2 k2 => ?_
 refine w_reg (by kernel_rfl) ?_
 refine s_qk (hd_x) (by kernel_rfl) ?_
 refine s_ql (.int .i64 (x.length : Int)) (x := aLen Tryd.prog 22 hd_x H) (by kernel_rfl) (h_x.lenb (by kernel_rfl)) ?_
 refine s_qk (.int .i64 (x.length : Int)) (by kernel_rfl) ?_
 refine s_nil ?_
 refine k2 _ _ ?_
 refine w_seqk fun K3 k3 => ?_
 refine w_reg (by kernel_rfl) ?_
 refine s_qk (.int .i64 (x.length : Int)) (by kernel_rfl) ?_
 refine s_qk (.int .i64 0) (by kernel_rfl) ?_
 refine s_qk (.int .i64 (x.length : Int)) (by kernel_rfl) ?_
 refine s_nil ?_
 refine k3 _ _ ?_
 refine w_seqk fun K4 k4 => ?_
 obtain ⟨o5, hx6, r7⟩ := bind_some hr
 refine w_mid (fun α H8 => Has α [(0, hd_x), (1, .int .i64 target), (6, .int .i64 (x.length : Int)), (7, .int .i64 o5)] ∧ H = H8) (fun K10 k10 => ?_) (fun α H8 hM => ?_)
 ·refine w_block ?_
  obtain ⟨n12, hn13⟩ := loopO_iff.1 hx6
  refine w_loopn (fun n α H14 => ∃ (i0 : Int), ∃ (j1 : Int), iterO (fun zz_ => z_slices_BinarySearch_l0 x target zz_.1 zz_.2) n (i0, j1) = some o5 ∧ Has α [(0, hd_x), (1, .int .i64 target), (6, .int .i64 (x.length : Int)), (7, .int .i64 i0), (8, .int .i64 j1)] ∧ H = H14) n12 ⟨0, (x.length : Int), hn13, ⟨by kernel_rfl, by kernel_rfl, by kernel_rfl, by kernel_rfl, by kernel_rfl, trivial⟩, rfl⟩ ?_
  rintro n12 α H14 ⟨i0, j1, hi17, hh16, rfl⟩ K22 k22
  obtain ⟨n18, z19, rfl, hz20, hn21⟩ := iter_succ hi17
  obtain ⟨β, rfl⟩ := has_ex hh16
  clear hh16
  replace hz20 : z_slices_BinarySearch_l0 x target i0 j1 = some z19 := hz20
  unfold z_slices_BinarySearch_l0 at hz20
  refine w_seqk fun K23 k23 => ?_
  refine w_seqk fun K24 k24 => ?_
  refine w_reg (by kernel_rfl) ?_
  refine s_qk (.int .i64 i0) (by kernel_rfl) ?_
  refine s_qk (.int .i64 j1) (by kernel_rfl) ?_
  refine s_qk (.bool (decide (i0 < j1))) (by kernel_rfl) ?_
  refine s_nil ?_
  refine k24 _ _ ?_
  refine w_condp (i0 < j1) (by kernel_rfl) rfl (fun h25 => ?_) (fun h25 => ?_)
  ·have r26 := ite_t h25 hz20
   refine w_skip ?_
   refine k23 _ _ ?_
   refine w_block ?_
   refine w_seqk fun K27 k27 => ?_
   refine w_reg (by kernel_rfl) ?_
   refine s_qk (.int .i64 i0) (by kernel_rfl) ?_
   refine s_qk (.int .i64 j1) (by kernel_rfl) ?_
   obtain ⟨g28, r29⟩ := G_some r26
   refine s_w ((i0 + j1)) (k := .i64) (x := (i0 + j1)) (by kernel_rfl) (wrap64 g28) ?_
   obtain ⟨g30, r31⟩ := G_some r29
   refine s_w ((i0 + j1)) (k := .u64) (x := (i0 + j1)) (by kernel_rfl) (wrapu64 g30) ?_
   refine s_ql (.int .u64 ((i0 + j1) / 2)) (x := some (.int .u64 (Int.fdiv (i0 + j1) 2))) (by kernel_rfl) (by rw [Int.fdiv_eq_ediv_of_nonneg _ (by decide)]) ?_
   obtain ⟨g32, r33⟩ := G_some r31
   refine s_w (((i0 + j1) / 2)) (k := .i64) (x := ((i0 + j1) / 2)) (by kernel_rfl) (wrap64 g32) ?_
   refine s_qk (.int .i64 ((i0 + j1) / 2)) (by kernel_rfl) ?_
   refine s_nil ?_
   refine k27 _ _ ?_
   refine w_seqk fun K34 k34 => ?_
   refine w_reg (by kernel_rfl) ?_
   refine s_qk (hd_x) (by kernel_rfl) ?_
   refine s_qk (.int .i64 ((i0 + j1) / 2)) (by kernel_rfl) ?_
   obtain ⟨g35, r36⟩ := G_some r33
   refine s_ql (elp hd_x 1 ((i0 + j1) / 2).toNat 0) (x := aIndexAddr Tryd.prog 22 hd_x (.int .i64 ((i0 + j1) / 2))) (by kernel_rfl) (h_x.idxb (by kernel_rfl) g35.1 g35.2) ?_
   refine s_ql (.int .i64 (gt x ((i0 + j1) / 2))) (x := aLoad Tryd.prog 3 (elp hd_x 1 ((i0 + j1) / 2).toNat 0) H) (by kernel_rfl) (h_x.ld g35.1 g35.2 (by kernel_rfl)) ?_
   refine s_qk (.int .i64 target) (by kernel_rfl) ?_
   obtain ⟨y37, hy38, r39⟩ := bind_some r36
   refine s_ck 92 #[.int .i64 (gt x ((i0 + j1) / 2)), .int .i64 target] (by kernel_rfl) (c_cmp_Less wf hy38) ?_
   rintro _ _ ⟨rfl, rfl⟩
   refine s_nil ?_
   refine k34 _ _ ?_
   refine w_cond (y37) (by kernel_rfl) rfl (fun h42 => ?_) (fun h42 => ?_)
   ·have r43 := ite_t h42 r39
    refine w_reg (by kernel_rfl) ?_
    refine s_qk (.int .i64 ((i0 + j1) / 2)) (by kernel_rfl) ?_
    obtain ⟨g44, r45⟩ := G_some r43
    refine s_w ((((i0 + j1) / 2) + 1)) (k := .i64) (x := (((i0 + j1) / 2) + 1)) (by kernel_rfl) (wrap64 (by have := g44; omega)) ?_
    refine s_qk (.int .i64 (((i0 + j1) / 2) + 1)) (by kernel_rfl) ?_
    refine s_nil ?_
    obtain rfl := Option.some.inj r45
    exact k22 n18 _ _ (Nat.lt_succ_self _) ⟨(((i0 + j1) / 2) + 1), j1, hn21, ⟨by kernel_rfl, by kernel_rfl, by kernel_rfl, by kernel_rfl, by kernel_rfl, trivial⟩, rfl⟩
   ·have r46 := ite_bf h42 r39
    refine w_reg (by kernel_rfl) ?_
    refine s_qk (.int .i64 ((i0 + j1) / 2)) (by kernel_rfl) ?_
    refine s_qk (.int .i64 ((i0 + j1) / 2)) (by kernel_rfl) ?_
    refine s_nil ?_
    obtain rfl := Option.some.inj r46
    exact k22 n18 _ _ (Nat.lt_succ_self _) ⟨i0, ((i0 + j1) / 2), hn21, ⟨by kernel_rfl, by kernel_rfl, by kernel_rfl, by kernel_rfl, by kernel_rfl, trivial⟩, rfl⟩
  ·have r47 := ite_f h25 hz20
   refine w_exit (th_exit (th_exit (bl_eq ?_)))
   obtain rfl := Option.some.inj r47
   obtain rfl := it_inr hn21
   exact k10 _ _ ⟨⟨by kernel_rfl, by kernel_rfl, by kernel_rfl, by kernel_rfl, trivial⟩, rfl⟩
 ·obtain ⟨hh11, rfl⟩ := hM
  obtain ⟨β, rfl⟩ := has_ex hh11
  clear hh11
  refine k4 _ _ ?_
  refine w_seqk fun K48 k48 => ?_
  refine w_reg (by kernel_rfl) ?_
  refine s_qk (.int .i64 o5) (by kernel_rfl) ?_
  refine s_qk (.int .i64 o5) (by kernel_rfl) ?_
  refine s_qk (.int .i64 (x.length : Int)) (by kernel_rfl) ?_
  refine s_b (o5 < (x.length : Int)) (by kernel_rfl) (fun h49 => ?_) (fun h49 => ?_)
  ·have r50 := ite_t h49 r7
   refine s_qk (.bool true) (by kernel_rfl) ?_
   refine s_qk (hd_x) (by kernel_rfl) ?_
   refine s_qk (.int .i64 o5) (by kernel_rfl) ?_
   obtain ⟨g51, r52⟩ := G_some r50
   refine s_ql (elp hd_x 1 o5.toNat 0) (x := aIndexAddr Tryd.prog 22 hd_x (.int .i64 o5)) (by kernel_rfl) (h_x.idxb (by kernel_rfl) g51 h49) ?_
   refine s_ql (.int .i64 (gt x o5)) (x := aLoad Tryd.prog 3 (elp hd_x 1 o5.toNat 0) H) (by kernel_rfl) (h_x.ld g51 h49 (by kernel_rfl)) ?_
   refine s_qk (.int .i64 target) (by kernel_rfl) ?_
   refine s_b ((gt x o5) = target) (by kernel_rfl) (fun h53 => ?_) (fun h53 => ?_)
   ·have r54 := ite_t h53 r52
    refine s_qk (.bool true) (by kernel_rfl) ?_
    refine s_no (by kernel_rfl) ?_
    refine s_no (by kernel_rfl) ?_
    refine s_no (by kernel_rfl) ?_
    refine s_no (by kernel_rfl) ?_
    refine s_no (by kernel_rfl) ?_
    refine s_no (by kernel_rfl) ?_
    refine s_no (by kernel_rfl) ?_
    refine s_no (by kernel_rfl) ?_
    refine s_no (by kernel_rfl) ?_
    refine s_qk (.bool true) (by kernel_rfl) ?_
    refine s_qk (.bool true) (by kernel_rfl) ?_
    refine s_qk (.int .i64 o5) (by kernel_rfl) ?_
    refine s_qk (.bool true) (by kernel_rfl) ?_
    refine s_nil ?_
    refine k48 _ _ ?_
    refine w_ret ?_
    refine b_ret (fn := Tryd.f86) (vs := [.int .i64 o5, .bool true]) (aRes_tmp (by kernel_rfl) (aRes_tmp (by kernel_rfl) (rfl))) ?_
    obtain rfl := Option.some.inj r54
    exact ⟨rfl, rfl⟩
   ·have r55 := ite_f h53 r52
    refine s_qk (.bool false) (by kernel_rfl) ?_
    refine s_qk (hd_x) (by kernel_rfl) ?_
    refine s_qk (.int .i64 o5) (by kernel_rfl) ?_
    refine s_ql (elp hd_x 1 o5.toNat 0) (x := aIndexAddr Tryd.prog 22 hd_x (.int .i64 o5)) (by kernel_rfl) (h_x.idxb (by kernel_rfl) g51 h49) ?_
    refine s_ql (.int .i64 (gt x o5)) (x := aLoad Tryd.prog 3 (elp hd_x 1 o5.toNat 0) H) (by kernel_rfl) (h_x.ld g51 h49 (by kernel_rfl)) ?_
    obtain ⟨y56, hy57, r58⟩ := bind_some r55
    refine s_ck 93 #[.int .i64 (gt x o5)] (by kernel_rfl) (c_slices_isNaN wf hy57) ?_
    rintro _ _ ⟨rfl, rfl⟩
    by_cases h61 : y56 = true
    ·have r62 := ite_t h61 r58
     rw [h61]
     refine s_qk (.bool true) (by kernel_rfl) ?_
     refine s_qk (.int .i64 target) (by kernel_rfl) ?_
     obtain ⟨y64, hy65, r66⟩ := bind_some r62
     refine s_ck 93 #[.int .i64 target] (by kernel_rfl) (c_slices_isNaN wf hy65) ?_
     rintro _ _ ⟨rfl, rfl⟩
     refine s_qk (.bool y64) (by kernel_rfl) ?_
     refine s_qk (.bool y64) (by kernel_rfl) ?_
     refine s_qk (.bool y64) (by kernel_rfl) ?_
     refine s_qk (.int .i64 o5) (by kernel_rfl) ?_
     refine s_qk (.bool y64) (by kernel_rfl) ?_
     refine s_nil ?_
     refine k48 _ _ ?_
     refine w_ret ?_
     refine b_ret (fn := Tryd.f86) (vs := [.int .i64 o5, .bool y64]) (aRes_tmp (by kernel_rfl) (aRes_tmp (by kernel_rfl) (rfl))) ?_
     obtain rfl := Option.some.inj r66
     exact ⟨rfl, rfl⟩
    ·have r69 := ite_f h61 r58
     rw [nb h61]
     refine s_qk (.bool false) (by kernel_rfl) ?_
     refine s_no (by kernel_rfl) ?_
     refine s_no (by kernel_rfl) ?_
     refine s_qk (.bool false) (by kernel_rfl) ?_
     refine s_qk (.bool false) (by kernel_rfl) ?_
     refine s_qk (.bool false) (by kernel_rfl) ?_
     refine s_qk (.int .i64 o5) (by kernel_rfl) ?_
     refine s_qk (.bool false) (by kernel_rfl) ?_
     refine s_nil ?_
     refine k48 _ _ ?_
     refine w_ret ?_
     refine b_ret (fn := Tryd.f86) (vs := [.int .i64 o5, .bool false]) (aRes_tmp (by kernel_rfl) (aRes_tmp (by kernel_rfl) (rfl))) ?_
     obtain rfl := Option.some.inj r69
     exact ⟨rfl, rfl⟩
  ·have r71 := ite_f h49 r7
   refine s_qk (.bool false) (by kernel_rfl) ?_
   refine s_no (by kernel_rfl) ?_
   refine s_no (by kernel_rfl) ?_
   refine s_no (by kernel_rfl) ?_
   refine s_no (by kernel_rfl) ?_
   refine s_no (by kernel_rfl) ?_
   refine s_no (by kernel_rfl) ?_
   refine s_no (by kernel_rfl) ?_
   refine s_no (by kernel_rfl) ?_
   refine s_no (by kernel_rfl) ?_
   refine s_no (by kernel_rfl) ?_
   refine s_no (by kernel_rfl) ?_
   refine s_no (by kernel_rfl) ?_
   refine s_no (by kernel_rfl) ?_
   refine s_no (by kernel_rfl) ?_
   refine s_no (by kernel_rfl) ?_
   refine s_no (by kernel_rfl) ?_
   refine s_no (by kernel_rfl) ?_
   refine s_qk (.bool false) (by kernel_rfl) ?_
   refine s_qk (.int .i64 o5) (by kernel_rfl) ?_
   refine s_qk (.bool false) (by kernel_rfl) ?_
   refine s_nil ?_
   refine k48 _ _ ?_
   refine w_ret ?_
   refine b_ret (fn := Tryd.f86) (vs := [.int .i64 o5, .bool false]) (aRes_tmp (by kernel_rfl) (aRes_tmp (by kernel_rfl) (rfl))) ?_
   obtain rfl := Option.some.inj r71
   exact ⟨rfl, rfl⟩

theorem c_walk_arc {H : AH} {hd_First : Value} {fp_First : Fp} {hd_To : Value} {fp_To : Fp} {hd_Weight : Value} {fp_Weight : Fp} {First : List (Int)} {To : List (Int)} {Weight : List (Int)} {v_ : Int} {w : Int} {r : Int × Er}
  (wf : WF H) (h_First : Sq (encI .i64) 1 H hd_First First fp_First) (h_To : Sq (encI .i64) 1 H hd_To To fp_To) (h_Weight : Sq (encI .i64) 1 H hd_Weight Weight fp_Weight) (hr : z_walk_arc First To Weight v_ w = some r) :
  ACalls Tryd.prog 66 #[.agg #[hd_First, hd_To, hd_Weight], .int .i64 v_, .int .i64 w] H fun v H' => ∃ (v3 : Value) (f4 : Fp), v = .tuple #[.int .i64 r.1, v3] ∧ FrS [] H H' ∧ Ev 80 86 H' v3 r.2 f4 ∧ Inn [] H f4 := by
 refine acalls_of_body mixed Tryd.func66 rfl (Nat.le_of_ble_eq_true rfl) ?_
 unfold z_walk_arc at hr
 refine w_seqk fun K6 k6 => ?_
 refine w_reg (by kernel_rfl) ?_
 refine s_rwl wf [hd_First, hd_To, hd_Weight] (one_cons (h_First.one1) (one_cons (h_To.one1) (one_cons (h_Weight.one1) (one_nil)))) (by kernel_rfl) fun b7 H8 e9 hb10 r11 => ?_
 refine s_qk (.int .i64 0) (by kernel_rfl) ?_
 refine s_qk (.nilIface) (by kernel_rfl) ?_
 refine s_nil ?_
 refine k6 _ _ ?_
 refine w_seqk fun K13 k13 => ?_
 refine w_draw [0, 1, 2, 3, 4, 5, 6, 7, 8, 9, 10, 11, 12, 13, 14] (by kernel_rfl) ?_
 refine d_qk (.pointer (some ⟨b7, 1, none⟩)) (by kernel_rfl) ?_
 refine d_ql (hd_To) (x := aLoad Tryd.prog 22 (.pointer (some ⟨b7, 1, none⟩)) H8) (by kernel_rfl) (r11.ld (by kernel_rfl)) ?_
 refine d_qk (.pointer (some ⟨b7, 0, none⟩)) (by kernel_rfl) ?_
 refine d_ql (hd_First) (x := aLoad Tryd.prog 22 (.pointer (some ⟨b7, 0, none⟩)) H8) (by kernel_rfl) (r11.ld (by kernel_rfl)) ?_
 refine d_qk (.int .i64 v_) (by kernel_rfl) ?_
 obtain ⟨g14, r15⟩ := G_some hr
 have u16 := (h_First.ext e9)
 refine d_ql (elp hd_First 1 v_.toNat 0) (x := aIndexAddr Tryd.prog 22 hd_First (.int .i64 v_)) (by kernel_rfl) (u16.idxb (by kernel_rfl) g14.1 g14.2) ?_
 refine d_ql (.int .i64 (gt First v_)) (x := aLoad Tryd.prog 3 (elp hd_First 1 v_.toNat 0) H8) (by kernel_rfl) (u16.ld g14.1 g14.2 (by kernel_rfl)) ?_
 refine d_qk (.pointer (some ⟨b7, 0, none⟩)) (by kernel_rfl) ?_
 refine d_ql (hd_First) (x := aLoad Tryd.prog 22 (.pointer (some ⟨b7, 0, none⟩)) H8) (by kernel_rfl) (r11.ld (by kernel_rfl)) ?_
 refine d_qk (.int .i64 v_) (by kernel_rfl) ?_
 obtain ⟨g17, r18⟩ := G_some r15
 refine d_w ((v_ + 1)) (k := .i64) (x := (v_ + 1)) (by kernel_rfl) (wrap64 (by have := g17; omega)) ?_
 obtain ⟨g19, r20⟩ := G_some r18
 refine d_ql (elp hd_First 1 (v_ + 1).toNat 0) (x := aIndexAddr Tryd.prog 22 hd_First (.int .i64 (v_ + 1))) (by kernel_rfl) (u16.idxb (by kernel_rfl) g19.1 g19.2) ?_
 refine d_ql (.int .i64 (gt First (v_ + 1))) (x := aLoad Tryd.prog 3 (elp hd_First 1 (v_ + 1).toNat 0) H8) (by kernel_rfl) (u16.ld g19.1 g19.2 (by kernel_rfl)) ?_
 obtain ⟨g21, r22⟩ := G_some r20
 have u26 := (h_To.ext e9)
 obtain ⟨s23, q24, hs25⟩ := Sq.cut (P := Tryd.prog) u26 (t := 22) (by kernel_rfl) (lo := (some (.int .i64 (gt First v_)))) (hi := (some (.int .i64 (gt First (v_ + 1))))) (l := (gt First v_).toNat) (r := (gt First (v_ + 1)).toNat) (aBound_int _ (by have := g21; omega)) (aBound_int _ (by have := g21; omega)) (by have := g21; omega) (by have := g21; omega)
 obtain ⟨a27, n28, c29, rfl⟩ := hs25.form
 refine d_ql (.slice a27 n28 c29) (by kernel_rfl) q24 ?_
 refine d_qk (.slice a27 n28 c29) (by kernel_rfl) ?_
 refine d_nil ?_
 refine k13 _ _ ?_
 refine w_seqk fun K31 k31 => ?_
 refine w_reg (by kernel_rfl) ?_
 refine s_qk (.slice a27 n28 c29) (by kernel_rfl) ?_
 refine s_qk (.int .i64 w) (by kernel_rfl) ?_
 obtain ⟨y32, hy33, r34⟩ := bind_some r22
 refine s_ck 86 #[.slice a27 n28 c29, .int .i64 w] (by kernel_rfl) (c_slices_BinarySearch e9.wf hs25 hy33) ?_
 rintro _ _ ⟨rfl, rfl⟩
 refine s_qk (.tuple #[.int .i64 y32.1, .bool y32.2]) (by kernel_rfl) ?_
 refine s_qk (.int .i64 y32.1) (by kernel_rfl) ?_
 refine s_qk (.bool y32.2) (by kernel_rfl) ?_
 refine s_qk (.int .i64 y32.1) (by kernel_rfl) ?_
 refine s_qk (.bool y32.2) (by kernel_rfl) ?_
 refine s_nil ?_
 refine k31 _ _ ?_
 refine w_seqk fun K37 k37 => ?_
 refine w_seqk fun K38 k38 => ?_
 refine w_reg (by kernel_rfl) ?_
 refine s_qk (.bool y32.2) (by kernel_rfl) ?_
 refine s_qk (.bool (!y32.2)) (by kernel_rfl) ?_
 refine s_nil ?_
 refine k38 _ _ ?_
 refine w_cond ((!y32.2)) (by kernel_rfl) rfl (fun h39 => ?_) (fun h39 => ?_)
 ·have r40 := ite_t h39 r34
  refine w_seqk fun K41 k41 => ?_
  refine w_reg (by kernel_rfl) ?_
  refine s_qk (.iface 80 (.int .i64 16)) (by kernel_rfl) ?_
  refine s_qk (.int .i64 0) (by kernel_rfl) ?_
  refine s_qk (.iface 80 (.int .i64 16)) (by kernel_rfl) ?_
  refine s_nil ?_
  refine k41 _ _ ?_
  refine w_ret (th_ret ?_)
  refine b_ret (fn := Tryd.f66) (vs := [.int .i64 0, .iface 80 (.int .i64 16)]) (aRes_tmp (by kernel_rfl) (aRes_tmp (by kernel_rfl) (rfl))) ?_
  obtain rfl := Option.some.inj r40
  exact ⟨(.iface 80 (.int .i64 16)), [], rfl, ((FrS.refl (W := []) wf).extR e9), Ev.no, Inn.nil⟩
 ·have r42 := ite_bf h39 r34
  refine w_skip ?_
  refine k37 _ _ ?_
  refine w_seqk fun K43 k43 => ?_
  refine w_draw [0, 1, 2, 3, 4, 5, 6, 7, 8, 9, 10, 11, 12] (by kernel_rfl) ?_
  refine d_qk (.pointer (some ⟨b7, 2, none⟩)) (by kernel_rfl) ?_
  refine d_ql (hd_Weight) (x := aLoad Tryd.prog 22 (.pointer (some ⟨b7, 2, none⟩)) H8) (by kernel_rfl) (r11.ld (by kernel_rfl)) ?_
  refine d_qk (.pointer (some ⟨b7, 0, none⟩)) (by kernel_rfl) ?_
  refine d_ql (hd_First) (x := aLoad Tryd.prog 22 (.pointer (some ⟨b7, 0, none⟩)) H8) (by kernel_rfl) (r11.ld (by kernel_rfl)) ?_
  refine d_qk (.int .i64 v_) (by kernel_rfl) ?_
  refine d_ql (elp hd_First 1 v_.toNat 0) (x := aIndexAddr Tryd.prog 22 hd_First (.int .i64 v_)) (by kernel_rfl) (u16.idxb (by kernel_rfl) g14.1 g14.2) ?_
  refine d_ql (.int .i64 (gt First v_)) (x := aLoad Tryd.prog 3 (elp hd_First 1 v_.toNat 0) H8) (by kernel_rfl) (u16.ld g14.1 g14.2 (by kernel_rfl)) ?_
  refine d_qk (.int .i64 y32.1) (by kernel_rfl) ?_
  obtain ⟨g44, r45⟩ := G_some r42
  refine d_w (((gt First v_) + y32.1)) (k := .i64) (x := ((gt First v_) + y32.1)) (by kernel_rfl) (wrap64 g44) ?_
  obtain ⟨g46, r47⟩ := G_some r45
  have u48 := (h_Weight.ext e9)
  refine d_ql (elp hd_Weight 1 ((gt First v_) + y32.1).toNat 0) (x := aIndexAddr Tryd.prog 22 hd_Weight (.int .i64 ((gt First v_) + y32.1))) (by kernel_rfl) (u48.idxb (by kernel_rfl) g46.1 g46.2) ?_
  refine d_ql (.int .i64 (gt Weight ((gt First v_) + y32.1))) (x := aLoad Tryd.prog 3 (elp hd_Weight 1 ((gt First v_) + y32.1).toNat 0) H8) (by kernel_rfl) (u48.ld g46.1 g46.2 (by kernel_rfl)) ?_
  refine d_qk (.int .i64 (gt Weight ((gt First v_) + y32.1))) (by kernel_rfl) ?_
  refine d_qk (.nilIface) (by kernel_rfl) ?_
  refine d_nil ?_
  refine k43 _ _ ?_
  refine w_ret ?_
  refine b_ret (fn := Tryd.f66) (vs := [.int .i64 (gt Weight ((gt First v_) + y32.1)), .nilIface]) (aRes_tmp (by kernel_rfl) (aRes_tmp (by kernel_rfl) (rfl))) ?_
  obtain rfl := Option.some.inj r47
  exact ⟨(.nilIface), [], rfl, ((FrS.refl (W := []) wf).extR e9), Ev.nil, Inn.nil⟩

theorem c_walk_Length {H : AH} {hd_First : Value} {fp_First : Fp} {hd_To : Value} {fp_To : Fp} {hd_Weight : Value} {fp_Weight : Fp} {hd_list : Value} {fp_list : Fp} {First : List (Int)} {To : List (Int)} {Weight : List (Int)} {list : List (Int)} {r : Int × Er}
  (wf : WF H) (h_First : Sq (encI .i64) 1 H hd_First First fp_First) (h_To : Sq (encI .i64) 1 H hd_To To fp_To) (h_Weight : Sq (encI .i64) 1 H hd_Weight Weight fp_Weight) (h_list : Sq (encI .i64) 1 H hd_list list fp_list) (hr : z_walk_Length First To Weight list = some r) :
  ACalls Tryd.prog 35 #[.agg #[hd_First, hd_To, hd_Weight], hd_list] H fun v H' => ∃ (v3 : Value) (f4 : Fp), v = .tuple #[.int .u64 r.1, v3] ∧ FrS [] H H' ∧ Ev 80 86 H' v3 r.2 f4 ∧ Inn [] H f4 := by
 refine acalls_of_body mixed Tryd.func35 rfl (Nat.le_of_ble_eq_true rfl) ?_
 unfold z_walk_Length at hr
 refine w_seqk fun K6 k6 => ?_
 refine w_reg (by kernel_rfl) ?_
 refine s_rwl wf [hd_First, hd_To, hd_Weight] (one_cons (h_First.one1) (one_cons (h_To.one1) (one_cons (h_Weight.one1) (one_nil)))) (by kernel_rfl) fun b7 H8 e9 hb10 r11 => ?_
 refine s_qk (.int .u64 0) (by kernel_rfl) ?_
 refine s_qk (.nilIface) (by kernel_rfl) ?_
 refine s_nil ?_
 refine k6 _ _ ?_
 refine w_seqk fun K13 k13 => ?_
 refine w_seqk fun K14 k14 => ?_
 refine w_reg (by kernel_rfl) ?_
 refine s_ql (.agg #[hd_First, hd_To, hd_Weight]) (x := aLoad Tryd.prog 40 (.pointer (some ⟨b7, 0, none⟩)) H8) (by kernel_rfl) (r11.ld (by kernel_rfl)) ?_
 have u15 := (h_First.ext e9)
 have u16 := (h_To.ext e9)
 have u17 := (h_Weight.ext e9)
 obtain ⟨y18, hy19, r20⟩ := bind_some hr
 refine s_ck 59 #[.agg #[hd_First, hd_To, hd_Weight]] (by kernel_rfl) (c_csr_Check e9.wf u15 u16 u17 hy19) ?_
 rintro v21 H23 ⟨_, f22, rfl, e24, m25, i26⟩
 refine s_qk (v21) (by kernel_rfl) ?_
 refine s_nil ?_
 refine k14 _ _ ?_
 refine w_seqk fun K28 k28 => ?_
 refine w_reg (by kernel_rfl) ?_
 refine s_qk (v21) (by kernel_rfl) ?_
 rcases (m25).cases with ⟨h29, rfl⟩ | ⟨h29, t30, x31, rfl⟩
 ·have r32 := ite_t h29 r20
  refine s_qk (.bool false) (by kernel_rfl) ?_
  refine s_nil ?_
  refine k28 _ _ ?_
  refine w_cond false (by kernel_rfl) rfl (fun h => by cases h) (fun _ => ?_)
  refine w_skip ?_
  refine k13 _ _ ?_
  refine w_seqk fun K33 k33 => ?_
  refine w_seqk fun K34 k34 => ?_
  refine w_reg (by kernel_rfl) ?_
  refine s_qk (hd_list) (by kernel_rfl) ?_
  have u35 := ((h_list.ext e9).fr e24 Dj.nil_l)
  refine s_ql (.int .i64 (list.length : Int)) (x := aLen Tryd.prog 22 hd_list H23) (by kernel_rfl) (u35.lenb (by kernel_rfl)) ?_
  refine s_qk (.bool (decide ((list.length : Int) = 0))) (by kernel_rfl) ?_
  refine s_nil ?_
  refine k34 _ _ ?_
  refine w_condp ((list.length : Int) = 0) (by kernel_rfl) rfl (fun h36 => ?_) (fun h36 => ?_)
  ·have r37 := ite_t h36 r32
   refine w_seqk fun K38 k38 => ?_
   refine w_reg (by kernel_rfl) ?_
   refine s_qk (.iface 80 (.int .i64 5)) (by kernel_rfl) ?_
   refine s_qk (.int .u64 0) (by kernel_rfl) ?_
   refine s_qk (.iface 80 (.int .i64 5)) (by kernel_rfl) ?_
   refine s_nil ?_
   refine k38 _ _ ?_
   refine w_ret (th_ret ?_)
   refine b_ret (fn := Tryd.f35) (vs := [.int .u64 0, .iface 80 (.int .i64 5)]) (aRes_tmp (by kernel_rfl) (aRes_tmp (by kernel_rfl) (rfl))) ?_
   obtain rfl := Option.some.inj r37
   exact ⟨(.iface 80 (.int .i64 5)), [], rfl, (FrS.step wf ((FrS.refl (W := []) wf).extR e9) e24 Inn.nil), Ev.no, Inn.nil⟩
  ·have r39 := ite_f h36 r32
   refine w_skip ?_
   refine k33 _ _ ?_
   refine w_seqk fun K40 k40 => ?_
   refine w_seqk fun K41 k41 => ?_
   refine w_reg (by kernel_rfl) ?_
   refine s_qk (hd_list) (by kernel_rfl) ?_
   refine s_ql (.int .i64 (list.length : Int)) (x := aLen Tryd.prog 22 hd_list H23) (by kernel_rfl) (u35.lenb (by kernel_rfl)) ?_
   refine s_qk (.int .i64 0) (by kernel_rfl) ?_
   refine s_nil ?_
   refine k41 _ _ ?_
   obtain ⟨z45, hx43, r44⟩ := bind_some r39
   refine w_mid (fun α H46 => ∃ o42, z45 = Sum.inr o42 ∧ Has α [(1, hd_list), (2, .pointer (some ⟨b7, 0, none⟩))] ∧ H23 = H46) (fun K48 k48 => ?_) (fun α H46 hM => ?_)
   ·refine w_block ?_
    obtain ⟨n50, hn51⟩ := loopO_iff.1 hx43
    refine w_loopn (fun n α H52 => ∃ (i0 : Int), iterO (fun zz_ => z_walk_Length_l0 First list zz_) n i0 = some z45 ∧ Has α [(1, hd_list), (2, .pointer (some ⟨b7, 0, none⟩)), (22, hd_list), (23, .int .i64 (list.length : Int)), (24, .int .i64 i0)] ∧ H23 = H52) n50 ⟨0, hn51, ⟨by kernel_rfl, by kernel_rfl, by kernel_rfl, by kernel_rfl, by kernel_rfl, trivial⟩, rfl⟩ ?_
    rintro n50 α H52 ⟨i0, hi55, hh54, rfl⟩ K60 k60
    obtain ⟨n56, z57, rfl, hz58, hn59⟩ := iter_succ hi55
    obtain ⟨β, rfl⟩ := has_ex hh54
    clear hh54
    replace hz58 : z_walk_Length_l0 First list i0 = some z57 := hz58
    unfold z_walk_Length_l0 at hz58
    refine w_seqk fun K61 k61 => ?_
    refine w_reg (by kernel_rfl) ?_
    refine s_qk (.bool (decide (i0 < (list.length : Int)))) (by kernel_rfl) ?_
    refine s_nil ?_
    refine k61 _ _ ?_
    refine w_seqk fun K62 k62 => ?_
    refine w_condp (i0 < (list.length : Int)) (by kernel_rfl) rfl (fun h63 => ?_) (fun h63 => ?_)
    ·have r64 := ite_t h63 hz58
     refine w_skip ?_
     refine k62 _ _ ?_
     refine w_seqk fun K65 k65 => ?_
     refine w_block ?_
     refine w_seqk fun K66 k66 => ?_
     refine w_reg (by kernel_rfl) ?_
     refine s_qk (.int .i64 i0) (by kernel_rfl) ?_
     obtain ⟨g67, r68⟩ := G_some r64
     refine s_ql (elp hd_list 1 i0.toNat 0) (x := aIndexAddr Tryd.prog 22 hd_list (.int .i64 i0)) (by kernel_rfl) (u35.idxb (by kernel_rfl) g67 h63) ?_
     refine s_ql (.int .i64 (gt list i0)) (x := aLoad Tryd.prog 3 (elp hd_list 1 i0.toNat 0) H23) (by kernel_rfl) (u35.ld g67 h63 (by kernel_rfl)) ?_
     refine s_qk (.int .i64 i0) (by kernel_rfl) ?_
     refine s_qk (.int .i64 (gt list i0)) (by kernel_rfl) ?_
     refine s_nil ?_
     refine k66 _ _ ?_
     refine w_seqk fun K69 k69 => ?_
     obtain ⟨o70, hx71, r72⟩ := bind_some r68
     refine w_mid (fun α H73 => Has α [(1, hd_list), (2, .pointer (some ⟨b7, 0, none⟩)), (7, .int .i64 i0), (22, hd_list), (23, .int .i64 (list.length : Int)), (24, .int .i64 i0), (38, .bool o70)] ∧ H23 = H73) (fun K75 k75 => ?_) (fun α H73 hM => ?_)
     ·refine w_reg (by kernel_rfl) ?_
      refine s_qk (.int .i64 (gt list i0)) (by kernel_rfl) ?_
      refine s_b ((gt list i0) < 0) (by kernel_rfl) (fun h77 => ?_) (fun h77 => ?_)
      ·have r78 := ite_t h77 hx71
       refine s_qk (.bool true) (by kernel_rfl) ?_
       refine s_no (by kernel_rfl) ?_
       refine s_no (by kernel_rfl) ?_
       refine s_no (by kernel_rfl) ?_
       refine s_no (by kernel_rfl) ?_
       refine s_no (by kernel_rfl) ?_
       refine s_no (by kernel_rfl) ?_
       refine s_qk (.bool true) (by kernel_rfl) ?_
       refine s_nil ?_
       obtain rfl := Option.some.inj r78
       exact k75 _ _ ⟨⟨by kernel_rfl, by kernel_rfl, by kernel_rfl, by kernel_rfl, by kernel_rfl, by kernel_rfl, by kernel_rfl, trivial⟩, rfl⟩
      ·have r79 := ite_f h77 hx71
       refine s_qk (.bool false) (by kernel_rfl) ?_
       refine s_qk (.int .i64 (gt list i0)) (by kernel_rfl) ?_
       refine s_qk (.pointer (some ⟨b7, 0, none⟩)) (by kernel_rfl) ?_
       have u80 := (r11.frS e24 Dj.nil_l)
       refine s_ql (hd_First) (x := aLoad Tryd.prog 22 (.pointer (some ⟨b7, 0, none⟩)) H23) (by kernel_rfl) (u80.ld (by kernel_rfl)) ?_
       have u81 := (u15.fr e24 Dj.nil_l)
       refine s_ql (.int .i64 (First.length : Int)) (x := aLen Tryd.prog 22 hd_First H23) (by kernel_rfl) (u81.lenb (by kernel_rfl)) ?_
       obtain ⟨g82, r83⟩ := G_some r79
       refine s_w (((First.length : Int) - 1)) (k := .i64) (x := ((First.length : Int) - 1)) (by kernel_rfl) (wrap64 g82) ?_
       refine s_qk (.bool (decide ((gt list i0) ≥ ((First.length : Int) - 1)))) (by kernel_rfl) ?_
       refine s_qk (.bool (decide ((gt list i0) ≥ ((First.length : Int) - 1)))) (by kernel_rfl) ?_
       refine s_nil ?_
       obtain rfl := Option.some.inj r83
       exact k75 _ _ ⟨⟨by kernel_rfl, by kernel_rfl, by kernel_rfl, by kernel_rfl, by kernel_rfl, by kernel_rfl, by kernel_rfl, trivial⟩, rfl⟩
     ·obtain ⟨hh76, rfl⟩ := hM
      obtain ⟨β, rfl⟩ := has_ex hh76
      clear hh76
      refine k69 _ _ ?_
      refine w_cond (o70) (by kernel_rfl) rfl (fun h84 => ?_) (fun h84 => ?_)
      ·have r85 := ite_t h84 r72
       refine w_seqk fun K86 k86 => ?_
       refine w_reg (by kernel_rfl) ?_
       refine s_qk (.int .i64 i0) (by kernel_rfl) ?_
       refine s_qk (.iface 80 (.int .i64 7)) (by kernel_rfl) ?_
       obtain ⟨y87, hy88, r89⟩ := bind_some r85
       refine s_ck 65 #[.int .i64 3, .int .i64 i0, .iface 80 (.int .i64 7)] (by kernel_rfl) (c_fault_At e24.wf (Ev.no (tf := 86)) hy88) ?_
       rintro v90 H92 ⟨_, f91, rfl, e93, m94, i95⟩
       refine s_qk (.int .u64 0) (by kernel_rfl) ?_
       refine s_qk (v90) (by kernel_rfl) ?_
       refine s_nil ?_
       refine k86 _ _ ?_
       refine w_ret (bl_ret (th_ret (th_ret (bl_ret (th_ret (th_ret ?_))))))
       obtain ⟨v97, hv98, hz99⟩ := map_some r89
       subst hz99
       obtain rfl := it_inr hn59
       have hq100 := elim_inl r44
       rw [hq100] at hv98
       refine b_ret (fn := Tryd.f35) (vs := [.int .u64 0, v90]) (aRes_tmp (by kernel_rfl) (aRes_tmp (by kernel_rfl) (rfl))) ?_
       obtain rfl := Option.some.inj hv98
       exact ⟨(v90), f91, rfl, (FrS.step wf (FrS.step wf ((FrS.refl (W := []) wf).extR e9) e24 Inn.nil) e93 Inn.nil), m94, (i95.fresh (ntr e9.next e24.next))⟩
      ·have r101 := ite_bf h84 r72
       refine w_skip ?_
       refine k65 _ _ ?_
       refine w_reg (by kernel_rfl) ?_
       obtain ⟨g102, r103⟩ := G_some r101
       refine s_w ((i0 + 1)) (k := .i64) (x := (i0 + 1)) (by kernel_rfl) (wrap64 (by have := g102; omega)) ?_
       refine s_qk (.int .i64 (i0 + 1)) (by kernel_rfl) ?_
       refine s_nil ?_
       obtain rfl := Option.some.inj r103
       exact k60 n56 _ _ (Nat.lt_succ_self _) ⟨(i0 + 1), hn59, ⟨by kernel_rfl, by kernel_rfl, by kernel_rfl, by kernel_rfl, by kernel_rfl, trivial⟩, rfl⟩
    ·have r104 := ite_f h63 hz58
     refine w_exit (th_exit (th_exit (bl_eq ?_)))
     obtain rfl := Option.some.inj r104
     obtain rfl := it_inr hn59
     exact k48 _ _ ⟨_, rfl, ⟨by kernel_rfl, by kernel_rfl, trivial⟩, rfl⟩
   ·obtain ⟨o42, rfl, hh49, rfl⟩ := hM
    have r105 := elim_inr r44
    obtain ⟨β, rfl⟩ := has_ex hh49
    clear hh49
    refine k40 _ _ ?_
    refine w_seqk fun K106 k106 => ?_
    refine w_reg (by kernel_rfl) ?_
    refine s_qk (.int .u64 0) (by kernel_rfl) ?_
    refine s_nil ?_
    refine k106 _ _ ?_
    refine w_seqk fun K107 k107 => ?_
    refine w_seqk fun K108 k108 => ?_
    refine w_reg (by kernel_rfl) ?_
    refine s_qk (hd_list) (by kernel_rfl) ?_
    refine s_ql (.int .i64 (list.length : Int)) (x := aLen Tryd.prog 22 hd_list H23) (by kernel_rfl) (u35.lenb (by kernel_rfl)) ?_
    obtain ⟨g109, r110⟩ := G_some r105
    refine s_w (((list.length : Int) - 1)) (k := .i64) (x := ((list.length : Int) - 1)) (by kernel_rfl) (wrap64 g109) ?_
    refine s_qk (.int .i64 0) (by kernel_rfl) ?_
    refine s_nil ?_
    refine k108 _ _ ?_
    obtain ⟨z114, hx112, r113⟩ := bind_some r110
    refine w_mid (fun α H115 => ∃ o111, z114 = Sum.inr o111 ∧ Has α [(9, .int .u64 o111)] ∧ FrS [] H23 H115) (fun K117 k117 => ?_) (fun α H115 hM => ?_)
    ·refine w_block ?_
     obtain ⟨n119, hn120⟩ := loopO_iff.1 hx112
     refine w_loopn (fun n α H121 => ∃ (i1 : Int), ∃ (sum2 : Int), iterO (fun zz_ => z_walk_Length_l1 First To Weight list zz_.1 zz_.2) n (i1, sum2) = some z114 ∧ Has α [(1, hd_list), (2, .pointer (some ⟨b7, 0, none⟩)), (9, .int .u64 sum2), (45, .int .i64 ((list.length : Int) - 1)), (46, .int .i64 i1)] ∧ FrS [] H23 H121) n119 ⟨0, 0, hn120, ⟨by kernel_rfl, by kernel_rfl, by kernel_rfl, by kernel_rfl, by kernel_rfl, trivial⟩, (FrS.refl (W := []) e24.wf)⟩ ?_
     rintro n119 α H121 ⟨i1, sum2, hi124, hh123, e122⟩ K129 k129
     obtain ⟨n125, z126, rfl, hz127, hn128⟩ := iter_succ hi124
     obtain ⟨β, rfl⟩ := has_ex hh123
     clear hh123
     replace hz127 : z_walk_Length_l1 First To Weight list i1 sum2 = some z126 := hz127
     unfold z_walk_Length_l1 at hz127
     refine w_seqk fun K130 k130 => ?_
     refine w_reg (by kernel_rfl) ?_
     refine s_qk (.bool (decide (i1 < ((list.length : Int) - 1)))) (by kernel_rfl) ?_
     refine s_nil ?_
     refine k130 _ _ ?_
     refine w_seqk fun K131 k131 => ?_
     refine w_condp (i1 < ((list.length : Int) - 1)) (by kernel_rfl) rfl (fun h132 => ?_) (fun h132 => ?_)
     ·have r133 := ite_t h132 hz127
      refine w_skip ?_
      refine k131 _ _ ?_
      refine w_seqk fun K134 k134 => ?_
      refine w_block ?_
      refine w_seqk fun K135 k135 => ?_
      refine w_reg (by kernel_rfl) ?_
      refine s_qk (.int .i64 i1) (by kernel_rfl) ?_
      refine s_qk (.int .i64 i1) (by kernel_rfl) ?_
      refine s_nil ?_
      refine k135 _ _ ?_
      refine w_seqk fun K136 k136 => ?_
      refine w_draw [0, 1, 2, 3, 4, 5, 6, 7, 8, 9, 10, 11, 12, 13, 14, 15] (by kernel_rfl) ?_
      have u137 := ((r11.frS e24 Dj.nil_l).frS e122 Dj.nil_l)
      refine d_ql (.agg #[hd_First, hd_To, hd_Weight]) (x := aLoad Tryd.prog 40 (.pointer (some ⟨b7, 0, none⟩)) H121) (by kernel_rfl) (u137.ld (by kernel_rfl)) ?_
      refine d_qk (hd_list) (by kernel_rfl) ?_
      refine d_qk (.int .i64 i1) (by kernel_rfl) ?_
      obtain ⟨g138, r139⟩ := G_some r133
      have u140 := (u35.fr e122 Dj.nil_l)
      refine d_ql (elp hd_list 1 i1.toNat 0) (x := aIndexAddr Tryd.prog 22 hd_list (.int .i64 i1)) (by kernel_rfl) (u140.idxb (by kernel_rfl) g138.1 g138.2) ?_
      refine d_ql (.int .i64 (gt list i1)) (x := aLoad Tryd.prog 3 (elp hd_list 1 i1.toNat 0) H121) (by kernel_rfl) (u140.ld g138.1 g138.2 (by kernel_rfl)) ?_
      refine d_qk (hd_list) (by kernel_rfl) ?_
      refine d_qk (.int .i64 i1) (by kernel_rfl) ?_
      obtain ⟨g141, r142⟩ := G_some r139
      refine d_w ((i1 + 1)) (k := .i64) (x := (i1 + 1)) (by kernel_rfl) (wrap64 (by have := g141; omega)) ?_
      obtain ⟨g143, r144⟩ := G_some r142
      refine d_ql (elp hd_list 1 (i1 + 1).toNat 0) (x := aIndexAddr Tryd.prog 22 hd_list (.int .i64 (i1 + 1))) (by kernel_rfl) (u140.idxb (by kernel_rfl) g143.1 g143.2) ?_
      refine d_ql (.int .i64 (gt list (i1 + 1))) (x := aLoad Tryd.prog 3 (elp hd_list 1 (i1 + 1).toNat 0) H121) (by kernel_rfl) (u140.ld g143.1 g143.2 (by kernel_rfl)) ?_
      have u145 := ((u15.fr e24 Dj.nil_l).fr e122 Dj.nil_l)
      have u146 := ((u16.fr e24 Dj.nil_l).fr e122 Dj.nil_l)
      have u147 := ((u17.fr e24 Dj.nil_l).fr e122 Dj.nil_l)
      obtain ⟨y148, hy149, r150⟩ := bind_some r144
      refine d_ck 66 #[.agg #[hd_First, hd_To, hd_Weight], .int .i64 (gt list i1), .int .i64 (gt list (i1 + 1))] (by kernel_rfl) (c_walk_arc e122.wf u145 u146 u147 hy149) ?_
      rintro _ H153 ⟨v151, f152, rfl, e154, m155, i156⟩
      refine ⟨st_nil, ?_⟩
      refine d_qk (.tuple #[.int .i64 y148.1, v151]) (by kernel_rfl) ?_
      refine d_qk (.int .i64 y148.1) (by kernel_rfl) ?_
      refine d_qk (v151) (by kernel_rfl) ?_
      refine d_qk (.int .i64 y148.1) (by kernel_rfl) ?_
      refine d_qk (v151) (by kernel_rfl) ?_
      refine d_nil ?_
      refine k136 _ _ ?_
      refine w_seqk fun K158 k158 => ?_
      refine w_seqk fun K159 k159 => ?_
      refine w_reg (by kernel_rfl) ?_
      refine s_qk (v151) (by kernel_rfl) ?_
      rcases (m155).cases with ⟨h160, rfl⟩ | ⟨h160, t161, x162, rfl⟩
      ·have r163 := ite_t h160 r150
       refine s_qk (.bool false) (by kernel_rfl) ?_
       refine s_nil ?_
       refine k159 _ _ ?_
       refine w_cond false (by kernel_rfl) rfl (fun h => by cases h) (fun _ => ?_)
       refine w_skip ?_
       refine k158 _ _ ?_
       refine w_reg (by kernel_rfl) ?_
       refine s_qk (.int .u64 sum2) (by kernel_rfl) ?_
       refine s_qk (.int .i64 y148.1) (by kernel_rfl) ?_
       obtain ⟨g164, r165⟩ := G_some r163
       refine s_w (y148.1) (k := .u64) (x := y148.1) (by kernel_rfl) (wrapu64 g164) ?_
       obtain ⟨g166, r167⟩ := G_some r165
       refine s_w ((sum2 + y148.1)) (k := .u64) (x := (sum2 + y148.1)) (by kernel_rfl) (wrapu64 g166) ?_
       refine s_qk (.int .u64 (sum2 + y148.1)) (by kernel_rfl) ?_
       refine s_nil ?_
       refine k134 _ _ ?_
       refine w_reg (by kernel_rfl) ?_
       refine s_w ((i1 + 1)) (k := .i64) (x := (i1 + 1)) (by kernel_rfl) (wrap64 (by have := g141; omega)) ?_
       refine s_qk (.int .i64 (i1 + 1)) (by kernel_rfl) ?_
       refine s_nil ?_
       obtain rfl := Option.some.inj r167
       exact k129 n125 _ _ (Nat.lt_succ_self _) ⟨(i1 + 1), (sum2 + y148.1), hn128, ⟨by kernel_rfl, by kernel_rfl, by kernel_rfl, by kernel_rfl, by kernel_rfl, trivial⟩, (FrS.step e24.wf (FrS.step e24.wf (FrS.refl (W := []) e24.wf) e122 Inn.nil) e154 Inn.nil)⟩
      ·have r168 := ite_f h160 r150
       refine s_ql (.bool true) (x := aBin Tryd.prog .neq 25 (.tmp 63) (.const .nilIface) (.iface t161 x162) .nilIface) (by kernel_rfl) (aBin_nnil (by kernel_rfl)) ?_
       refine s_nil ?_
       refine k159 _ _ ?_
       refine w_cond true (by kernel_rfl) rfl (fun _ => ?_) (fun h => by cases h)
       refine w_seqk fun K169 k169 => ?_
       refine w_reg (by kernel_rfl) ?_
       refine s_qk (.int .i64 i1) (by kernel_rfl) ?_
       refine s_qk (.iface t161 x162) (by kernel_rfl) ?_
       obtain ⟨y170, hy171, r172⟩ := bind_some r168
       refine s_ck 65 #[.int .i64 4, .int .i64 i1, .iface t161 x162] (by kernel_rfl) (c_fault_At e154.wf m155 hy171) ?_
       rintro v173 H175 ⟨_, f174, rfl, e176, m177, i178⟩
       refine s_qk (.int .u64 0) (by kernel_rfl) ?_
       refine s_qk (v173) (by kernel_rfl) ?_
       refine s_nil ?_
       refine k169 _ _ ?_
       refine w_ret (th_ret (bl_ret (th_ret (th_ret (bl_ret (th_ret (th_ret ?_)))))))
       obtain ⟨v180, hv181, hz182⟩ := map_some r172
       subst hz182
       obtain rfl := it_inr hn128
       have hq183 := elim_inl r113
       rw [hq183] at hv181
       refine b_ret (fn := Tryd.f35) (vs := [.int .u64 0, v173]) (aRes_tmp (by kernel_rfl) (aRes_tmp (by kernel_rfl) (rfl))) ?_
       obtain rfl := Option.some.inj hv181
       exact ⟨(v173), f174, rfl, (FrS.step wf (FrS.step wf (FrS.step wf (FrS.step wf ((FrS.refl (W := []) wf).extR e9) e24 Inn.nil) e122 Inn.nil) e154 Inn.nil) e176 Inn.nil), m177, (Inn.trans (i156.fresh (ntr (ntr e9.next e24.next) e122.next)) (ntr (ntr (ntr e9.next e24.next) e122.next) e154.next) i178)⟩
     ·have r184 := ite_f h132 hz127
      refine w_exit (th_exit (th_exit (bl_eq ?_)))
      obtain rfl := Option.some.inj r184
      obtain rfl := it_inr hn128
      exact k117 _ _ ⟨_, rfl, ⟨by kernel_rfl, trivial⟩, (FrS.step e24.wf (FrS.refl (W := []) e24.wf) e122 Inn.nil)⟩
    ·obtain ⟨o111, rfl, hh118, e116⟩ := hM
     have r185 := elim_inr r113
     obtain ⟨β, rfl⟩ := has_ex hh118
     clear hh118
     refine k107 _ _ ?_
     refine w_seqk fun K186 k186 => ?_
     refine w_reg (by kernel_rfl) ?_
     refine s_qk (.int .u64 o111) (by kernel_rfl) ?_
     refine s_qk (.int .u64 o111) (by kernel_rfl) ?_
     refine s_qk (.nilIface) (by kernel_rfl) ?_
     refine s_nil ?_
     refine k186 _ _ ?_
     refine w_ret ?_
     refine b_ret (fn := Tryd.f35) (vs := [.int .u64 o111, .nilIface]) (aRes_tmp (by kernel_rfl) (aRes_tmp (by kernel_rfl) (rfl))) ?_
     obtain rfl := Option.some.inj r185
     exact ⟨(.nilIface), [], rfl, (FrS.step wf (FrS.step wf ((FrS.refl (W := []) wf).extR e9) e24 Inn.nil) e116 Inn.nil), Ev.nil, Inn.nil⟩
 ·have r187 := ite_f h29 r20
  refine s_ql (.bool true) (x := aBin Tryd.prog .neq 25 (.tmp 15) (.const .nilIface) (.iface t30 x31) .nilIface) (by kernel_rfl) (aBin_nnil (by kernel_rfl)) ?_
  refine s_nil ?_
  refine k28 _ _ ?_
  refine w_cond true (by kernel_rfl) rfl (fun _ => ?_) (fun h => by cases h)
  refine w_seqk fun K188 k188 => ?_
  refine w_reg (by kernel_rfl) ?_
  refine s_qk (.iface t30 x31) (by kernel_rfl) ?_
  refine s_qk (.int .u64 0) (by kernel_rfl) ?_
  refine s_qk (.iface t30 x31) (by kernel_rfl) ?_
  refine s_nil ?_
  refine k188 _ _ ?_
  refine w_ret (th_ret ?_)
  refine b_ret (fn := Tryd.f35) (vs := [.int .u64 0, .iface t30 x31]) (aRes_tmp (by kernel_rfl) (aRes_tmp (by kernel_rfl) (rfl))) ?_
  obtain rfl := Option.some.inj r187
  exact ⟨(.iface t30 x31), f22, rfl, (FrS.step wf ((FrS.refl (W := []) wf).extR e9) e24 Inn.nil), m25, (i26.fresh e9.next)⟩

theorem c_viaductref05_Node {H : AH} {hd_First : Value} {fp_First : Fp} {hd_To : Value} {fp_To : Fp} {hd_Weight : Value} {fp_Weight : Fp} {First : List (Int)} {To : List (Int)} {Weight : List (Int)} {v_ : Int} {r : Bool}
  (wf : WF H) (h_First : Sq (encI .i64) 1 H hd_First First fp_First) (h_To : Sq (encI .i64) 1 H hd_To To fp_To) (h_Weight : Sq (encI .i64) 1 H hd_Weight Weight fp_Weight) (hr : z_viaductref05_Node First To Weight v_ = some r) :
  ACalls Tryd.prog 55 #[.agg #[hd_First, hd_To, hd_Weight], .int .i64 v_] H fun v H' => v = .bool r ∧ FrS [] H H' := by
 refine acalls_of_body mixed Tryd.func55 rfl (Nat.le_of_ble_eq_true rfl) ?_
 unfold z_viaductref05_Node at hr
 refine w_seqk fun K1 k1 => ?_
 refine w_reg (by kernel_rfl) ?_
 refine s_rwl wf [hd_First, hd_To, hd_Weight] (one_cons (h_First.one1) (one_cons (h_To.one1) (one_cons (h_Weight.one1) (one_nil)))) (by kernel_rfl) fun b2 H3 e4 hb5 r6 => ?_
 refine s_qk (.bool false) (by kernel_rfl) ?_
 refine s_nil ?_
 refine k1 _ _ ?_
 refine w_seqk fun K8 k8 => ?_
 refine w_reg (by kernel_rfl) ?_
 refine s_qk (.int .i64 v_) (by kernel_rfl) ?_
 refine s_b (v_ ≥ 0) (by kernel_rfl) (fun h9 => ?_) (fun h9 => ?_)
 ·have r10 := ite_t h9 hr
  refine s_qk (.bool true) (by kernel_rfl) ?_
  refine s_qk (.int .i64 v_) (by kernel_rfl) ?_
  refine s_qk (.pointer (some ⟨b2, 0, none⟩)) (by kernel_rfl) ?_
  refine s_ql (hd_First) (x := aLoad Tryd.prog 22 (.pointer (some ⟨b2, 0, none⟩)) H3) (by kernel_rfl) (r6.ld (by kernel_rfl)) ?_
  have u11 := (h_First.ext e4)
  refine s_ql (.int .i64 (First.length : Int)) (x := aLen Tryd.prog 22 hd_First H3) (by kernel_rfl) (u11.lenb (by kernel_rfl)) ?_
  obtain ⟨g12, r13⟩ := G_some r10
  refine s_w (((First.length : Int) - 1)) (k := .i64) (x := ((First.length : Int) - 1)) (by kernel_rfl) (wrap64 g12) ?_
  refine s_qk (.bool (decide (v_ < ((First.length : Int) - 1)))) (by kernel_rfl) ?_
  refine s_qk (.bool (decide (v_ < ((First.length : Int) - 1)))) (by kernel_rfl) ?_
  refine s_qk (.bool (decide (v_ < ((First.length : Int) - 1)))) (by kernel_rfl) ?_
  refine s_nil ?_
  refine k8 _ _ ?_
  refine w_ret ?_
  refine b_ret (fn := Tryd.f55) (vs := [.bool (decide (v_ < ((First.length : Int) - 1)))]) (aRes_tmp (by kernel_rfl) (rfl)) ?_
  obtain rfl := Option.some.inj r13
  exact ⟨rfl, ((FrS.refl (W := []) wf).extR e4)⟩
 ·have r14 := ite_f h9 hr
  refine s_qk (.bool false) (by kernel_rfl) ?_
  refine s_no (by kernel_rfl) ?_
  refine s_no (by kernel_rfl) ?_
  refine s_no (by kernel_rfl) ?_
  refine s_no (by kernel_rfl) ?_
  refine s_no (by kernel_rfl) ?_
  refine s_no (by kernel_rfl) ?_
  refine s_qk (.bool false) (by kernel_rfl) ?_
  refine s_qk (.bool false) (by kernel_rfl) ?_
  refine s_nil ?_
  refine k8 _ _ ?_
  refine w_ret ?_
  refine b_ret (fn := Tryd.f55) (vs := [.bool false]) (aRes_tmp (by kernel_rfl) (rfl)) ?_
  obtain rfl := Option.some.inj r14
  exact ⟨rfl, ((FrS.refl (W := []) wf).extR e4)⟩


end Go.Vd

/-! (KWn2) -/

set_option maxRecDepth 100000
set_option maxHeartbeats 4000000
set_option linter.unusedVariables false
namespace Go.Vd
open Go.Proofs
attribute [local irreducible] wpSeq wpOrd aWp
theorem c_viaductref09_DocLength {H : AH} {hd_First : Value} {fp_First : Fp} {hd_To : Value} {fp_To : Fp} {hd_Weight : Value} {fp_Weight : Fp} {hd_l : Value} {fp_l : Fp} {First : List (Int)} {To : List (Int)} {Weight : List (Int)} {l : List (Int)} {r : Int × Int × List (Int × Int)}
  (wf : WF H) (h_First : Sq (encI .i64) 1 H hd_First First fp_First) (h_To : Sq (encI .i64) 1 H hd_To To fp_To) (h_Weight : Sq (encI .i64) 1 H hd_Weight Weight fp_Weight) (h_l : Sq (encI .i64) 1 H hd_l l fp_l) (hr : z_viaductref09_DocLength First To Weight l = some r) :
  ACalls Tryd.prog 37 #[.agg #[hd_First, hd_To, hd_Weight], hd_l] H fun v H' => ∃ (s3 : Value) (f4 : Fp), v = .tuple #[.int .u64 r.1, .agg #[.int .i64 r.2.1, s3]] ∧ FrS [] H H' ∧ Ow enc_i64_i64 2 H' s3 r.2.2 f4 ∧ Inn [] H f4 := by
 refine acalls_of_body mixed Tryd.func37 rfl (Nat.le_of_ble_eq_true rfl) ?_
 unfold z_viaductref09_DocLength at hr
 refine w_seqk fun K6 k6 => ?_
 refine w_reg (by kernel_rfl) ?_
 refine s_rwl wf [hd_First, hd_To, hd_Weight] (one_cons (h_First.one1) (one_cons (h_To.one1) (one_cons (h_Weight.one1) (one_nil)))) (by kernel_rfl) fun b7 H8 e9 hb10 r11 => ?_
 refine s_qk (.int .u64 0) (by kernel_rfl) ?_
 refine s_rwk e9.wf [.int .i64 0, .slice none 0 0] (by kernel_rfl) fun b13 H14 e15 hb16 r17 => ?_
 refine s_nil ?_
 refine k6 _ _ ?_
 refine w_seqk fun K19 k19 => ?_
 refine w_seqk fun K20 k20 => ?_
 refine w_reg (by kernel_rfl) ?_
 have u21 := (r11.ext e15)
 refine s_ql (.agg #[hd_First, hd_To, hd_Weight]) (x := aLoad Tryd.prog 37 (.pointer (some ⟨b7, 0, none⟩)) H14) (by kernel_rfl) (u21.ld (by kernel_rfl)) ?_
 have u22 := ((h_First.ext e9).ext e15)
 have u23 := ((h_To.ext e9).ext e15)
 have u24 := ((h_Weight.ext e9).ext e15)
 obtain ⟨y25, hy26, r27⟩ := bind_some hr
 refine s_ck 48 #[.agg #[hd_First, hd_To, hd_Weight]] (by kernel_rfl) (c_viaductref05_DocCheck e15.wf u22 u23 u24 hy26) ?_
 rintro _ H30 ⟨s28, f29, rfl, e31, m32, i33⟩
 obtain ⟨a35, n36, c37, rfl⟩ := m32.form
 refine s_rwk e31.wf [.int .i64 0, .slice none 0 0] (by kernel_rfl) fun b38 H39 e40 hb41 r42 => ?_
 have u48 := (m32.ext e40)
 obtain ⟨H44, q45, e46, r47⟩ := Row.store (P := Tryd.prog) (t := 31) (p := 0) e40.wf r42 (.agg #[.int .i64 y25.1, .slice a35 n36 c37]) [.int .i64 y25.1, .slice a35 n36 c37] (by kernel_rfl) (by kernel_rfl) (one_cons (rfl) (one_cons (u48.one1) (one_nil))) (Nat.le_of_ble_eq_true (by kernel_rfl)) [.int .i64 y25.1, .slice a35 n36 c37] (by kernel_rfl)
 refine s_ek (undef) (by kernel_rfl) (map_ok q45) ?_
 refine s_nil ?_
 refine k20 _ _ ?_
 refine w_seqk fun K49 k49 => ?_
 refine w_reg (by kernel_rfl) ?_
 refine s_ql (.agg #[.int .i64 y25.1, .slice a35 n36 c37]) (x := aLoad Tryd.prog 31 (.pointer (some ⟨b38, 0, none⟩)) H44) (by kernel_rfl) (r47.ld (by kernel_rfl)) ?_
 have u50 := (u48.fr e46 (hb41.djn m32.lt))
 obtain ⟨y51, hy52, r53⟩ := bind_some r27
 refine s_ck 24 #[.agg #[.int .i64 y25.1, .slice a35 n36 c37]] (by kernel_rfl) (c_viaductref01_Err_Bad e46.wf u50.sq hy52) ?_
 rintro _ H54 ⟨rfl, e55⟩
 refine s_nil ?_
 refine k49 _ _ ?_
 refine w_cond (y51) (by kernel_rfl) rfl (fun h56 => ?_) (fun h56 => ?_)
 ·have r57 := ite_t h56 r53
  refine w_seqk fun K58 k58 => ?_
  refine w_draw [0, 1, 2] (by kernel_rfl) ?_
  have u59 := (r47.frS e55 Dj.nil_l)
  refine d_ql (.agg #[.int .i64 y25.1, .slice a35 n36 c37]) (x := aLoad Tryd.prog 31 (.pointer (some ⟨b38, 0, none⟩)) H54) (by kernel_rfl) (u59.ld (by kernel_rfl)) ?_
  refine d_qk (.int .u64 0) (by kernel_rfl) ?_
  have u64 := ((((r17.frS e31 Dj.nil_l).ext e40).frS e46 (hb41.djn (r17.ltF.le e31.next))).frS e55 Dj.nil_l)
  have u65 := (u50.fr e55 Dj.nil_l)
  obtain ⟨H60, q61, e62, r63⟩ := Row.store (P := Tryd.prog) (t := 31) (p := 0) e55.wf u64 (.agg #[.int .i64 y25.1, .slice a35 n36 c37]) [.int .i64 y25.1, .slice a35 n36 c37] (by kernel_rfl) (by kernel_rfl) (one_cons (rfl) (one_cons (u65.one1) (one_nil))) (Nat.le_of_ble_eq_true (by kernel_rfl)) [.int .i64 y25.1, .slice a35 n36 c37] (by kernel_rfl)
  refine d_ek (undef) (by kernel_rfl) (map_ok q61) (st_nil) ?_
  refine d_nil ?_
  refine k58 _ _ ?_
  refine w_ret (th_ret ?_)
  refine b_ret (fn := Tryd.f37) (vs := [.int .u64 0, .agg #[.int .i64 y25.1, .slice a35 n36 c37]]) (aRes_tmp (by kernel_rfl) (aRes_cell (Eq.trans (b := aLoad Tryd.prog 31 (.pointer (some ⟨b13, 0, none⟩)) H60) (by kernel_rfl) (r63.ld (by kernel_rfl))) (rfl))) ?_
  have u66 := (u65.fr e62 (Dj.symm (i33.djn r17.ltF)))
  obtain rfl := Option.some.inj r57
  exact ⟨(.slice a35 n36 c37), f29, rfl, (FrS.step wf (FrS.step wf (FrS.step wf ((FrS.step wf (((FrS.refl (W := []) wf).extR e9).extR e15) e31 Inn.nil).extR e40) e46 (hb41.fresh (ntr (ntr e9.next e15.next) e31.next))) e55 Inn.nil) e62 (hb16.fresh e9.next)), u66, (i33.fresh (ntr e9.next e15.next))⟩
 ·have r67 := ite_bf h56 r53
  refine w_skip ?_
  refine k19 _ _ ?_
  refine w_seqk fun K68 k68 => ?_
  refine w_seqk fun K69 k69 => ?_
  refine w_reg (by kernel_rfl) ?_
  refine s_qk (hd_l) (by kernel_rfl) ?_
  have u70 := ((((((h_l.ext e9).ext e15).fr e31 Dj.nil_l).ext e40).fr e46 (hb41.djn (h_l.lt.le (ntr (ntr e9.next e15.next) e31.next)))).fr e55 Dj.nil_l)
  refine s_ql (.int .i64 (l.length : Int)) (x := aLen Tryd.prog 22 hd_l H54) (by kernel_rfl) (u70.lenb (by kernel_rfl)) ?_
  refine s_qk (.bool (decide ((l.length : Int) = 0))) (by kernel_rfl) ?_
  refine s_nil ?_
  refine k69 _ _ ?_
  refine w_condp ((l.length : Int) = 0) (by kernel_rfl) rfl (fun h71 => ?_) (fun h71 => ?_)
  ·have r72 := ite_t h71 r67
   refine w_seqk fun K73 k73 => ?_
   refine w_reg (by kernel_rfl) ?_
   obtain ⟨y74, hy75, r76⟩ := bind_some r72
   refine s_ck 41 #[.int .i64 5] (by kernel_rfl) (c_viaductref01_E e55.wf hy75) ?_
   rintro _ H77 ⟨rfl, e78⟩
   refine s_qk (.int .u64 0) (by kernel_rfl) ?_
   have u83 := (((((r17.frS e31 Dj.nil_l).ext e40).frS e46 (hb41.djn (r17.ltF.le e31.next))).frS e55 Dj.nil_l).frS e78 Dj.nil_l)
   obtain ⟨H79, q80, e81, r82⟩ := Row.store (P := Tryd.prog) (t := 31) (p := 0) e78.wf u83 (.agg #[.int .i64 y74, .slice none 0 0]) [.int .i64 y74, .slice none 0 0] (by kernel_rfl) (by kernel_rfl) (one_cons (rfl) (one_cons (rfl) (one_nil))) (Nat.le_of_ble_eq_true (by kernel_rfl)) [.int .i64 y74, .slice none 0 0] (by kernel_rfl)
   refine s_ek (undef) (by kernel_rfl) (map_ok q80) ?_
   refine s_nil ?_
   refine k73 _ _ ?_
   refine w_ret (th_ret ?_)
   refine b_ret (fn := Tryd.f37) (vs := [.int .u64 0, .agg #[.int .i64 y74, .slice none 0 0]]) (aRes_tmp (by kernel_rfl) (aRes_cell (Eq.trans (b := aLoad Tryd.prog 31 (.pointer (some ⟨b13, 0, none⟩)) H79) (by kernel_rfl) (r82.ld (by kernel_rfl))) (rfl))) ?_
   obtain rfl := Option.some.inj r76
   exact ⟨(.slice none 0 0), [], rfl, (FrS.step wf (FrS.step wf (FrS.step wf (FrS.step wf ((FrS.step wf (((FrS.refl (W := []) wf).extR e9).extR e15) e31 Inn.nil).extR e40) e46 (hb41.fresh (ntr (ntr e9.next e15.next) e31.next))) e55 Inn.nil) e78 Inn.nil) e81 (hb16.fresh e9.next)), (Ow.nil (by decide)), Inn.nil⟩
  ·have r84 := ite_f h71 r67
   refine w_skip ?_
   refine k68 _ _ ?_
   refine w_seqk fun K85 k85 => ?_
   refine w_seqk fun K86 k86 => ?_
   refine w_reg (by kernel_rfl) ?_
   refine s_qk (hd_l) (by kernel_rfl) ?_
   refine s_ql (.int .i64 (l.length : Int)) (x := aLen Tryd.prog 22 hd_l H54) (by kernel_rfl) (u70.lenb (by kernel_rfl)) ?_
   refine s_qk (.int .i64 0) (by kernel_rfl) ?_
   refine s_nil ?_
   refine k86 _ _ ?_
   obtain ⟨z90, hx88, r89⟩ := bind_some r84
   refine w_mid (fun α H91 => ∃ o87, z90 = Sum.inr o87 ∧ Has α [(1, hd_l), (2, .pointer (some ⟨b7, 0, none⟩)), (5, .pointer (some ⟨b13, 0, none⟩))] ∧ FrS [] H54 H91) (fun K93 k93 => ?_) (fun α H91 hM => ?_)
   ·refine w_block ?_
    obtain ⟨n95, hn96⟩ := loopO_iff.1 hx88
    refine w_loopn (fun n α H97 => ∃ (i0 : Int), iterO (fun zz_ => z_viaductref09_DocLength_l0 First To Weight l zz_) n i0 = some z90 ∧ Has α [(1, hd_l), (2, .pointer (some ⟨b7, 0, none⟩)), (5, .pointer (some ⟨b13, 0, none⟩)), (22, hd_l), (23, .int .i64 (l.length : Int)), (24, .int .i64 i0)] ∧ FrS [] H54 H97) n95 ⟨0, hn96, ⟨by kernel_rfl, by kernel_rfl, by kernel_rfl, by kernel_rfl, by kernel_rfl, by kernel_rfl, trivial⟩, (FrS.refl (W := []) e55.wf)⟩ ?_
    rintro n95 α H97 ⟨i0, hi100, hh99, e98⟩ K105 k105
    obtain ⟨n101, z102, rfl, hz103, hn104⟩ := iter_succ hi100
    obtain ⟨β, rfl⟩ := has_ex hh99
    clear hh99
    replace hz103 : z_viaductref09_DocLength_l0 First To Weight l i0 = some z102 := hz103
    unfold z_viaductref09_DocLength_l0 at hz103
    refine w_seqk fun K106 k106 => ?_
    refine w_reg (by kernel_rfl) ?_
    refine s_qk (.bool (decide (i0 < (l.length : Int)))) (by kernel_rfl) ?_
    refine s_nil ?_
    refine k106 _ _ ?_
    refine w_seqk fun K107 k107 => ?_
    refine w_condp (i0 < (l.length : Int)) (by kernel_rfl) rfl (fun h108 => ?_) (fun h108 => ?_)
    ·have r109 := ite_t h108 hz103
     refine w_skip ?_
     refine k107 _ _ ?_
     refine w_seqk fun K110 k110 => ?_
     refine w_block ?_
     refine w_seqk fun K111 k111 => ?_
     refine w_reg (by kernel_rfl) ?_
     refine s_qk (.int .i64 i0) (by kernel_rfl) ?_
     obtain ⟨g112, r113⟩ := G_some r109
     have u114 := (u70.fr e98 Dj.nil_l)
     refine s_ql (elp hd_l 1 i0.toNat 0) (x := aIndexAddr Tryd.prog 22 hd_l (.int .i64 i0)) (by kernel_rfl) (u114.idxb (by kernel_rfl) g112 h108) ?_
     refine s_ql (.int .i64 (gt l i0)) (x := aLoad Tryd.prog 3 (elp hd_l 1 i0.toNat 0) H97) (by kernel_rfl) (u114.ld g112 h108 (by kernel_rfl)) ?_
     refine s_qk (.int .i64 i0) (by kernel_rfl) ?_
     refine s_qk (.int .i64 (gt l i0)) (by kernel_rfl) ?_
     refine s_nil ?_
     refine k111 _ _ ?_
     refine w_seqk fun K115 k115 => ?_
     refine w_reg (by kernel_rfl) ?_
     have u116 := (((((u21.frS e31 Dj.nil_l).ext e40).frS e46 (hb41.djn (r11.ltF.le (ntr e15.next e31.next)))).frS e55 Dj.nil_l).frS e98 Dj.nil_l)
     refine s_ql (.agg #[hd_First, hd_To, hd_Weight]) (x := aLoad Tryd.prog 37 (.pointer (some ⟨b7, 0, none⟩)) H97) (by kernel_rfl) (u116.ld (by kernel_rfl)) ?_
     refine s_qk (.int .i64 (gt l i0)) (by kernel_rfl) ?_
     have u117 := (((((u22.fr e31 Dj.nil_l).ext e40).fr e46 (hb41.djn (h_First.lt.le (ntr (ntr e9.next e15.next) e31.next)))).fr e55 Dj.nil_l).fr e98 Dj.nil_l)
     have u118 := (((((u23.fr e31 Dj.nil_l).ext e40).fr e46 (hb41.djn (h_To.lt.le (ntr (ntr e9.next e15.next) e31.next)))).fr e55 Dj.nil_l).fr e98 Dj.nil_l)
     have u119 := (((((u24.fr e31 Dj.nil_l).ext e40).fr e46 (hb41.djn (h_Weight.lt.le (ntr (ntr e9.next e15.next) e31.next)))).fr e55 Dj.nil_l).fr e98 Dj.nil_l)
     obtain ⟨y120, hy121, r122⟩ := bind_some r113
     refine s_ck 55 #[.agg #[hd_First, hd_To, hd_Weight], .int .i64 (gt l i0)] (by kernel_rfl) (c_viaductref05_Node e98.wf u117 u118 u119 hy121) ?_
     rintro _ H123 ⟨rfl, e124⟩
     refine s_qk (.bool (!y120)) (by kernel_rfl) ?_
     refine s_nil ?_
     refine k115 _ _ ?_
     refine w_cond ((!y120)) (by kernel_rfl) rfl (fun h125 => ?_) (fun h125 => ?_)
     ·have r126 := ite_t h125 r122
      refine w_seqk fun K127 k127 => ?_
      refine w_reg (by kernel_rfl) ?_
      refine s_qk (.int .i64 i0) (by kernel_rfl) ?_
      obtain ⟨y128, hy129, r130⟩ := bind_some r126
      refine s_ck 41 #[.int .i64 7] (by kernel_rfl) (c_viaductref01_E e124.wf hy129) ?_
      rintro _ H131 ⟨rfl, e132⟩
      obtain ⟨y133, hy134, r135⟩ := bind_some r130
      refine s_ck 42 #[.int .i64 3, .int .i64 i0, .agg #[.int .i64 y128, .slice none 0 0]] (by kernel_rfl) (c_viaductref01_At e132.wf (Sq.nil (enc := enc_i64_i64) (sz := 2) (by decide)) hy134) ?_
      rintro _ H138 ⟨s136, f137, rfl, e139, m140, i141⟩
      obtain ⟨a143, n144, c145, rfl⟩ := m140.form
      refine s_qk (.int .u64 0) (by kernel_rfl) ?_
      have u150 := ((((((((r17.frS e31 Dj.nil_l).ext e40).frS e46 (hb41.djn (r17.ltF.le e31.next))).frS e55 Dj.nil_l).frS e98 Dj.nil_l).frS e124 Dj.nil_l).frS e132 Dj.nil_l).frS e139 Dj.nil_l)
      obtain ⟨H146, q147, e148, r149⟩ := Row.store (P := Tryd.prog) (t := 31) (p := 0) e139.wf u150 (.agg #[.int .i64 y133.1, .slice a143 n144 c145]) [.int .i64 y133.1, .slice a143 n144 c145] (by kernel_rfl) (by kernel_rfl) (one_cons (rfl) (one_cons (m140.one1) (one_nil))) (Nat.le_of_ble_eq_true (by kernel_rfl)) [.int .i64 y133.1, .slice a143 n144 c145] (by kernel_rfl)
      refine s_ek (undef) (by kernel_rfl) (map_ok q147) ?_
      refine s_nil ?_
      refine k127 _ _ ?_
      refine w_ret (bl_ret (th_ret (th_ret (bl_ret (th_ret (th_ret ?_))))))
      obtain ⟨v151, hv152, hz153⟩ := map_some r135
      subst hz153
      obtain rfl := it_inr hn104
      have hq154 := elim_inl r89
      rw [hq154] at hv152
      refine b_ret (fn := Tryd.f37) (vs := [.int .u64 0, .agg #[.int .i64 y133.1, .slice a143 n144 c145]]) (aRes_tmp (by kernel_rfl) (aRes_cell (Eq.trans (b := aLoad Tryd.prog 31 (.pointer (some ⟨b13, 0, none⟩)) H146) (by kernel_rfl) (r149.ld (by kernel_rfl))) (rfl))) ?_
      have u155 := (m140.fr e148 (Dj.symm (i141.djn (r17.ltF.le (ntr (ntr (ntr (ntr (ntr (ntr e31.next e40.next) e46.next) e55.next) e98.next) e124.next) e132.next)))))
      obtain rfl := Option.some.inj hv152
      exact ⟨(.slice a143 n144 c145), f137, rfl, (FrS.step wf (FrS.step wf (FrS.step wf (FrS.step wf (FrS.step wf (FrS.step wf (FrS.step wf ((FrS.step wf (((FrS.refl (W := []) wf).extR e9).extR e15) e31 Inn.nil).extR e40) e46 (hb41.fresh (ntr (ntr e9.next e15.next) e31.next))) e55 Inn.nil) e98 Inn.nil) e124 Inn.nil) e132 Inn.nil) e139 Inn.nil) e148 (hb16.fresh e9.next)), u155, (i141.fresh (ntr (ntr (ntr (ntr (ntr (ntr (ntr (ntr e9.next e15.next) e31.next) e40.next) e46.next) e55.next) e98.next) e124.next) e132.next))⟩
     ·have r156 := ite_bf h125 r122
      refine w_skip ?_
      refine k110 _ _ ?_
      refine w_reg (by kernel_rfl) ?_
      obtain ⟨g157, r158⟩ := G_some r156
      refine s_w ((i0 + 1)) (k := .i64) (x := (i0 + 1)) (by kernel_rfl) (wrap64 (by have := g157; omega)) ?_
      refine s_qk (.int .i64 (i0 + 1)) (by kernel_rfl) ?_
      refine s_nil ?_
      obtain rfl := Option.some.inj r158
      exact k105 n101 _ _ (Nat.lt_succ_self _) ⟨(i0 + 1), hn104, ⟨by kernel_rfl, by kernel_rfl, by kernel_rfl, by kernel_rfl, by kernel_rfl, by kernel_rfl, trivial⟩, (FrS.step e55.wf (FrS.step e55.wf (FrS.refl (W := []) e55.wf) e98 Inn.nil) e124 Inn.nil)⟩
    ·have r159 := ite_f h108 hz103
     refine w_exit (th_exit (th_exit (bl_eq ?_)))
     obtain rfl := Option.some.inj r159
     obtain rfl := it_inr hn104
     exact k93 _ _ ⟨_, rfl, ⟨by kernel_rfl, by kernel_rfl, by kernel_rfl, trivial⟩, (FrS.step e55.wf (FrS.refl (W := []) e55.wf) e98 Inn.nil)⟩
   ·obtain ⟨o87, rfl, hh94, e92⟩ := hM
    have r160 := elim_inr r89
    obtain ⟨β, rfl⟩ := has_ex hh94
    clear hh94
    refine k85 _ _ ?_
    refine w_seqk fun K161 k161 => ?_
    refine w_reg (by kernel_rfl) ?_
    refine s_qk (.int .u64 0) (by kernel_rfl) ?_
    refine s_nil ?_
    refine k161 _ _ ?_
    refine w_seqk fun K162 k162 => ?_
    refine w_seqk fun K163 k163 => ?_
    refine w_reg (by kernel_rfl) ?_
    refine s_qk (.int .i64 1) (by kernel_rfl) ?_
    refine s_nil ?_
    refine k163 _ _ ?_
    obtain ⟨z167, hx165, r166⟩ := bind_some r160
    refine w_mid (fun α H168 => ∃ o164, z167 = Sum.inr o164 ∧ Has α [(5, .pointer (some ⟨b13, 0, none⟩)), (9, .int .u64 o164)] ∧ H91 = H168) (fun K170 k170 => ?_) (fun α H168 hM => ?_)
    ·refine w_block ?_
     obtain ⟨n172, hn173⟩ := loopO_iff.1 hx165
     refine w_loopn (fun n α H174 => ∃ (i4 : Int), ∃ (sum5 : Int), iterO (fun zz_ => z_viaductref09_DocLength_l2 First To Weight l zz_.1 zz_.2) n (i4, sum5) = some z167 ∧ Has α [(1, hd_l), (2, .pointer (some ⟨b7, 0, none⟩)), (5, .pointer (some ⟨b13, 0, none⟩)), (9, .int .u64 sum5), (10, .int .i64 i4)] ∧ H91 = H174) n172 ⟨1, 0, hn173, ⟨by kernel_rfl, by kernel_rfl, by kernel_rfl, by kernel_rfl, by kernel_rfl, trivial⟩, rfl⟩ ?_
     rintro n172 α H174 ⟨i4, sum5, hi177, hh176, rfl⟩ K182 k182
     obtain ⟨n178, z179, rfl, hz180, hn181⟩ := iter_succ hi177
     obtain ⟨β, rfl⟩ := has_ex hh176
     clear hh176
     replace hz180 : z_viaductref09_DocLength_l2 First To Weight l i4 sum5 = some z179 := hz180
     unfold z_viaductref09_DocLength_l2 at hz180
     refine w_seqk fun K183 k183 => ?_
     refine w_seqk fun K184 k184 => ?_
     refine w_reg (by kernel_rfl) ?_
     refine s_qk (.int .i64 i4) (by kernel_rfl) ?_
     refine s_qk (hd_l) (by kernel_rfl) ?_
     have u185 := (u70.fr e92 Dj.nil_l)
     refine s_ql (.int .i64 (l.length : Int)) (x := aLen Tryd.prog 22 hd_l H91) (by kernel_rfl) (u185.lenb (by kernel_rfl)) ?_
     refine s_qk (.bool (decide (i4 < (l.length : Int)))) (by kernel_rfl) ?_
     refine s_nil ?_
     refine k184 _ _ ?_
     refine w_condp (i4 < (l.length : Int)) (by kernel_rfl) rfl (fun h186 => ?_) (fun h186 => ?_)
     ·have r187 := ite_t h186 hz180
      refine w_skip ?_
      refine k183 _ _ ?_
      refine w_seqk fun K188 k188 => ?_
      refine w_block ?_
      refine w_seqk fun K189 k189 => ?_
      refine w_reg (by kernel_rfl) ?_
      refine s_qk (.bool false) (by kernel_rfl) ?_
      refine s_nil ?_
      refine k189 _ _ ?_
      refine w_seqk fun K190 k190 => ?_
      refine w_seqk fun K191 k191 => ?_
      refine w_draw [0, 1, 2, 3, 4, 5, 6, 7, 8, 9] (by kernel_rfl) ?_
      refine d_qk (.pointer (some ⟨b7, 0, none⟩)) (by kernel_rfl) ?_
      have u192 := (((((u21.frS e31 Dj.nil_l).ext e40).frS e46 (hb41.djn (r11.ltF.le (ntr e15.next e31.next)))).frS e55 Dj.nil_l).frS e92 Dj.nil_l)
      refine d_ql (hd_First) (x := aLoad Tryd.prog 22 (.pointer (some ⟨b7, 0, none⟩)) H91) (by kernel_rfl) (u192.ld (by kernel_rfl)) ?_
      refine d_qk (hd_l) (by kernel_rfl) ?_
      refine d_qk (.int .i64 i4) (by kernel_rfl) ?_
      obtain ⟨g193, r194⟩ := G_some r187
      refine d_w ((i4 - 1)) (k := .i64) (x := (i4 - 1)) (by kernel_rfl) (wrap64 g193) ?_
      obtain ⟨g195, r196⟩ := G_some r194
      refine d_ql (elp hd_l 1 (i4 - 1).toNat 0) (x := aIndexAddr Tryd.prog 22 hd_l (.int .i64 (i4 - 1))) (by kernel_rfl) (u185.idxb (by kernel_rfl) g195.1 g195.2) ?_
      refine d_ql (.int .i64 (gt l (i4 - 1))) (x := aLoad Tryd.prog 3 (elp hd_l 1 (i4 - 1).toNat 0) H91) (by kernel_rfl) (u185.ld g195.1 g195.2 (by kernel_rfl)) ?_
      obtain ⟨g197, r198⟩ := G_some r196
      have u199 := (((((u22.fr e31 Dj.nil_l).ext e40).fr e46 (hb41.djn (h_First.lt.le (ntr (ntr e9.next e15.next) e31.next)))).fr e55 Dj.nil_l).fr e92 Dj.nil_l)
      refine d_ql (elp hd_First 1 (gt l (i4 - 1)).toNat 0) (x := aIndexAddr Tryd.prog 22 hd_First (.int .i64 (gt l (i4 - 1)))) (by kernel_rfl) (u199.idxb (by kernel_rfl) g197.1 g197.2) ?_
      refine d_ql (.int .i64 (gt First (gt l (i4 - 1)))) (x := aLoad Tryd.prog 3 (elp hd_First 1 (gt l (i4 - 1)).toNat 0) H91) (by kernel_rfl) (u199.ld g197.1 g197.2 (by kernel_rfl)) ?_
      refine d_qk (.int .i64 (gt First (gt l (i4 - 1)))) (by kernel_rfl) ?_
      refine d_nil ?_
      refine k191 _ _ ?_
      obtain ⟨o200, hx201, r202⟩ := bind_some r198
      refine w_mid (fun α H203 => Has α [(1, hd_l), (2, .pointer (some ⟨b7, 0, none⟩)), (5, .pointer (some ⟨b13, 0, none⟩)), (9, .int .u64 o200.2), (10, .int .i64 i4), (11, .bool o200.1)] ∧ H91 = H203) (fun K205 k205 => ?_) (fun α H203 hM => ?_)
      ·refine w_block ?_
       obtain ⟨n207, hn208⟩ := loopO_iff.1 hx201
       refine w_loopn (fun n α H209 => ∃ (found1 : Bool), ∃ (j2 : Int), ∃ (sum3 : Int), iterO (fun zz_ => z_viaductref09_DocLength_l1 First To Weight l i4 zz_.1 zz_.2.1 zz_.2.2) n (found1, j2, sum3) = some o200 ∧ Has α [(1, hd_l), (2, .pointer (some ⟨b7, 0, none⟩)), (5, .pointer (some ⟨b13, 0, none⟩)), (9, .int .u64 sum3), (10, .int .i64 i4), (11, .bool found1), (12, .int .i64 j2)] ∧ H91 = H209) n207 ⟨false, (gt First (gt l (i4 - 1))), sum5, hn208, ⟨by kernel_rfl, by kernel_rfl, by kernel_rfl, by kernel_rfl, by kernel_rfl, by kernel_rfl, by kernel_rfl, trivial⟩, rfl⟩ ?_
       rintro n207 α H209 ⟨found1, j2, sum3, hi212, hh211, rfl⟩ K217 k217
       obtain ⟨n213, z214, rfl, hz215, hn216⟩ := iter_succ hi212
       obtain ⟨β, rfl⟩ := has_ex hh211
       clear hh211
       replace hz215 : z_viaductref09_DocLength_l1 First To Weight l i4 found1 j2 sum3 = some z214 := hz215
       unfold z_viaductref09_DocLength_l1 at hz215
       refine w_seqk fun K218 k218 => ?_
       refine w_seqk fun K219 k219 => ?_
       refine w_draw [0, 1, 2, 3, 4, 5, 6, 7, 8, 9, 10, 11] (by kernel_rfl) ?_
       refine d_qk (.int .i64 j2) (by kernel_rfl) ?_
       refine d_qk (.pointer (some ⟨b7, 0, none⟩)) (by kernel_rfl) ?_
       refine d_ql (hd_First) (x := aLoad Tryd.prog 22 (.pointer (some ⟨b7, 0, none⟩)) H91) (by kernel_rfl) (u192.ld (by kernel_rfl)) ?_
       refine d_qk (hd_l) (by kernel_rfl) ?_
       refine d_qk (.int .i64 i4) (by kernel_rfl) ?_
       obtain ⟨g220, r221⟩ := G_some hz215
       refine d_w ((i4 - 1)) (k := .i64) (x := (i4 - 1)) (by kernel_rfl) (wrap64 (by have := g220; omega)) ?_
       refine d_ql (elp hd_l 1 (i4 - 1).toNat 0) (x := aIndexAddr Tryd.prog 22 hd_l (.int .i64 (i4 - 1))) (by kernel_rfl) (u185.idxb (by kernel_rfl) g195.1 g195.2) ?_
       refine d_ql (.int .i64 (gt l (i4 - 1))) (x := aLoad Tryd.prog 3 (elp hd_l 1 (i4 - 1).toNat 0) H91) (by kernel_rfl) (u185.ld g195.1 g195.2 (by kernel_rfl)) ?_
       obtain ⟨g222, r223⟩ := G_some r221
       refine d_w (((gt l (i4 - 1)) + 1)) (k := .i64) (x := ((gt l (i4 - 1)) + 1)) (by kernel_rfl) (wrap64 (by have := g222; omega)) ?_
       obtain ⟨g224, r225⟩ := G_some r223
       refine d_ql (elp hd_First 1 ((gt l (i4 - 1)) + 1).toNat 0) (x := aIndexAddr Tryd.prog 22 hd_First (.int .i64 ((gt l (i4 - 1)) + 1))) (by kernel_rfl) (u199.idxb (by kernel_rfl) g224.1 g224.2) ?_
       refine d_ql (.int .i64 (gt First ((gt l (i4 - 1)) + 1))) (x := aLoad Tryd.prog 3 (elp hd_First 1 ((gt l (i4 - 1)) + 1).toNat 0) H91) (by kernel_rfl) (u199.ld g224.1 g224.2 (by kernel_rfl)) ?_
       refine d_qk (.bool (decide (j2 < (gt First ((gt l (i4 - 1)) + 1))))) (by kernel_rfl) ?_
       refine d_nil ?_
       refine k219 _ _ ?_
       refine w_condp (j2 < (gt First ((gt l (i4 - 1)) + 1))) (by kernel_rfl) rfl (fun h226 => ?_) (fun h226 => ?_)
       ·have r227 := ite_t h226 r225
        refine w_skip ?_
        refine k218 _ _ ?_
        refine w_seqk fun K228 k228 => ?_
        refine w_block ?_
        refine w_seqk fun K229 k229 => ?_
        refine w_draw [0, 1, 2, 3, 4, 5, 6, 7, 8, 9] (by kernel_rfl) ?_
        refine d_qk (.pointer (some ⟨b7, 1, none⟩)) (by kernel_rfl) ?_
        refine d_ql (hd_To) (x := aLoad Tryd.prog 22 (.pointer (some ⟨b7, 1, none⟩)) H91) (by kernel_rfl) (u192.ld (by kernel_rfl)) ?_
        refine d_qk (.int .i64 j2) (by kernel_rfl) ?_
        obtain ⟨g230, r231⟩ := G_some r227
        have u232 := (((((u23.fr e31 Dj.nil_l).ext e40).fr e46 (hb41.djn (h_To.lt.le (ntr (ntr e9.next e15.next) e31.next)))).fr e55 Dj.nil_l).fr e92 Dj.nil_l)
        refine d_ql (elp hd_To 1 j2.toNat 0) (x := aIndexAddr Tryd.prog 22 hd_To (.int .i64 j2)) (by kernel_rfl) (u232.idxb (by kernel_rfl) g230.1 g230.2) ?_
        refine d_ql (.int .i64 (gt To j2)) (x := aLoad Tryd.prog 3 (elp hd_To 1 j2.toNat 0) H91) (by kernel_rfl) (u232.ld g230.1 g230.2 (by kernel_rfl)) ?_
        refine d_qk (hd_l) (by kernel_rfl) ?_
        refine d_qk (.int .i64 i4) (by kernel_rfl) ?_
        obtain ⟨g233, r234⟩ := G_some r231
        refine d_ql (elp hd_l 1 i4.toNat 0) (x := aIndexAddr Tryd.prog 22 hd_l (.int .i64 i4)) (by kernel_rfl) (u185.idxb (by kernel_rfl) g233 h186) ?_
        refine d_ql (.int .i64 (gt l i4)) (x := aLoad Tryd.prog 3 (elp hd_l 1 i4.toNat 0) H91) (by kernel_rfl) (u185.ld g233 h186 (by kernel_rfl)) ?_
        refine d_qk (.bool (decide ((gt To j2) = (gt l i4)))) (by kernel_rfl) ?_
        refine d_nil ?_
        refine k229 _ _ ?_
        refine w_condp ((gt To j2) = (gt l i4)) (by kernel_rfl) rfl (fun h235 => ?_) (fun h235 => ?_)
        ·have r236 := ite_t h235 r234
         refine w_seqk fun K237 k237 => ?_
         refine w_reg (by kernel_rfl) ?_
         refine s_qk (.bool true) (by kernel_rfl) ?_
         refine s_nil ?_
         refine k237 _ _ ?_
         refine w_reg (by kernel_rfl) ?_
         refine s_qk (.int .u64 sum3) (by kernel_rfl) ?_
         refine s_qk (.pointer (some ⟨b7, 2, none⟩)) (by kernel_rfl) ?_
         refine s_ql (hd_Weight) (x := aLoad Tryd.prog 22 (.pointer (some ⟨b7, 2, none⟩)) H91) (by kernel_rfl) (u192.ld (by kernel_rfl)) ?_
         refine s_qk (.int .i64 j2) (by kernel_rfl) ?_
         obtain ⟨g238, r239⟩ := G_some r236
         have u240 := (((((u24.fr e31 Dj.nil_l).ext e40).fr e46 (hb41.djn (h_Weight.lt.le (ntr (ntr e9.next e15.next) e31.next)))).fr e55 Dj.nil_l).fr e92 Dj.nil_l)
         refine s_ql (elp hd_Weight 1 j2.toNat 0) (x := aIndexAddr Tryd.prog 22 hd_Weight (.int .i64 j2)) (by kernel_rfl) (u240.idxb (by kernel_rfl) g230.1 g238) ?_
         refine s_ql (.int .i64 (gt Weight j2)) (x := aLoad Tryd.prog 3 (elp hd_Weight 1 j2.toNat 0) H91) (by kernel_rfl) (u240.ld g230.1 g238 (by kernel_rfl)) ?_
         obtain ⟨g241, r242⟩ := G_some r239
         refine s_w ((gt Weight j2)) (k := .u64) (x := (gt Weight j2)) (by kernel_rfl) (wrapu64 g241) ?_
         obtain ⟨g243, r244⟩ := G_some r242
         refine s_w ((sum3 + (gt Weight j2))) (k := .u64) (x := (sum3 + (gt Weight j2))) (by kernel_rfl) (wrapu64 g243) ?_
         refine s_qk (.int .u64 (sum3 + (gt Weight j2))) (by kernel_rfl) ?_
         refine s_nil ?_
         refine k228 _ _ ?_
         refine w_reg (by kernel_rfl) ?_
         refine s_qk (.int .i64 j2) (by kernel_rfl) ?_
         obtain ⟨g245, r246⟩ := G_some r244
         refine s_w ((j2 + 1)) (k := .i64) (x := (j2 + 1)) (by kernel_rfl) (wrap64 (by have := g245; omega)) ?_
         refine s_qk (.int .i64 (j2 + 1)) (by kernel_rfl) ?_
         refine s_nil ?_
         obtain rfl := Option.some.inj r246
         exact k217 n213 _ _ (Nat.lt_succ_self _) ⟨true, (j2 + 1), (sum3 + (gt Weight j2)), hn216, ⟨by kernel_rfl, by kernel_rfl, by kernel_rfl, by kernel_rfl, by kernel_rfl, by kernel_rfl, by kernel_rfl, trivial⟩, rfl⟩
        ·have r247 := ite_f h235 r234
         refine w_skip ?_
         refine k228 _ _ ?_
         refine w_reg (by kernel_rfl) ?_
         refine s_qk (.int .i64 j2) (by kernel_rfl) ?_
         obtain ⟨g248, r249⟩ := G_some r247
         refine s_w ((j2 + 1)) (k := .i64) (x := (j2 + 1)) (by kernel_rfl) (wrap64 (by have := g248; omega)) ?_
         refine s_qk (.int .i64 (j2 + 1)) (by kernel_rfl) ?_
         refine s_nil ?_
         obtain rfl := Option.some.inj r249
         exact k217 n213 _ _ (Nat.lt_succ_self _) ⟨found1, (j2 + 1), sum3, hn216, ⟨by kernel_rfl, by kernel_rfl, by kernel_rfl, by kernel_rfl, by kernel_rfl, by kernel_rfl, by kernel_rfl, trivial⟩, rfl⟩
       ·have r250 := ite_f h226 r225
        refine w_exit (th_exit (th_exit (bl_eq ?_)))
        obtain rfl := Option.some.inj r250
        obtain rfl := it_inr hn216
        exact k205 _ _ ⟨⟨by kernel_rfl, by kernel_rfl, by kernel_rfl, by kernel_rfl, by kernel_rfl, by kernel_rfl, trivial⟩, rfl⟩
      ·obtain ⟨hh206, rfl⟩ := hM
       obtain ⟨β, rfl⟩ := has_ex hh206
       clear hh206
       refine k190 _ _ ?_
       refine w_seqk fun K251 k251 => ?_
       refine w_reg (by kernel_rfl) ?_
       refine s_qk (.bool o200.1) (by kernel_rfl) ?_
       refine s_qk (.bool (!o200.1)) (by kernel_rfl) ?_
       refine s_nil ?_
       refine k251 _ _ ?_
       refine w_cond ((!o200.1)) (by kernel_rfl) rfl (fun h252 => ?_) (fun h252 => ?_)
       ·have r253 := ite_t h252 r202
        refine w_seqk fun K254 k254 => ?_
        refine w_reg (by kernel_rfl) ?_
        refine s_qk (.int .i64 i4) (by kernel_rfl) ?_
        obtain ⟨g255, r256⟩ := G_some r253
        refine s_w ((i4 - 1)) (k := .i64) (x := (i4 - 1)) (by kernel_rfl) (wrap64 (by have := g255; omega)) ?_
        obtain ⟨y257, hy258, r259⟩ := bind_some r256
        refine s_ck 41 #[.int .i64 16] (by kernel_rfl) (c_viaductref01_E e92.wf hy258) ?_
        rintro _ H260 ⟨rfl, e261⟩
        obtain ⟨y262, hy263, r264⟩ := bind_some r259
        refine s_ck 42 #[.int .i64 4, .int .i64 (i4 - 1), .agg #[.int .i64 y257, .slice none 0 0]] (by kernel_rfl) (c_viaductref01_At e261.wf (Sq.nil (enc := enc_i64_i64) (sz := 2) (by decide)) hy263) ?_
        rintro _ H267 ⟨s265, f266, rfl, e268, m269, i270⟩
        obtain ⟨a272, n273, c274, rfl⟩ := m269.form
        refine s_qk (.int .u64 0) (by kernel_rfl) ?_
        have u279 := (((((((r17.frS e31 Dj.nil_l).ext e40).frS e46 (hb41.djn (r17.ltF.le e31.next))).frS e55 Dj.nil_l).frS e92 Dj.nil_l).frS e261 Dj.nil_l).frS e268 Dj.nil_l)
        obtain ⟨H275, q276, e277, r278⟩ := Row.store (P := Tryd.prog) (t := 31) (p := 0) e268.wf u279 (.agg #[.int .i64 y262.1, .slice a272 n273 c274]) [.int .i64 y262.1, .slice a272 n273 c274] (by kernel_rfl) (by kernel_rfl) (one_cons (rfl) (one_cons (m269.one1) (one_nil))) (Nat.le_of_ble_eq_true (by kernel_rfl)) [.int .i64 y262.1, .slice a272 n273 c274] (by kernel_rfl)
        refine s_ek (undef) (by kernel_rfl) (map_ok q276) ?_
        refine s_nil ?_
        refine k254 _ _ ?_
        refine w_ret (bl_ret (th_ret (th_ret (bl_ret (th_ret (th_ret ?_))))))
        obtain ⟨v280, hv281, hz282⟩ := map_some r264
        subst hz282
        obtain rfl := it_inr hn181
        have hq283 := elim_inl r166
        rw [hq283] at hv281
        refine b_ret (fn := Tryd.f37) (vs := [.int .u64 0, .agg #[.int .i64 y262.1, .slice a272 n273 c274]]) (aRes_tmp (by kernel_rfl) (aRes_cell (Eq.trans (b := aLoad Tryd.prog 31 (.pointer (some ⟨b13, 0, none⟩)) H275) (by kernel_rfl) (r278.ld (by kernel_rfl))) (rfl))) ?_
        have u284 := (m269.fr e277 (Dj.symm (i270.djn (r17.ltF.le (ntr (ntr (ntr (ntr (ntr e31.next e40.next) e46.next) e55.next) e92.next) e261.next)))))
        obtain rfl := Option.some.inj hv281
        exact ⟨(.slice a272 n273 c274), f266, rfl, (FrS.step wf (FrS.step wf (FrS.step wf (FrS.step wf (FrS.step wf (FrS.step wf ((FrS.step wf (((FrS.refl (W := []) wf).extR e9).extR e15) e31 Inn.nil).extR e40) e46 (hb41.fresh (ntr (ntr e9.next e15.next) e31.next))) e55 Inn.nil) e92 Inn.nil) e261 Inn.nil) e268 Inn.nil) e277 (hb16.fresh e9.next)), u284, (i270.fresh (ntr (ntr (ntr (ntr (ntr (ntr (ntr e9.next e15.next) e31.next) e40.next) e46.next) e55.next) e92.next) e261.next))⟩
       ·have r285 := ite_bf h252 r202
        refine w_skip ?_
        refine k188 _ _ ?_
        refine w_reg (by kernel_rfl) ?_
        refine s_qk (.int .i64 i4) (by kernel_rfl) ?_
        obtain ⟨g286, r287⟩ := G_some r285
        refine s_w ((i4 + 1)) (k := .i64) (x := (i4 + 1)) (by kernel_rfl) (wrap64 g286) ?_
        refine s_qk (.int .i64 (i4 + 1)) (by kernel_rfl) ?_
        refine s_nil ?_
        obtain rfl := Option.some.inj r287
        exact k182 n178 _ _ (Nat.lt_succ_self _) ⟨(i4 + 1), o200.2, hn181, ⟨by kernel_rfl, by kernel_rfl, by kernel_rfl, by kernel_rfl, by kernel_rfl, trivial⟩, rfl⟩
     ·have r288 := ite_f h186 hz180
      refine w_exit (th_exit (th_exit (bl_eq ?_)))
      obtain rfl := Option.some.inj r288
      obtain rfl := it_inr hn181
      exact k170 _ _ ⟨_, rfl, ⟨by kernel_rfl, by kernel_rfl, trivial⟩, rfl⟩
    ·obtain ⟨o164, rfl, hh171, rfl⟩ := hM
     have r289 := elim_inr r166
     obtain ⟨β, rfl⟩ := has_ex hh171
     clear hh171
     refine k162 _ _ ?_
     refine w_seqk fun K290 k290 => ?_
     refine w_reg (by kernel_rfl) ?_
     refine s_qk (.int .u64 o164) (by kernel_rfl) ?_
     refine s_qk (.agg #[.int .i64 0, .slice none 0 0]) (by kernel_rfl) ?_
     refine s_qk (.int .u64 o164) (by kernel_rfl) ?_
     have u295 := (((((r17.frS e31 Dj.nil_l).ext e40).frS e46 (hb41.djn (r17.ltF.le e31.next))).frS e55 Dj.nil_l).frS e92 Dj.nil_l)
     obtain ⟨H291, q292, e293, r294⟩ := Row.store (P := Tryd.prog) (t := 31) (p := 0) e92.wf u295 (.agg #[.int .i64 0, .slice none 0 0]) [.int .i64 0, .slice none 0 0] (by kernel_rfl) (by kernel_rfl) (one_cons (rfl) (one_cons (rfl) (one_nil))) (Nat.le_of_ble_eq_true (by kernel_rfl)) [.int .i64 0, .slice none 0 0] (by kernel_rfl)
     refine s_ek (undef) (by kernel_rfl) (map_ok q292) ?_
     refine s_nil ?_
     refine k290 _ _ ?_
     refine w_ret ?_
     refine b_ret (fn := Tryd.f37) (vs := [.int .u64 o164, .agg #[.int .i64 0, .slice none 0 0]]) (aRes_tmp (by kernel_rfl) (aRes_cell (Eq.trans (b := aLoad Tryd.prog 31 (.pointer (some ⟨b13, 0, none⟩)) H291) (by kernel_rfl) (r294.ld (by kernel_rfl))) (rfl))) ?_
     obtain rfl := Option.some.inj r289
     exact ⟨(.slice none 0 0), [], rfl, (FrS.step wf (FrS.step wf (FrS.step wf (FrS.step wf ((FrS.step wf (((FrS.refl (W := []) wf).extR e9).extR e15) e31 Inn.nil).extR e40) e46 (hb41.fresh (ntr (ntr e9.next e15.next) e31.next))) e55 Inn.nil) e92 Inn.nil) e293 (hb16.fresh e9.next)), (Ow.nil (by decide)), Inn.nil⟩

theorem c_viaductseen_Same {H : AH} {ev_err : Value} {fp_err : Fp} {hd_Places : Value} {fp_Places : Fp} {err : Er} {Code : Int} {Places : List (Int × Int)} {r : Bool}
  (wf : WF H) (h_err : Ev 80 86 H ev_err err fp_err) (h_Places : Sq enc_i64_i64 2 H hd_Places Places fp_Places) (hr : z_viaductseen_Same err Code Places = some r) :
  ACalls Tryd.prog 14 #[ev_err, .agg #[.int .i64 Code, hd_Places]] H fun v H' => v = .bool r ∧ FrS [] H H' := by
 refine acalls_of_body mixed Tryd.func14 rfl (Nat.le_of_ble_eq_true rfl) ?_
 unfold z_viaductseen_Same at hr
 refine w_seqk fun K1 k1 => ?_
 refine w_reg (by kernel_rfl) ?_
 refine s_rwl wf [.int .i64 Code, hd_Places] (one_cons (rfl) (one_cons (h_Places.one1) (one_nil))) (by kernel_rfl) fun b2 H3 e4 hb5 r6 => ?_
 refine s_qk (.bool false) (by kernel_rfl) ?_
 refine s_nil ?_
 refine k1 _ _ ?_
 refine w_seqk fun K8 k8 => ?_
 refine w_seqk fun K9 k9 => ?_
 refine w_reg (by kernel_rfl) ?_
 refine s_ql (.agg #[.int .i64 Code, hd_Places]) (x := aLoad Tryd.prog 31 (.pointer (some ⟨b2, 0, none⟩)) H3) (by kernel_rfl) (r6.ld (by kernel_rfl)) ?_
 have u10 := (h_Places.ext e4)
 obtain ⟨y11, hy12, r13⟩ := bind_some hr
 refine s_ck 24 #[.agg #[.int .i64 Code, hd_Places]] (by kernel_rfl) (c_viaductref01_Err_Bad e4.wf u10 hy12) ?_
 rintro _ H14 ⟨rfl, e15⟩
 refine s_qk (.bool (!y11)) (by kernel_rfl) ?_
 refine s_nil ?_
 refine k9 _ _ ?_
 refine w_cond ((!y11)) (by kernel_rfl) rfl (fun h16 => ?_) (fun h16 => ?_)
 ·have r17 := ite_t h16 r13
  refine w_seqk fun K18 k18 => ?_
  refine w_reg (by kernel_rfl) ?_
  refine s_qk (ev_err) (by kernel_rfl) ?_
  have u22 := ((h_err.ext e4).fr e15 Dj.nil_l)
  rcases (u22).cases with ⟨h19, rfl⟩ | ⟨h19, t20, x21, rfl⟩
  ·have r23 := ite_t h19 r17
   refine s_qk (.bool true) (by kernel_rfl) ?_
   refine s_qk (.bool true) (by kernel_rfl) ?_
   refine s_nil ?_
   refine k18 _ _ ?_
   refine w_ret (th_ret ?_)
   refine b_ret (fn := Tryd.f14) (vs := [.bool true]) (aRes_tmp (by kernel_rfl) (rfl)) ?_
   obtain rfl := Option.some.inj r23
   exact ⟨rfl, (FrS.step wf ((FrS.refl (W := []) wf).extR e4) e15 Inn.nil)⟩
  ·have r24 := ite_f h19 r17
   refine s_ql (.bool false) (x := aBin Tryd.prog .eql 25 (.tmp 15) (.const .nilIface) (.iface t20 x21) .nilIface) (by kernel_rfl) (aBin_nil (by kernel_rfl)) ?_
   refine s_qk (.bool false) (by kernel_rfl) ?_
   refine s_nil ?_
   refine k18 _ _ ?_
   refine w_ret (th_ret ?_)
   refine b_ret (fn := Tryd.f14) (vs := [.bool false]) (aRes_tmp (by kernel_rfl) (rfl)) ?_
   obtain rfl := Option.some.inj r24
   exact ⟨rfl, (FrS.step wf ((FrS.refl (W := []) wf).extR e4) e15 Inn.nil)⟩
 ·have r25 := ite_bf h16 r13
  refine w_skip ?_
  refine k8 _ _ ?_
  refine w_seqk fun K26 k26 => ?_
  refine w_seqk fun K27 k27 => ?_
  refine w_reg (by kernel_rfl) ?_
  refine s_qk (ev_err) (by kernel_rfl) ?_
  have u31 := ((h_err.ext e4).fr e15 Dj.nil_l)
  rcases (u31).cases with ⟨h28, rfl⟩ | ⟨h28, t29, x30, rfl⟩
  ·have r32 := ite_t h28 r25
   refine s_qk (.bool true) (by kernel_rfl) ?_
   refine s_nil ?_
   refine k27 _ _ ?_
   refine w_cond true (by kernel_rfl) rfl (fun _ => ?_) (fun h => by cases h)
   refine w_seqk fun K33 k33 => ?_
   refine w_reg (by kernel_rfl) ?_
   refine s_qk (.bool false) (by kernel_rfl) ?_
   refine s_nil ?_
   refine k33 _ _ ?_
   refine w_ret (th_ret ?_)
   refine b_ret (fn := Tryd.f14) (vs := [.bool false]) (aRes_tmp (by kernel_rfl) (rfl)) ?_
   obtain rfl := Option.some.inj r32
   exact ⟨rfl, (FrS.step wf ((FrS.refl (W := []) wf).extR e4) e15 Inn.nil)⟩
  ·have r34 := ite_f h28 r25
   refine s_ql (.bool false) (x := aBin Tryd.prog .eql 25 (.tmp 17) (.const .nilIface) (.iface t29 x30) .nilIface) (by kernel_rfl) (aBin_nil (by kernel_rfl)) ?_
   refine s_nil ?_
   refine k27 _ _ ?_
   refine w_cond false (by kernel_rfl) rfl (fun h => by cases h) (fun _ => ?_)
   refine w_skip ?_
   refine k26 _ _ ?_
   refine w_seqk fun K35 k35 => ?_
   refine w_reg (by kernel_rfl) ?_
   refine s_qk (.iface t29 x30) (by kernel_rfl) ?_
   refine s_qk (.iface t29 x30) (by kernel_rfl) ?_
   refine s_nil ?_
   refine k35 _ _ ?_
   refine w_seqk fun K36 k36 => ?_
   refine w_seqk fun K37 k37 => ?_
   refine w_reg (by kernel_rfl) ?_
   refine s_qk (.pointer (some ⟨b2, 1, none⟩)) (by kernel_rfl) ?_
   have u38 := (r6.frS e15 Dj.nil_l)
   refine s_ql (hd_Places) (x := aLoad Tryd.prog 29 (.pointer (some ⟨b2, 1, none⟩)) H14) (by kernel_rfl) (u38.ld (by kernel_rfl)) ?_
   have u39 := (u10.fr e15 Dj.nil_l)
   refine s_ql (.int .i64 (Places.length : Int)) (x := aLen Tryd.prog 29 hd_Places H14) (by kernel_rfl) (u39.lenb (by kernel_rfl)) ?_
   refine s_qk (.int .i64 0) (by kernel_rfl) ?_
   refine s_nil ?_
   refine k37 _ _ ?_
   obtain ⟨z43, hx41, r42⟩ := bind_some r34
   refine w_mid (fun α H44 => ∃ o40, z43 = Sum.inr o40 ∧ ∃ (v48 : Value), Has α [(0, .iface t29 x30), (3, .pointer (some ⟨b2, 0, none⟩)), (5, v48)] ∧ FrS [] H14 H44 ∧ Ev 80 86 H44 v48 o40 fp_err) (fun K49 k49 => ?_) (fun α H44 hM => ?_)
   ·refine w_block ?_
    obtain ⟨n51, hn52⟩ := loopO_iff.1 hx41
    refine w_loopn (fun n α H53 => ∃ (i0 : Int), ∃ (e1 : Er), ∃ (v57 : Value), iterO (fun zz_ => z_viaductseen_Same_l0 Places zz_.1 zz_.2) n (i0, e1) = some z43 ∧ Has α [(0, .iface t29 x30), (3, .pointer (some ⟨b2, 0, none⟩)), (5, v57), (21, hd_Places), (22, .int .i64 (Places.length : Int)), (23, .int .i64 i0)] ∧ FrS [] H14 H53 ∧ Ev 80 86 H53 v57 e1 fp_err) n51 ⟨0, err, (.iface t29 x30), hn52, ⟨by kernel_rfl, by kernel_rfl, by kernel_rfl, by kernel_rfl, by kernel_rfl, by kernel_rfl, trivial⟩, (FrS.refl (W := []) e15.wf), u31⟩ ?_
    rintro n51 α H53 ⟨i0, e1, v57, hi59, hh58, e54, m56⟩ K64 k64
    obtain ⟨n60, z61, rfl, hz62, hn63⟩ := iter_succ hi59
    obtain ⟨β, rfl⟩ := has_ex hh58
    clear hh58
    replace hz62 : z_viaductseen_Same_l0 Places i0 e1 = some z61 := hz62
    unfold z_viaductseen_Same_l0 at hz62
    refine w_seqk fun K65 k65 => ?_
    refine w_reg (by kernel_rfl) ?_
    refine s_qk (.bool (decide (i0 < (Places.length : Int)))) (by kernel_rfl) ?_
    refine s_nil ?_
    refine k65 _ _ ?_
    refine w_seqk fun K66 k66 => ?_
    refine w_condp (i0 < (Places.length : Int)) (by kernel_rfl) rfl (fun h67 => ?_) (fun h67 => ?_)
    ·have r68 := ite_t h67 hz62
     refine w_skip ?_
     refine k66 _ _ ?_
     refine w_seqk fun K69 k69 => ?_
     refine w_block ?_
     refine w_seqk fun K70 k70 => ?_
     refine w_reg (by kernel_rfl) ?_
     obtain ⟨g71, r72⟩ := G_some r68
     have u73 := (u39.fr e54 Dj.nil_l)
     refine s_ql (elp hd_Places 2 i0.toNat 0) (x := aIndexAddr Tryd.prog 29 hd_Places (.int .i64 i0)) (by kernel_rfl) (u73.idxb (by kernel_rfl) g71 h67) ?_
     refine s_ql (.agg #[.int .i64 ((gt Places i0).1), .int .i64 ((gt Places i0).2)]) (x := aLoad Tryd.prog 85 (elp hd_Places 2 i0.toNat 0) H53) (by kernel_rfl) (u73.ld g71 h67 (by kernel_rfl)) ?_
     refine s_rwk e54.wf [.int .i64 0, .int .i64 0] (by kernel_rfl) fun b74 H75 e76 hb77 r78 => ?_
     obtain ⟨H80, q81, e82, r83⟩ := Row.store (P := Tryd.prog) (t := 85) (p := 0) e76.wf r78 (.agg #[.int .i64 ((gt Places i0).1), .int .i64 ((gt Places i0).2)]) [.int .i64 ((gt Places i0).1), .int .i64 ((gt Places i0).2)] (by kernel_rfl) (by kernel_rfl) (one_cons (rfl) (one_cons (rfl) (one_nil))) (Nat.le_of_ble_eq_true (by kernel_rfl)) [.int .i64 ((gt Places i0).1), .int .i64 ((gt Places i0).2)] (by kernel_rfl)
     refine s_ek (undef) (by kernel_rfl) (map_ok q81) ?_
     refine s_nil ?_
     refine k70 _ _ ?_
     refine w_seqk fun K84 k84 => ?_
     refine w_reg (by kernel_rfl) ?_
     refine s_rwk e82.wf [.pointer none] (by kernel_rfl) fun b85 H86 e87 hb88 r89 => ?_
     refine s_nil ?_
     refine k84 _ _ ?_
     refine w_seqk fun K91 k91 => ?_
     refine w_seqk fun K92 k92 => ?_
     refine w_draw [0, 1, 2, 3, 4, 5, 6, 7, 8, 9, 10, 11, 12, 13, 14, 15] (by kernel_rfl) ?_
     refine d_qk (v57) (by kernel_rfl) ?_
     refine d_qk (.iface 88 (.pointer (some ⟨b85, 0, none⟩))) (by kernel_rfl) ?_
     by_cases h93 : Er.isAt e1 = true
     ·have r94 := ite_t h93 r72
      have u103 := (((m56.ext e76).fr e82 (hb77.djn (h_err.lt.le (ntr (ntr e4.next e15.next) e54.next)))).ext e87)
      refine d_ck 44 #[v57, .iface 88 (.pointer (some ⟨b85, 0, none⟩))] (by kernel_rfl) (a_asF_at e87.wf r89 (hb88.djn (h_err.lt.le (ntr (ntr (ntr (ntr e4.next e15.next) e54.next) e76.next) e82.next))) u103 h93) ?_
      rintro _ H95 ⟨rfl, e96, b98, u99, -, i100, r97, r101, v102⟩
      refine ⟨st_nil, ?_⟩
      refine d_qk (.bool false) (by kernel_rfl) ?_
      refine d_qk (.bool false) (by kernel_rfl) ?_
      refine d_ql (.pointer (some ⟨b98, 0, none⟩)) (x := aLoad Tryd.prog 86 (.pointer (some ⟨b85, 0, none⟩)) H95) (by kernel_rfl) (r97.ld (by kernel_rfl)) ?_
      refine d_qk (.bool false) (by kernel_rfl) ?_
      refine d_qk (.bool false) (by kernel_rfl) ?_
      refine d_qk (.bool false) (by kernel_rfl) ?_
      refine d_ql (.pointer (some ⟨b98, 0, none⟩)) (x := aLoad Tryd.prog 86 (.pointer (some ⟨b85, 0, none⟩)) H95) (by kernel_rfl) (r97.ld (by kernel_rfl)) ?_
      refine d_qk (.pointer (some ⟨b98, 0, none⟩)) (by kernel_rfl) ?_
      refine d_qk (.pointer (some ⟨b98, 0, none⟩)) (by kernel_rfl) ?_
      refine d_ql (.agg #[.int .i64 (Er.fk e1), .int .i64 (Er.fi e1)]) (x := aLoad Tryd.prog 85 (.pointer (some ⟨b98, 0, none⟩)) H95) (by kernel_rfl) (r101.ld (by kernel_rfl)) ?_
      have u106 := ((r83.ext e87).frS e96 (hb88.djn (r78.ltF.le e82.next)))
      refine d_ql (.agg #[.int .i64 ((gt Places i0).1), .int .i64 ((gt Places i0).2)]) (x := aLoad Tryd.prog 85 (.pointer (some ⟨b74, 0, none⟩)) H95) (by kernel_rfl) (u106.ld (by kernel_rfl)) ?_
      refine d_ql (.bool (!decide ((Er.fk e1) = ((gt Places i0).1) ∧ (Er.fi e1) = ((gt Places i0).2)))) (x := aBin Tryd.prog .neq 85 (.tmp 39) (.tmp 40) (.agg #[.int .i64 (Er.fk e1), .int .i64 (Er.fi e1)]) (.agg #[.int .i64 ((gt Places i0).1), .int .i64 ((gt Places i0).2)])) (by kernel_rfl) (aBin_place _ _ _ _ _ _) ?_
      refine d_qk (.bool (!decide ((Er.fk e1) = ((gt Places i0).1) ∧ (Er.fi e1) = ((gt Places i0).2)))) (by kernel_rfl) ?_
      refine d_nil ?_
      refine k92 _ _ ?_
      refine w_condn ((Er.fk e1) = ((gt Places i0).1) ∧ (Er.fi e1) = ((gt Places i0).2)) (by kernel_rfl) rfl (fun h107 => ?_) (fun h107 => ?_)
      ·have r108 := ite_f h107 r94
       refine w_seqk fun K109 k109 => ?_
       refine w_reg (by kernel_rfl) ?_
       refine s_qk (.bool false) (by kernel_rfl) ?_
       refine s_nil ?_
       refine k109 _ _ ?_
       refine w_ret (th_ret (bl_ret (th_ret (th_ret (bl_ret (th_ret (th_ret ?_)))))))
       obtain ⟨v110, hv111, hz112⟩ := map_some r108
       subst hz112
       obtain rfl := it_inr hn63
       have hq113 := elim_inl r42
       rw [hq113] at hv111
       refine b_ret (fn := Tryd.f14) (vs := [.bool false]) (aRes_tmp (by kernel_rfl) (rfl)) ?_
       obtain rfl := Option.some.inj hv111
       exact ⟨rfl, (FrS.step wf ((FrS.step wf ((FrS.step wf (FrS.step wf ((FrS.refl (W := []) wf).extR e4) e15 Inn.nil) e54 Inn.nil).extR e76) e82 (hb77.fresh (ntr (ntr e4.next e15.next) e54.next))).extR e87) e96 (hb88.fresh (ntr (ntr (ntr (ntr e4.next e15.next) e54.next) e76.next) e82.next)))⟩
      ·have r114 := ite_t h107 r94
       refine w_skip ?_
       refine k91 _ _ ?_
       refine w_reg (by kernel_rfl) ?_
       refine s_ql (.pointer (some ⟨b98, 0, none⟩)) (x := aLoad Tryd.prog 86 (.pointer (some ⟨b85, 0, none⟩)) H95) (by kernel_rfl) (r97.ld (by kernel_rfl)) ?_
       refine s_qk (.pointer (some ⟨b98, 0, none⟩)) (by kernel_rfl) ?_
       refine s_qk (.pointer (some ⟨b98, 2, none⟩)) (by kernel_rfl) ?_
       refine s_ql (u99) (x := aLoad Tryd.prog 25 (.pointer (some ⟨b98, 2, none⟩)) H95) (by kernel_rfl) (r101.ld (by kernel_rfl)) ?_
       refine s_qk (u99) (by kernel_rfl) ?_
       refine s_nil ?_
       refine k69 _ _ ?_
       refine w_reg (by kernel_rfl) ?_
       obtain ⟨g115, r116⟩ := G_some r114
       refine s_w ((i0 + 1)) (k := .i64) (x := (i0 + 1)) (by kernel_rfl) (wrap64 (by have := g115; omega)) ?_
       refine s_qk (.int .i64 (i0 + 1)) (by kernel_rfl) ?_
       refine s_nil ?_
       obtain rfl := Option.some.inj r116
       exact k64 n60 _ _ (Nat.lt_succ_self _) ⟨(i0 + 1), (Er.fe e1), (u99), hn63, ⟨by kernel_rfl, by kernel_rfl, by kernel_rfl, by kernel_rfl, by kernel_rfl, by kernel_rfl, trivial⟩, (FrS.step e15.wf ((FrS.step e15.wf ((FrS.step e15.wf (FrS.refl (W := []) e15.wf) e54 Inn.nil).extR e76) e82 (hb77.fresh e54.next)).extR e87) e96 (hb88.fresh (ntr (ntr e54.next e76.next) e82.next))), v102⟩
     ·have r117 := ite_f h93 r72
      have u118 := (((m56.ext e76).fr e82 (hb77.djn (h_err.lt.le (ntr (ntr e4.next e15.next) e54.next)))).ext e87)
      refine d_ck 44 #[v57, .iface 88 (.pointer (some ⟨b85, 0, none⟩))] (by kernel_rfl) (a_asF_no r89 u118 h93) ?_
      rintro _ _ ⟨rfl, rfl⟩
      refine ⟨st_nil, ?_⟩
      refine d_qk (.bool true) (by kernel_rfl) ?_
      refine d_qk (.bool true) (by kernel_rfl) ?_
      refine d_idle (by kernel_rfl) ?_
      refine d_idle (by kernel_rfl) ?_
      refine d_qk (.bool true) (by kernel_rfl) ?_
      refine d_qk (.bool true) (by kernel_rfl) ?_
      refine d_idle (by kernel_rfl) ?_
      refine d_idle (by kernel_rfl) ?_
      refine d_idle (by kernel_rfl) ?_
      refine d_idle (by kernel_rfl) ?_
      refine d_idle (by kernel_rfl) ?_
      refine d_idle (by kernel_rfl) ?_
      refine d_qk (.bool true) (by kernel_rfl) ?_
      refine d_nil ?_
      refine k92 _ _ ?_
      refine w_cond true (by kernel_rfl) rfl (fun _ => ?_) (fun h => by cases h)
      refine w_seqk fun K119 k119 => ?_
      refine w_reg (by kernel_rfl) ?_
      refine s_qk (.bool false) (by kernel_rfl) ?_
      refine s_nil ?_
      refine k119 _ _ ?_
      refine w_ret (th_ret (bl_ret (th_ret (th_ret (bl_ret (th_ret (th_ret ?_)))))))
      obtain ⟨v120, hv121, hz122⟩ := map_some r117
      subst hz122
      obtain rfl := it_inr hn63
      have hq123 := elim_inl r42
      rw [hq123] at hv121
      refine b_ret (fn := Tryd.f14) (vs := [.bool false]) (aRes_tmp (by kernel_rfl) (rfl)) ?_
      obtain rfl := Option.some.inj hv121
      exact ⟨rfl, ((FrS.step wf ((FrS.step wf (FrS.step wf ((FrS.refl (W := []) wf).extR e4) e15 Inn.nil) e54 Inn.nil).extR e76) e82 (hb77.fresh (ntr (ntr e4.next e15.next) e54.next))).extR e87)⟩
    ·have r124 := ite_f h67 hz62
     refine w_exit (th_exit (th_exit (bl_eq ?_)))
     obtain rfl := Option.some.inj r124
     obtain rfl := it_inr hn63
     exact k49 _ _ ⟨_, rfl, (v57), ⟨by kernel_rfl, by kernel_rfl, by kernel_rfl, trivial⟩, (FrS.step e15.wf (FrS.refl (W := []) e15.wf) e54 Inn.nil), m56⟩
   ·obtain ⟨o40, rfl, v48, hh50, e45, m47⟩ := hM
    have r125 := elim_inr r42
    obtain ⟨β, rfl⟩ := has_ex hh50
    clear hh50
    refine k36 _ _ ?_
    refine w_seqk fun K126 k126 => ?_
    refine w_reg (by kernel_rfl) ?_
    refine s_rwk e45.wf [.pointer none] (by kernel_rfl) fun b127 H128 e129 hb130 r131 => ?_
    refine s_nil ?_
    refine k126 _ _ ?_
    refine w_seqk fun K133 k133 => ?_
    refine w_seqk fun K134 k134 => ?_
    refine w_reg (by kernel_rfl) ?_
    refine s_qk (v48) (by kernel_rfl) ?_
    refine s_qk (.iface 88 (.pointer (some ⟨b127, 0, none⟩))) (by kernel_rfl) ?_
    by_cases h135 : Er.isAt o40 = true
    ·have r136 := ite_t h135 r125
     have u145 := (m47.ext e129)
     refine s_ck 44 #[v48, .iface 88 (.pointer (some ⟨b127, 0, none⟩))] (by kernel_rfl) (a_asF_at e129.wf r131 (hb130.djn (h_err.lt.le (ntr (ntr e4.next e15.next) e45.next))) u145 h135) ?_
     rintro _ H137 ⟨rfl, e138, b140, u141, -, i142, r139, r143, v144⟩
     refine s_nil ?_
     refine k134 _ _ ?_
     refine w_cond true (by kernel_rfl) rfl (fun _ => ?_) (fun h => by cases h)
     refine w_seqk fun K148 k148 => ?_
     refine w_reg (by kernel_rfl) ?_
     refine s_qk (.bool false) (by kernel_rfl) ?_
     refine s_nil ?_
     refine k148 _ _ ?_
     refine w_ret (th_ret ?_)
     refine b_ret (fn := Tryd.f14) (vs := [.bool false]) (aRes_tmp (by kernel_rfl) (rfl)) ?_
     obtain rfl := Option.some.inj r136
     exact ⟨rfl, (FrS.step wf ((FrS.step wf (FrS.step wf ((FrS.refl (W := []) wf).extR e4) e15 Inn.nil) e45 Inn.nil).extR e129) e138 (hb130.fresh (ntr (ntr e4.next e15.next) e45.next)))⟩
    ·have r149 := ite_f h135 r125
     have u150 := (m47.ext e129)
     refine s_ck 44 #[v48, .iface 88 (.pointer (some ⟨b127, 0, none⟩))] (by kernel_rfl) (a_asF_no r131 u150 h135) ?_
     rintro _ _ ⟨rfl, rfl⟩
     refine s_nil ?_
     refine k134 _ _ ?_
     refine w_cond false (by kernel_rfl) rfl (fun h => by cases h) (fun _ => ?_)
     refine w_skip ?_
     refine k133 _ _ ?_
     refine w_seqk fun K151 k151 => ?_
     refine w_reg (by kernel_rfl) ?_
     refine s_rwk e129.wf [.int .i64 0] (by kernel_rfl) fun b152 H153 e154 hb155 r156 => ?_
     refine s_nil ?_
     refine k151 _ _ ?_
     refine w_seqk fun K158 k158 => ?_
     refine w_seqk fun K159 k159 => ?_
     obtain ⟨o160, hx161, r162⟩ := bind_some r149
     refine w_mid (fun α H163 => Has α [(0, .iface t29 x30), (3, .pointer (some ⟨b2, 0, none⟩)), (60, .bool o160)] ∧ FrS [b152] H153 H163) (fun K165 k165 => ?_) (fun α H163 hM => ?_)
     ·refine w_reg (by kernel_rfl) ?_
      refine s_qk (.iface t29 x30) (by kernel_rfl) ?_
      refine s_qk (.iface 91 (.pointer (some ⟨b152, 0, none⟩))) (by kernel_rfl) ?_
      by_cases h167 : (Er.num err).isSome = true
      ·have r168 := ite_t h167 hx161
       have u172 := (((u31.fr e45 Dj.nil_l).ext e129).ext e154)
       refine s_ck 44 #[.iface t29 x30, .iface 91 (.pointer (some ⟨b152, 0, none⟩))] (by kernel_rfl) (a_asN_y e154.wf r156 u172 h28 h167) ?_
       rintro _ H169 ⟨rfl, e170, r171⟩
       refine s_qk (.bool false) (by kernel_rfl) ?_
       refine s_qk (.bool false) (by kernel_rfl) ?_
       refine s_ql (.int .i64 ((Er.num err).getD 0)) (x := aLoad Tryd.prog 80 (.pointer (some ⟨b152, 0, none⟩)) H169) (by kernel_rfl) (r171.ld (by kernel_rfl)) ?_
       refine s_qk (.pointer (some ⟨b2, 0, none⟩)) (by kernel_rfl) ?_
       have u173 := ((((u38.frS e45 Dj.nil_l).ext e129).ext e154).frS e170 (hb155.djn (r6.ltF.le (ntr (ntr e15.next e45.next) e129.next))))
       refine s_ql (.int .i64 Code) (x := aLoad Tryd.prog 3 (.pointer (some ⟨b2, 0, none⟩)) H169) (by kernel_rfl) (u173.ld (by kernel_rfl)) ?_
       refine s_qk (.bool (!decide (((Er.num err).getD 0) = Code))) (by kernel_rfl) ?_
       refine s_qk (.bool (!decide (((Er.num err).getD 0) = Code))) (by kernel_rfl) ?_
       refine s_nil ?_
       obtain rfl := Option.some.inj r168
       exact k165 _ _ ⟨⟨by kernel_rfl, by kernel_rfl, by kernel_rfl, trivial⟩, (FrS.step e154.wf (FrS.refl (W := [b152]) e154.wf) e170 Inn.refl')⟩
      ·have r174 := ite_f h167 hx161
       have u178 := (((u31.fr e45 Dj.nil_l).ext e129).ext e154)
       refine s_ck 44 #[.iface t29 x30, .iface 91 (.pointer (some ⟨b152, 0, none⟩))] (by kernel_rfl) (a_asN_n e154.wf r156 u178 h28 h167) ?_
       rintro _ H175 ⟨rfl, e176, r177⟩
       refine s_qk (.bool true) (by kernel_rfl) ?_
       refine s_qk (.bool true) (by kernel_rfl) ?_
       refine s_no (by kernel_rfl) ?_
       refine s_no (by kernel_rfl) ?_
       refine s_no (by kernel_rfl) ?_
       refine s_no (by kernel_rfl) ?_
       refine s_qk (.bool true) (by kernel_rfl) ?_
       refine s_nil ?_
       obtain rfl := Option.some.inj r174
       exact k165 _ _ ⟨⟨by kernel_rfl, by kernel_rfl, by kernel_rfl, trivial⟩, (FrS.step e154.wf (FrS.refl (W := [b152]) e154.wf) e176 Inn.refl')⟩
     ·obtain ⟨hh166, e164⟩ := hM
      obtain ⟨β, rfl⟩ := has_ex hh166
      clear hh166
      refine k159 _ _ ?_
      refine w_cond (o160) (by kernel_rfl) rfl (fun h179 => ?_) (fun h179 => ?_)
      ·have r180 := ite_t h179 r162
       refine w_seqk fun K181 k181 => ?_
       refine w_reg (by kernel_rfl) ?_
       refine s_qk (.bool false) (by kernel_rfl) ?_
       refine s_nil ?_
       refine k181 _ _ ?_
       refine w_ret (th_ret ?_)
       refine b_ret (fn := Tryd.f14) (vs := [.bool false]) (aRes_tmp (by kernel_rfl) (rfl)) ?_
       obtain rfl := Option.some.inj r180
       exact ⟨rfl, (FrS.step wf (((FrS.step wf (FrS.step wf ((FrS.refl (W := []) wf).extR e4) e15 Inn.nil) e45 Inn.nil).extR e129).extR e154) e164 (hb155.fresh (ntr (ntr (ntr e4.next e15.next) e45.next) e129.next)))⟩
      ·have r182 := ite_bf h179 r162
       refine w_skip ?_
       refine k158 _ _ ?_
       refine w_seqk fun K183 k183 => ?_
       refine w_seqk fun K184 k184 => ?_
       refine w_reg (by kernel_rfl) ?_
       refine s_qk (.int .i64 1) (by kernel_rfl) ?_
       refine s_nil ?_
       refine k184 _ _ ?_
       obtain ⟨z188, hx186, r187⟩ := bind_some r182
       refine w_mid (fun α H189 => ∃ o185, z188 = Sum.inr o185 ∧ Has α [] ∧ H163 = H189) (fun K191 k191 => ?_) (fun α H189 hM => ?_)
       ·refine w_block ?_
        obtain ⟨n193, hn194⟩ := loopO_iff.1 hx186
        refine w_loopn (fun n α H195 => ∃ (i2 : Int), iterO (fun zz_ => z_viaductseen_Same_l1 err Code zz_) n i2 = some z188 ∧ Has α [(0, .iface t29 x30), (3, .pointer (some ⟨b2, 0, none⟩)), (11, .int .i64 i2)] ∧ H163 = H195) n193 ⟨1, hn194, ⟨by kernel_rfl, by kernel_rfl, by kernel_rfl, trivial⟩, rfl⟩ ?_
        rintro n193 α H195 ⟨i2, hi198, hh197, rfl⟩ K203 k203
        obtain ⟨n199, z200, rfl, hz201, hn202⟩ := iter_succ hi198
        obtain ⟨β, rfl⟩ := has_ex hh197
        clear hh197
        replace hz201 : z_viaductseen_Same_l1 err Code i2 = some z200 := hz201
        unfold z_viaductseen_Same_l1 at hz201
        refine w_seqk fun K204 k204 => ?_
        refine w_seqk fun K205 k205 => ?_
        refine w_reg (by kernel_rfl) ?_
        refine s_qk (.int .i64 i2) (by kernel_rfl) ?_
        refine s_qk (.bool (decide (i2 ≤ 20))) (by kernel_rfl) ?_
        refine s_nil ?_
        refine k205 _ _ ?_
        refine w_condp (i2 ≤ 20) (by kernel_rfl) rfl (fun h206 => ?_) (fun h206 => ?_)
        ·have r207 := ite_t h206 hz201
         refine w_skip ?_
         refine k204 _ _ ?_
         refine w_seqk fun K208 k208 => ?_
         refine w_block ?_
         refine w_seqk fun K209 k209 => ?_
         refine w_draw [0, 1, 2, 4, 5, 6, 7, 3, 8] (by kernel_rfl) ?_
         refine d_qk (.iface t29 x30) (by kernel_rfl) ?_
         refine d_qk (.int .i64 i2) (by kernel_rfl) ?_
         refine d_qk (.iface 80 (.int .i64 i2)) (by kernel_rfl) ?_
         refine d_qk (.int .i64 i2) (by kernel_rfl) ?_
         refine d_qk (.pointer (some ⟨b2, 0, none⟩)) (by kernel_rfl) ?_
         have u210 := ((((u38.frS e45 Dj.nil_l).ext e129).ext e154).frS e164 (hb155.djn (r6.ltF.le (ntr (ntr e15.next e45.next) e129.next))))
         refine d_fl (.int .i64 Code) (x := aLoad Tryd.prog 3 (.pointer (some ⟨b2, 0, none⟩)) H163) (by kernel_rfl) (u210.ld (by kernel_rfl)) ?_
         refine d_qk (.bool (decide (i2 = Code))) (by kernel_rfl) ?_
         have u211 := ((((u31.fr e45 Dj.nil_l).ext e129).ext e154).fr e164 (hb155.djn (h_err.lt.le (ntr (ntr (ntr e4.next e15.next) e45.next) e129.next))))
         refine d_ck 45 #[.iface t29 x30, .iface 80 (.int .i64 i2)] (by kernel_rfl) (a_isN u211 h28) ?_
         rintro _ _ ⟨rfl, rfl⟩
         refine ⟨st_ql (y := aLoad Tryd.prog 3 (.pointer (some ⟨b2, 0, none⟩)) H163) (by kernel_rfl) (u210.ld (by kernel_rfl)) (st_nil), ?_⟩
         refine d_qk (.bool (!decide ((decide (Er.num err = some i2)) = (decide (i2 = Code))))) (by kernel_rfl) ?_
         refine d_nil ?_
         refine k209 _ _ ?_
         refine w_condn ((decide (Er.num err = some i2)) = (decide (i2 = Code))) (by kernel_rfl) rfl (fun h212 => ?_) (fun h212 => ?_)
         ·have r213 := ite_f h212 r207
          refine w_seqk fun K214 k214 => ?_
          refine w_reg (by kernel_rfl) ?_
          refine s_qk (.bool false) (by kernel_rfl) ?_
          refine s_nil ?_
          refine k214 _ _ ?_
          refine w_ret (bl_ret (th_ret (th_ret (bl_ret (th_ret (th_ret ?_))))))
          obtain ⟨v215, hv216, hz217⟩ := map_some r213
          subst hz217
          obtain rfl := it_inr hn202
          have hq218 := elim_inl r187
          rw [hq218] at hv216
          refine b_ret (fn := Tryd.f14) (vs := [.bool false]) (aRes_tmp (by kernel_rfl) (rfl)) ?_
          obtain rfl := Option.some.inj hv216
          exact ⟨rfl, (FrS.step wf (((FrS.step wf (FrS.step wf ((FrS.refl (W := []) wf).extR e4) e15 Inn.nil) e45 Inn.nil).extR e129).extR e154) e164 (hb155.fresh (ntr (ntr (ntr e4.next e15.next) e45.next) e129.next)))⟩
         ·have r219 := ite_t h212 r207
          refine w_skip ?_
          refine k208 _ _ ?_
          refine w_reg (by kernel_rfl) ?_
          refine s_qk (.int .i64 i2) (by kernel_rfl) ?_
          obtain ⟨g220, r221⟩ := G_some r219
          refine s_w ((i2 + 1)) (k := .i64) (x := (i2 + 1)) (by kernel_rfl) (wrap64 g220) ?_
          refine s_qk (.int .i64 (i2 + 1)) (by kernel_rfl) ?_
          refine s_nil ?_
          obtain rfl := Option.some.inj r221
          exact k203 n199 _ _ (Nat.lt_succ_self _) ⟨(i2 + 1), hn202, ⟨by kernel_rfl, by kernel_rfl, by kernel_rfl, trivial⟩, rfl⟩
        ·have r222 := ite_f h206 hz201
         refine w_exit (th_exit (th_exit (bl_eq ?_)))
         obtain rfl := Option.some.inj r222
         obtain rfl := it_inr hn202
         exact k191 _ _ ⟨_, rfl, trivial, rfl⟩
       ·obtain ⟨o185, rfl, hh192, rfl⟩ := hM
        have r223 := elim_inr r187
        obtain ⟨β, rfl⟩ := has_ex hh192
        clear hh192
        refine k183 _ _ ?_
        refine w_seqk fun K224 k224 => ?_
        refine w_reg (by kernel_rfl) ?_
        refine s_qk (.bool true) (by kernel_rfl) ?_
        refine s_nil ?_
        refine k224 _ _ ?_
        refine w_ret ?_
        refine b_ret (fn := Tryd.f14) (vs := [.bool true]) (aRes_tmp (by kernel_rfl) (rfl)) ?_
        obtain rfl := Option.some.inj r223
        exact ⟨rfl, (FrS.step wf (((FrS.step wf (FrS.step wf ((FrS.refl (W := []) wf).extR e4) e15 Inn.nil) e45 Inn.nil).extR e129).extR e154) e164 (hb155.fresh (ntr (ntr (ntr e4.next e15.next) e45.next) e129.next)))⟩

theorem c_search_nodes {H : AH} {hd_First : Value} {fp_First : Fp} {hd_To : Value} {fp_To : Fp} {hd_Weight : Value} {fp_Weight : Fp} {First : List (Int)} {To : List (Int)} {Weight : List (Int)} {r : Int}
  (wf : WF H) (h_First : Sq (encI .i64) 1 H hd_First First fp_First) (h_To : Sq (encI .i64) 1 H hd_To To fp_To) (h_Weight : Sq (encI .i64) 1 H hd_Weight Weight fp_Weight) (hr : z_search_nodes First To Weight = some r) :
  ACalls Tryd.prog 60 #[.agg #[hd_First, hd_To, hd_Weight]] H fun v H' => v = .int .i64 r ∧ FrS [] H H' := by
 refine acalls_of_body mixed Tryd.func60 rfl (Nat.le_of_ble_eq_true rfl) ?_
 unfold z_search_nodes at hr
 refine w_seqk fun K1 k1 => ?_
 refine w_reg (by kernel_rfl) ?_
 refine s_rwl wf [hd_First, hd_To, hd_Weight] (one_cons (h_First.one1) (one_cons (h_To.one1) (one_cons (h_Weight.one1) (one_nil)))) (by kernel_rfl) fun b2 H3 e4 hb5 r6 => ?_
 refine s_qk (.int .i64 0) (by kernel_rfl) ?_
 refine s_nil ?_
 refine k1 _ _ ?_
 refine w_seqk fun K8 k8 => ?_
 refine w_reg (by kernel_rfl) ?_
 refine s_qk (.pointer (some ⟨b2, 0, none⟩)) (by kernel_rfl) ?_
 refine s_ql (hd_First) (x := aLoad Tryd.prog 22 (.pointer (some ⟨b2, 0, none⟩)) H3) (by kernel_rfl) (r6.ld (by kernel_rfl)) ?_
 have u9 := (h_First.ext e4)
 refine s_ql (.int .i64 (First.length : Int)) (x := aLen Tryd.prog 22 hd_First H3) (by kernel_rfl) (u9.lenb (by kernel_rfl)) ?_
 obtain ⟨g10, r11⟩ := G_some hr
 refine s_w (((First.length : Int) - 1)) (k := .i64) (x := ((First.length : Int) - 1)) (by kernel_rfl) (wrap64 g10) ?_
 refine s_qk (.int .i64 ((First.length : Int) - 1)) (by kernel_rfl) ?_
 refine s_nil ?_
 refine k8 _ _ ?_
 refine w_ret ?_
 refine b_ret (fn := Tryd.f60) (vs := [.int .i64 ((First.length : Int) - 1)]) (aRes_tmp (by kernel_rfl) (rfl)) ?_
 obtain rfl := Option.some.inj r11
 exact ⟨rfl, ((FrS.refl (W := []) wf).extR e4)⟩

theorem c_search_node {H : AH} {hd_First : Value} {fp_First : Fp} {hd_To : Value} {fp_To : Fp} {hd_Weight : Value} {fp_Weight : Fp} {hd_list : Value} {fp_list : Fp} {First : List (Int)} {To : List (Int)} {Weight : List (Int)} {list : List (Int)} {r : Er}
  (wf : WF H) (h_First : Sq (encI .i64) 1 H hd_First First fp_First) (h_To : Sq (encI .i64) 1 H hd_To To fp_To) (h_Weight : Sq (encI .i64) 1 H hd_Weight Weight fp_Weight) (h_list : Sq (encI .i64) 1 H hd_list list fp_list) (hr : z_search_node First To Weight list = some r) :
  ACalls Tryd.prog 49 #[.agg #[hd_First, hd_To, hd_Weight], hd_list] H fun v H' => ∃ (v3 : Value) (f4 : Fp), v = v3 ∧ FrS [] H H' ∧ Ev 80 86 H' v3 r f4 ∧ Inn [] H f4 := by
 refine acalls_of_body mixed Tryd.func49 rfl (Nat.le_of_ble_eq_true rfl) ?_
 unfold z_search_node at hr
 refine w_seqk fun K6 k6 => ?_
 refine w_reg (by kernel_rfl) ?_
 refine s_rwl wf [hd_First, hd_To, hd_Weight] (one_cons (h_First.one1) (one_cons (h_To.one1) (one_cons (h_Weight.one1) (one_nil)))) (by kernel_rfl) fun b7 H8 e9 hb10 r11 => ?_
 refine s_qk (.nilIface) (by kernel_rfl) ?_
 refine s_nil ?_
 refine k6 _ _ ?_
 refine w_seqk fun K13 k13 => ?_
 refine w_seqk fun K14 k14 => ?_
 refine w_reg (by kernel_rfl) ?_
 refine s_ql (.agg #[hd_First, hd_To, hd_Weight]) (x := aLoad Tryd.prog 40 (.pointer (some ⟨b7, 0, none⟩)) H8) (by kernel_rfl) (r11.ld (by kernel_rfl)) ?_
 have u15 := (h_First.ext e9)
 have u16 := (h_To.ext e9)
 have u17 := (h_Weight.ext e9)
 obtain ⟨y18, hy19, r20⟩ := bind_some hr
 refine s_ck 59 #[.agg #[hd_First, hd_To, hd_Weight]] (by kernel_rfl) (c_csr_Check e9.wf u15 u16 u17 hy19) ?_
 rintro v21 H23 ⟨_, f22, rfl, e24, m25, i26⟩
 refine s_qk (v21) (by kernel_rfl) ?_
 refine s_nil ?_
 refine k14 _ _ ?_
 refine w_seqk fun K28 k28 => ?_
 refine w_reg (by kernel_rfl) ?_
 refine s_qk (v21) (by kernel_rfl) ?_
 rcases (m25).cases with ⟨h29, rfl⟩ | ⟨h29, t30, x31, rfl⟩
 ·have r32 := ite_t h29 r20
  refine s_qk (.bool false) (by kernel_rfl) ?_
  refine s_nil ?_
  refine k28 _ _ ?_
  refine w_cond false (by kernel_rfl) rfl (fun h => by cases h) (fun _ => ?_)
  refine w_skip ?_
  refine k13 _ _ ?_
  refine w_seqk fun K33 k33 => ?_
  refine w_seqk fun K34 k34 => ?_
  refine w_reg (by kernel_rfl) ?_
  refine s_qk (hd_list) (by kernel_rfl) ?_
  have u35 := ((h_list.ext e9).fr e24 Dj.nil_l)
  refine s_ql (.int .i64 (list.length : Int)) (x := aLen Tryd.prog 22 hd_list H23) (by kernel_rfl) (u35.lenb (by kernel_rfl)) ?_
  refine s_qk (.int .i64 0) (by kernel_rfl) ?_
  refine s_nil ?_
  refine k34 _ _ ?_
  obtain ⟨z39, hx37, r38⟩ := bind_some r32
  refine w_mid (fun α H40 => ∃ o36, z39 = Sum.inr o36 ∧ Has α [] ∧ FrS [] H23 H40) (fun K42 k42 => ?_) (fun α H40 hM => ?_)
  ·refine w_block ?_
   obtain ⟨n44, hn45⟩ := loopO_iff.1 hx37
   refine w_loopn (fun n α H46 => ∃ (i0 : Int), iterO (fun zz_ => z_search_node_l0 First To Weight list zz_) n i0 = some z39 ∧ Has α [(2, .pointer (some ⟨b7, 0, none⟩)), (13, hd_list), (14, .int .i64 (list.length : Int)), (15, .int .i64 i0)] ∧ FrS [] H23 H46) n44 ⟨0, hn45, ⟨by kernel_rfl, by kernel_rfl, by kernel_rfl, by kernel_rfl, trivial⟩, (FrS.refl (W := []) e24.wf)⟩ ?_
   rintro n44 α H46 ⟨i0, hi49, hh48, e47⟩ K54 k54
   obtain ⟨n50, z51, rfl, hz52, hn53⟩ := iter_succ hi49
   obtain ⟨β, rfl⟩ := has_ex hh48
   clear hh48
   replace hz52 : z_search_node_l0 First To Weight list i0 = some z51 := hz52
   unfold z_search_node_l0 at hz52
   refine w_seqk fun K55 k55 => ?_
   refine w_reg (by kernel_rfl) ?_
   refine s_qk (.bool (decide (i0 < (list.length : Int)))) (by kernel_rfl) ?_
   refine s_nil ?_
   refine k55 _ _ ?_
   refine w_seqk fun K56 k56 => ?_
   refine w_condp (i0 < (list.length : Int)) (by kernel_rfl) rfl (fun h57 => ?_) (fun h57 => ?_)
   ·have r58 := ite_t h57 hz52
    refine w_skip ?_
    refine k56 _ _ ?_
    refine w_seqk fun K59 k59 => ?_
    refine w_block ?_
    refine w_seqk fun K60 k60 => ?_
    refine w_reg (by kernel_rfl) ?_
    obtain ⟨g61, r62⟩ := G_some r58
    have u63 := (u35.fr e47 Dj.nil_l)
    refine s_ql (elp hd_list 1 i0.toNat 0) (x := aIndexAddr Tryd.prog 22 hd_list (.int .i64 i0)) (by kernel_rfl) (u63.idxb (by kernel_rfl) g61 h57) ?_
    refine s_ql (.int .i64 (gt list i0)) (x := aLoad Tryd.prog 3 (elp hd_list 1 i0.toNat 0) H46) (by kernel_rfl) (u63.ld g61 h57 (by kernel_rfl)) ?_
    refine s_qk (.int .i64 (gt list i0)) (by kernel_rfl) ?_
    refine s_nil ?_
    refine k60 _ _ ?_
    refine w_seqk fun K64 k64 => ?_
    refine w_reg (by kernel_rfl) ?_
    refine s_qk (.int .i64 (gt list i0)) (by kernel_rfl) ?_
    refine s_b ((gt list i0) < 0) (by kernel_rfl) (fun h65 => ?_) (fun h65 => ?_)
    ·have r66 := ite_t h65 r62
     refine s_qk (.bool true) (by kernel_rfl) ?_
     refine s_no (by kernel_rfl) ?_
     refine s_no (by kernel_rfl) ?_
     refine s_no (by kernel_rfl) ?_
     refine s_no (by kernel_rfl) ?_
     refine s_qk (.bool true) (by kernel_rfl) ?_
     refine s_nil ?_
     refine k64 _ _ ?_
     refine w_cond true (by kernel_rfl) rfl (fun _ => ?_) (fun h => by cases h)
     refine w_seqk fun K67 k67 => ?_
     refine w_reg (by kernel_rfl) ?_
     refine s_qk (.iface 80 (.int .i64 7)) (by kernel_rfl) ?_
     refine s_qk (.iface 80 (.int .i64 7)) (by kernel_rfl) ?_
     refine s_nil ?_
     refine k67 _ _ ?_
     refine w_ret (bl_ret (th_ret (th_ret (bl_ret (th_ret (th_ret ?_))))))
     obtain ⟨v68, hv69, hz70⟩ := map_some r66
     subst hz70
     obtain rfl := it_inr hn53
     have hq71 := elim_inl r38
     rw [hq71] at hv69
     refine b_ret (fn := Tryd.f49) (vs := [.iface 80 (.int .i64 7)]) (aRes_tmp (by kernel_rfl) (rfl)) ?_
     obtain rfl := Option.some.inj hv69
     exact ⟨(.iface 80 (.int .i64 7)), [], rfl, (FrS.step wf (FrS.step wf ((FrS.refl (W := []) wf).extR e9) e24 Inn.nil) e47 Inn.nil), Ev.no, Inn.nil⟩
    ·have r72 := ite_f h65 r62
     refine s_qk (.bool false) (by kernel_rfl) ?_
     refine s_qk (.int .i64 (gt list i0)) (by kernel_rfl) ?_
     have u73 := ((r11.frS e24 Dj.nil_l).frS e47 Dj.nil_l)
     refine s_ql (.agg #[hd_First, hd_To, hd_Weight]) (x := aLoad Tryd.prog 40 (.pointer (some ⟨b7, 0, none⟩)) H46) (by kernel_rfl) (u73.ld (by kernel_rfl)) ?_
     have u74 := ((u15.fr e24 Dj.nil_l).fr e47 Dj.nil_l)
     have u75 := ((u16.fr e24 Dj.nil_l).fr e47 Dj.nil_l)
     have u76 := ((u17.fr e24 Dj.nil_l).fr e47 Dj.nil_l)
     obtain ⟨y77, hy78, r79⟩ := bind_some r72
     refine s_ck 60 #[.agg #[hd_First, hd_To, hd_Weight]] (by kernel_rfl) (c_search_nodes e47.wf u74 u75 u76 hy78) ?_
     rintro _ H80 ⟨rfl, e81⟩
     refine s_qk (.bool (decide ((gt list i0) ≥ y77))) (by kernel_rfl) ?_
     refine s_qk (.bool (decide ((gt list i0) ≥ y77))) (by kernel_rfl) ?_
     refine s_nil ?_
     refine k64 _ _ ?_
     refine w_condp ((gt list i0) ≥ y77) (by kernel_rfl) rfl (fun h82 => ?_) (fun h82 => ?_)
     ·have r83 := ite_t h82 r79
      refine w_seqk fun K84 k84 => ?_
      refine w_reg (by kernel_rfl) ?_
      refine s_qk (.iface 80 (.int .i64 7)) (by kernel_rfl) ?_
      refine s_qk (.iface 80 (.int .i64 7)) (by kernel_rfl) ?_
      refine s_nil ?_
      refine k84 _ _ ?_
      refine w_ret (bl_ret (th_ret (th_ret (bl_ret (th_ret (th_ret ?_))))))
      obtain ⟨v85, hv86, hz87⟩ := map_some r83
      subst hz87
      obtain rfl := it_inr hn53
      have hq88 := elim_inl r38
      rw [hq88] at hv86
      refine b_ret (fn := Tryd.f49) (vs := [.iface 80 (.int .i64 7)]) (aRes_tmp (by kernel_rfl) (rfl)) ?_
      obtain rfl := Option.some.inj hv86
      exact ⟨(.iface 80 (.int .i64 7)), [], rfl, (FrS.step wf (FrS.step wf (FrS.step wf ((FrS.refl (W := []) wf).extR e9) e24 Inn.nil) e47 Inn.nil) e81 Inn.nil), Ev.no, Inn.nil⟩
     ·have r89 := ite_f h82 r79
      refine w_skip ?_
      refine k59 _ _ ?_
      refine w_reg (by kernel_rfl) ?_
      obtain ⟨g90, r91⟩ := G_some r89
      refine s_w ((i0 + 1)) (k := .i64) (x := (i0 + 1)) (by kernel_rfl) (wrap64 (by have := g90; omega)) ?_
      refine s_qk (.int .i64 (i0 + 1)) (by kernel_rfl) ?_
      refine s_nil ?_
      obtain rfl := Option.some.inj r91
      exact k54 n50 _ _ (Nat.lt_succ_self _) ⟨(i0 + 1), hn53, ⟨by kernel_rfl, by kernel_rfl, by kernel_rfl, by kernel_rfl, trivial⟩, (FrS.step e24.wf (FrS.step e24.wf (FrS.refl (W := []) e24.wf) e47 Inn.nil) e81 Inn.nil)⟩
   ·have r92 := ite_f h57 hz52
    refine w_exit (th_exit (th_exit (bl_eq ?_)))
    obtain rfl := Option.some.inj r92
    obtain rfl := it_inr hn53
    exact k42 _ _ ⟨_, rfl, trivial, (FrS.step e24.wf (FrS.refl (W := []) e24.wf) e47 Inn.nil)⟩
  ·obtain ⟨o36, rfl, hh43, e41⟩ := hM
   have r93 := elim_inr r38
   obtain ⟨β, rfl⟩ := has_ex hh43
   clear hh43
   refine k33 _ _ ?_
   refine w_seqk fun K94 k94 => ?_
   refine w_reg (by kernel_rfl) ?_
   refine s_qk (.nilIface) (by kernel_rfl) ?_
   refine s_nil ?_
   refine k94 _ _ ?_
   refine w_ret ?_
   refine b_ret (fn := Tryd.f49) (vs := [.nilIface]) (aRes_tmp (by kernel_rfl) (rfl)) ?_
   obtain rfl := Option.some.inj r93
   exact ⟨(.nilIface), [], rfl, (FrS.step wf (FrS.step wf ((FrS.refl (W := []) wf).extR e9) e24 Inn.nil) e41 Inn.nil), Ev.nil, Inn.nil⟩
 ·have r95 := ite_f h29 r20
  refine s_ql (.bool true) (x := aBin Tryd.prog .neq 25 (.tmp 10) (.const .nilIface) (.iface t30 x31) .nilIface) (by kernel_rfl) (aBin_nnil (by kernel_rfl)) ?_
  refine s_nil ?_
  refine k28 _ _ ?_
  refine w_cond true (by kernel_rfl) rfl (fun _ => ?_) (fun h => by cases h)
  refine w_seqk fun K96 k96 => ?_
  refine w_reg (by kernel_rfl) ?_
  refine s_qk (.iface t30 x31) (by kernel_rfl) ?_
  refine s_qk (.iface t30 x31) (by kernel_rfl) ?_
  refine s_nil ?_
  refine k96 _ _ ?_
  refine w_ret (th_ret ?_)
  refine b_ret (fn := Tryd.f49) (vs := [.iface t30 x31]) (aRes_tmp (by kernel_rfl) (rfl)) ?_
  obtain rfl := Option.some.inj r95
  exact ⟨(.iface t30 x31), f22, rfl, (FrS.step wf ((FrS.refl (W := []) wf).extR e9) e24 Inn.nil), m25, (i26.fresh e9.next)⟩

theorem c_search_free {H : AH} {r : Unit}
  (wf : WF H) (hr : z_search_free = some r) :
  ACalls Tryd.prog 51 #[] H fun v H' => v = .agg #[.int .i64 4611686018427387904, .int .i64 4611686018427387904, .int .u64 18446744073709551615] ∧ FrS [] H H' := by
 refine acalls_of_body mixed Tryd.func51 rfl (Nat.le_of_ble_eq_true rfl) ?_
 unfold z_search_free at hr
 refine w_seqk fun K1 k1 => ?_
 refine w_reg (by kernel_rfl) ?_
 refine s_rwk wf [.int .i64 0, .int .i64 0, .int .u64 0] (by kernel_rfl) fun b2 H3 e4 hb5 r6 => ?_
 refine s_nil ?_
 refine k1 _ _ ?_
 refine w_seqk fun K8 k8 => ?_
 refine w_reg (by kernel_rfl) ?_
 refine s_qk (.agg #[.int .i64 4611686018427387904, .int .i64 4611686018427387904, .int .u64 18446744073709551615]) (by kernel_rfl) ?_
 obtain ⟨H9, q10, e11, r12⟩ := Row.store (P := Tryd.prog) (t := 100) (p := 0) e4.wf r6 (.agg #[.int .i64 4611686018427387904, .int .i64 4611686018427387904, .int .u64 18446744073709551615]) [.int .i64 4611686018427387904, .int .i64 4611686018427387904, .int .u64 18446744073709551615] (by kernel_rfl) (by kernel_rfl) (one_cons (rfl) (one_cons (rfl) (one_cons (rfl) (one_nil)))) (Nat.le_of_ble_eq_true (by kernel_rfl)) [.int .i64 4611686018427387904, .int .i64 4611686018427387904, .int .u64 18446744073709551615] (by kernel_rfl)
 refine s_ek (undef) (by kernel_rfl) (map_ok q10) ?_
 refine s_nil ?_
 refine k8 _ _ ?_
 refine w_ret ?_
 refine b_ret (fn := Tryd.f51) (vs := [.agg #[.int .i64 4611686018427387904, .int .i64 4611686018427387904, .int .u64 18446744073709551615]]) (aRes_cell (Eq.trans (b := aLoad Tryd.prog 100 (.pointer (some ⟨b2, 0, none⟩)) H9) (by kernel_rfl) (r12.ld (by kernel_rfl))) (rfl)) ?_
 obtain rfl := Option.some.inj hr
 exact ⟨rfl, (FrS.step wf ((FrS.refl (W := []) wf).extR e4) e11 (hb5.fresh (Nat.le_refl _)))⟩

theorem c_heap_New {H : AH} {n_ : Int} {r : (Unit) ⊕ (List (Int))}
  (wf : WF H) (hr : z_heap_New n_ = some r) :
  ACalls Tryd.prog 75 #[.int .i64 n_] H fun v H' => Sum.elim (fun (r : Unit) => v = .tuple #[.pointer none, .iface 80 (.int .i64 1)] ∧ H = H') (fun (r : List (Int)) => ∃ (s3 : Value) (f4 : Fp) (b7 : Nat), v = .tuple #[.pointer (some ⟨b7, 0, none⟩), .nilIface] ∧ FrS [] H H' ∧ Ow (encI .i64) 1 H' s3 r f4 ∧ Row H' b7 [.slice none 0 0, s3] ∧ Inn [] H f4 ∧ Inn [] H [b7] ∧ Dj f4 [b7]) r := by
 refine acalls_of_body mixed Tryd.func75 rfl (Nat.le_of_ble_eq_true rfl) ?_
 unfold z_heap_New at hr
 refine w_seqk fun K11 k11 => ?_
 refine w_reg (by kernel_rfl) ?_
 refine s_qk (.pointer none) (by kernel_rfl) ?_
 refine s_qk (.nilIface) (by kernel_rfl) ?_
 refine s_nil ?_
 refine k11 _ _ ?_
 refine w_seqk fun K12 k12 => ?_
 refine w_seqk fun K13 k13 => ?_
 obtain ⟨o14, hx15, r16⟩ := bind_some hr
 refine w_mid (fun α H17 => Has α [(0, .int .i64 n_), (9, .bool o14)] ∧ H = H17) (fun K19 k19 => ?_) (fun α H17 hM => ?_)
 ·refine w_reg (by kernel_rfl) ?_
  refine s_qk (.int .i64 n_) (by kernel_rfl) ?_
  refine s_b (n_ < 0) (by kernel_rfl) (fun h21 => ?_) (fun h21 => ?_)
  ·have r22 := ite_t h21 hx15
   refine s_qk (.bool true) (by kernel_rfl) ?_
   refine s_no (by kernel_rfl) ?_
   refine s_no (by kernel_rfl) ?_
   refine s_qk (.bool true) (by kernel_rfl) ?_
   refine s_nil ?_
   obtain rfl := Option.some.inj r22
   exact k19 _ _ ⟨⟨by kernel_rfl, by kernel_rfl, trivial⟩, rfl⟩
  ·have r23 := ite_f h21 hx15
   refine s_qk (.bool false) (by kernel_rfl) ?_
   refine s_qk (.int .i64 n_) (by kernel_rfl) ?_
   refine s_qk (.bool (decide (n_ > 65536))) (by kernel_rfl) ?_
   refine s_qk (.bool (decide (n_ > 65536))) (by kernel_rfl) ?_
   refine s_nil ?_
   obtain rfl := Option.some.inj r23
   exact k19 _ _ ⟨⟨by kernel_rfl, by kernel_rfl, trivial⟩, rfl⟩
 ·obtain ⟨hh20, rfl⟩ := hM
  obtain ⟨β, rfl⟩ := has_ex hh20
  clear hh20
  refine k13 _ _ ?_
  refine w_cond (o14) (by kernel_rfl) rfl (fun h24 => ?_) (fun h24 => ?_)
  ·have r25 := ite_t h24 r16
   refine w_seqk fun K26 k26 => ?_
   refine w_reg (by kernel_rfl) ?_
   refine s_qk (.iface 80 (.int .i64 1)) (by kernel_rfl) ?_
   refine s_qk (.pointer none) (by kernel_rfl) ?_
   refine s_qk (.iface 80 (.int .i64 1)) (by kernel_rfl) ?_
   refine s_nil ?_
   refine k26 _ _ ?_
   refine w_ret (th_ret ?_)
   refine b_ret (fn := Tryd.f75) (vs := [.pointer none, .iface 80 (.int .i64 1)]) (aRes_tmp (by kernel_rfl) (aRes_tmp (by kernel_rfl) (rfl))) ?_
   obtain rfl := Option.some.inj r25
   exact (elimP_l ⟨rfl, rfl⟩)
  ·have r27 := ite_bf h24 r16
   refine w_skip ?_
   refine k12 _ _ ?_
   refine w_seqk fun K28 k28 => ?_
   refine w_reg (by kernel_rfl) ?_
   refine s_qk (.int .i64 n_) (by kernel_rfl) ?_
   obtain ⟨g29, r30⟩ := G_some r27
   refine s_mks (t := 22) (m := 8) (l := n_) (c := n_) (enc := (encI .i64)) (sz := 1) wf (0 : Int) (by kernel_rfl) (by decide) g29.1 (Int.le_refl _) (by omega) (by have := g29; omega) (by kernel_rfl) fun s31 f32 H33 e34 hf35 hm36 => ?_
   obtain ⟨a37, n38, c39, rfl⟩ := hm36.form
   have hm36 : Ow (encI .i64) 1 H33 (.slice a37 n38 c39) (List.replicate n_.toNat (0 : Int)) f32 := hm36
   refine s_qk (.agg #[.slice none 0 0, .slice a37 n38 c39]) (by kernel_rfl) ?_
   refine s_rwl e34.wf [.slice none 0 0, .slice a37 n38 c39] (one_cons (rfl) (one_cons (hm36.one1) (one_nil))) (by kernel_rfl) fun b41 H42 e43 hb44 r45 => ?_
   refine s_qk (.pointer (some ⟨b41, 0, none⟩)) (by kernel_rfl) ?_
   refine s_qk (.nilIface) (by kernel_rfl) ?_
   refine s_nil ?_
   refine k28 _ _ ?_
   refine w_ret ?_
   refine b_ret (fn := Tryd.f75) (vs := [.pointer (some ⟨b41, 0, none⟩), .nilIface]) (aRes_tmp (by kernel_rfl) (aRes_tmp (by kernel_rfl) (rfl))) ?_
   have u47 := (hm36.ext e43)
   obtain rfl := Option.some.inj r30
   exact (elimP_r ⟨(.slice a37 n38 c39), f32, b41, rfl, (((FrS.refl (W := []) wf).extR e34).extR e43), u47, r45, (hf35.fresh (Nat.le_refl _)), (hb44.fresh e34.next), (Dj.symm (hb44.djn hm36.lt))⟩)

theorem c_stamp_New {H : AH} {n_ : Int} {age : Int} {r : (Unit) ⊕ (List (Int × Int) × Int)}
  (wf : WF H) (hr : z_stamp_New n_ age = some r) :
  ACalls Tryd.prog 76 #[.int .i64 n_, .int .u32 age] H fun v H' => Sum.elim (fun (r : Unit) => v = .tuple #[.pointer none, .iface 80 (.int .i64 1)] ∧ H = H') (fun (r : List (Int × Int) × Int) => ∃ (s3 : Value) (f4 : Fp) (b7 : Nat), v = .tuple #[.pointer (some ⟨b7, 0, none⟩), .nilIface] ∧ FrS [] H H' ∧ Ow enc_u64_u32 2 H' s3 r.1 f4 ∧ Row H' b7 [s3, .int .u32 r.2, .int .i64 0] ∧ Inn [] H f4 ∧ Inn [] H [b7] ∧ Dj f4 [b7]) r := by
 refine acalls_of_body mixed Tryd.func76 rfl (Nat.le_of_ble_eq_true rfl) ?_
 unfold z_stamp_New at hr
 refine w_seqk fun K11 k11 => ?_
 refine w_reg (by kernel_rfl) ?_
 refine s_qk (.pointer none) (by kernel_rfl) ?_
 refine s_qk (.nilIface) (by kernel_rfl) ?_
 refine s_nil ?_
 refine k11 _ _ ?_
 refine w_seqk fun K12 k12 => ?_
 refine w_seqk fun K13 k13 => ?_
 obtain ⟨o14, hx15, r16⟩ := bind_some hr
 refine w_mid (fun α H17 => Has α [(0, .int .i64 n_), (1, .int .u32 age), (11, .bool o14)] ∧ H = H17) (fun K19 k19 => ?_) (fun α H17 hM => ?_)
 ·refine w_reg (by kernel_rfl) ?_
  refine s_qk (.int .i64 n_) (by kernel_rfl) ?_
  refine s_b (n_ < 0) (by kernel_rfl) (fun h21 => ?_) (fun h21 => ?_)
  ·have r22 := ite_t h21 hx15
   refine s_qk (.bool true) (by kernel_rfl) ?_
   refine s_no (by kernel_rfl) ?_
   refine s_no (by kernel_rfl) ?_
   refine s_qk (.bool true) (by kernel_rfl) ?_
   refine s_nil ?_
   obtain rfl := Option.some.inj r22
   exact k19 _ _ ⟨⟨by kernel_rfl, by kernel_rfl, by kernel_rfl, trivial⟩, rfl⟩
  ·have r23 := ite_f h21 hx15
   refine s_qk (.bool false) (by kernel_rfl) ?_
   refine s_qk (.int .i64 n_) (by kernel_rfl) ?_
   refine s_qk (.bool (decide (n_ > 65536))) (by kernel_rfl) ?_
   refine s_qk (.bool (decide (n_ > 65536))) (by kernel_rfl) ?_
   refine s_nil ?_
   obtain rfl := Option.some.inj r23
   exact k19 _ _ ⟨⟨by kernel_rfl, by kernel_rfl, by kernel_rfl, trivial⟩, rfl⟩
 ·obtain ⟨hh20, rfl⟩ := hM
  obtain ⟨β, rfl⟩ := has_ex hh20
  clear hh20
  refine k13 _ _ ?_
  refine w_cond (o14) (by kernel_rfl) rfl (fun h24 => ?_) (fun h24 => ?_)
  ·have r25 := ite_t h24 r16
   refine w_seqk fun K26 k26 => ?_
   refine w_reg (by kernel_rfl) ?_
   refine s_qk (.iface 80 (.int .i64 1)) (by kernel_rfl) ?_
   refine s_qk (.pointer none) (by kernel_rfl) ?_
   refine s_qk (.iface 80 (.int .i64 1)) (by kernel_rfl) ?_
   refine s_nil ?_
   refine k26 _ _ ?_
   refine w_ret (th_ret ?_)
   refine b_ret (fn := Tryd.f76) (vs := [.pointer none, .iface 80 (.int .i64 1)]) (aRes_tmp (by kernel_rfl) (aRes_tmp (by kernel_rfl) (rfl))) ?_
   obtain rfl := Option.some.inj r25
   exact (elimP_l ⟨rfl, rfl⟩)
  ·have r27 := ite_bf h24 r16
   refine w_skip ?_
   refine k12 _ _ ?_
   refine w_seqk fun K28 k28 => ?_
   refine w_reg (by kernel_rfl) ?_
   refine s_qk (.int .i64 n_) (by kernel_rfl) ?_
   obtain ⟨g29, r30⟩ := G_some r27
   refine s_mks (t := 165) (m := 16) (l := n_) (c := n_) (enc := enc_u64_u32) (sz := 2) wf (0, 0) (by kernel_rfl) (by decide) g29.1 (Int.le_refl _) (by omega) (by have := g29; omega) (by kernel_rfl) fun s31 f32 H33 e34 hf35 hm36 => ?_
   obtain ⟨a37, n38, c39, rfl⟩ := hm36.form
   have hm36 : Ow enc_u64_u32 2 H33 (.slice a37 n38 c39) (List.replicate n_.toNat (0, 0)) f32 := hm36
   refine s_qk (.int .u32 age) (by kernel_rfl) ?_
   refine s_ql (.int .u32 (max age 1)) (x := aMax Tryd.prog [.int .u32 age, .int .u32 1]) (by kernel_rfl) (aMax_two _ _) ?_
   refine s_qk (.agg #[.slice a37 n38 c39, .int .u32 (max age 1), .int .i64 0]) (by kernel_rfl) ?_
   refine s_rwl e34.wf [.slice a37 n38 c39, .int .u32 (max age 1), .int .i64 0] (one_cons (hm36.one1) (one_cons (rfl) (one_cons (rfl) (one_nil)))) (by kernel_rfl) fun b41 H42 e43 hb44 r45 => ?_
   refine s_qk (.pointer (some ⟨b41, 0, none⟩)) (by kernel_rfl) ?_
   refine s_qk (.nilIface) (by kernel_rfl) ?_
   refine s_nil ?_
   refine k28 _ _ ?_
   refine w_ret ?_
   refine b_ret (fn := Tryd.f76) (vs := [.pointer (some ⟨b41, 0, none⟩), .nilIface]) (aRes_tmp (by kernel_rfl) (aRes_tmp (by kernel_rfl) (rfl))) ?_
   have u47 := (hm36.ext e43)
   obtain rfl := Option.some.inj r30
   exact (elimP_r ⟨(.slice a37 n38 c39), f32, b41, rfl, (((FrS.refl (W := []) wf).extR e34).extR e43), u47, r45, (hf35.fresh (Nat.le_refl _)), (hb44.fresh e34.next), (Dj.symm (hb44.djn hm36.lt))⟩)

theorem c_stamp_Stamp_Set {H : AH} {i : Int} {v_ : Int} {r : Unit}
  (wf : WF H) (hr : z_stamp_Stamp_Set i v_ = some r) :
  ACalls Tryd.prog 89 #[.pointer none, .int .i64 i, .int .u64 v_] H fun v H' => v = .iface 80 (.int .i64 19) ∧ H = H' := by
 refine acalls_of_body mixed Tryd.func89 rfl (Nat.le_of_ble_eq_true rfl) ?_
 unfold z_stamp_Stamp_Set at hr
 refine w_seqk fun K1 k1 => ?_
 refine w_reg (by kernel_rfl) ?_
 refine s_qk (.nilIface) (by kernel_rfl) ?_
 refine s_nil ?_
 refine k1 _ _ ?_
 refine w_seqk fun K2 k2 => ?_
 refine w_seqk fun K3 k3 => ?_
 refine w_reg (by kernel_rfl) ?_
 refine s_qk (.pointer none) (by kernel_rfl) ?_
 refine s_qk (.bool true) (by kernel_rfl) ?_
 refine s_nil ?_
 refine k3 _ _ ?_
 refine w_cond true (by kernel_rfl) rfl (fun _ => ?_) (fun h => by cases h)
 refine w_seqk fun K4 k4 => ?_
 refine w_reg (by kernel_rfl) ?_
 refine s_qk (.iface 80 (.int .i64 19)) (by kernel_rfl) ?_
 refine s_qk (.iface 80 (.int .i64 19)) (by kernel_rfl) ?_
 refine s_nil ?_
 refine k4 _ _ ?_
 refine w_ret (th_ret ?_)
 refine b_ret (fn := Tryd.f89) (vs := [.iface 80 (.int .i64 19)]) (aRes_tmp (by kernel_rfl) (rfl)) ?_
 obtain rfl := Option.some.inj hr
 exact ⟨rfl, rfl⟩

theorem c_heap_Heap_check {H : AH} {id : Int} {r : Unit}
  (wf : WF H) (hr : z_heap_Heap_check id = some r) :
  ACalls Tryd.prog 94 #[.pointer none, .int .u32 id] H fun v H' => v = .iface 80 (.int .i64 19) ∧ H = H' := by
 refine acalls_of_body mixed Tryd.func94 rfl (Nat.le_of_ble_eq_true rfl) ?_
 unfold z_heap_Heap_check at hr
 refine w_seqk fun K1 k1 => ?_
 refine w_reg (by kernel_rfl) ?_
 refine s_qk (.nilIface) (by kernel_rfl) ?_
 refine s_nil ?_
 refine k1 _ _ ?_
 refine w_seqk fun K2 k2 => ?_
 refine w_seqk fun K3 k3 => ?_
 refine w_reg (by kernel_rfl) ?_
 refine s_qk (.pointer none) (by kernel_rfl) ?_
 refine s_qk (.bool true) (by kernel_rfl) ?_
 refine s_nil ?_
 refine k3 _ _ ?_
 refine w_cond true (by kernel_rfl) rfl (fun _ => ?_) (fun h => by cases h)
 refine w_seqk fun K4 k4 => ?_
 refine w_reg (by kernel_rfl) ?_
 refine s_qk (.iface 80 (.int .i64 19)) (by kernel_rfl) ?_
 refine s_qk (.iface 80 (.int .i64 19)) (by kernel_rfl) ?_
 refine s_nil ?_
 refine k4 _ _ ?_
 refine w_ret (th_ret ?_)
 refine b_ret (fn := Tryd.f94) (vs := [.iface 80 (.int .i64 19)]) (aRes_tmp (by kernel_rfl) (rfl)) ?_
 obtain rfl := Option.some.inj hr
 exact ⟨rfl, rfl⟩

theorem c_heap_Heap_Set {H : AH} {id : Int} {key : Int} {r : Unit}
  (wf : WF H) (hr : z_heap_Heap_Set id key = some r) :
  ACalls Tryd.prog 90 #[.pointer none, .int .u32 id, .int .u64 key] H fun v H' => v = .iface 80 (.int .i64 19) ∧ H = H' := by
 refine acalls_of_body mixed Tryd.func90 rfl (Nat.le_of_ble_eq_true rfl) ?_
 unfold z_heap_Heap_Set at hr
 refine w_seqk fun K1 k1 => ?_
 refine w_reg (by kernel_rfl) ?_
 refine s_qk (.nilIface) (by kernel_rfl) ?_
 refine s_nil ?_
 refine k1 _ _ ?_
 refine w_seqk fun K2 k2 => ?_
 refine w_seqk fun K3 k3 => ?_
 refine w_reg (by kernel_rfl) ?_
 refine s_qk (.pointer none) (by kernel_rfl) ?_
 refine s_qk (.int .u32 id) (by kernel_rfl) ?_
 obtain ⟨y4, hy5, r6⟩ := bind_some hr
 refine s_ck 94 #[.pointer none, .int .u32 id] (by kernel_rfl) (c_heap_Heap_check wf hy5) ?_
 rintro _ _ ⟨rfl, rfl⟩
 refine s_qk (.iface 80 (.int .i64 19)) (by kernel_rfl) ?_
 refine s_nil ?_
 refine k3 _ _ ?_
 refine w_seqk fun K9 k9 => ?_
 refine w_reg (by kernel_rfl) ?_
 refine s_qk (.iface 80 (.int .i64 19)) (by kernel_rfl) ?_
 refine s_ql (.bool true) (x := aBin Tryd.prog .neq 25 (.tmp 12) (.const .nilIface) (.iface 80 (.int .i64 19)) .nilIface) (by kernel_rfl) (aBin_nnil (by kernel_rfl)) ?_
 refine s_nil ?_
 refine k9 _ _ ?_
 refine w_cond true (by kernel_rfl) rfl (fun _ => ?_) (fun h => by cases h)
 refine w_seqk fun K10 k10 => ?_
 refine w_reg (by kernel_rfl) ?_
 refine s_qk (.iface 80 (.int .i64 19)) (by kernel_rfl) ?_
 refine s_qk (.iface 80 (.int .i64 19)) (by kernel_rfl) ?_
 refine s_nil ?_
 refine k10 _ _ ?_
 refine w_ret (th_ret ?_)
 refine b_ret (fn := Tryd.f90) (vs := [.iface 80 (.int .i64 19)]) (aRes_tmp (by kernel_rfl) (rfl)) ?_
 obtain rfl := Option.some.inj r6
 exact ⟨rfl, rfl⟩

theorem c_search_state_label {H : AH} {b_st : Nat} {hd_st_ : Value} {fp_st_ : Fp} {hd_st_2 : Value} {fp_st_2 : Fp} {hd_st_3 : Value} {fp_st_3 : Fp} {hd_st_4 : Value} {fp_st_4 : Fp} {hd_st_5 : Value} {fp_st_5 : Fp} {st_ : List (Int)} {st_2 : List (Int)} {st_3 : List (Int)} {st_4 : List (Int)} {st_5 : List (Bool)} {v_ : Int} {d : Int} {hops : Int} {r : List (Int)}
  (wf : WF H) (h_st_ : Sq (encI .i64) 1 H hd_st_ st_ fp_st_) (h_st_2 : Sq (encI .i64) 1 H hd_st_2 st_2 fp_st_2) (h_st_3 : Sq (encI .i64) 1 H hd_st_3 st_3 fp_st_3) (h_st_4 : Ow (encI .i64) 1 H hd_st_4 st_4 fp_st_4) (h_st_5 : Sq encB 1 H hd_st_5 st_5 fp_st_5) (h_st : Row H b_st [hd_st_, hd_st_2, hd_st_3, .pointer none, .pointer none, hd_st_4, hd_st_5]) (dj_fp_st_4_b_st : Dj fp_st_4 [b_st]) (hr : z_search_state_label st_ st_2 st_3 st_4 st_5 v_ d hops = some r) :
  ACalls Tryd.prog 77 #[.pointer (some ⟨b_st, 0, none⟩), .int .i64 v_, .int .u64 d, .int .i64 hops] H fun v H' => v = .tuple #[] ∧ FrS fp_st_4 H H' ∧ Ow (encI .i64) 1 H' hd_st_4 r fp_st_4 := by
 refine acalls_of_body mixed Tryd.func77 rfl (Nat.le_of_ble_eq_true rfl) ?_
 unfold z_search_state_label at hr
 refine w_seqk fun K3 k3 => ?_
 refine w_reg (by kernel_rfl) ?_
 refine s_qk (.pointer (some ⟨b_st, 0, none⟩)) (by kernel_rfl) ?_
 refine s_qk (.pointer (some ⟨b_st, 0, none⟩)) (by kernel_rfl) ?_
 refine s_qk (.pointer (some ⟨b_st, 4, none⟩)) (by kernel_rfl) ?_
 refine s_ql (.pointer none) (x := aLoad Tryd.prog 103 (.pointer (some ⟨b_st, 4, none⟩)) H) (by kernel_rfl) (h_st.ld (by kernel_rfl)) ?_
 refine s_qk (.int .i64 v_) (by kernel_rfl) ?_
 refine s_qk (.int .u64 d) (by kernel_rfl) ?_
 obtain ⟨y4, hy5, r6⟩ := bind_some hr
 refine s_ck 89 #[.pointer none, .int .i64 v_, .int .u64 d] (by kernel_rfl) (c_stamp_Stamp_Set wf hy5) ?_
 rintro _ _ ⟨rfl, rfl⟩
 refine s_nil ?_
 refine k3 _ _ ?_
 refine w_seqk fun K9 k9 => ?_
 refine w_reg (by kernel_rfl) ?_
 refine s_qk (.pointer (some ⟨b_st, 0, none⟩)) (by kernel_rfl) ?_
 refine s_qk (.pointer (some ⟨b_st, 0, none⟩)) (by kernel_rfl) ?_
 refine s_qk (.pointer (some ⟨b_st, 5, none⟩)) (by kernel_rfl) ?_
 refine s_ql (hd_st_4) (x := aLoad Tryd.prog 22 (.pointer (some ⟨b_st, 5, none⟩)) H) (by kernel_rfl) (h_st.ld (by kernel_rfl)) ?_
 refine s_qk (.int .i64 v_) (by kernel_rfl) ?_
 refine s_qk (.int .i64 hops) (by kernel_rfl) ?_
 obtain ⟨g10, r11⟩ := G_some r6
 refine s_ql (elp hd_st_4 1 v_.toNat 0) (x := aIndexAddr Tryd.prog 22 hd_st_4 (.int .i64 v_)) (by kernel_rfl) (h_st_4.sq.idxb (by kernel_rfl) g10.1 g10.2) ?_
 obtain ⟨H12, q13, e14, hm15⟩ := Ow.store (P := Tryd.prog) (t := 3) (off := 0) wf h_st_4 g10.1 g10.2 (.int .i64 hops) [.int .i64 hops] (by kernel_rfl) (by kernel_rfl) rfl hops (Nat.le_of_ble_eq_true rfl) (by kernel_rfl)
 refine s_ek (undef) (by kernel_rfl) (map_ok q13) ?_
 refine s_nil ?_
 refine k9 _ _ ?_
 refine w_reg (by kernel_rfl) ?_
 refine s_qk (.pointer (some ⟨b_st, 0, none⟩)) (by kernel_rfl) ?_
 refine s_qk (.pointer (some ⟨b_st, 0, none⟩)) (by kernel_rfl) ?_
 refine s_qk (.pointer (some ⟨b_st, 3, none⟩)) (by kernel_rfl) ?_
 have u16 := (h_st.frS e14 dj_fp_st_4_b_st)
 refine s_ql (.pointer none) (x := aLoad Tryd.prog 102 (.pointer (some ⟨b_st, 3, none⟩)) H12) (by kernel_rfl) (u16.ld (by kernel_rfl)) ?_
 refine s_qk (.int .i64 v_) (by kernel_rfl) ?_
 obtain ⟨g17, r18⟩ := G_some r11
 refine s_w (v_) (k := .u32) (x := v_) (by kernel_rfl) (wrapu32 (by have := g17; omega)) ?_
 refine s_qk (.int .u64 d) (by kernel_rfl) ?_
 obtain ⟨y19, hy20, r21⟩ := bind_some r18
 refine s_ck 90 #[.pointer none, .int .u32 v_, .int .u64 d] (by kernel_rfl) (c_heap_Heap_Set e14.wf hy20) ?_
 rintro _ _ ⟨rfl, rfl⟩
 refine s_nil ?_
 refine b_nrm (fn := Tryd.f77) (vs := []) (rfl) ?_
 obtain rfl := Option.some.inj r21
 exact ⟨rfl, (FrS.step wf (FrS.refl (W := fp_st_4) wf) e14 Inn.refl'), hm15⟩

theorem c_heap_Heap_Top {H : AH} {r : Unit}
  (wf : WF H) (hr : z_heap_Heap_Top = some r) :
  ACalls Tryd.prog 78 #[.pointer none] H fun v H' => v = .tuple #[.int .u32 0, .int .u64 0, .bool false] ∧ H = H' := by
 refine acalls_of_body mixed Tryd.func78 rfl (Nat.le_of_ble_eq_true rfl) ?_
 unfold z_heap_Heap_Top at hr
 refine w_seqk fun K1 k1 => ?_
 refine w_reg (by kernel_rfl) ?_
 refine s_qk (.int .u32 0) (by kernel_rfl) ?_
 refine s_qk (.int .u64 0) (by kernel_rfl) ?_
 refine s_qk (.bool false) (by kernel_rfl) ?_
 refine s_nil ?_
 refine k1 _ _ ?_
 refine w_seqk fun K2 k2 => ?_
 refine w_seqk fun K3 k3 => ?_
 refine w_reg (by kernel_rfl) ?_
 refine s_qk (.pointer none) (by kernel_rfl) ?_
 refine s_qk (.bool true) (by kernel_rfl) ?_
 refine s_qk (.bool true) (by kernel_rfl) ?_
 refine s_no (by kernel_rfl) ?_
 refine s_no (by kernel_rfl) ?_
 refine s_no (by kernel_rfl) ?_
 refine s_no (by kernel_rfl) ?_
 refine s_no (by kernel_rfl) ?_
 refine s_no (by kernel_rfl) ?_
 refine s_qk (.bool true) (by kernel_rfl) ?_
 refine s_nil ?_
 refine k3 _ _ ?_
 refine w_cond true (by kernel_rfl) rfl (fun _ => ?_) (fun h => by cases h)
 refine w_seqk fun K4 k4 => ?_
 refine w_reg (by kernel_rfl) ?_
 refine s_qk (.int .u32 0) (by kernel_rfl) ?_
 refine s_qk (.int .u64 0) (by kernel_rfl) ?_
 refine s_qk (.bool false) (by kernel_rfl) ?_
 refine s_nil ?_
 refine k4 _ _ ?_
 refine w_ret (th_ret ?_)
 refine b_ret (fn := Tryd.f78) (vs := [.int .u32 0, .int .u64 0, .bool false]) (aRes_tmp (by kernel_rfl) (aRes_tmp (by kernel_rfl) (aRes_tmp (by kernel_rfl) (rfl)))) ?_
 obtain rfl := Option.some.inj hr
 exact ⟨rfl, rfl⟩


end Go.Vd
