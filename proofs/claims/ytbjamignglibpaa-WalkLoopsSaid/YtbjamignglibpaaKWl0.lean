/- The walks of the functions (printed by a program of ours). -/
import Derived.Test.YtbjamignglibpaaVeC
import Derived.Test.YtbjamignglibpaaIWl
set_option maxRecDepth 100000
set_option maxHeartbeats 4000000
set_option linter.unusedVariables false
namespace Go.Vd
attribute [local irreducible] wpSeq wpOrd aWp
theorem c_viaductlaw09_awake_ev : evB Go.Proofs.Try.prog 100000 8 #[] = some true := by kernel_rfl
theorem c_viaductlaw09_awake {H : AH} : ACalls Go.Proofs.Try.prog 8 #[] H fun v H' => H = H' ∧ v = .bool true :=
  (acalls_evB mixed c_viaductlaw09_awake_ev rfl H).mono fun _ _ ⟨a, b⟩ => ⟨b.symm, a⟩

theorem c_viaductref01_E {H : AH} {n_ : Int} {r : Int}
    (wf : WF H) (hr : z_viaductref01_E n_ = some r) :
    ACalls Go.Proofs.Try.prog 47 #[.int .i64 n_] H fun v H' => v = .agg #[.int .i64 r, .slice none 0 0] ∧ FrS [] H H' := by
  refine acalls_of_body mixed Go.Proofs.Try.func47 rfl (Nat.le_of_ble_eq_true rfl) ?_
  unfold z_viaductref01_E at hr
  refine w_seqk fun K1 k1 => ?_
  refine w_reg (by kernel_rfl) ?_
  refine s_rwk wf [.int .i64 0, .slice none 0 0] (by kernel_rfl) fun b2 H3 e4 hb5 r6 => ?_
  refine s_nil ?_
  refine k1 _ _ ?_
  refine w_seqk fun K8 k8 => ?_
  refine w_reg (by kernel_rfl) ?_
  refine s_qk (.int .i64 n_) (by kernel_rfl) ?_
  refine s_qk (.agg #[.int .i64 n_, .slice none 0 0]) (by kernel_rfl) ?_
  obtain ⟨H9, q10, e11, r12⟩ := Row.store (P := Go.Proofs.Try.prog) (t := 41) (p := 0) e4.wf r6 (.agg #[.int .i64 n_, .slice none 0 0]) [.int .i64 n_, .slice none 0 0] (by kernel_rfl) (by kernel_rfl) (one_cons (rfl) (one_cons (rfl) (one_nil))) (Nat.le_of_ble_eq_true (by kernel_rfl)) [.int .i64 n_, .slice none 0 0] (by kernel_rfl)
  refine s_ek (undef) (by kernel_rfl) (map_ok q10) ?_
  refine s_nil ?_
  refine k8 _ _ ?_
  refine w_ret ?_
  refine b_ret (fn := Go.Proofs.Try.f47) (vs := [.agg #[.int .i64 n_, .slice none 0 0]]) (aRes_cell (Eq.trans (b := aLoad Go.Proofs.Try.prog 41 (.pointer (some ⟨b2, 0, none⟩)) H9) (by kernel_rfl) (r12.ld (by kernel_rfl))) (rfl)) ?_
  obtain rfl := Option.some.inj hr
  exact ⟨rfl, (FrS.step wf ((FrS.refl (W := []) wf).extR e4) e11 (hb5.fresh (Nat.le_refl _)))⟩

theorem c_viaductref01_At {H : AH} {hd_Places : Value} {fp_Places : Fp} {kind : Int} {at_ : Int} {Code : Int} {Places : List (Int × Int)} {r : Int × List (Int × Int)}
    (wf : WF H) (h_Places : Sq enc_i64_i64 2 H hd_Places Places fp_Places) (hr : z_viaductref01_At kind at_ Code Places = some r) :
    ACalls Go.Proofs.Try.prog 66 #[.int .i64 kind, .int .i64 at_, .agg #[.int .i64 Code, hd_Places]] H fun v H' => ∃ (s3 : Value) (f4 : Fp), v = .agg #[.int .i64 r.1, s3] ∧ FrS [] H H' ∧ Ow enc_i64_i64 2 H' s3 r.2 f4 ∧ Inn [] H f4 := by
  refine acalls_of_body mixed Go.Proofs.Try.func66 rfl (Nat.le_of_ble_eq_true rfl) ?_
  unfold z_viaductref01_At at hr
  refine w_seqk fun K6 k6 => ?_
  refine w_reg (by kernel_rfl) ?_
  refine s_rwl wf [.int .i64 Code, hd_Places] (one_cons (rfl) (one_cons (h_Places.one1) (one_nil))) (by kernel_rfl) fun b7 H8 e9 hb10 r11 => ?_
  refine s_rwk e9.wf [.int .i64 0, .slice none 0 0] (by kernel_rfl) fun b13 H14 e15 hb16 r17 => ?_
  refine s_nil ?_
  refine k6 _ _ ?_
  refine w_seqk fun K19 k19 => ?_
  refine w_reg (by kernel_rfl) ?_
  refine s_qk (.int .i64 kind) (by kernel_rfl) ?_
  refine s_qk (.int .i64 at_) (by kernel_rfl) ?_
  refine s_qk (.agg #[.int .i64 kind, .int .i64 at_]) (by kernel_rfl) ?_
  refine s_owk (enc := enc_i64_i64) (sz := 2) e15.wf [(kind, at_)] 1 (by decide) (fun _ _ => rfl) (fun _ _ => rfl) rfl (by kernel_rfl) fun s20 f21 H22 e23 hf24 hm25 => ?_
  obtain ⟨a26, n27, c28, rfl⟩ := hm25.form
  refine s_qk (.slice a26 n27 c28) (by kernel_rfl) ?_
  refine s_nil ?_
  refine k19 _ _ ?_
  refine w_seqk fun K30 k30 => ?_
  refine w_reg (by kernel_rfl) ?_
  refine s_qk (.slice a26 n27 c28) (by kernel_rfl) ?_
  refine s_qk (.pointer (some ⟨b7, 1, none⟩)) (by kernel_rfl) ?_
  have u31 := ((r11.ext e15).ext e23)
  refine s_ql (hd_Places) (x := aLoad Go.Proofs.Try.prog 39 (.pointer (some ⟨b7, 1, none⟩)) H22) (by kernel_rfl) (u31.ld (by kernel_rfl)) ?_
  obtain ⟨g32, r33⟩ := G_some hr
  have u41 := (((h_Places.ext e9).ext e15).ext e23)
  obtain ⟨s34, H35, f36, q40, e37, hm38, hf39⟩ := Ow.append (P := Go.Proofs.Try.prog) 16 e23.wf hm25 u41 (fun _ _ => rfl) (at_ := #[39, 39]) rfl rfl (by kernel_rfl) (by kernel_rfl) (by decide) (by have := g32; first | omega | (simp only [List.length_cons, List.length_nil] at this ⊢; omega) | (simp at this ⊢; omega))
  obtain ⟨a42, n43, c44, rfl⟩ := hm38.form
  refine s_ek (.slice a42 n43 c44) (by kernel_rfl) (q40) ?_
  refine s_qk (.slice a42 n43 c44) (by kernel_rfl) ?_
  refine s_nil ?_
  refine k30 _ _ ?_
  refine w_seqk fun K46 k46 => ?_
  refine w_reg (by kernel_rfl) ?_
  refine s_qk (.pointer (some ⟨b7, 0, none⟩)) (by kernel_rfl) ?_
  have u47 := (u31.frS e37 (hf24.djn (r11.ltF.le e15.next)))
  refine s_ql (.int .i64 Code) (x := aLoad Go.Proofs.Try.prog 3 (.pointer (some ⟨b7, 0, none⟩)) H35) (by kernel_rfl) (u47.ld (by kernel_rfl)) ?_
  refine s_qk (.slice a42 n43 c44) (by kernel_rfl) ?_
  refine s_qk (.agg #[.int .i64 Code, .slice a42 n43 c44]) (by kernel_rfl) ?_
  have u52 := ((r17.ext e23).frS e37 (hf24.djn r17.ltF))
  obtain ⟨H48, q49, e50, r51⟩ := Row.store (P := Go.Proofs.Try.prog) (t := 41) (p := 0) e37.wf u52 (.agg #[.int .i64 Code, .slice a42 n43 c44]) [.int .i64 Code, .slice a42 n43 c44] (by kernel_rfl) (by kernel_rfl) (one_cons (rfl) (one_cons (hm38.one1) (one_nil))) (Nat.le_of_ble_eq_true (by kernel_rfl)) [.int .i64 Code, .slice a42 n43 c44] (by kernel_rfl)
  refine s_ek (undef) (by kernel_rfl) (map_ok q49) ?_
  refine s_nil ?_
  refine k46 _ _ ?_
  refine w_ret ?_
  refine b_ret (fn := Go.Proofs.Try.f66) (vs := [.agg #[.int .i64 Code, .slice a42 n43 c44]]) (aRes_cell (Eq.trans (b := aLoad Go.Proofs.Try.prog 41 (.pointer (some ⟨b13, 0, none⟩)) H48) (by kernel_rfl) (r51.ld (by kernel_rfl))) (rfl)) ?_
  have u53 := (hm38.fr e50 (Dj.symm (hf39.dj (hf24.djn r17.ltF) (r17.ltF.le e23.next))))
  obtain rfl := Option.some.inj r33
  exact ⟨(.slice a42 n43 c44), f36, rfl, (FrS.step wf (FrS.step wf ((((FrS.refl (W := []) wf).extR e9).extR e15).extR e23) e37 (hf24.fresh (Nat.le_trans e9.next e15.next))) e50 (hb16.fresh e9.next)), u53, (Inn.trans (hf24.fresh (Nat.le_trans e9.next e15.next)) (Nat.le_trans (Nat.le_trans e9.next e15.next) e23.next) hf39)⟩

theorem c_viaductref05_DocCheck {H : AH} {hd_First : Value} {fp_First : Fp} {hd_To : Value} {fp_To : Fp} {hd_Weight : Value} {fp_Weight : Fp} {First : List (Int)} {To : List (Int)} {Weight : List (Int)} {r : Int × List (Int × Int)}
    (wf : WF H) (h_First : Sq (encI .i64) 1 H hd_First First fp_First) (h_To : Sq (encI .i64) 1 H hd_To To fp_To) (h_Weight : Sq (encI .i64) 1 H hd_Weight Weight fp_Weight) (hr : z_viaductref05_DocCheck First To Weight = some r) :
    ACalls Go.Proofs.Try.prog 39 #[.agg #[hd_First, hd_To, hd_Weight]] H fun v H' => ∃ (s3 : Value) (f4 : Fp), v = .agg #[.int .i64 r.1, s3] ∧ FrS [] H H' ∧ Ow enc_i64_i64 2 H' s3 r.2 f4 ∧ Inn [] H f4 := by
  refine acalls_of_body mixed Go.Proofs.Try.func39 rfl (Nat.le_of_ble_eq_true rfl) ?_
  unfold z_viaductref05_DocCheck at hr
  refine w_seqk fun K6 k6 => ?_
  refine w_reg (by kernel_rfl) ?_
  refine s_rwl wf [hd_First, hd_To, hd_Weight] (one_cons (h_First.one1) (one_cons (h_To.one1) (one_cons (h_Weight.one1) (one_nil)))) (by kernel_rfl) fun b7 H8 e9 hb10 r11 => ?_
  refine s_rwk e9.wf [.int .i64 0, .slice none 0 0] (by kernel_rfl) fun b13 H14 e15 hb16 r17 => ?_
  refine s_nil ?_
  refine k6 _ _ ?_
  refine w_seqk fun K19 k19 => ?_
  refine w_draw [0, 1, 2, 3, 4, 5, 6, 7, 8] (by kernel_rfl) ?_
  refine d_qk (.pointer (some ⟨b7, 0, none⟩)) (by kernel_rfl) ?_
  have u20 := (r11.ext e15)
  refine d_ql (hd_First) (x := aLoad Go.Proofs.Try.prog 22 (.pointer (some ⟨b7, 0, none⟩)) H14) (by kernel_rfl) (u20.ld (by kernel_rfl)) ?_
  have u21 := ((h_First.ext e9).ext e15)
  refine d_ql (.int .i64 (First.length : Int)) (x := aLen Go.Proofs.Try.prog 22 hd_First H14) (by kernel_rfl) (u21.lenb (by kernel_rfl)) ?_
  obtain ⟨g22, r23⟩ := G_some hr
  refine d_w (((First.length : Int) - 1)) (k := .i64) (x := ((First.length : Int) - 1)) (by kernel_rfl) (wrap64 g22) ?_
  refine d_qk (.pointer (some ⟨b7, 1, none⟩)) (by kernel_rfl) ?_
  refine d_ql (hd_To) (x := aLoad Go.Proofs.Try.prog 22 (.pointer (some ⟨b7, 1, none⟩)) H14) (by kernel_rfl) (u20.ld (by kernel_rfl)) ?_
  have u24 := ((h_To.ext e9).ext e15)
  refine d_ql (.int .i64 (To.length : Int)) (x := aLen Go.Proofs.Try.prog 22 hd_To H14) (by kernel_rfl) (u24.lenb (by kernel_rfl)) ?_
  refine d_qk (.int .i64 ((First.length : Int) - 1)) (by kernel_rfl) ?_
  refine d_qk (.int .i64 (To.length : Int)) (by kernel_rfl) ?_
  refine d_nil ?_
  refine k19 _ _ ?_
  refine w_seqk fun K25 k25 => ?_
  refine w_seqk fun K26 k26 => ?_
  obtain ⟨o27, hx28, r29⟩ := bind_some r23
  refine w_mid (fun α H30 => Has α [(1, .pointer (some ⟨b7, 0, none⟩)), (2, .pointer (some ⟨b13, 0, none⟩)), (3, .int .i64 ((First.length : Int) - 1)), (4, .int .i64 (To.length : Int)), (40, .bool o27)] ∧ H14 = H30) (fun K32 k32 => ?_) (fun α H30 hM => ?_)
  · refine w_reg (by kernel_rfl) ?_
    refine s_qk (.int .i64 ((First.length : Int) - 1)) (by kernel_rfl) ?_
    refine s_b (((First.length : Int) - 1) < 0) (by kernel_rfl) (fun h34 => ?_) (fun h34 => ?_)
    · have r35 := ite_t h34 hx28
      refine s_qk (.bool true) (by kernel_rfl) ?_
      refine s_no (by kernel_rfl) ?_
      refine s_no (by kernel_rfl) ?_
      refine s_no (by kernel_rfl) ?_
      refine s_no (by kernel_rfl) ?_
      refine s_no (by kernel_rfl) ?_
      refine s_qk (.bool true) (by kernel_rfl) ?_
      refine s_qk (.bool true) (by kernel_rfl) ?_
      refine s_no (by kernel_rfl) ?_
      refine s_no (by kernel_rfl) ?_
      refine s_no (by kernel_rfl) ?_
      refine s_no (by kernel_rfl) ?_
      refine s_no (by kernel_rfl) ?_
      refine s_no (by kernel_rfl) ?_
      refine s_no (by kernel_rfl) ?_
      refine s_qk (.bool true) (by kernel_rfl) ?_
      refine s_qk (.bool true) (by kernel_rfl) ?_
      refine s_no (by kernel_rfl) ?_
      refine s_no (by kernel_rfl) ?_
      refine s_no (by kernel_rfl) ?_
      refine s_no (by kernel_rfl) ?_
      refine s_no (by kernel_rfl) ?_
      refine s_qk (.bool true) (by kernel_rfl) ?_
      refine s_nil ?_
      obtain rfl := Option.some.inj r35
      exact k32 _ _ ⟨⟨by kernel_rfl, by kernel_rfl, by kernel_rfl, by kernel_rfl, by kernel_rfl, trivial⟩, rfl⟩
    · have r36 := ite_f h34 hx28
      refine s_qk (.bool false) (by kernel_rfl) ?_
      refine s_qk (.pointer (some ⟨b7, 0, none⟩)) (by kernel_rfl) ?_
      refine s_ql (hd_First) (x := aLoad Go.Proofs.Try.prog 22 (.pointer (some ⟨b7, 0, none⟩)) H14) (by kernel_rfl) (u20.ld (by kernel_rfl)) ?_
      obtain ⟨g37, r38⟩ := G_some r36
      refine s_ql (elp hd_First 1 (0 : Int).toNat 0) (x := aIndexAddr Go.Proofs.Try.prog 22 hd_First (.int .i64 0)) (by kernel_rfl) (u21.idxb (by kernel_rfl) (by decide) g37) ?_
      refine s_ql (.int .i64 (gt First 0)) (x := aLoad Go.Proofs.Try.prog 3 (elp hd_First 1 (0 : Int).toNat 0) H14) (by kernel_rfl) (u21.ld (by decide) g37 (by kernel_rfl)) ?_
      refine s_bn ((gt First 0) = 0) (by kernel_rfl) (fun h39 => ?_) (fun h39 => ?_)
      · have r40 := ite_t h39 r38
        refine s_qk (.bool false) (by kernel_rfl) ?_
        refine s_qk (.bool false) (by kernel_rfl) ?_
        refine s_qk (.pointer (some ⟨b7, 0, none⟩)) (by kernel_rfl) ?_
        refine s_ql (hd_First) (x := aLoad Go.Proofs.Try.prog 22 (.pointer (some ⟨b7, 0, none⟩)) H14) (by kernel_rfl) (u20.ld (by kernel_rfl)) ?_
        refine s_qk (.int .i64 ((First.length : Int) - 1)) (by kernel_rfl) ?_
        obtain ⟨g41, r42⟩ := G_some r40
        refine s_ql (elp hd_First 1 ((First.length : Int) - 1).toNat 0) (x := aIndexAddr Go.Proofs.Try.prog 22 hd_First (.int .i64 ((First.length : Int) - 1))) (by kernel_rfl) (u21.idxb (by kernel_rfl) g41.1 g41.2) ?_
        refine s_ql (.int .i64 (gt First ((First.length : Int) - 1))) (x := aLoad Go.Proofs.Try.prog 3 (elp hd_First 1 ((First.length : Int) - 1).toNat 0) H14) (by kernel_rfl) (u21.ld g41.1 g41.2 (by kernel_rfl)) ?_
        refine s_qk (.int .i64 (To.length : Int)) (by kernel_rfl) ?_
        refine s_bn ((gt First ((First.length : Int) - 1)) = (To.length : Int)) (by kernel_rfl) (fun h43 => ?_) (fun h43 => ?_)
        · have r44 := ite_t h43 r42
          refine s_qk (.bool false) (by kernel_rfl) ?_
          refine s_qk (.bool false) (by kernel_rfl) ?_
          refine s_qk (.pointer (some ⟨b7, 2, none⟩)) (by kernel_rfl) ?_
          refine s_ql (hd_Weight) (x := aLoad Go.Proofs.Try.prog 22 (.pointer (some ⟨b7, 2, none⟩)) H14) (by kernel_rfl) (u20.ld (by kernel_rfl)) ?_
          have u45 := ((h_Weight.ext e9).ext e15)
          refine s_ql (.int .i64 (Weight.length : Int)) (x := aLen Go.Proofs.Try.prog 22 hd_Weight H14) (by kernel_rfl) (u45.lenb (by kernel_rfl)) ?_
          refine s_qk (.int .i64 (To.length : Int)) (by kernel_rfl) ?_
          refine s_qk (.bool (!decide ((Weight.length : Int) = (To.length : Int)))) (by kernel_rfl) ?_
          refine s_qk (.bool (!decide ((Weight.length : Int) = (To.length : Int)))) (by kernel_rfl) ?_
          refine s_nil ?_
          obtain rfl := Option.some.inj r44
          exact k32 _ _ ⟨⟨by kernel_rfl, by kernel_rfl, by kernel_rfl, by kernel_rfl, by kernel_rfl, trivial⟩, rfl⟩
        · have r46 := ite_f h43 r42
          refine s_qk (.bool true) (by kernel_rfl) ?_
          refine s_qk (.bool true) (by kernel_rfl) ?_
          refine s_no (by kernel_rfl) ?_
          refine s_no (by kernel_rfl) ?_
          refine s_no (by kernel_rfl) ?_
          refine s_no (by kernel_rfl) ?_
          refine s_no (by kernel_rfl) ?_
          refine s_qk (.bool true) (by kernel_rfl) ?_
          refine s_nil ?_
          obtain rfl := Option.some.inj r46
          exact k32 _ _ ⟨⟨by kernel_rfl, by kernel_rfl, by kernel_rfl, by kernel_rfl, by kernel_rfl, trivial⟩, rfl⟩
      · have r47 := ite_f h39 r38
        refine s_qk (.bool true) (by kernel_rfl) ?_
        refine s_qk (.bool true) (by kernel_rfl) ?_
        refine s_no (by kernel_rfl) ?_
        refine s_no (by kernel_rfl) ?_
        refine s_no (by kernel_rfl) ?_
        refine s_no (by kernel_rfl) ?_
        refine s_no (by kernel_rfl) ?_
        refine s_no (by kernel_rfl) ?_
        refine s_no (by kernel_rfl) ?_
        refine s_qk (.bool true) (by kernel_rfl) ?_
        refine s_qk (.bool true) (by kernel_rfl) ?_
        refine s_no (by kernel_rfl) ?_
        refine s_no (by kernel_rfl) ?_
        refine s_no (by kernel_rfl) ?_
        refine s_no (by kernel_rfl) ?_
        refine s_no (by kernel_rfl) ?_
        refine s_qk (.bool true) (by kernel_rfl) ?_
        refine s_nil ?_
        obtain rfl := Option.some.inj r47
        exact k32 _ _ ⟨⟨by kernel_rfl, by kernel_rfl, by kernel_rfl, by kernel_rfl, by kernel_rfl, trivial⟩, rfl⟩
  · obtain ⟨hh33, rfl⟩ := hM
    obtain ⟨β, rfl⟩ := has_ex hh33
    clear hh33
    refine k26 _ _ ?_
    refine w_cond (o27) (by kernel_rfl) rfl (fun h48 => ?_) (fun h48 => ?_)
    · have r49 := ite_t h48 r29
      refine w_seqk fun K50 k50 => ?_
      refine w_reg (by kernel_rfl) ?_
      obtain ⟨y51, hy52, r53⟩ := bind_some r49
      refine s_ck 47 #[.int .i64 14] (by kernel_rfl) (c_viaductref01_E e15.wf hy52) ?_
      rintro _ H54 ⟨rfl, e55⟩
      have u60 := (r17.frS e55 Dj.nil_l)
      obtain ⟨H56, q57, e58, r59⟩ := Row.store (P := Go.Proofs.Try.prog) (t := 41) (p := 0) e55.wf u60 (.agg #[.int .i64 y51, .slice none 0 0]) [.int .i64 y51, .slice none 0 0] (by kernel_rfl) (by kernel_rfl) (one_cons (rfl) (one_cons (rfl) (one_nil))) (Nat.le_of_ble_eq_true (by kernel_rfl)) [.int .i64 y51, .slice none 0 0] (by kernel_rfl)
      refine s_ek (undef) (by kernel_rfl) (map_ok q57) ?_
      refine s_nil ?_
      refine k50 _ _ ?_
      refine w_ret (th_ret ?_)
      refine b_ret (fn := Go.Proofs.Try.f39) (vs := [.agg #[.int .i64 y51, .slice none 0 0]]) (aRes_cell (Eq.trans (b := aLoad Go.Proofs.Try.prog 41 (.pointer (some ⟨b13, 0, none⟩)) H56) (by kernel_rfl) (r59.ld (by kernel_rfl))) (rfl)) ?_
      obtain rfl := Option.some.inj r53
      exact ⟨(.slice none 0 0), [], rfl, (FrS.step wf (FrS.step wf (((FrS.refl (W := []) wf).extR e9).extR e15) e55 Inn.nil) e58 (hb16.fresh e9.next)), (Ow.nil (by decide)), Inn.nil⟩
    · have r61 := ite_bf h48 r29
      refine w_skip ?_
      refine k25 _ _ ?_
      refine w_seqk fun K62 k62 => ?_
      refine w_seqk fun K63 k63 => ?_
      obtain ⟨o64, hx65, r66⟩ := bind_some r61
      refine w_mid (fun α H67 => Has α [(1, .pointer (some ⟨b7, 0, none⟩)), (2, .pointer (some ⟨b13, 0, none⟩)), (3, .int .i64 ((First.length : Int) - 1)), (4, .int .i64 (To.length : Int)), (47, .bool o64)] ∧ H14 = H67) (fun K69 k69 => ?_) (fun α H67 hM => ?_)
      · refine w_reg (by kernel_rfl) ?_
        refine s_qk (.int .i64 ((First.length : Int) - 1)) (by kernel_rfl) ?_
        refine s_b (((First.length : Int) - 1) > 65536) (by kernel_rfl) (fun h71 => ?_) (fun h71 => ?_)
        · have r72 := ite_t h71 hx65
          refine s_qk (.bool true) (by kernel_rfl) ?_
          refine s_no (by kernel_rfl) ?_
          refine s_no (by kernel_rfl) ?_
          refine s_qk (.bool true) (by kernel_rfl) ?_
          refine s_nil ?_
          obtain rfl := Option.some.inj r72
          exact k69 _ _ ⟨⟨by kernel_rfl, by kernel_rfl, by kernel_rfl, by kernel_rfl, by kernel_rfl, trivial⟩, rfl⟩
        · have r73 := ite_f h71 hx65
          refine s_qk (.bool false) (by kernel_rfl) ?_
          refine s_qk (.int .i64 (To.length : Int)) (by kernel_rfl) ?_
          refine s_qk (.bool (decide ((To.length : Int) > 262144))) (by kernel_rfl) ?_
          refine s_qk (.bool (decide ((To.length : Int) > 262144))) (by kernel_rfl) ?_
          refine s_nil ?_
          obtain rfl := Option.some.inj r73
          exact k69 _ _ ⟨⟨by kernel_rfl, by kernel_rfl, by kernel_rfl, by kernel_rfl, by kernel_rfl, trivial⟩, rfl⟩
      · obtain ⟨hh70, rfl⟩ := hM
        obtain ⟨β, rfl⟩ := has_ex hh70
        clear hh70
        refine k63 _ _ ?_
        refine w_cond (o64) (by kernel_rfl) rfl (fun h74 => ?_) (fun h74 => ?_)
        · have r75 := ite_t h74 r66
          refine w_seqk fun K76 k76 => ?_
          refine w_reg (by kernel_rfl) ?_
          obtain ⟨y77, hy78, r79⟩ := bind_some r75
          refine s_ck 47 #[.int .i64 9] (by kernel_rfl) (c_viaductref01_E e15.wf hy78) ?_
          rintro _ H80 ⟨rfl, e81⟩
          have u86 := (r17.frS e81 Dj.nil_l)
          obtain ⟨H82, q83, e84, r85⟩ := Row.store (P := Go.Proofs.Try.prog) (t := 41) (p := 0) e81.wf u86 (.agg #[.int .i64 y77, .slice none 0 0]) [.int .i64 y77, .slice none 0 0] (by kernel_rfl) (by kernel_rfl) (one_cons (rfl) (one_cons (rfl) (one_nil))) (Nat.le_of_ble_eq_true (by kernel_rfl)) [.int .i64 y77, .slice none 0 0] (by kernel_rfl)
          refine s_ek (undef) (by kernel_rfl) (map_ok q83) ?_
          refine s_nil ?_
          refine k76 _ _ ?_
          refine w_ret (th_ret ?_)
          refine b_ret (fn := Go.Proofs.Try.f39) (vs := [.agg #[.int .i64 y77, .slice none 0 0]]) (aRes_cell (Eq.trans (b := aLoad Go.Proofs.Try.prog 41 (.pointer (some ⟨b13, 0, none⟩)) H82) (by kernel_rfl) (r85.ld (by kernel_rfl))) (rfl)) ?_
          obtain rfl := Option.some.inj r79
          exact ⟨(.slice none 0 0), [], rfl, (FrS.step wf (FrS.step wf (((FrS.refl (W := []) wf).extR e9).extR e15) e81 Inn.nil) e84 (hb16.fresh e9.next)), (Ow.nil (by decide)), Inn.nil⟩
        · have r87 := ite_bf h74 r66
          refine w_skip ?_
          refine k62 _ _ ?_
          refine w_seqk fun K88 k88 => ?_
          refine w_seqk fun K89 k89 => ?_
          refine w_reg (by kernel_rfl) ?_
          refine s_qk (.int .i64 0) (by kernel_rfl) ?_
          refine s_nil ?_
          refine k89 _ _ ?_
          obtain ⟨z93, hx91, r92⟩ := bind_some r87
          refine w_mid (fun α H94 => ∃ o90, z93 = Sum.inr o90 ∧ Has α [(1, .pointer (some ⟨b7, 0, none⟩)), (2, .pointer (some ⟨b13, 0, none⟩)), (3, .int .i64 ((First.length : Int) - 1)), (4, .int .i64 (To.length : Int))] ∧ H14 = H94) (fun K96 k96 => ?_) (fun α H94 hM => ?_)
          · refine w_block ?_
            obtain ⟨n98, hn99⟩ := loopO_iff.1 hx91
            refine w_loopn (fun n α H100 => ∃ (v0 : Int), iterO (fun s => z_viaductref05_DocCheck_l0 First s) n v0 = some z93 ∧ Has α [(1, .pointer (some ⟨b7, 0, none⟩)), (2, .pointer (some ⟨b13, 0, none⟩)), (3, .int .i64 ((First.length : Int) - 1)), (4, .int .i64 (To.length : Int)), (5, .int .i64 v0)] ∧ H14 = H100) n98 ⟨0, hn99, ⟨by kernel_rfl, by kernel_rfl, by kernel_rfl, by kernel_rfl, by kernel_rfl, trivial⟩, rfl⟩ ?_
            rintro n98 α H100 ⟨v0, hi103, hh102, rfl⟩ K108 k108
            obtain ⟨n104, z105, rfl, hz106, hn107⟩ := iter_succ hi103
            obtain ⟨β, rfl⟩ := has_ex hh102
            clear hh102
            replace hz106 : z_viaductref05_DocCheck_l0 First v0 = some z105 := hz106
            unfold z_viaductref05_DocCheck_l0 at hz106
            refine w_seqk fun K109 k109 => ?_
            refine w_seqk fun K110 k110 => ?_
            refine w_reg (by kernel_rfl) ?_
            refine s_qk (.int .i64 v0) (by kernel_rfl) ?_
            refine s_qk (.int .i64 ((First.length : Int) - 1)) (by kernel_rfl) ?_
            refine s_qk (.bool (decide (v0 < ((First.length : Int) - 1)))) (by kernel_rfl) ?_
            refine s_nil ?_
            refine k110 _ _ ?_
            refine w_condp (v0 < ((First.length : Int) - 1)) (by kernel_rfl) rfl (fun h111 => ?_) (fun h111 => ?_)
            · have r112 := ite_t h111 hz106
              refine w_skip ?_
              refine k109 _ _ ?_
              refine w_seqk fun K113 k113 => ?_
              refine w_block ?_
              refine w_seqk fun K114 k114 => ?_
              refine w_draw [0, 1, 2, 3, 4, 5, 6, 7, 8, 9, 10, 11] (by kernel_rfl) ?_
              refine d_qk (.pointer (some ⟨b7, 0, none⟩)) (by kernel_rfl) ?_
              refine d_ql (hd_First) (x := aLoad Go.Proofs.Try.prog 22 (.pointer (some ⟨b7, 0, none⟩)) H14) (by kernel_rfl) (u20.ld (by kernel_rfl)) ?_
              refine d_qk (.int .i64 v0) (by kernel_rfl) ?_
              obtain ⟨g115, r116⟩ := G_some r112
              refine d_w ((v0 + 1)) (k := .i64) (x := (v0 + 1)) (by kernel_rfl) (wrap64 g115) ?_
              obtain ⟨g117, r118⟩ := G_some r116
              refine d_ql (elp hd_First 1 (v0 + 1).toNat 0) (x := aIndexAddr Go.Proofs.Try.prog 22 hd_First (.int .i64 (v0 + 1))) (by kernel_rfl) (u21.idxb (by kernel_rfl) g117.1 g117.2) ?_
              refine d_ql (.int .i64 (gt First (v0 + 1))) (x := aLoad Go.Proofs.Try.prog 3 (elp hd_First 1 (v0 + 1).toNat 0) H14) (by kernel_rfl) (u21.ld g117.1 g117.2 (by kernel_rfl)) ?_
              refine d_qk (.pointer (some ⟨b7, 0, none⟩)) (by kernel_rfl) ?_
              refine d_ql (hd_First) (x := aLoad Go.Proofs.Try.prog 22 (.pointer (some ⟨b7, 0, none⟩)) H14) (by kernel_rfl) (u20.ld (by kernel_rfl)) ?_
              refine d_qk (.int .i64 v0) (by kernel_rfl) ?_
              obtain ⟨g119, r120⟩ := G_some r118
              refine d_ql (elp hd_First 1 v0.toNat 0) (x := aIndexAddr Go.Proofs.Try.prog 22 hd_First (.int .i64 v0)) (by kernel_rfl) (u21.idxb (by kernel_rfl) g119.1 g119.2) ?_
              refine d_ql (.int .i64 (gt First v0)) (x := aLoad Go.Proofs.Try.prog 3 (elp hd_First 1 v0.toNat 0) H14) (by kernel_rfl) (u21.ld g119.1 g119.2 (by kernel_rfl)) ?_
              refine d_qk (.bool (decide ((gt First (v0 + 1)) < (gt First v0)))) (by kernel_rfl) ?_
              refine d_nil ?_
              refine k114 _ _ ?_
              refine w_condp ((gt First (v0 + 1)) < (gt First v0)) (by kernel_rfl) rfl (fun h121 => ?_) (fun h121 => ?_)
              · have r122 := ite_t h121 r120
                refine w_seqk fun K123 k123 => ?_
                refine w_reg (by kernel_rfl) ?_
                refine s_qk (.int .i64 v0) (by kernel_rfl) ?_
                obtain ⟨y124, hy125, r126⟩ := bind_some r122
                refine s_ck 47 #[.int .i64 14] (by kernel_rfl) (c_viaductref01_E e15.wf hy125) ?_
                rintro _ H127 ⟨rfl, e128⟩
                obtain ⟨y129, hy130, r131⟩ := bind_some r126
                refine s_ck 66 #[.int .i64 3, .int .i64 v0, .agg #[.int .i64 y124, .slice none 0 0]] (by kernel_rfl) (c_viaductref01_At e128.wf (Sq.nil (enc := enc_i64_i64) (sz := 2) (by decide)) hy130) ?_
                rintro _ H134 ⟨s132, f133, rfl, e135, m136, i137⟩
                obtain ⟨a139, n140, c141, rfl⟩ := m136.form
                have u146 := ((r17.frS e128 Dj.nil_l).frS e135 Dj.nil_l)
                obtain ⟨H142, q143, e144, r145⟩ := Row.store (P := Go.Proofs.Try.prog) (t := 41) (p := 0) e135.wf u146 (.agg #[.int .i64 y129.1, .slice a139 n140 c141]) [.int .i64 y129.1, .slice a139 n140 c141] (by kernel_rfl) (by kernel_rfl) (one_cons (rfl) (one_cons (m136.one1) (one_nil))) (Nat.le_of_ble_eq_true (by kernel_rfl)) [.int .i64 y129.1, .slice a139 n140 c141] (by kernel_rfl)
                refine s_ek (undef) (by kernel_rfl) (map_ok q143) ?_
                refine s_nil ?_
                refine k123 _ _ ?_
                refine w_ret (bl_ret (th_ret (th_ret (bl_ret (th_ret (th_ret ?_))))))
                obtain ⟨v147, hv148, hz149⟩ := map_some r131
                subst hz149
                obtain rfl := it_inr hn107
                have hq150 := elim_inl r92
                rw [hq150] at hv148
                refine b_ret (fn := Go.Proofs.Try.f39) (vs := [.agg #[.int .i64 y129.1, .slice a139 n140 c141]]) (aRes_cell (Eq.trans (b := aLoad Go.Proofs.Try.prog 41 (.pointer (some ⟨b13, 0, none⟩)) H142) (by kernel_rfl) (r145.ld (by kernel_rfl))) (rfl)) ?_
                have u151 := (m136.fr e144 (Dj.symm (i137.djn (r17.ltF.le e128.next))))
                obtain rfl := Option.some.inj hv148
                exact ⟨(.slice a139 n140 c141), f133, rfl, (FrS.step wf (FrS.step wf (FrS.step wf (((FrS.refl (W := []) wf).extR e9).extR e15) e128 Inn.nil) e135 Inn.nil) e144 (hb16.fresh e9.next)), u151, (i137.fresh (Nat.le_trans (Nat.le_trans e9.next e15.next) e128.next))⟩
              · have r152 := ite_f h121 r120
                refine w_skip ?_
                refine k113 _ _ ?_
                refine w_reg (by kernel_rfl) ?_
                refine s_qk (.int .i64 v0) (by kernel_rfl) ?_
                obtain ⟨g153, r154⟩ := G_some r152
                refine s_w ((v0 + 1)) (k := .i64) (x := (v0 + 1)) (by kernel_rfl) (wrap64 (by have := g153; omega)) ?_
                refine s_qk (.int .i64 (v0 + 1)) (by kernel_rfl) ?_
                refine s_nil ?_
                obtain rfl := Option.some.inj r154
                exact k108 n104 _ _ (Nat.lt_succ_self _) ⟨(v0 + 1), hn107, ⟨by kernel_rfl, by kernel_rfl, by kernel_rfl, by kernel_rfl, by kernel_rfl, trivial⟩, rfl⟩
            · have r155 := ite_f h111 hz106
              refine w_exit (th_exit (th_exit (bl_eq ?_)))
              obtain rfl := Option.some.inj r155
              obtain rfl := it_inr hn107
              exact k96 _ _ ⟨_, rfl, ⟨by kernel_rfl, by kernel_rfl, by kernel_rfl, by kernel_rfl, trivial⟩, rfl⟩
          · obtain ⟨o90, rfl, hh97, rfl⟩ := hM
            have r156 := elim_inr r92
            obtain ⟨β, rfl⟩ := has_ex hh97
            clear hh97
            refine k88 _ _ ?_
            refine w_seqk fun K157 k157 => ?_
            refine w_reg (by kernel_rfl) ?_
            refine s_qk (.int .i64 0) (by kernel_rfl) ?_
            refine s_nil ?_
            refine k157 _ _ ?_
            refine w_seqk fun K158 k158 => ?_
            refine w_seqk fun K159 k159 => ?_
            refine w_reg (by kernel_rfl) ?_
            refine s_qk (.int .i64 0) (by kernel_rfl) ?_
            refine s_nil ?_
            refine k159 _ _ ?_
            obtain ⟨z163, hx161, r162⟩ := bind_some r156
            refine w_mid (fun α H164 => ∃ o160, z163 = Sum.inr o160 ∧ Has α [(2, .pointer (some ⟨b13, 0, none⟩))] ∧ H14 = H164) (fun K166 k166 => ?_) (fun α H164 hM => ?_)
            · refine w_block ?_
              obtain ⟨n168, hn169⟩ := loopO_iff.1 hx161
              refine w_loopn (fun n α H170 => ∃ (v2 : Int), ∃ (i3 : Int), iterO (fun s => z_viaductref05_DocCheck_l1 First To Weight s.1 s.2) n (v2, i3) = some z163 ∧ Has α [(1, .pointer (some ⟨b7, 0, none⟩)), (2, .pointer (some ⟨b13, 0, none⟩)), (3, .int .i64 ((First.length : Int) - 1)), (4, .int .i64 (To.length : Int)), (6, .int .i64 v2), (7, .int .i64 i3)] ∧ H14 = H170) n168 ⟨0, 0, hn169, ⟨by kernel_rfl, by kernel_rfl, by kernel_rfl, by kernel_rfl, by kernel_rfl, by kernel_rfl, trivial⟩, rfl⟩ ?_
              rintro n168 α H170 ⟨v2, i3, hi173, hh172, rfl⟩ K178 k178
              obtain ⟨n174, z175, rfl, hz176, hn177⟩ := iter_succ hi173
              obtain ⟨β, rfl⟩ := has_ex hh172
              clear hh172
              replace hz176 : z_viaductref05_DocCheck_l1 First To Weight v2 i3 = some z175 := hz176
              unfold z_viaductref05_DocCheck_l1 at hz176
              refine w_seqk fun K179 k179 => ?_
              refine w_seqk fun K180 k180 => ?_
              refine w_reg (by kernel_rfl) ?_
              refine s_qk (.int .i64 i3) (by kernel_rfl) ?_
              refine s_qk (.int .i64 (To.length : Int)) (by kernel_rfl) ?_
              refine s_qk (.bool (decide (i3 < (To.length : Int)))) (by kernel_rfl) ?_
              refine s_nil ?_
              refine k180 _ _ ?_
              refine w_condp (i3 < (To.length : Int)) (by kernel_rfl) rfl (fun h181 => ?_) (fun h181 => ?_)
              · have r182 := ite_t h181 hz176
                refine w_skip ?_
                refine k179 _ _ ?_
                refine w_seqk fun K183 k183 => ?_
                refine w_block ?_
                refine w_seqk fun K184 k184 => ?_
                obtain ⟨o185, hx186, r187⟩ := bind_some r182
                refine w_mid (fun α H188 => Has α [(1, .pointer (some ⟨b7, 0, none⟩)), (2, .pointer (some ⟨b13, 0, none⟩)), (3, .int .i64 ((First.length : Int) - 1)), (4, .int .i64 (To.length : Int)), (6, .int .i64 o185), (7, .int .i64 i3)] ∧ H14 = H188) (fun K190 k190 => ?_) (fun α H188 hM => ?_)
                · refine w_block ?_
                  obtain ⟨n192, hn193⟩ := loopO_iff.1 hx186
                  refine w_loopn (fun n α H194 => ∃ (v1 : Int), iterO (fun s => z_viaductref05_DocCheck_l2 First i3 s) n v1 = some o185 ∧ Has α [(1, .pointer (some ⟨b7, 0, none⟩)), (2, .pointer (some ⟨b13, 0, none⟩)), (3, .int .i64 ((First.length : Int) - 1)), (4, .int .i64 (To.length : Int)), (6, .int .i64 v1), (7, .int .i64 i3)] ∧ H14 = H194) n192 ⟨v2, hn193, ⟨by kernel_rfl, by kernel_rfl, by kernel_rfl, by kernel_rfl, by kernel_rfl, by kernel_rfl, trivial⟩, rfl⟩ ?_
                  rintro n192 α H194 ⟨v1, hi197, hh196, rfl⟩ K202 k202
                  obtain ⟨n198, z199, rfl, hz200, hn201⟩ := iter_succ hi197
                  obtain ⟨β, rfl⟩ := has_ex hh196
                  clear hh196
                  replace hz200 : z_viaductref05_DocCheck_l2 First i3 v1 = some z199 := hz200
                  unfold z_viaductref05_DocCheck_l2 at hz200
                  refine w_seqk fun K203 k203 => ?_
                  refine w_seqk fun K204 k204 => ?_
                  refine w_reg (by kernel_rfl) ?_
                  refine s_qk (.pointer (some ⟨b7, 0, none⟩)) (by kernel_rfl) ?_
                  refine s_ql (hd_First) (x := aLoad Go.Proofs.Try.prog 22 (.pointer (some ⟨b7, 0, none⟩)) H14) (by kernel_rfl) (u20.ld (by kernel_rfl)) ?_
                  refine s_qk (.int .i64 v1) (by kernel_rfl) ?_
                  obtain ⟨g205, r206⟩ := G_some hz200
                  refine s_w ((v1 + 1)) (k := .i64) (x := (v1 + 1)) (by kernel_rfl) (wrap64 g205) ?_
                  obtain ⟨g207, r208⟩ := G_some r206
                  refine s_ql (elp hd_First 1 (v1 + 1).toNat 0) (x := aIndexAddr Go.Proofs.Try.prog 22 hd_First (.int .i64 (v1 + 1))) (by kernel_rfl) (u21.idxb (by kernel_rfl) g207.1 g207.2) ?_
                  refine s_ql (.int .i64 (gt First (v1 + 1))) (x := aLoad Go.Proofs.Try.prog 3 (elp hd_First 1 (v1 + 1).toNat 0) H14) (by kernel_rfl) (u21.ld g207.1 g207.2 (by kernel_rfl)) ?_
                  refine s_qk (.int .i64 i3) (by kernel_rfl) ?_
                  refine s_qk (.bool (decide ((gt First (v1 + 1)) ≤ i3))) (by kernel_rfl) ?_
                  refine s_nil ?_
                  refine k204 _ _ ?_
                  refine w_condp ((gt First (v1 + 1)) ≤ i3) (by kernel_rfl) rfl (fun h209 => ?_) (fun h209 => ?_)
                  · have r210 := ite_t h209 r208
                    refine w_skip ?_
                    refine k203 _ _ ?_
                    refine w_block ?_
                    refine w_reg (by kernel_rfl) ?_
                    refine s_qk (.int .i64 v1) (by kernel_rfl) ?_
                    obtain ⟨g211, r212⟩ := G_some r210
                    refine s_w ((v1 + 1)) (k := .i64) (x := (v1 + 1)) (by kernel_rfl) (wrap64 (by have := g211; omega)) ?_
                    refine s_qk (.int .i64 (v1 + 1)) (by kernel_rfl) ?_
                    refine s_nil ?_
                    obtain rfl := Option.some.inj r212
                    exact k202 n198 _ _ (Nat.lt_succ_self _) ⟨(v1 + 1), hn201, ⟨by kernel_rfl, by kernel_rfl, by kernel_rfl, by kernel_rfl, by kernel_rfl, by kernel_rfl, trivial⟩, rfl⟩
                  · have r213 := ite_f h209 r208
                    refine w_exit (th_exit (th_exit (bl_eq ?_)))
                    obtain rfl := Option.some.inj r213
                    obtain rfl := it_inr hn201
                    exact k190 _ _ ⟨⟨by kernel_rfl, by kernel_rfl, by kernel_rfl, by kernel_rfl, by kernel_rfl, by kernel_rfl, trivial⟩, rfl⟩
                · obtain ⟨hh191, rfl⟩ := hM
                  obtain ⟨β, rfl⟩ := has_ex hh191
                  clear hh191
                  refine k184 _ _ ?_
                  refine w_seqk fun K214 k214 => ?_
                  refine w_reg (by kernel_rfl) ?_
                  refine s_qk (.int .i64 0) (by kernel_rfl) ?_
                  refine s_nil ?_
                  refine k214 _ _ ?_
                  refine w_seqk fun K215 k215 => ?_
                  refine w_block ?_
                  refine w_seqk fun K216 k216 => ?_
                  obtain ⟨o217, hx218, r219⟩ := bind_some r187
                  refine w_mid (fun α H220 => Has α [(1, .pointer (some ⟨b7, 0, none⟩)), (2, .pointer (some ⟨b13, 0, none⟩)), (3, .int .i64 ((First.length : Int) - 1)), (4, .int .i64 (To.length : Int)), (6, .int .i64 o185), (7, .int .i64 i3), (8, .int .i64 0), (84, .bool o217)] ∧ H14 = H220) (fun K222 k222 => ?_) (fun α H220 hM => ?_)
                  · refine w_reg (by kernel_rfl) ?_
                    refine s_qk (.pointer (some ⟨b7, 1, none⟩)) (by kernel_rfl) ?_
                    refine s_ql (hd_To) (x := aLoad Go.Proofs.Try.prog 22 (.pointer (some ⟨b7, 1, none⟩)) H14) (by kernel_rfl) (u20.ld (by kernel_rfl)) ?_
                    refine s_qk (.int .i64 i3) (by kernel_rfl) ?_
                    obtain ⟨g224, r225⟩ := G_some hx218
                    refine s_ql (elp hd_To 1 i3.toNat 0) (x := aIndexAddr Go.Proofs.Try.prog 22 hd_To (.int .i64 i3)) (by kernel_rfl) (u24.idxb (by kernel_rfl) g224 h181) ?_
                    refine s_ql (.int .i64 (gt To i3)) (x := aLoad Go.Proofs.Try.prog 3 (elp hd_To 1 i3.toNat 0) H14) (by kernel_rfl) (u24.ld g224 h181 (by kernel_rfl)) ?_
                    refine s_b ((gt To i3) < 0) (by kernel_rfl) (fun h226 => ?_) (fun h226 => ?_)
                    · have r227 := ite_t h226 r225
                      refine s_qk (.bool true) (by kernel_rfl) ?_
                      refine s_no (by kernel_rfl) ?_
                      refine s_no (by kernel_rfl) ?_
                      refine s_no (by kernel_rfl) ?_
                      refine s_no (by kernel_rfl) ?_
                      refine s_no (by kernel_rfl) ?_
                      refine s_no (by kernel_rfl) ?_
                      refine s_no (by kernel_rfl) ?_
                      refine s_qk (.bool true) (by kernel_rfl) ?_
                      refine s_qk (.bool true) (by kernel_rfl) ?_
                      refine s_nil ?_
                      obtain rfl := Option.some.inj r227
                      exact k222 _ _ ⟨⟨by kernel_rfl, by kernel_rfl, by kernel_rfl, by kernel_rfl, by kernel_rfl, by kernel_rfl, by kernel_rfl, by kernel_rfl, trivial⟩, rfl⟩
                    · have r228 := ite_f h226 r225
                      refine s_qk (.bool false) (by kernel_rfl) ?_
                      refine s_qk (.pointer (some ⟨b7, 1, none⟩)) (by kernel_rfl) ?_
                      refine s_ql (hd_To) (x := aLoad Go.Proofs.Try.prog 22 (.pointer (some ⟨b7, 1, none⟩)) H14) (by kernel_rfl) (u20.ld (by kernel_rfl)) ?_
                      refine s_qk (.int .i64 i3) (by kernel_rfl) ?_
                      refine s_ql (elp hd_To 1 i3.toNat 0) (x := aIndexAddr Go.Proofs.Try.prog 22 hd_To (.int .i64 i3)) (by kernel_rfl) (u24.idxb (by kernel_rfl) g224 h181) ?_
                      refine s_ql (.int .i64 (gt To i3)) (x := aLoad Go.Proofs.Try.prog 3 (elp hd_To 1 i3.toNat 0) H14) (by kernel_rfl) (u24.ld g224 h181 (by kernel_rfl)) ?_
                      refine s_qk (.int .i64 ((First.length : Int) - 1)) (by kernel_rfl) ?_
                      refine s_qk (.bool (decide ((gt To i3) ≥ ((First.length : Int) - 1)))) (by kernel_rfl) ?_
                      refine s_qk (.bool (decide ((gt To i3) ≥ ((First.length : Int) - 1)))) (by kernel_rfl) ?_
                      refine s_qk (.bool (decide ((gt To i3) ≥ ((First.length : Int) - 1)))) (by kernel_rfl) ?_
                      refine s_nil ?_
                      obtain rfl := Option.some.inj r228
                      exact k222 _ _ ⟨⟨by kernel_rfl, by kernel_rfl, by kernel_rfl, by kernel_rfl, by kernel_rfl, by kernel_rfl, by kernel_rfl, by kernel_rfl, trivial⟩, rfl⟩
                  · obtain ⟨hh223, rfl⟩ := hM
                    obtain ⟨β, rfl⟩ := has_ex hh223
                    clear hh223
                    refine k216 _ _ ?_
                    obtain ⟨o229, hx230, r231⟩ := bind_some r219
                    refine w_mid (fun α H232 => Has α [(1, .pointer (some ⟨b7, 0, none⟩)), (2, .pointer (some ⟨b13, 0, none⟩)), (3, .int .i64 ((First.length : Int) - 1)), (4, .int .i64 (To.length : Int)), (6, .int .i64 o185), (7, .int .i64 i3), (8, .int .i64 o229)] ∧ H14 = H232) (fun K234 k234 => ?_) (fun α H232 hM => ?_)
                    · refine w_cond (o217) (by kernel_rfl) rfl (fun h236 => ?_) (fun h236 => ?_)
                      · have r237 := ite_t h236 hx230
                        refine w_reg (by kernel_rfl) ?_
                        refine s_qk (.int .i64 7) (by kernel_rfl) ?_
                        refine s_nil ?_
                        obtain rfl := Option.some.inj r237
                        exact k234 _ _ ⟨⟨by kernel_rfl, by kernel_rfl, by kernel_rfl, by kernel_rfl, by kernel_rfl, by kernel_rfl, by kernel_rfl, trivial⟩, rfl⟩
                      · have r238 := ite_bf h236 hx230
                        refine w_seqk fun K239 k239 => ?_
                        obtain ⟨o240, hx241, r242⟩ := bind_some r238
                        refine w_mid (fun α H243 => Has α [(1, .pointer (some ⟨b7, 0, none⟩)), (2, .pointer (some ⟨b13, 0, none⟩)), (3, .int .i64 ((First.length : Int) - 1)), (4, .int .i64 (To.length : Int)), (6, .int .i64 o185), (7, .int .i64 i3), (8, .int .i64 0), (100, .bool o240)] ∧ H14 = H243) (fun K245 k245 => ?_) (fun α H243 hM => ?_)
                        · refine w_draw [0, 1, 2, 3, 4, 5, 6, 7, 8, 9, 10, 11, 12, 13, 14, 15, 16, 17, 18, 19, 20, 21, 22, 23, 24, 25, 26, 27, 28, 29, 30] (by kernel_rfl) ?_
                          refine d_qk (.pointer (some ⟨b7, 1, none⟩)) (by kernel_rfl) ?_
                          refine d_ql (hd_To) (x := aLoad Go.Proofs.Try.prog 22 (.pointer (some ⟨b7, 1, none⟩)) H14) (by kernel_rfl) (u20.ld (by kernel_rfl)) ?_
                          refine d_qk (.int .i64 i3) (by kernel_rfl) ?_
                          obtain ⟨g247, r248⟩ := G_some hx241
                          refine d_ql (elp hd_To 1 i3.toNat 0) (x := aIndexAddr Go.Proofs.Try.prog 22 hd_To (.int .i64 i3)) (by kernel_rfl) (u24.idxb (by kernel_rfl) g247 h181) ?_
                          refine d_ql (.int .i64 (gt To i3)) (x := aLoad Go.Proofs.Try.prog 3 (elp hd_To 1 i3.toNat 0) H14) (by kernel_rfl) (u24.ld g247 h181 (by kernel_rfl)) ?_
                          refine d_qk (.int .i64 o185) (by kernel_rfl) ?_
                          refine d_b ((gt To i3) = o185) (by kernel_rfl) (fun h249 => ?_) (fun h249 => ?_)
                          · have r250 := ite_t h249 r248
                            refine d_qk (.bool true) (by kernel_rfl) ?_
                            refine d_idle (by kernel_rfl) ?_
                            refine d_idle (by kernel_rfl) ?_
                            refine d_idle (by kernel_rfl) ?_
                            refine d_idle (by kernel_rfl) ?_
                            refine d_idle (by kernel_rfl) ?_
                            refine d_idle (by kernel_rfl) ?_
                            refine d_idle (by kernel_rfl) ?_
                            refine d_idle (by kernel_rfl) ?_
                            refine d_idle (by kernel_rfl) ?_
                            refine d_idle (by kernel_rfl) ?_
                            refine d_idle (by kernel_rfl) ?_
                            refine d_idle (by kernel_rfl) ?_
                            refine d_idle (by kernel_rfl) ?_
                            refine d_idle (by kernel_rfl) ?_
                            refine d_idle (by kernel_rfl) ?_
                            refine d_idle (by kernel_rfl) ?_
                            refine d_idle (by kernel_rfl) ?_
                            refine d_idle (by kernel_rfl) ?_
                            refine d_idle (by kernel_rfl) ?_
                            refine d_idle (by kernel_rfl) ?_
                            refine d_idle (by kernel_rfl) ?_
                            refine d_qk (.bool true) (by kernel_rfl) ?_
                            refine d_qk (.bool true) (by kernel_rfl) ?_
                            refine d_nil ?_
                            obtain rfl := Option.some.inj r250
                            exact k245 _ _ ⟨⟨by kernel_rfl, by kernel_rfl, by kernel_rfl, by kernel_rfl, by kernel_rfl, by kernel_rfl, by kernel_rfl, by kernel_rfl, trivial⟩, rfl⟩
                          · have r251 := ite_f h249 r248
                            refine d_qk (.bool false) (by kernel_rfl) ?_
                            refine d_qk (.int .i64 i3) (by kernel_rfl) ?_
                            refine d_qk (.pointer (some ⟨b7, 0, none⟩)) (by kernel_rfl) ?_
                            refine d_ql (hd_First) (x := aLoad Go.Proofs.Try.prog 22 (.pointer (some ⟨b7, 0, none⟩)) H14) (by kernel_rfl) (u20.ld (by kernel_rfl)) ?_
                            refine d_qk (.int .i64 o185) (by kernel_rfl) ?_
                            obtain ⟨g252, r253⟩ := G_some r251
                            refine d_ql (elp hd_First 1 o185.toNat 0) (x := aIndexAddr Go.Proofs.Try.prog 22 hd_First (.int .i64 o185)) (by kernel_rfl) (u21.idxb (by kernel_rfl) g252.1 g252.2) ?_
                            refine d_ql (.int .i64 (gt First o185)) (x := aLoad Go.Proofs.Try.prog 3 (elp hd_First 1 o185.toNat 0) H14) (by kernel_rfl) (u21.ld g252.1 g252.2 (by kernel_rfl)) ?_
                            refine d_b (i3 > (gt First o185)) (by kernel_rfl) (fun h254 => ?_) (fun h254 => ?_)
                            · have r255 := ite_t h254 r253
                              refine d_qk (.bool true) (by kernel_rfl) ?_
                              refine d_qk (.pointer (some ⟨b7, 1, none⟩)) (by kernel_rfl) ?_
                              refine d_ql (hd_To) (x := aLoad Go.Proofs.Try.prog 22 (.pointer (some ⟨b7, 1, none⟩)) H14) (by kernel_rfl) (u20.ld (by kernel_rfl)) ?_
                              refine d_qk (.int .i64 i3) (by kernel_rfl) ?_
                              refine d_ql (elp hd_To 1 i3.toNat 0) (x := aIndexAddr Go.Proofs.Try.prog 22 hd_To (.int .i64 i3)) (by kernel_rfl) (u24.idxb (by kernel_rfl) g247 h181) ?_
                              refine d_ql (.int .i64 (gt To i3)) (x := aLoad Go.Proofs.Try.prog 3 (elp hd_To 1 i3.toNat 0) H14) (by kernel_rfl) (u24.ld g247 h181 (by kernel_rfl)) ?_
                              refine d_qk (.pointer (some ⟨b7, 1, none⟩)) (by kernel_rfl) ?_
                              refine d_ql (hd_To) (x := aLoad Go.Proofs.Try.prog 22 (.pointer (some ⟨b7, 1, none⟩)) H14) (by kernel_rfl) (u20.ld (by kernel_rfl)) ?_
                              refine d_qk (.int .i64 i3) (by kernel_rfl) ?_
                              obtain ⟨g256, r257⟩ := G_some r255
                              refine d_w ((i3 - 1)) (k := .i64) (x := (i3 - 1)) (by kernel_rfl) (wrap64 g256) ?_
                              obtain ⟨g258, r259⟩ := G_some r257
                              refine d_ql (elp hd_To 1 (i3 - 1).toNat 0) (x := aIndexAddr Go.Proofs.Try.prog 22 hd_To (.int .i64 (i3 - 1))) (by kernel_rfl) (u24.idxb (by kernel_rfl) g258.1 g258.2) ?_
                              refine d_ql (.int .i64 (gt To (i3 - 1))) (x := aLoad Go.Proofs.Try.prog 3 (elp hd_To 1 (i3 - 1).toNat 0) H14) (by kernel_rfl) (u24.ld g258.1 g258.2 (by kernel_rfl)) ?_
                              refine d_qk (.bool (decide ((gt To i3) ≤ (gt To (i3 - 1))))) (by kernel_rfl) ?_
                              refine d_qk (.bool (decide ((gt To i3) ≤ (gt To (i3 - 1))))) (by kernel_rfl) ?_
                              refine d_qk (.bool (decide ((gt To i3) ≤ (gt To (i3 - 1))))) (by kernel_rfl) ?_
                              refine d_qk (.bool (decide ((gt To i3) ≤ (gt To (i3 - 1))))) (by kernel_rfl) ?_
                              refine d_nil ?_
                              obtain rfl := Option.some.inj r259
                              exact k245 _ _ ⟨⟨by kernel_rfl, by kernel_rfl, by kernel_rfl, by kernel_rfl, by kernel_rfl, by kernel_rfl, by kernel_rfl, by kernel_rfl, trivial⟩, rfl⟩
                            · have r260 := ite_f h254 r253
                              refine d_qk (.bool false) (by kernel_rfl) ?_
                              refine d_idle (by kernel_rfl) ?_
                              refine d_idle (by kernel_rfl) ?_
                              refine d_idle (by kernel_rfl) ?_
                              refine d_idle (by kernel_rfl) ?_
                              refine d_idle (by kernel_rfl) ?_
                              refine d_idle (by kernel_rfl) ?_
                              refine d_idle (by kernel_rfl) ?_
                              refine d_idle (by kernel_rfl) ?_
                              refine d_idle (by kernel_rfl) ?_
                              refine d_idle (by kernel_rfl) ?_
                              refine d_idle (by kernel_rfl) ?_
                              refine d_idle (by kernel_rfl) ?_
                              refine d_qk (.bool false) (by kernel_rfl) ?_
                              refine d_qk (.bool false) (by kernel_rfl) ?_
                              refine d_qk (.bool false) (by kernel_rfl) ?_
                              refine d_nil ?_
                              obtain rfl := Option.some.inj r260
                              exact k245 _ _ ⟨⟨by kernel_rfl, by kernel_rfl, by kernel_rfl, by kernel_rfl, by kernel_rfl, by kernel_rfl, by kernel_rfl, by kernel_rfl, trivial⟩, rfl⟩
                        · obtain ⟨hh246, rfl⟩ := hM
                          obtain ⟨β, rfl⟩ := has_ex hh246
                          clear hh246
                          refine k239 _ _ ?_
                          refine w_cond (o240) (by kernel_rfl) rfl (fun h261 => ?_) (fun h261 => ?_)
                          · have r262 := ite_t h261 r242
                            refine w_reg (by kernel_rfl) ?_
                            refine s_qk (.int .i64 14) (by kernel_rfl) ?_
                            refine s_nil ?_
                            obtain rfl := Option.some.inj r262
                            exact k234 _ _ ⟨⟨by kernel_rfl, by kernel_rfl, by kernel_rfl, by kernel_rfl, by kernel_rfl, by kernel_rfl, by kernel_rfl, trivial⟩, rfl⟩
                          · have r263 := ite_bf h261 r242
                            refine w_seqk fun K264 k264 => ?_
                            refine w_reg (by kernel_rfl) ?_
                            refine s_qk (.pointer (some ⟨b7, 2, none⟩)) (by kernel_rfl) ?_
                            refine s_ql (hd_Weight) (x := aLoad Go.Proofs.Try.prog 22 (.pointer (some ⟨b7, 2, none⟩)) H14) (by kernel_rfl) (u20.ld (by kernel_rfl)) ?_
                            refine s_qk (.int .i64 i3) (by kernel_rfl) ?_
                            obtain ⟨g265, r266⟩ := G_some r263
                            have u267 := ((h_Weight.ext e9).ext e15)
                            refine s_ql (elp hd_Weight 1 i3.toNat 0) (x := aIndexAddr Go.Proofs.Try.prog 22 hd_Weight (.int .i64 i3)) (by kernel_rfl) (u267.idxb (by kernel_rfl) g265.1 g265.2) ?_
                            refine s_ql (.int .i64 (gt Weight i3)) (x := aLoad Go.Proofs.Try.prog 3 (elp hd_Weight 1 i3.toNat 0) H14) (by kernel_rfl) (u267.ld g265.1 g265.2 (by kernel_rfl)) ?_
                            refine s_b ((gt Weight i3) < 0) (by kernel_rfl) (fun h268 => ?_) (fun h268 => ?_)
                            · have r269 := ite_t h268 r266
                              refine s_qk (.bool true) (by kernel_rfl) ?_
                              refine s_no (by kernel_rfl) ?_
                              refine s_no (by kernel_rfl) ?_
                              refine s_no (by kernel_rfl) ?_
                              refine s_no (by kernel_rfl) ?_
                              refine s_no (by kernel_rfl) ?_
                              refine s_no (by kernel_rfl) ?_
                              refine s_qk (.bool true) (by kernel_rfl) ?_
                              refine s_qk (.bool true) (by kernel_rfl) ?_
                              refine s_nil ?_
                              refine k264 _ _ ?_
                              refine w_cond true (by kernel_rfl) rfl (fun _ => ?_) (fun h => by cases h)
                              refine w_reg (by kernel_rfl) ?_
                              refine s_qk (.int .i64 8) (by kernel_rfl) ?_
                              refine s_nil ?_
                              obtain rfl := Option.some.inj r269
                              exact k234 _ _ ⟨⟨by kernel_rfl, by kernel_rfl, by kernel_rfl, by kernel_rfl, by kernel_rfl, by kernel_rfl, by kernel_rfl, trivial⟩, rfl⟩
                            · have r270 := ite_f h268 r266
                              refine s_qk (.bool false) (by kernel_rfl) ?_
                              refine s_qk (.pointer (some ⟨b7, 2, none⟩)) (by kernel_rfl) ?_
                              refine s_ql (hd_Weight) (x := aLoad Go.Proofs.Try.prog 22 (.pointer (some ⟨b7, 2, none⟩)) H14) (by kernel_rfl) (u20.ld (by kernel_rfl)) ?_
                              refine s_qk (.int .i64 i3) (by kernel_rfl) ?_
                              refine s_ql (elp hd_Weight 1 i3.toNat 0) (x := aIndexAddr Go.Proofs.Try.prog 22 hd_Weight (.int .i64 i3)) (by kernel_rfl) (u267.idxb (by kernel_rfl) g265.1 g265.2) ?_
                              refine s_ql (.int .i64 (gt Weight i3)) (x := aLoad Go.Proofs.Try.prog 3 (elp hd_Weight 1 i3.toNat 0) H14) (by kernel_rfl) (u267.ld g265.1 g265.2 (by kernel_rfl)) ?_
                              refine s_qk (.bool (decide ((gt Weight i3) > 2147483647))) (by kernel_rfl) ?_
                              refine s_qk (.bool (decide ((gt Weight i3) > 2147483647))) (by kernel_rfl) ?_
                              refine s_qk (.bool (decide ((gt Weight i3) > 2147483647))) (by kernel_rfl) ?_
                              refine s_nil ?_
                              refine k264 _ _ ?_
                              refine w_condp ((gt Weight i3) > 2147483647) (by kernel_rfl) rfl (fun h271 => ?_) (fun h271 => ?_)
                              · have r272 := ite_t h271 r270
                                refine w_reg (by kernel_rfl) ?_
                                refine s_qk (.int .i64 8) (by kernel_rfl) ?_
                                refine s_nil ?_
                                obtain rfl := Option.some.inj r272
                                exact k234 _ _ ⟨⟨by kernel_rfl, by kernel_rfl, by kernel_rfl, by kernel_rfl, by kernel_rfl, by kernel_rfl, by kernel_rfl, trivial⟩, rfl⟩
                              · have r273 := ite_f h271 r270
                                refine w_skip ?_
                                obtain rfl := Option.some.inj r273
                                exact k234 _ _ ⟨⟨by kernel_rfl, by kernel_rfl, by kernel_rfl, by kernel_rfl, by kernel_rfl, by kernel_rfl, by kernel_rfl, trivial⟩, rfl⟩
                    · obtain ⟨hh235, rfl⟩ := hM
                      obtain ⟨β, rfl⟩ := has_ex hh235
                      clear hh235
                      refine k215 _ _ ?_
                      refine w_seqk fun K274 k274 => ?_
                      refine w_reg (by kernel_rfl) ?_
                      refine s_qk (.int .i64 o229) (by kernel_rfl) ?_
                      refine s_qk (.bool (!decide (o229 = 0))) (by kernel_rfl) ?_
                      refine s_nil ?_
                      refine k274 _ _ ?_
                      refine w_condn (o229 = 0) (by kernel_rfl) rfl (fun h275 => ?_) (fun h275 => ?_)
                      · have r276 := ite_f h275 r231
                        refine w_seqk fun K277 k277 => ?_
                        refine w_reg (by kernel_rfl) ?_
                        refine s_qk (.int .i64 i3) (by kernel_rfl) ?_
                        refine s_qk (.int .i64 o229) (by kernel_rfl) ?_
                        obtain ⟨y278, hy279, r280⟩ := bind_some r276
                        refine s_ck 47 #[.int .i64 o229] (by kernel_rfl) (c_viaductref01_E e15.wf hy279) ?_
                        rintro _ H281 ⟨rfl, e282⟩
                        obtain ⟨y283, hy284, r285⟩ := bind_some r280
                        refine s_ck 66 #[.int .i64 4, .int .i64 i3, .agg #[.int .i64 y278, .slice none 0 0]] (by kernel_rfl) (c_viaductref01_At e282.wf (Sq.nil (enc := enc_i64_i64) (sz := 2) (by decide)) hy284) ?_
                        rintro _ H288 ⟨s286, f287, rfl, e289, m290, i291⟩
                        obtain ⟨a293, n294, c295, rfl⟩ := m290.form
                        have u300 := ((r17.frS e282 Dj.nil_l).frS e289 Dj.nil_l)
                        obtain ⟨H296, q297, e298, r299⟩ := Row.store (P := Go.Proofs.Try.prog) (t := 41) (p := 0) e289.wf u300 (.agg #[.int .i64 y283.1, .slice a293 n294 c295]) [.int .i64 y283.1, .slice a293 n294 c295] (by kernel_rfl) (by kernel_rfl) (one_cons (rfl) (one_cons (m290.one1) (one_nil))) (Nat.le_of_ble_eq_true (by kernel_rfl)) [.int .i64 y283.1, .slice a293 n294 c295] (by kernel_rfl)
                        refine s_ek (undef) (by kernel_rfl) (map_ok q297) ?_
                        refine s_nil ?_
                        refine k277 _ _ ?_
                        refine w_ret (bl_ret (th_ret (th_ret (bl_ret (th_ret (th_ret ?_))))))
                        obtain ⟨v301, hv302, hz303⟩ := map_some r285
                        subst hz303
                        obtain rfl := it_inr hn177
                        have hq304 := elim_inl r162
                        rw [hq304] at hv302
                        refine b_ret (fn := Go.Proofs.Try.f39) (vs := [.agg #[.int .i64 y283.1, .slice a293 n294 c295]]) (aRes_cell (Eq.trans (b := aLoad Go.Proofs.Try.prog 41 (.pointer (some ⟨b13, 0, none⟩)) H296) (by kernel_rfl) (r299.ld (by kernel_rfl))) (rfl)) ?_
                        have u305 := (m290.fr e298 (Dj.symm (i291.djn (r17.ltF.le e282.next))))
                        obtain rfl := Option.some.inj hv302
                        exact ⟨(.slice a293 n294 c295), f287, rfl, (FrS.step wf (FrS.step wf (FrS.step wf (((FrS.refl (W := []) wf).extR e9).extR e15) e282 Inn.nil) e289 Inn.nil) e298 (hb16.fresh e9.next)), u305, (i291.fresh (Nat.le_trans (Nat.le_trans e9.next e15.next) e282.next))⟩
                      · have r306 := ite_t h275 r231
                        refine w_skip ?_
                        refine k183 _ _ ?_
                        refine w_reg (by kernel_rfl) ?_
                        refine s_qk (.int .i64 i3) (by kernel_rfl) ?_
                        obtain ⟨g307, r308⟩ := G_some r306
                        refine s_w ((i3 + 1)) (k := .i64) (x := (i3 + 1)) (by kernel_rfl) (wrap64 g307) ?_
                        refine s_qk (.int .i64 (i3 + 1)) (by kernel_rfl) ?_
                        refine s_nil ?_
                        obtain rfl := Option.some.inj r308
                        exact k178 n174 _ _ (Nat.lt_succ_self _) ⟨o185, (i3 + 1), hn177, ⟨by kernel_rfl, by kernel_rfl, by kernel_rfl, by kernel_rfl, by kernel_rfl, by kernel_rfl, trivial⟩, rfl⟩
              · have r309 := ite_f h181 hz176
                refine w_exit (th_exit (th_exit (bl_eq ?_)))
                obtain rfl := Option.some.inj r309
                obtain rfl := it_inr hn177
                exact k166 _ _ ⟨_, rfl, ⟨by kernel_rfl, trivial⟩, rfl⟩
            · obtain ⟨o160, rfl, hh167, rfl⟩ := hM
              have r310 := elim_inr r162
              obtain ⟨β, rfl⟩ := has_ex hh167
              clear hh167
              refine k158 _ _ ?_
              refine w_seqk fun K311 k311 => ?_
              refine w_reg (by kernel_rfl) ?_
              refine s_qk (.agg #[.int .i64 0, .slice none 0 0]) (by kernel_rfl) ?_
              obtain ⟨H312, q313, e314, r315⟩ := Row.store (P := Go.Proofs.Try.prog) (t := 41) (p := 0) e15.wf r17 (.agg #[.int .i64 0, .slice none 0 0]) [.int .i64 0, .slice none 0 0] (by kernel_rfl) (by kernel_rfl) (one_cons (rfl) (one_cons (rfl) (one_nil))) (Nat.le_of_ble_eq_true (by kernel_rfl)) [.int .i64 0, .slice none 0 0] (by kernel_rfl)
              refine s_ek (undef) (by kernel_rfl) (map_ok q313) ?_
              refine s_nil ?_
              refine k311 _ _ ?_
              refine w_ret ?_
              refine b_ret (fn := Go.Proofs.Try.f39) (vs := [.agg #[.int .i64 0, .slice none 0 0]]) (aRes_cell (Eq.trans (b := aLoad Go.Proofs.Try.prog 41 (.pointer (some ⟨b13, 0, none⟩)) H312) (by kernel_rfl) (r315.ld (by kernel_rfl))) (rfl)) ?_
              obtain rfl := Option.some.inj r310
              exact ⟨(.slice none 0 0), [], rfl, (FrS.step wf (((FrS.refl (W := []) wf).extR e9).extR e15) e314 (hb16.fresh e9.next)), (Ow.nil (by decide)), Inn.nil⟩

theorem c_viaductref01_Err_Bad {H : AH} {hd_Places : Value} {fp_Places : Fp} {Code : Int} {Places : List (Int × Int)} {r : Bool}
    (wf : WF H) (h_Places : Sq enc_i64_i64 2 H hd_Places Places fp_Places) (hr : z_viaductref01_Err_Bad Code Places = some r) :
    ACalls Go.Proofs.Try.prog 40 #[.agg #[.int .i64 Code, hd_Places]] H fun v H' => v = .bool r ∧ FrS [] H H' := by
  refine acalls_of_body mixed Go.Proofs.Try.func40 rfl (Nat.le_of_ble_eq_true rfl) ?_
  unfold z_viaductref01_Err_Bad at hr
  refine w_seqk fun K1 k1 => ?_
  refine w_reg (by kernel_rfl) ?_
  refine s_rwl wf [.int .i64 Code, hd_Places] (one_cons (rfl) (one_cons (h_Places.one1) (one_nil))) (by kernel_rfl) fun b2 H3 e4 hb5 r6 => ?_
  refine s_qk (.bool false) (by kernel_rfl) ?_
  refine s_nil ?_
  refine k1 _ _ ?_
  refine w_seqk fun K8 k8 => ?_
  refine w_reg (by kernel_rfl) ?_
  refine s_qk (.pointer (some ⟨b2, 0, none⟩)) (by kernel_rfl) ?_
  refine s_ql (.int .i64 Code) (x := aLoad Go.Proofs.Try.prog 3 (.pointer (some ⟨b2, 0, none⟩)) H3) (by kernel_rfl) (r6.ld (by kernel_rfl)) ?_
  refine s_bn (Code = 0) (by kernel_rfl) (fun h9 => ?_) (fun h9 => ?_)
  · have r10 := ite_t h9 hr
    refine s_qk (.bool false) (by kernel_rfl) ?_
    refine s_qk (.pointer (some ⟨b2, 1, none⟩)) (by kernel_rfl) ?_
    refine s_ql (hd_Places) (x := aLoad Go.Proofs.Try.prog 39 (.pointer (some ⟨b2, 1, none⟩)) H3) (by kernel_rfl) (r6.ld (by kernel_rfl)) ?_
    have u11 := (h_Places.ext e4)
    refine s_ql (.int .i64 (Places.length : Int)) (x := aLen Go.Proofs.Try.prog 39 hd_Places H3) (by kernel_rfl) (u11.lenb (by kernel_rfl)) ?_
    refine s_qk (.bool (decide ((Places.length : Int) > 0))) (by kernel_rfl) ?_
    refine s_qk (.bool (decide ((Places.length : Int) > 0))) (by kernel_rfl) ?_
    refine s_qk (.bool (decide ((Places.length : Int) > 0))) (by kernel_rfl) ?_
    refine s_nil ?_
    refine k8 _ _ ?_
    refine w_ret ?_
    refine b_ret (fn := Go.Proofs.Try.f40) (vs := [.bool (decide ((Places.length : Int) > 0))]) (aRes_tmp (by kernel_rfl) (rfl)) ?_
    obtain rfl := Option.some.inj r10
    exact ⟨rfl, ((FrS.refl (W := []) wf).extR e4)⟩
  · have r12 := ite_f h9 hr
    refine s_qk (.bool true) (by kernel_rfl) ?_
    refine s_no (by kernel_rfl) ?_
    refine s_no (by kernel_rfl) ?_
    refine s_no (by kernel_rfl) ?_
    refine s_no (by kernel_rfl) ?_
    refine s_qk (.bool true) (by kernel_rfl) ?_
    refine s_qk (.bool true) (by kernel_rfl) ?_
    refine s_nil ?_
    refine k8 _ _ ?_
    refine w_ret ?_
    refine b_ret (fn := Go.Proofs.Try.f40) (vs := [.bool true]) (aRes_tmp (by kernel_rfl) (rfl)) ?_
    obtain rfl := Option.some.inj r12
    exact ⟨rfl, ((FrS.refl (W := []) wf).extR e4)⟩

theorem c_viaductlaw09_few {H : AH} {hd_First : Value} {fp_First : Fp} {hd_To : Value} {fp_To : Fp} {hd_Weight : Value} {fp_Weight : Fp} {hd_l : Value} {fp_l : Fp} {First : List (Int)} {To : List (Int)} {Weight : List (Int)} {l : List (Int)} {r : Bool}
    (wf : WF H) (h_First : Sq (encI .i64) 1 H hd_First First fp_First) (h_To : Sq (encI .i64) 1 H hd_To To fp_To) (h_Weight : Sq (encI .i64) 1 H hd_Weight Weight fp_Weight) (h_l : Sq (encI .i64) 1 H hd_l l fp_l) (hr : z_viaductlaw09_few First To Weight l = some r) :
    ACalls Go.Proofs.Try.prog 9 #[.agg #[hd_First, hd_To, hd_Weight], hd_l] H fun v H' => v = .bool r ∧ FrS [] H H' := by
  refine acalls_of_body mixed Go.Proofs.Try.func9 rfl (Nat.le_of_ble_eq_true rfl) ?_
  unfold z_viaductlaw09_few at hr
  refine w_seqk fun K1 k1 => ?_
  refine w_reg (by kernel_rfl) ?_
  refine s_rwl wf [hd_First, hd_To, hd_Weight] (one_cons (h_First.one1) (one_cons (h_To.one1) (one_cons (h_Weight.one1) (one_nil)))) (by kernel_rfl) fun b2 H3 e4 hb5 r6 => ?_
  refine s_qk (.bool false) (by kernel_rfl) ?_
  refine s_nil ?_
  refine k1 _ _ ?_
  refine w_seqk fun K8 k8 => ?_
  refine w_reg (by kernel_rfl) ?_
  refine s_ql (.agg #[hd_First, hd_To, hd_Weight]) (x := aLoad Go.Proofs.Try.prog 24 (.pointer (some ⟨b2, 0, none⟩)) H3) (by kernel_rfl) (r6.ld (by kernel_rfl)) ?_
  have u9 := (h_First.ext e4)
  have u10 := (h_To.ext e4)
  have u11 := (h_Weight.ext e4)
  obtain ⟨y12, hy13, r14⟩ := bind_some hr
  refine s_ck 39 #[.agg #[hd_First, hd_To, hd_Weight]] (by kernel_rfl) (c_viaductref05_DocCheck e4.wf u9 u10 u11 hy13) ?_
  rintro _ H17 ⟨s15, f16, rfl, e18, m19, i20⟩
  obtain ⟨a22, n23, c24, rfl⟩ := m19.form
  refine s_rwk e18.wf [.int .i64 0, .slice none 0 0] (by kernel_rfl) fun b25 H26 e27 hb28 r29 => ?_
  have u35 := (m19.ext e27)
  obtain ⟨H31, q32, e33, r34⟩ := Row.store (P := Go.Proofs.Try.prog) (t := 41) (p := 0) e27.wf r29 (.agg #[.int .i64 y12.1, .slice a22 n23 c24]) [.int .i64 y12.1, .slice a22 n23 c24] (by kernel_rfl) (by kernel_rfl) (one_cons (rfl) (one_cons (u35.one1) (one_nil))) (Nat.le_of_ble_eq_true (by kernel_rfl)) [.int .i64 y12.1, .slice a22 n23 c24] (by kernel_rfl)
  refine s_ek (undef) (by kernel_rfl) (map_ok q32) ?_
  refine s_nil ?_
  refine k8 _ _ ?_
  refine w_seqk fun K36 k36 => ?_
  refine w_reg (by kernel_rfl) ?_
  refine s_qk (hd_l) (by kernel_rfl) ?_
  have u37 := ((((h_l.ext e4).fr e18 Dj.nil_l).ext e27).fr e33 (hb28.djn (h_l.lt.le (Nat.le_trans e4.next e18.next))))
  refine s_ql (.int .i64 (l.length : Int)) (x := aLen Go.Proofs.Try.prog 22 hd_l H31) (by kernel_rfl) (u37.lenb (by kernel_rfl)) ?_
  refine s_b ((l.length : Int) ≤ 2000) (by kernel_rfl) (fun h38 => ?_) (fun h38 => ?_)
  · have r39 := ite_t h38 r14
    refine s_qk (.bool true) (by kernel_rfl) ?_
    refine s_ql (.agg #[.int .i64 y12.1, .slice a22 n23 c24]) (x := aLoad Go.Proofs.Try.prog 41 (.pointer (some ⟨b25, 0, none⟩)) H31) (by kernel_rfl) (r34.ld (by kernel_rfl)) ?_
    have u40 := (u35.fr e33 (hb28.djn m19.lt))
    obtain ⟨y41, hy42, r43⟩ := bind_some r39
    refine s_ck 40 #[.agg #[.int .i64 y12.1, .slice a22 n23 c24]] (by kernel_rfl) (c_viaductref01_Err_Bad e33.wf u40.sq hy42) ?_
    rintro _ H44 ⟨rfl, e45⟩
    by_cases h46 : y41 = true
    · have r47 := ite_t h46 r43
      rw [h46]
      refine s_qk (.bool true) (by kernel_rfl) ?_
      refine s_no (by kernel_rfl) ?_
      refine s_no (by kernel_rfl) ?_
      refine s_no (by kernel_rfl) ?_
      refine s_no (by kernel_rfl) ?_
      refine s_qk (.bool true) (by kernel_rfl) ?_
      refine s_qk (.bool true) (by kernel_rfl) ?_
      refine s_qk (.bool true) (by kernel_rfl) ?_
      refine s_nil ?_
      refine k36 _ _ ?_
      refine w_ret ?_
      refine b_ret (fn := Go.Proofs.Try.f9) (vs := [.bool true]) (aRes_tmp (by kernel_rfl) (rfl)) ?_
      obtain rfl := Option.some.inj r47
      exact ⟨rfl, (FrS.step wf (FrS.step wf ((FrS.step wf ((FrS.refl (W := []) wf).extR e4) e18 Inn.nil).extR e27) e33 (hb28.fresh (Nat.le_trans e4.next e18.next))) e45 Inn.nil)⟩
    · have r49 := ite_f h46 r43
      rw [nb h46]
      refine s_qk (.bool false) (by kernel_rfl) ?_
      refine s_qk (.pointer (some ⟨b2, 0, none⟩)) (by kernel_rfl) ?_
      have u51 := ((((r6.frS e18 Dj.nil_l).ext e27).frS e33 (hb28.djn (r6.ltF.le e18.next))).frS e45 Dj.nil_l)
      refine s_ql (hd_First) (x := aLoad Go.Proofs.Try.prog 22 (.pointer (some ⟨b2, 0, none⟩)) H44) (by kernel_rfl) (u51.ld (by kernel_rfl)) ?_
      have u52 := ((((u9.fr e18 Dj.nil_l).ext e27).fr e33 (hb28.djn (h_First.lt.le (Nat.le_trans e4.next e18.next)))).fr e45 Dj.nil_l)
      refine s_ql (.int .i64 (First.length : Int)) (x := aLen Go.Proofs.Try.prog 22 hd_First H44) (by kernel_rfl) (u52.lenb (by kernel_rfl)) ?_
      refine s_qk (.bool (decide ((First.length : Int) ≤ 30))) (by kernel_rfl) ?_
      refine s_qk (.bool (decide ((First.length : Int) ≤ 30))) (by kernel_rfl) ?_
      refine s_qk (.bool (decide ((First.length : Int) ≤ 30))) (by kernel_rfl) ?_
      refine s_qk (.bool (decide ((First.length : Int) ≤ 30))) (by kernel_rfl) ?_
      refine s_nil ?_
      refine k36 _ _ ?_
      refine w_ret ?_
      refine b_ret (fn := Go.Proofs.Try.f9) (vs := [.bool (decide ((First.length : Int) ≤ 30))]) (aRes_tmp (by kernel_rfl) (rfl)) ?_
      obtain rfl := Option.some.inj r49
      exact ⟨rfl, (FrS.step wf (FrS.step wf ((FrS.step wf ((FrS.refl (W := []) wf).extR e4) e18 Inn.nil).extR e27) e33 (hb28.fresh (Nat.le_trans e4.next e18.next))) e45 Inn.nil)⟩
  · have r53 := ite_f h38 r14
    refine s_qk (.bool false) (by kernel_rfl) ?_
    refine s_no (by kernel_rfl) ?_
    refine s_no (by kernel_rfl) ?_
    refine s_no (by kernel_rfl) ?_
    refine s_no (by kernel_rfl) ?_
    refine s_no (by kernel_rfl) ?_
    refine s_no (by kernel_rfl) ?_
    refine s_no (by kernel_rfl) ?_
    refine s_no (by kernel_rfl) ?_
    refine s_qk (.bool false) (by kernel_rfl) ?_
    refine s_qk (.bool false) (by kernel_rfl) ?_
    refine s_nil ?_
    refine k36 _ _ ?_
    refine w_ret ?_
    refine b_ret (fn := Go.Proofs.Try.f9) (vs := [.bool false]) (aRes_tmp (by kernel_rfl) (rfl)) ?_
    obtain rfl := Option.some.inj r53
    exact ⟨rfl, (FrS.step wf ((FrS.step wf ((FrS.refl (W := []) wf).extR e4) e18 Inn.nil).extR e27) e33 (hb28.fresh (Nat.le_trans e4.next e18.next)))⟩

theorem c_viaductref02_TwinInts {H : AH} {hd_l : Value} {fp_l : Fp} {l : List (Int)} {r : List (Int)}
    (wf : WF H) (h_l : Sq (encI .i64) 1 H hd_l l fp_l) (hr : z_viaductref02_TwinInts l = some r) :
    ACalls Go.Proofs.Try.prog 11 #[hd_l] H fun v H' => ∃ (s3 : Value) (f4 : Fp), v = s3 ∧ FrS [] H H' ∧ Ow (encI .i64) 1 H' s3 r f4 ∧ Inn [] H f4 := by
  refine acalls_of_body mixed Go.Proofs.Try.func11 rfl (Nat.le_of_ble_eq_true rfl) ?_
  unfold z_viaductref02_TwinInts at hr
  refine w_seqk fun K6 k6 => ?_
  refine w_reg (by kernel_rfl) ?_
  refine s_qk (.slice none 0 0) (by kernel_rfl) ?_
  refine s_nil ?_
  refine k6 _ _ ?_
  refine w_seqk fun K7 k7 => ?_
  refine w_reg (by kernel_rfl) ?_
  refine s_qk (.slice none 0 0) (by kernel_rfl) ?_
  refine s_nil ?_
  refine k7 _ _ ?_
  refine w_seqk fun K8 k8 => ?_
  refine w_seqk fun K9 k9 => ?_
  refine w_reg (by kernel_rfl) ?_
  refine s_qk (hd_l) (by kernel_rfl) ?_
  refine s_ql (.int .i64 (l.length : Int)) (x := aLen Go.Proofs.Try.prog 22 hd_l H) (by kernel_rfl) (h_l.lenb (by kernel_rfl)) ?_
  refine s_qk (.int .i64 0) (by kernel_rfl) ?_
  refine s_nil ?_
  refine k9 _ _ ?_
  obtain ⟨o10, hx11, r12⟩ := bind_some hr
  refine w_mid (fun α H13 => ∃ (s17 : Value) (f18 : Fp), Has α [(3, s17)] ∧ FrS [] H H13 ∧ Ow (encI .i64) 1 H13 s17 o10 f18 ∧ Inn [] H f18) (fun K20 k20 => ?_) (fun α H13 hM => ?_)
  · refine w_block ?_
    obtain ⟨n22, hn23⟩ := loopO_iff.1 hx11
    refine w_loopn (fun n α H24 => ∃ (m0 : List (Int)), ∃ (i1 : Int), ∃ (s28 : Value), ∃ (f29 : Fp), iterO (fun s => z_viaductref02_TwinInts_l0 l s.1 s.2) n (m0, i1) = some o10 ∧ Has α [(3, s28), (6, hd_l), (7, .int .i64 (l.length : Int)), (8, .int .i64 i1)] ∧ FrS [] H H24 ∧ Ow (encI .i64) 1 H24 s28 m0 f29 ∧ Inn [] H f29) n22 ⟨[], 0, (.slice none 0 0), [], hn23, ⟨by kernel_rfl, by kernel_rfl, by kernel_rfl, by kernel_rfl, trivial⟩, (FrS.refl (W := []) wf), (Ow.nil (by decide)), Inn.nil⟩ ?_
    rintro n22 α H24 ⟨m0, i1, s28, f29, hi32, hh31, e25, m27, i30⟩ K37 k37
    obtain ⟨n33, z34, rfl, hz35, hn36⟩ := iter_succ hi32
    obtain ⟨β, rfl⟩ := has_ex hh31
    clear hh31
    replace hz35 : z_viaductref02_TwinInts_l0 l m0 i1 = some z34 := hz35
    unfold z_viaductref02_TwinInts_l0 at hz35
    obtain ⟨a38, n39, c40, rfl⟩ := m27.form
    refine w_seqk fun K41 k41 => ?_
    refine w_reg (by kernel_rfl) ?_
    refine s_qk (.bool (decide (i1 < (l.length : Int)))) (by kernel_rfl) ?_
    refine s_nil ?_
    refine k41 _ _ ?_
    refine w_seqk fun K42 k42 => ?_
    refine w_condp (i1 < (l.length : Int)) (by kernel_rfl) rfl (fun h43 => ?_) (fun h43 => ?_)
    · have r44 := ite_t h43 hz35
      refine w_skip ?_
      refine k42 _ _ ?_
      refine w_seqk fun K45 k45 => ?_
      refine w_block ?_
      refine w_seqk fun K46 k46 => ?_
      refine w_reg (by kernel_rfl) ?_
      obtain ⟨g47, r48⟩ := G_some r44
      have u49 := (h_l.fr e25 Dj.nil_l)
      refine s_ql (elp hd_l 1 i1.toNat 0) (x := aIndexAddr Go.Proofs.Try.prog 22 hd_l (.int .i64 i1)) (by kernel_rfl) (u49.idxb (by kernel_rfl) g47 h43) ?_
      refine s_ql (.int .i64 (gt l i1)) (x := aLoad Go.Proofs.Try.prog 3 (elp hd_l 1 i1.toNat 0) H24) (by kernel_rfl) (u49.ld g47 h43 (by kernel_rfl)) ?_
      refine s_qk (.int .i64 (gt l i1)) (by kernel_rfl) ?_
      refine s_nil ?_
      refine k46 _ _ ?_
      refine w_reg (by kernel_rfl) ?_
      refine s_qk (.slice a38 n39 c40) (by kernel_rfl) ?_
      refine s_qk (.int .i64 (gt l i1)) (by kernel_rfl) ?_
      refine s_owk (enc := (encI .i64)) (sz := 1) e25.wf [(gt l i1)] 1 (by decide) (fun _ _ => rfl) (fun _ _ => rfl) rfl (by kernel_rfl) fun s50 f51 H52 e53 hf54 hm55 => ?_
      obtain ⟨a56, n57, c58, rfl⟩ := hm55.form
      have u60 := (m27.ext e53)
      obtain ⟨g61, r62⟩ := G_some r48
      obtain ⟨s63, H64, f65, q69, e66, hm67, hf68⟩ := Ow.append (P := Go.Proofs.Try.prog) 8 e53.wf u60 hm55.sq (fun _ _ => rfl) (at_ := #[22, 22]) rfl rfl (by kernel_rfl) (by kernel_rfl) (by decide) (by have := g61; first | omega | (simp only [List.length_cons, List.length_nil] at this ⊢; omega) | (simp at this ⊢; omega))
      obtain ⟨a70, n71, c72, rfl⟩ := hm67.form
      refine s_ek (.slice a70 n71 c72) (by kernel_rfl) (q69) ?_
      refine s_qk (.slice a70 n71 c72) (by kernel_rfl) ?_
      refine s_nil ?_
      refine k45 _ _ ?_
      refine w_reg (by kernel_rfl) ?_
      obtain ⟨g74, r75⟩ := G_some r62
      refine s_w ((i1 + 1)) (k := .i64) (x := (i1 + 1)) (by kernel_rfl) (wrap64 (by have := g74; omega)) ?_
      refine s_qk (.int .i64 (i1 + 1)) (by kernel_rfl) ?_
      refine s_nil ?_
      obtain rfl := Option.some.inj r75
      exact k37 n33 _ _ (Nat.lt_succ_self _) ⟨(m0 ++ [(gt l i1)]), (i1 + 1), (.slice a70 n71 c72), f65, hn36, ⟨by kernel_rfl, by kernel_rfl, by kernel_rfl, by kernel_rfl, trivial⟩, (FrS.step wf ((FrS.step wf (FrS.refl (W := []) wf) e25 Inn.nil).extR e53) e66 (i30.fresh (Nat.le_refl _))), hm67, (Inn.trans (i30.fresh (Nat.le_refl _)) (Nat.le_trans e25.next e53.next) hf68)⟩
    · have r76 := ite_f h43 hz35
      refine w_exit (th_exit (th_exit (bl_eq ?_)))
      obtain rfl := Option.some.inj r76
      obtain rfl := it_inr hn36
      exact k20 _ _ ⟨(.slice a38 n39 c40), f29, ⟨by kernel_rfl, trivial⟩, (FrS.step wf (FrS.refl (W := []) wf) e25 Inn.nil), m27, (i30.fresh (Nat.le_refl _))⟩
  · obtain ⟨s17, f18, hh21, e14, m16, i19⟩ := hM
    obtain ⟨β, rfl⟩ := has_ex hh21
    clear hh21
    obtain ⟨a77, n78, c79, rfl⟩ := m16.form
    refine k8 _ _ ?_
    refine w_seqk fun K80 k80 => ?_
    refine w_reg (by kernel_rfl) ?_
    refine s_qk (.slice a77 n78 c79) (by kernel_rfl) ?_
    refine s_qk (.slice a77 n78 c79) (by kernel_rfl) ?_
    refine s_nil ?_
    refine k80 _ _ ?_
    refine w_ret ?_
    refine b_ret (fn := Go.Proofs.Try.f11) (vs := [.slice a77 n78 c79]) (aRes_tmp (by kernel_rfl) (rfl)) ?_
    obtain rfl := Option.some.inj r12
    exact ⟨(.slice a77 n78 c79), f18, rfl, (FrS.step wf (FrS.refl (W := []) wf) e14 Inn.nil), m16, (i19.fresh (Nat.le_refl _))⟩

theorem c_walk_Simple {H : AH} {hd_list : Value} {fp_list : Fp} {list : List (Int)} {r : List (Int)}
    (wf : WF H) (h_list : Sq (encI .i64) 1 H hd_list list fp_list) (hr : z_walk_Simple list = some r) :
    ACalls Go.Proofs.Try.prog 10 #[hd_list] H fun v H' => ∃ (s3 : Value) (f4 : Fp), v = s3 ∧ FrS [] H H' ∧ Ow (encI .i64) 1 H' s3 r f4 ∧ Inn [] H f4 := by
  refine acalls_of_body mixed Go.Proofs.Try.func10 rfl (Nat.le_of_ble_eq_true rfl) ?_
  unfold z_walk_Simple at hr
  refine w_seqk fun K6 k6 => ?_
  refine w_reg (by kernel_rfl) ?_
  refine s_qk (.slice none 0 0) (by kernel_rfl) ?_
  refine s_nil ?_
  refine k6 _ _ ?_
  refine w_seqk fun K7 k7 => ?_
  refine w_reg (by kernel_rfl) ?_
  refine s_mp .i64 .i64 wf (by kernel_rfl) fun b8 H9 e10 hb11 mp12 => ?_
  refine s_qk (.map (some b8)) (by kernel_rfl) ?_
  refine s_nil ?_
  refine k7 _ _ ?_
  refine w_seqk fun K14 k14 => ?_
  refine w_reg (by kernel_rfl) ?_
  refine s_qk (.slice none 0 0) (by kernel_rfl) ?_
  refine s_nil ?_
  refine k14 _ _ ?_
  refine w_seqk fun K15 k15 => ?_
  refine w_seqk fun K16 k16 => ?_
  refine w_reg (by kernel_rfl) ?_
  refine s_qk (hd_list) (by kernel_rfl) ?_
  have u17 := (h_list.ext e10)
  refine s_ql (.int .i64 (list.length : Int)) (x := aLen Go.Proofs.Try.prog 22 hd_list H9) (by kernel_rfl) (u17.lenb (by kernel_rfl)) ?_
  refine s_qk (.int .i64 0) (by kernel_rfl) ?_
  refine s_nil ?_
  refine k16 _ _ ?_
  obtain ⟨o18, hx19, r20⟩ := bind_some hr
  refine w_mid (fun α H21 => ∃ (s25 : Value) (f26 : Fp), Has α [(4, s25)] ∧ FrS [b8] H9 H21 ∧ Ow (encI .i64) 1 H21 s25 o18 f26 ∧ Inn [] H9 f26) (fun K28 k28 => ?_) (fun α H21 hM => ?_)
  · refine w_block ?_
    obtain ⟨n30, hn31⟩ := loopO_iff.1 hx19
    refine w_loopn (fun n α H32 => ∃ (i0 : Int), ∃ (at1 : Int → Option Int), ∃ (s2 : List (Int)), ∃ (s38 : Value), ∃ (f39 : Fp), iterO (fun s => z_walk_Simple_l0 list s.1 s.2.1 s.2.2) n (i0, at1, s2) = some o18 ∧ Has α [(3, .map (some b8)), (4, s38), (11, hd_list), (12, .int .i64 (list.length : Int)), (13, .int .i64 i0)] ∧ FrS [b8] H9 H32 ∧ Mp .i64 .i64 H32 b8 at1 ∧ Ow (encI .i64) 1 H32 s38 s2 f39 ∧ Inn [] H9 f39) n30 ⟨0, (fun _ => none), [], (.slice none 0 0), [], hn31, ⟨by kernel_rfl, by kernel_rfl, by kernel_rfl, by kernel_rfl, by kernel_rfl, trivial⟩, (FrS.refl (W := [b8]) e10.wf), mp12, (Ow.nil (by decide)), Inn.nil⟩ ?_
    rintro n30 α H32 ⟨i0, at1, s2, s38, f39, hi42, hh41, e33, m35, m37, i40⟩ K47 k47
    obtain ⟨n43, z44, rfl, hz45, hn46⟩ := iter_succ hi42
    obtain ⟨β, rfl⟩ := has_ex hh41
    clear hh41
    replace hz45 : z_walk_Simple_l0 list i0 at1 s2 = some z44 := hz45
    unfold z_walk_Simple_l0 at hz45
    obtain ⟨a48, n49, c50, rfl⟩ := m37.form
    refine w_seqk fun K51 k51 => ?_
    refine w_reg (by kernel_rfl) ?_
    refine s_qk (.bool (decide (i0 < (list.length : Int)))) (by kernel_rfl) ?_
    refine s_nil ?_
    refine k51 _ _ ?_
    refine w_seqk fun K52 k52 => ?_
    refine w_condp (i0 < (list.length : Int)) (by kernel_rfl) rfl (fun h53 => ?_) (fun h53 => ?_)
    · have r54 := ite_t h53 hz45
      refine w_skip ?_
      refine k52 _ _ ?_
      refine w_seqk fun K55 k55 => ?_
      refine w_block ?_
      refine w_seqk fun K56 k56 => ?_
      refine w_reg (by kernel_rfl) ?_
      obtain ⟨g57, r58⟩ := G_some r54
      have u59 := (u17.fr e33 (hb11.djn h_list.lt))
      refine s_ql (elp hd_list 1 i0.toNat 0) (x := aIndexAddr Go.Proofs.Try.prog 22 hd_list (.int .i64 i0)) (by kernel_rfl) (u59.idxb (by kernel_rfl) g57 h53) ?_
      refine s_ql (.int .i64 (gt list i0)) (x := aLoad Go.Proofs.Try.prog 3 (elp hd_list 1 i0.toNat 0) H32) (by kernel_rfl) (u59.ld g57 h53 (by kernel_rfl)) ?_
      refine s_qk (.int .i64 (gt list i0)) (by kernel_rfl) ?_
      refine s_nil ?_
      refine k56 _ _ ?_
      refine w_seqk fun K60 k60 => ?_
      refine w_reg (by kernel_rfl) ?_
      refine s_qk (.map (some b8)) (by kernel_rfl) ?_
      refine s_qk (.int .i64 (gt list i0)) (by kernel_rfl) ?_
      refine s_ql (.int .i64 ((at1 (gt list i0)).getD 0)) (x := aLookup Go.Proofs.Try.prog 80 (.map (some b8)) (.int .i64 (gt list i0)) false H32) (by kernel_rfl) (m35.look (by kernel_rfl) _) ?_
      refine s_qk (.int .i64 ((at1 (gt list i0)).getD 0)) (by kernel_rfl) ?_
      refine s_nil ?_
      refine k60 _ _ ?_
      refine w_seqk fun K61 k61 => ?_
      refine w_seqk fun K62 k62 => ?_
      refine w_reg (by kernel_rfl) ?_
      refine s_qk (.int .i64 ((at1 (gt list i0)).getD 0)) (by kernel_rfl) ?_
      refine s_qk (.bool (decide (((at1 (gt list i0)).getD 0) = 0))) (by kernel_rfl) ?_
      refine s_nil ?_
      refine k62 _ _ ?_
      refine w_condp (((at1 (gt list i0)).getD 0) = 0) (by kernel_rfl) rfl (fun h63 => ?_) (fun h63 => ?_)
      · have r64 := ite_t h63 r58
        refine w_seqk fun K65 k65 => ?_
        refine w_reg (by kernel_rfl) ?_
        refine s_qk (.slice a48 n49 c50) (by kernel_rfl) ?_
        refine s_qk (.int .i64 (gt list i0)) (by kernel_rfl) ?_
        refine s_owk (enc := (encI .i64)) (sz := 1) e33.wf [(gt list i0)] 1 (by decide) (fun _ _ => rfl) (fun _ _ => rfl) rfl (by kernel_rfl) fun s66 f67 H68 e69 hf70 hm71 => ?_
        obtain ⟨a72, n73, c74, rfl⟩ := hm71.form
        have u76 := (m37.ext e69)
        obtain ⟨g77, r78⟩ := G_some r64
        obtain ⟨s79, H80, f81, q85, e82, hm83, hf84⟩ := Ow.append (P := Go.Proofs.Try.prog) 8 e69.wf u76 hm71.sq (fun _ _ => rfl) (at_ := #[22, 22]) rfl rfl (by kernel_rfl) (by kernel_rfl) (by decide) (by have := g77; first | omega | (simp only [List.length_cons, List.length_nil] at this ⊢; omega) | (simp at this ⊢; omega))
        obtain ⟨a86, n87, c88, rfl⟩ := hm83.form
        refine s_ek (.slice a86 n87 c88) (by kernel_rfl) (q85) ?_
        refine s_qk (.slice a86 n87 c88) (by kernel_rfl) ?_
        refine s_nil ?_
        refine k65 _ _ ?_
        refine w_seqk fun K90 k90 => ?_
        refine w_reg (by kernel_rfl) ?_
        refine s_qk (.map (some b8)) (by kernel_rfl) ?_
        refine s_qk (.int .i64 (gt list i0)) (by kernel_rfl) ?_
        refine s_qk (.slice a86 n87 c88) (by kernel_rfl) ?_
        refine s_ql (.int .i64 ((s2 ++ [(gt list i0)]).length : Int)) (x := aLen Go.Proofs.Try.prog 22 (.slice a86 n87 c88) H80) (by kernel_rfl) (hm83.sq.lenb (by kernel_rfl)) ?_
        have u95 := ((m35.ext e69).frS e82 (i40.djn mp12.ltF))
        obtain ⟨H91, q93, e92, mp94⟩ := u95.put (P := Go.Proofs.Try.prog) e82.wf (t := 80) (by kernel_rfl) (gt list i0) ((s2 ++ [(gt list i0)]).length : Int)
        have e96 := e92.frS (W := [b8]) (List.mem_singleton.2 rfl)
        refine s_ek (undef) (by kernel_rfl) (map_ok q93) ?_
        refine s_nil ?_
        refine k90 _ _ ?_
        refine w_exit (th_exit (bl_eq ?_))
        refine k55 _ _ ?_
        refine w_reg (by kernel_rfl) ?_
        obtain ⟨g97, r98⟩ := G_some r78
        refine s_w ((i0 + 1)) (k := .i64) (x := (i0 + 1)) (by kernel_rfl) (wrap64 (by have := g97; omega)) ?_
        refine s_qk (.int .i64 (i0 + 1)) (by kernel_rfl) ?_
        refine s_nil ?_
        have u99 := (hm83.fr e96 (Dj.symm (hf84.dj (i40.djn mp12.ltF) (mp12.ltF.le (Nat.le_trans e33.next e69.next)))))
        obtain rfl := Option.some.inj r98
        exact k47 n43 _ _ (Nat.lt_succ_self _) ⟨(i0 + 1), (fun x => if x = (gt list i0) then some ((s2 ++ [(gt list i0)]).length : Int) else at1 x), (s2 ++ [(gt list i0)]), (.slice a86 n87 c88), f81, hn46, ⟨by kernel_rfl, by kernel_rfl, by kernel_rfl, by kernel_rfl, by kernel_rfl, trivial⟩, (FrS.step e10.wf (FrS.step e10.wf ((FrS.step e10.wf (FrS.refl (W := [b8]) e10.wf) e33 Inn.refl').extR e69) e82 (i40.fresh (Nat.le_refl _))) e96 Inn.refl'), mp94, u99, (Inn.trans (i40.fresh (Nat.le_refl _)) (Nat.le_trans e33.next e69.next) hf84)⟩
      · have r100 := ite_f h63 r58
        refine w_skip ?_
        refine k61 _ _ ?_
        refine w_seqk fun K101 k101 => ?_
        refine w_seqk fun K102 k102 => ?_
        refine w_reg (by kernel_rfl) ?_
        refine s_qk (.slice a48 n49 c50) (by kernel_rfl) ?_
        refine s_qk (.int .i64 ((at1 (gt list i0)).getD 0)) (by kernel_rfl) ?_
        obtain ⟨g103, r104⟩ := G_some r100
        obtain ⟨s105, q106, hs107⟩ := Sq.cut (P := Go.Proofs.Try.prog) m37.sq (t := 22) (by kernel_rfl) (lo := (some (.int .i64 ((at1 (gt list i0)).getD 0)))) (hi := none) (l := ((at1 (gt list i0)).getD 0).toNat) (r := s2.length) (aBound_int _ (by have := g103; omega)) (rfl) (by have := g103; omega) (by have := g103; omega)
        obtain ⟨a108, n109, c110, rfl⟩ := hs107.form
        refine s_ql (.slice a108 n109 c110) (by kernel_rfl) q106 ?_
        refine s_ql (.int .i64 (((s2.take s2.length).drop ((at1 (gt list i0)).getD 0).toNat).length : Int)) (x := aLen Go.Proofs.Try.prog 22 (.slice a108 n109 c110) H32) (by kernel_rfl) (hs107.lenb (by kernel_rfl)) ?_
        refine s_qk (.int .i64 0) (by kernel_rfl) ?_
        refine s_nil ?_
        refine k102 _ _ ?_
        obtain ⟨o112, hx113, r114⟩ := bind_some r104
        refine w_mid (fun α H115 => Has α [(3, .map (some b8)), (4, .slice a48 n49 c50), (7, .int .i64 ((at1 (gt list i0)).getD 0)), (11, hd_list), (12, .int .i64 (list.length : Int)), (13, .int .i64 i0)] ∧ FrS [b8] H32 H115 ∧ Mp .i64 .i64 H115 b8 o112) (fun K119 k119 => ?_) (fun α H115 hM => ?_)
        · refine w_block ?_
          obtain ⟨n121, hn122⟩ := loopO_iff.1 hx113
          refine w_loopn (fun n α H123 => ∃ (at3 : Int → Option Int), ∃ (i4 : Int), iterO (fun s => z_walk_Simple_l1 list i0 at1 s2 s.1 s.2) n (at3, i4) = some o112 ∧ Has α [(3, .map (some b8)), (4, .slice a48 n49 c50), (7, .int .i64 ((at1 (gt list i0)).getD 0)), (11, hd_list), (12, .int .i64 (list.length : Int)), (13, .int .i64 i0), (32, .slice a108 n109 c110), (33, .int .i64 (((s2.take s2.length).drop ((at1 (gt list i0)).getD 0).toNat).length : Int)), (34, .int .i64 i4)] ∧ FrS [b8] H32 H123 ∧ Mp .i64 .i64 H123 b8 at3) n121 ⟨at1, 0, hn122, ⟨by kernel_rfl, by kernel_rfl, by kernel_rfl, by kernel_rfl, by kernel_rfl, by kernel_rfl, by kernel_rfl, by kernel_rfl, by kernel_rfl, trivial⟩, (FrS.refl (W := [b8]) e33.wf), m35⟩ ?_
          rintro n121 α H123 ⟨at3, i4, hi128, hh127, e124, m126⟩ K133 k133
          obtain ⟨n129, z130, rfl, hz131, hn132⟩ := iter_succ hi128
          obtain ⟨β, rfl⟩ := has_ex hh127
          clear hh127
          replace hz131 : z_walk_Simple_l1 list i0 at1 s2 at3 i4 = some z130 := hz131
          unfold z_walk_Simple_l1 at hz131
          refine w_seqk fun K134 k134 => ?_
          refine w_reg (by kernel_rfl) ?_
          refine s_qk (.bool (decide (i4 < (((s2.take s2.length).drop ((at1 (gt list i0)).getD 0).toNat).length : Int)))) (by kernel_rfl) ?_
          refine s_nil ?_
          refine k134 _ _ ?_
          refine w_seqk fun K135 k135 => ?_
          refine w_condp (i4 < (((s2.take s2.length).drop ((at1 (gt list i0)).getD 0).toNat).length : Int)) (by kernel_rfl) rfl (fun h136 => ?_) (fun h136 => ?_)
          · have r137 := ite_t h136 hz131
            refine w_skip ?_
            refine k135 _ _ ?_
            refine w_seqk fun K138 k138 => ?_
            refine w_block ?_
            refine w_seqk fun K139 k139 => ?_
            refine w_reg (by kernel_rfl) ?_
            obtain ⟨g140, r141⟩ := G_some r137
            have u142 := (hs107.fr e124 (Dj.symm (i40.djn mp12.ltF)))
            refine s_ql (elp (.slice a108 n109 c110) 1 i4.toNat 0) (x := aIndexAddr Go.Proofs.Try.prog 22 (.slice a108 n109 c110) (.int .i64 i4)) (by kernel_rfl) (u142.idxb (by kernel_rfl) g140 h136) ?_
            refine s_ql (.int .i64 (gt ((s2.take s2.length).drop ((at1 (gt list i0)).getD 0).toNat) i4)) (x := aLoad Go.Proofs.Try.prog 3 (elp (.slice a108 n109 c110) 1 i4.toNat 0) H123) (by kernel_rfl) (u142.ld g140 h136 (by kernel_rfl)) ?_
            refine s_qk (.int .i64 (gt ((s2.take s2.length).drop ((at1 (gt list i0)).getD 0).toNat) i4)) (by kernel_rfl) ?_
            refine s_nil ?_
            refine k139 _ _ ?_
            refine w_reg (by kernel_rfl) ?_
            refine s_qk (.map (some b8)) (by kernel_rfl) ?_
            refine s_qk (.int .i64 (gt ((s2.take s2.length).drop ((at1 (gt list i0)).getD 0).toNat) i4)) (by kernel_rfl) ?_
            obtain ⟨H143, q146, e144, mp145⟩ := m126.del (P := Go.Proofs.Try.prog) e124.wf (t := 80) (by kernel_rfl) (at_ := #[80, 3]) rfl (gt ((s2.take s2.length).drop ((at1 (gt list i0)).getD 0).toNat) i4)
            have e147 := e144.frS (W := [b8]) (List.mem_singleton.2 rfl)
            refine s_ek (.tuple #[]) (by kernel_rfl) (map_ok q146) ?_
            refine s_nil ?_
            refine k138 _ _ ?_
            refine w_reg (by kernel_rfl) ?_
            obtain ⟨g148, r149⟩ := G_some r141
            refine s_w ((i4 + 1)) (k := .i64) (x := (i4 + 1)) (by kernel_rfl) (wrap64 (by have := g148; omega)) ?_
            refine s_qk (.int .i64 (i4 + 1)) (by kernel_rfl) ?_
            refine s_nil ?_
            obtain rfl := Option.some.inj r149
            exact k133 n129 _ _ (Nat.lt_succ_self _) ⟨(fun x => if x = (gt ((s2.take s2.length).drop ((at1 (gt list i0)).getD 0).toNat) i4) then none else at3 x), (i4 + 1), hn132, ⟨by kernel_rfl, by kernel_rfl, by kernel_rfl, by kernel_rfl, by kernel_rfl, by kernel_rfl, by kernel_rfl, by kernel_rfl, by kernel_rfl, trivial⟩, (FrS.step e33.wf (FrS.step e33.wf (FrS.refl (W := [b8]) e33.wf) e124 Inn.refl') e147 Inn.refl'), mp145⟩
          · have r150 := ite_f h136 hz131
            refine w_exit (th_exit (th_exit (bl_eq ?_)))
            obtain rfl := Option.some.inj r150
            obtain rfl := it_inr hn132
            exact k119 _ _ ⟨⟨by kernel_rfl, by kernel_rfl, by kernel_rfl, by kernel_rfl, by kernel_rfl, by kernel_rfl, trivial⟩, (FrS.step e33.wf (FrS.refl (W := [b8]) e33.wf) e124 Inn.refl'), m126⟩
        · obtain ⟨hh120, e116, m118⟩ := hM
          obtain ⟨β, rfl⟩ := has_ex hh120
          clear hh120
          refine k101 _ _ ?_
          refine w_reg (by kernel_rfl) ?_
          refine s_qk (.slice a48 n49 c50) (by kernel_rfl) ?_
          refine s_qk (.int .i64 ((at1 (gt list i0)).getD 0)) (by kernel_rfl) ?_
          have u154 := (m37.fr e116 (Dj.symm (i40.djn mp12.ltF)))
          obtain ⟨s151, q152, hs153⟩ := Ow.head (P := Go.Proofs.Try.prog) u154 (t := 22) (by kernel_rfl) (hi := (some (.int .i64 ((at1 (gt list i0)).getD 0)))) (r := ((at1 (gt list i0)).getD 0).toNat) (aBound_int _ (by have := g103; omega)) (by have := g103; omega)
          obtain ⟨a155, n156, c157, rfl⟩ := hs153.form
          refine s_ql (.slice a155 n156 c157) (by kernel_rfl) q152 ?_
          refine s_qk (.slice a155 n156 c157) (by kernel_rfl) ?_
          refine s_nil ?_
          refine k55 _ _ ?_
          refine w_reg (by kernel_rfl) ?_
          obtain ⟨g159, r160⟩ := G_some r114
          refine s_w ((i0 + 1)) (k := .i64) (x := (i0 + 1)) (by kernel_rfl) (wrap64 (by have := g159; omega)) ?_
          refine s_qk (.int .i64 (i0 + 1)) (by kernel_rfl) ?_
          refine s_nil ?_
          obtain rfl := Option.some.inj r160
          exact k47 n43 _ _ (Nat.lt_succ_self _) ⟨(i0 + 1), o112, (s2.take ((at1 (gt list i0)).getD 0).toNat), (.slice a155 n156 c157), f39, hn46, ⟨by kernel_rfl, by kernel_rfl, by kernel_rfl, by kernel_rfl, by kernel_rfl, trivial⟩, (FrS.step e10.wf (FrS.step e10.wf (FrS.refl (W := [b8]) e10.wf) e33 Inn.refl') e116 Inn.refl'), m118, hs153, (i40.fresh (Nat.le_refl _))⟩
    · have r161 := ite_f h53 hz45
      refine w_exit (th_exit (th_exit (bl_eq ?_)))
      obtain rfl := Option.some.inj r161
      obtain rfl := it_inr hn46
      exact k28 _ _ ⟨(.slice a48 n49 c50), f39, ⟨by kernel_rfl, trivial⟩, (FrS.step e10.wf (FrS.refl (W := [b8]) e10.wf) e33 Inn.refl'), m37, (i40.fresh (Nat.le_refl _))⟩
  · obtain ⟨s25, f26, hh29, e22, m24, i27⟩ := hM
    obtain ⟨β, rfl⟩ := has_ex hh29
    clear hh29
    obtain ⟨a162, n163, c164, rfl⟩ := m24.form
    refine k15 _ _ ?_
    refine w_seqk fun K165 k165 => ?_
    refine w_reg (by kernel_rfl) ?_
    refine s_qk (.slice a162 n163 c164) (by kernel_rfl) ?_
    refine s_qk (.slice a162 n163 c164) (by kernel_rfl) ?_
    refine s_nil ?_
    refine k165 _ _ ?_
    refine w_ret ?_
    refine b_ret (fn := Go.Proofs.Try.f10) (vs := [.slice a162 n163 c164]) (aRes_tmp (by kernel_rfl) (rfl)) ?_
    obtain rfl := Option.some.inj r20
    exact ⟨(.slice a162 n163 c164), f26, rfl, (FrS.step wf ((FrS.refl (W := []) wf).extR e10) e22 (hb11.fresh (Nat.le_refl _))), m24, (i27.fresh e10.next)⟩

theorem c_viaductref02_SameInts {H : AH} {hd_a : Value} {fp_a : Fp} {hd_b : Value} {fp_b : Fp} {a : List (Int)} {b : List (Int)} {r : Bool}
    (wf : WF H) (h_a : Sq (encI .i64) 1 H hd_a a fp_a) (h_b : Sq (encI .i64) 1 H hd_b b fp_b) (hr : z_viaductref02_SameInts a b = some r) :
    ACalls Go.Proofs.Try.prog 12 #[hd_a, hd_b] H fun v H' => v = .bool r ∧ H = H' := by
  refine acalls_of_body mixed Go.Proofs.Try.func12 rfl (Nat.le_of_ble_eq_true rfl) ?_
  unfold z_viaductref02_SameInts at hr
  refine w_seqk fun K1 k1 => ?_
  refine w_reg (by kernel_rfl) ?_
  refine s_qk (.bool false) (by kernel_rfl) ?_
  refine s_nil ?_
  refine k1 _ _ ?_
  refine w_seqk fun K2 k2 => ?_
  refine w_seqk fun K3 k3 => ?_
  refine w_reg (by kernel_rfl) ?_
  refine s_qk (hd_a) (by kernel_rfl) ?_
  refine s_ql (.int .i64 (a.length : Int)) (x := aLen Go.Proofs.Try.prog 22 hd_a H) (by kernel_rfl) (h_a.lenb (by kernel_rfl)) ?_
  refine s_qk (hd_b) (by kernel_rfl) ?_
  refine s_ql (.int .i64 (b.length : Int)) (x := aLen Go.Proofs.Try.prog 22 hd_b H) (by kernel_rfl) (h_b.lenb (by kernel_rfl)) ?_
  refine s_qk (.bool (!decide ((a.length : Int) = (b.length : Int)))) (by kernel_rfl) ?_
  refine s_nil ?_
  refine k3 _ _ ?_
  refine w_condn ((a.length : Int) = (b.length : Int)) (by kernel_rfl) rfl (fun h4 => ?_) (fun h4 => ?_)
  · have r5 := ite_f h4 hr
    refine w_seqk fun K6 k6 => ?_
    refine w_reg (by kernel_rfl) ?_
    refine s_qk (.bool false) (by kernel_rfl) ?_
    refine s_nil ?_
    refine k6 _ _ ?_
    refine w_ret (th_ret ?_)
    refine b_ret (fn := Go.Proofs.Try.f12) (vs := [.bool false]) (aRes_tmp (by kernel_rfl) (rfl)) ?_
    obtain rfl := Option.some.inj r5
    exact ⟨rfl, rfl⟩
  · have r7 := ite_t h4 hr
    refine w_skip ?_
    refine k2 _ _ ?_
    refine w_seqk fun K8 k8 => ?_
    refine w_seqk fun K9 k9 => ?_
    refine w_reg (by kernel_rfl) ?_
    refine s_qk (hd_a) (by kernel_rfl) ?_
    refine s_ql (.int .i64 (a.length : Int)) (x := aLen Go.Proofs.Try.prog 22 hd_a H) (by kernel_rfl) (h_a.lenb (by kernel_rfl)) ?_
    refine s_qk (.int .i64 0) (by kernel_rfl) ?_
    refine s_nil ?_
    refine k9 _ _ ?_
    obtain ⟨z13, hx11, r12⟩ := bind_some r7
    refine w_mid (fun α H14 => ∃ o10, z13 = Sum.inr o10 ∧ Has α [] ∧ H = H14) (fun K16 k16 => ?_) (fun α H14 hM => ?_)
    · refine w_block ?_
      obtain ⟨n18, hn19⟩ := loopO_iff.1 hx11
      refine w_loopn (fun n α H20 => ∃ (i0 : Int), iterO (fun s => z_viaductref02_SameInts_l0 a b s) n i0 = some z13 ∧ Has α [(0, hd_a), (1, hd_b), (12, .int .i64 (a.length : Int)), (13, .int .i64 i0)] ∧ H = H20) n18 ⟨0, hn19, ⟨by kernel_rfl, by kernel_rfl, by kernel_rfl, by kernel_rfl, trivial⟩, rfl⟩ ?_
      rintro n18 α H20 ⟨i0, hi23, hh22, rfl⟩ K28 k28
      obtain ⟨n24, z25, rfl, hz26, hn27⟩ := iter_succ hi23
      obtain ⟨β, rfl⟩ := has_ex hh22
      clear hh22
      replace hz26 : z_viaductref02_SameInts_l0 a b i0 = some z25 := hz26
      unfold z_viaductref02_SameInts_l0 at hz26
      refine w_seqk fun K29 k29 => ?_
      refine w_reg (by kernel_rfl) ?_
      refine s_qk (.bool (decide (i0 < (a.length : Int)))) (by kernel_rfl) ?_
      refine s_nil ?_
      refine k29 _ _ ?_
      refine w_seqk fun K30 k30 => ?_
      refine w_condp (i0 < (a.length : Int)) (by kernel_rfl) rfl (fun h31 => ?_) (fun h31 => ?_)
      · have r32 := ite_t h31 hz26
        refine w_skip ?_
        refine k30 _ _ ?_
        refine w_seqk fun K33 k33 => ?_
        refine w_block ?_
        refine w_seqk fun K34 k34 => ?_
        refine w_reg (by kernel_rfl) ?_
        refine s_qk (.int .i64 i0) (by kernel_rfl) ?_
        refine s_qk (.int .i64 i0) (by kernel_rfl) ?_
        refine s_nil ?_
        refine k34 _ _ ?_
        refine w_seqk fun K35 k35 => ?_
        refine w_draw [0, 1, 2, 3, 4, 5, 6, 7, 8] (by kernel_rfl) ?_
        refine d_qk (hd_a) (by kernel_rfl) ?_
        refine d_qk (.int .i64 i0) (by kernel_rfl) ?_
        obtain ⟨g36, r37⟩ := G_some r32
        refine d_ql (elp hd_a 1 i0.toNat 0) (x := aIndexAddr Go.Proofs.Try.prog 22 hd_a (.int .i64 i0)) (by kernel_rfl) (h_a.idxb (by kernel_rfl) g36 h31) ?_
        refine d_ql (.int .i64 (gt a i0)) (x := aLoad Go.Proofs.Try.prog 3 (elp hd_a 1 i0.toNat 0) H) (by kernel_rfl) (h_a.ld g36 h31 (by kernel_rfl)) ?_
        refine d_qk (hd_b) (by kernel_rfl) ?_
        refine d_qk (.int .i64 i0) (by kernel_rfl) ?_
        obtain ⟨g38, r39⟩ := G_some r37
        refine d_ql (elp hd_b 1 i0.toNat 0) (x := aIndexAddr Go.Proofs.Try.prog 22 hd_b (.int .i64 i0)) (by kernel_rfl) (h_b.idxb (by kernel_rfl) g36 g38) ?_
        refine d_ql (.int .i64 (gt b i0)) (x := aLoad Go.Proofs.Try.prog 3 (elp hd_b 1 i0.toNat 0) H) (by kernel_rfl) (h_b.ld g36 g38 (by kernel_rfl)) ?_
        refine d_qk (.bool (!decide ((gt a i0) = (gt b i0)))) (by kernel_rfl) ?_
        refine d_nil ?_
        refine k35 _ _ ?_
        refine w_condn ((gt a i0) = (gt b i0)) (by kernel_rfl) rfl (fun h40 => ?_) (fun h40 => ?_)
        · have r41 := ite_f h40 r39
          refine w_seqk fun K42 k42 => ?_
          refine w_reg (by kernel_rfl) ?_
          refine s_qk (.bool false) (by kernel_rfl) ?_
          refine s_nil ?_
          refine k42 _ _ ?_
          refine w_ret (bl_ret (th_ret (th_ret (bl_ret (th_ret (th_ret ?_))))))
          obtain ⟨v43, hv44, hz45⟩ := map_some r41
          subst hz45
          obtain rfl := it_inr hn27
          have hq46 := elim_inl r12
          rw [hq46] at hv44
          refine b_ret (fn := Go.Proofs.Try.f12) (vs := [.bool false]) (aRes_tmp (by kernel_rfl) (rfl)) ?_
          obtain rfl := Option.some.inj hv44
          exact ⟨rfl, rfl⟩
        · have r47 := ite_t h40 r39
          refine w_skip ?_
          refine k33 _ _ ?_
          refine w_reg (by kernel_rfl) ?_
          obtain ⟨g48, r49⟩ := G_some r47
          refine s_w ((i0 + 1)) (k := .i64) (x := (i0 + 1)) (by kernel_rfl) (wrap64 (by have := g48; omega)) ?_
          refine s_qk (.int .i64 (i0 + 1)) (by kernel_rfl) ?_
          refine s_nil ?_
          obtain rfl := Option.some.inj r49
          exact k28 n24 _ _ (Nat.lt_succ_self _) ⟨(i0 + 1), hn27, ⟨by kernel_rfl, by kernel_rfl, by kernel_rfl, by kernel_rfl, trivial⟩, rfl⟩
      · have r50 := ite_f h31 hz26
        refine w_exit (th_exit (th_exit (bl_eq ?_)))
        obtain rfl := Option.some.inj r50
        obtain rfl := it_inr hn27
        exact k16 _ _ ⟨_, rfl, trivial, rfl⟩
    · obtain ⟨o10, rfl, hh17, rfl⟩ := hM
      have r51 := elim_inr r12
      obtain ⟨β, rfl⟩ := has_ex hh17
      clear hh17
      refine k8 _ _ ?_
      refine w_seqk fun K52 k52 => ?_
      refine w_reg (by kernel_rfl) ?_
      refine s_qk (.bool true) (by kernel_rfl) ?_
      refine s_nil ?_
      refine k52 _ _ ?_
      refine w_ret ?_
      refine b_ret (fn := Go.Proofs.Try.f12) (vs := [.bool true]) (aRes_tmp (by kernel_rfl) (rfl)) ?_
      obtain rfl := Option.some.inj r51
      exact ⟨rfl, rfl⟩


end Go.Vd
