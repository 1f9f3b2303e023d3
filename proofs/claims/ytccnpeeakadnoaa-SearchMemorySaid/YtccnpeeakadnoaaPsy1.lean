/- The walks of the functions (printed by a program of ours). -/
import Derived.Test.YtccnpeeakadnoaaPsy0
import Derived.Test.YtccnpeeakadnoaaPsyVeC
import Derived.Test.YtccnpeeakadnoaaPsyISy
import Derived.Test.YtccnpeeakadnoaaPsyVeN
import Derived.Test.YtccnpeeakadnoaaPsyVeM
set_option linter.unusedVariables false
set_option linter.unusedSimpArgs false
set_option linter.unusedSectionVars false
namespace Go.Vd
/-! Steps under short names: what is reckoned is reckoned by itself. -/
section
set_option linter.unusedSectionVars false
variable [Pins] {P : Program} {ops : Array Oper} {K : AAct → AH → Prop} {α : AAct} {H : AH} {o : Oper} {rest : List Oper} {tbl : List (List Nat)} {i : Nat} {rs : List Nat} {fl : List (Nat × AAct × Value)}
theorem q_ (v : Value) (k : wpSeq P ops K rest (α.put o.dst v) H) (h : stepQ P ops o α H = some v := by kernel_rfl) : wpSeq P ops K (o :: rest) α H := s_qk v h k
theorem l_' (v : Value) (x : Option Value) (h : x = some v) (k : wpSeq P ops K rest (α.put o.dst v) H) (h1 : stepQ P ops o α H = x := by kernel_rfl) : wpSeq P ops K (o :: rest) α H := s_ql v h1 h k
theorem e_' (v : Value) (k : wpOrd P ops tbl K rs fl (α.put (dstOf ops i) v) H) (h : stepD P ops tbl i rs α H = some v := by kernel_rfl) : wpOrd P ops tbl K (i :: rs) fl α H := d_qk v h k
theorem m_' (v : Value) (x : Option Value) (h : x = some v) (k : wpOrd P ops tbl K rs fl (α.put (dstOf ops i) v) H) (h1 : stepD P ops tbl i rs α H = x := by kernel_rfl) : wpOrd P ops tbl K (i :: rs) fl α H := d_ql v h1 h k
theorem has_of : ∀ {l : List (Nat × Value)}, (l.map fun p => α p.1) = l.map (·.2) → Has α l
  | [], _ => trivial
  | (_, _) :: _, h => ⟨(List.cons.inj h).1, has_of (List.cons.inj h).2⟩
theorem ha_ {l : List (Nat × Value)} (h : (l.map fun p => α p.1) = l.map (·.2) := by kernel_rfl) : Has α l := has_of h
theorem n_' (k : wpSeq P ops K rest (α.put o.dst undef) H) (hg : Region.wanted o (aYield ops α) = false := by kernel_rfl) : wpSeq P ops K (o :: rest) α H := s_no hg k
theorem j_' (k : wpOrd P ops tbl K rs fl (α.put (dstOf ops i) undef) H) (h : idle ops i α = true := by kernel_rfl) : wpOrd P ops tbl K (i :: rs) fl α H := d_idle h k
theorem g_' {N id : Nat} {l : List Oper} {Q : Exit → AAct → AH → Prop} (h : wpSeq P l.toArray (Q .normal) l α H) (hok : opsOk N l = true := by kernel_rfl) : aWp P N (.region id l.toArray false) Q α H := w_reg hok h
theorem w_' (x : Int) (hw : IntKind.i64.wrap x = x) (kk : wpSeq P ops K rest (α.put o.dst (.int .i64 x)) H) (h : stepQ P ops o α H = some (.int .i64 (IntKind.i64.wrap x)) := by kernel_rfl) : wpSeq P ops K (o :: rest) α H := s_w x h hw kk
end
abbrev i_ (n : Int) : Value := .int .i64 n
abbrev pt_ (b o : Nat) : Value := .pointer (some ⟨b, o, none⟩)
end Go.Vd

/-! (KSy0) -/

set_option maxRecDepth 100000
set_option maxHeartbeats 4000000
set_option linter.unusedVariables false
namespace Go.Vd
open Go.Proofs
attribute [local irreducible] wpSeq wpOrd aWp
theorem c_viaductlaw08_awake_ev : evB Try.prog 100000 7 #[] = some true := by kernel_rfl
theorem c_viaductlaw08_awake {H : AH} : ACalls Try.prog 7 #[] H fun v H' => H = H' ∧ v = .bool true :=
  (acalls_evB mixed c_viaductlaw08_awake_ev rfl H).mono fun _ _ ⟨a, b⟩ => ⟨b.symm, a⟩
theorem c_viaductref01_E {H : AH} {n_ : Int} {r : Int}
    (wf : WF H) (hr : z_viaductref01_E n_ = some r) :
    ACalls Try.prog 70 #[i_ n_] H fun v H' => v = .agg #[i_ r, .slice none 0 0] ∧ FrS [] H H' := by
 refine acalls_of_body mixed Try.func70 rfl (Nat.le_of_ble_eq_true rfl) ?_
 unfold z_viaductref01_E at hr
 refine w_seqk fun _ k1 => g_' ?_
 refine s_rwk wf [i_ 0, .slice none 0 0] (by kernel_rfl) fun b2 H3 e4 hb5 r6 => ?_
 refine s_nil (k1 _ _ (w_seqk fun _ k8 => g_' (q_ (i_ n_) (q_ (.agg #[i_ n_, .slice none 0 0]) ?_))))
 obtain ⟨H9, q10, e11, r12⟩ := Row.store (P := Try.prog) (t := 46) (p := 0) e4.wf r6 (.agg #[i_ n_, .slice none 0 0]) [i_ n_, .slice none 0 0] (by kernel_rfl) (by kernel_rfl) (one_cons (rfl) (one_cons (rfl) (one_nil))) (Nat.le_of_ble_eq_true (by kernel_rfl)) [i_ n_, .slice none 0 0] (by kernel_rfl)
 refine s_ek (undef) (by kernel_rfl) (map_ok q10) ?_
 refine s_nil (k8 _ _ ?_)
 refine w_ret ?_
 refine b_ret (fn := Try.f70) (vs := [.agg #[i_ n_, .slice none 0 0]]) (aRes_cell (Eq.trans (b := aLoad Try.prog 46 (pt_ b2 0) H9) (by kernel_rfl) (r12.ld (by kernel_rfl))) (rfl)) ?_
 obtain rfl := Option.some.inj hr
 exact ⟨rfl, (FrS.step wf ((FrS.refl (W := []) wf).extR e4) e11 (hb5.fresh (Nat.le_refl _)))⟩
theorem c_viaductref01_At {H : AH} {hd_Places : Value} {fp_Places : Fp} {kind : Int} {at_ : Int} {Code : Int} {Places : List (Int × Int)} {r : Int × List (Int × Int)}
    (wf : WF H) (h_Places : Sq enc_i64_i64 2 H hd_Places Places fp_Places) (hr : z_viaductref01_At kind at_ Code Places = some r) :
    ACalls Try.prog 111 #[i_ kind, i_ at_, .agg #[i_ Code, hd_Places]] H fun v H' => ∃ (s3 : Value) (f4 : Fp), v = .agg #[i_ r.1, s3] ∧ FrS [] H H' ∧ Ow enc_i64_i64 2 H' s3 r.2 f4 ∧ Inn [] H f4 := by
 refine acalls_of_body mixed Try.func111 rfl (Nat.le_of_ble_eq_true rfl) ?_
 unfold z_viaductref01_At at hr
 refine w_seqk fun _ k6 => g_' ?_
 refine s_rwl wf [i_ Code, hd_Places] (one_cons (rfl) (one_cons (h_Places.one1) (one_nil))) (by kernel_rfl) fun b7 H8 e9 hb10 r11 => ?_
 refine s_rwk e9.wf [i_ 0, .slice none 0 0] (by kernel_rfl) fun b13 H14 e15 hb16 r17 => ?_
 refine s_nil (k6 _ _ (w_seqk fun _ k19 => g_' (q_ (i_ kind) (q_ (i_ at_) (q_ (.agg #[i_ kind, i_ at_]) ?_)))))
 refine s_owk (enc := enc_i64_i64) (sz := 2) e15.wf [(kind, at_)] 1 (by decide) (fun _ _ => rfl) (fun _ _ => rfl) rfl (by kernel_rfl) fun s20 f21 H22 e23 hf24 hm25 => ?_
 obtain ⟨a26, n27, c28, rfl⟩ := hm25.form
 refine q_ (.slice a26 n27 c28) (s_nil (k19 _ _ (w_seqk fun _ k30 => g_' (q_ (.slice a26 n27 c28) (q_ (pt_ b7 1) ?_)))))
 have u31 := ((r11.ext e15).ext e23)
 refine l_' (hd_Places) (aLoad Try.prog 44 (pt_ b7 1) H22) (u31.ld (by kernel_rfl)) ?_
 obtain ⟨g32, r33⟩ := G_some hr
 have u41 := (((h_Places.ext e9).ext e15).ext e23)
 obtain ⟨s34, H35, f36, q40, e37, hm38, hf39⟩ := Ow.append (P := Try.prog) 16 e23.wf hm25 u41 (fun _ _ => rfl) (at_ := #[44, 44]) rfl rfl (by kernel_rfl) (by kernel_rfl) (by decide) (by have := g32; first | omega | (simp only [List.length_cons, List.length_nil] at this ⊢; omega) | (simp at this ⊢; omega))
 obtain ⟨a42, n43, c44, rfl⟩ := hm38.form
 refine s_ek (.slice a42 n43 c44) (by kernel_rfl) (q40) ?_
 refine q_ (.slice a42 n43 c44) (s_nil (k30 _ _ (w_seqk fun _ k46 => g_' (q_ (pt_ b7 0) ?_))))
 have u47 := (u31.frS e37 (hf24.djn (r11.ltF.le e15.next)))
 refine l_' (i_ Code) (aLoad Try.prog 3 (pt_ b7 0) H35) (u47.ld (by kernel_rfl)) ?_
 refine q_ (.slice a42 n43 c44) (q_ (.agg #[i_ Code, .slice a42 n43 c44]) ?_)
 have u52 := ((r17.ext e23).frS e37 (hf24.djn r17.ltF))
 obtain ⟨H48, q49, e50, r51⟩ := Row.store (P := Try.prog) (t := 46) (p := 0) e37.wf u52 (.agg #[i_ Code, .slice a42 n43 c44]) [i_ Code, .slice a42 n43 c44] (by kernel_rfl) (by kernel_rfl) (one_cons (rfl) (one_cons (hm38.one1) (one_nil))) (Nat.le_of_ble_eq_true (by kernel_rfl)) [i_ Code, .slice a42 n43 c44] (by kernel_rfl)
 refine s_ek (undef) (by kernel_rfl) (map_ok q49) ?_
 refine s_nil (k46 _ _ ?_)
 refine w_ret ?_
 refine b_ret (fn := Try.f111) (vs := [.agg #[i_ Code, .slice a42 n43 c44]]) (aRes_cell (Eq.trans (b := aLoad Try.prog 46 (pt_ b13 0) H48) (by kernel_rfl) (r51.ld (by kernel_rfl))) (rfl)) ?_
 have u53 := (hm38.fr e50 (Dj.symm (hf39.dj (hf24.djn r17.ltF) (r17.ltF.le e23.next))))
 obtain rfl := Option.some.inj r33
 exact ⟨(.slice a42 n43 c44), f36, rfl, (FrS.step wf (FrS.step wf ((((FrS.refl (W := []) wf).extR e9).extR e15).extR e23) e37 (hf24.fresh (ntr e9.next e15.next))) e50 (hb16.fresh e9.next)), u53, (Inn.trans (hf24.fresh (ntr e9.next e15.next)) (ntr (ntr e9.next e15.next) e23.next) hf39)⟩
theorem c_viaductref05_DocCheck {H : AH} {hd_First : Value} {fp_First : Fp} {hd_To : Value} {fp_To : Fp} {hd_Weight : Value} {fp_Weight : Fp} {First : List (Int)} {To : List (Int)} {Weight : List (Int)} {r : Int × List (Int × Int)}
    (wf : WF H) (h_First : Sq (encI .i64) 1 H hd_First First fp_First) (h_To : Sq (encI .i64) 1 H hd_To To fp_To) (h_Weight : Sq (encI .i64) 1 H hd_Weight Weight fp_Weight) (hr : z_viaductref05_DocCheck First To Weight = some r) :
    ACalls Try.prog 55 #[.agg #[hd_First, hd_To, hd_Weight]] H fun v H' => ∃ (s3 : Value) (f4 : Fp), v = .agg #[i_ r.1, s3] ∧ FrS [] H H' ∧ Ow enc_i64_i64 2 H' s3 r.2 f4 ∧ Inn [] H f4 := by
 refine acalls_of_body mixed Try.func55 rfl (Nat.le_of_ble_eq_true rfl) ?_
 unfold z_viaductref05_DocCheck at hr
 refine w_seqk fun _ k6 => g_' ?_
 refine s_rwl wf [hd_First, hd_To, hd_Weight] (one_cons (h_First.one1) (one_cons (h_To.one1) (one_cons (h_Weight.one1) (one_nil)))) (by kernel_rfl) fun b7 H8 e9 hb10 r11 => ?_
 refine s_rwk e9.wf [i_ 0, .slice none 0 0] (by kernel_rfl) fun b13 H14 e15 hb16 r17 => ?_
 refine s_nil (k6 _ _ (w_seqk fun _ k19 => ?_))
 refine w_draw [0, 1, 2, 3, 4, 5, 6, 7, 8] (by kernel_rfl) ?_
 refine e_' (pt_ b7 0) ?_
 have u20 := (r11.ext e15)
 refine m_' (hd_First) (aLoad Try.prog 22 (pt_ b7 0) H14) (u20.ld (by kernel_rfl)) ?_
 have u21 := ((h_First.ext e9).ext e15)
 refine m_' (i_ (First.length : Int)) (aLen Try.prog 22 hd_First H14) (u21.lenb (by kernel_rfl)) ?_
 obtain ⟨g22, r23⟩ := G_some hr
 refine d_w (((First.length : Int) - 1)) (k := .i64) (x := ((First.length : Int) - 1)) (by kernel_rfl) (wrap64 g22) ?_
 refine e_' (pt_ b7 1) ?_
 refine m_' (hd_To) (aLoad Try.prog 22 (pt_ b7 1) H14) (u20.ld (by kernel_rfl)) ?_
 have u24 := ((h_To.ext e9).ext e15)
 refine m_' (i_ (To.length : Int)) (aLen Try.prog 22 hd_To H14) (u24.lenb (by kernel_rfl)) ?_
 refine e_' (i_ ((First.length : Int) - 1)) (e_' (i_ (To.length : Int)) ?_)
 refine d_nil ?_
 refine k19 _ _ (w_seqk fun _ k25 => w_seqk fun _ k26 => ?_)
 obtain ⟨o27, hx28, r29⟩ := bind_some r23
 refine w_mid (fun α H30 => Has α [(1, pt_ b7 0), (2, pt_ b13 0), (3, i_ ((First.length : Int) - 1)), (4, i_ (To.length : Int)), (40, .bool o27)] ∧ H14 = H30) (fun _ k32 => ?_) (fun α H30 hM => ?_)
 ·refine g_' (q_ (i_ ((First.length : Int) - 1)) ?_)
  refine s_b (((First.length : Int) - 1) < 0) (by kernel_rfl) (fun h34 => ?_) (fun h34 => ?_)
  ·have r35 := ite_t h34 hx28
   refine q_ (.bool true) (n_' (n_' (n_' (n_' (n_' (q_ (.bool true) (q_ (.bool true) (n_' (n_' (n_' (n_' (n_' (n_' (n_' (q_ (.bool true) (q_ (.bool true) (n_' (n_' (n_' (n_' (n_' (q_ (.bool true) (s_nil ?_)))))))))))))))))))))))
   obtain rfl := Option.some.inj r35
   exact k32 _ _ ⟨ha_, rfl⟩
  have r36 := ite_f h34 hx28
  refine q_ (.bool false) (q_ (pt_ b7 0) ?_)
  refine l_' (hd_First) (aLoad Try.prog 22 (pt_ b7 0) H14) (u20.ld (by kernel_rfl)) ?_
  obtain ⟨g37, r38⟩ := G_some r36
  refine l_' (elp hd_First 1 (0 : Int).toNat 0) (aIndexAddr Try.prog 22 hd_First (i_ 0)) (u21.idxb (by kernel_rfl) (by decide) g37) ?_
  refine l_' (i_ (gt First 0)) (aLoad Try.prog 3 (elp hd_First 1 (0 : Int).toNat 0) H14) (u21.ld (by decide) g37 (by kernel_rfl)) ?_
  refine s_bn ((gt First 0) = 0) (by kernel_rfl) (fun h39 => ?_) (fun h39 => ?_)
  ·have r40 := ite_t h39 r38
   refine q_ (.bool false) (q_ (.bool false) (q_ (pt_ b7 0) ?_))
   refine l_' (hd_First) (aLoad Try.prog 22 (pt_ b7 0) H14) (u20.ld (by kernel_rfl)) ?_
   refine q_ (i_ ((First.length : Int) - 1)) ?_
   obtain ⟨g41, r42⟩ := G_some r40
   refine l_' (elp hd_First 1 ((First.length : Int) - 1).toNat 0) (aIndexAddr Try.prog 22 hd_First (i_ ((First.length : Int) - 1))) (u21.idxb (by kernel_rfl) g41.1 g41.2) ?_
   refine l_' (i_ (gt First ((First.length : Int) - 1))) (aLoad Try.prog 3 (elp hd_First 1 ((First.length : Int) - 1).toNat 0) H14) (u21.ld g41.1 g41.2 (by kernel_rfl)) ?_
   refine q_ (i_ (To.length : Int)) ?_
   refine s_bn ((gt First ((First.length : Int) - 1)) = (To.length : Int)) (by kernel_rfl) (fun h43 => ?_) (fun h43 => ?_)
   ·have r44 := ite_t h43 r42
    refine q_ (.bool false) (q_ (.bool false) (q_ (pt_ b7 2) ?_))
    refine l_' (hd_Weight) (aLoad Try.prog 22 (pt_ b7 2) H14) (u20.ld (by kernel_rfl)) ?_
    have u45 := ((h_Weight.ext e9).ext e15)
    refine l_' (i_ (Weight.length : Int)) (aLen Try.prog 22 hd_Weight H14) (u45.lenb (by kernel_rfl)) ?_
    refine q_ (i_ (To.length : Int)) (q_ (.bool (!decide ((Weight.length : Int) = (To.length : Int)))) (q_ (.bool (!decide ((Weight.length : Int) = (To.length : Int)))) (s_nil ?_)))
    obtain rfl := Option.some.inj r44
    exact k32 _ _ ⟨ha_, rfl⟩
   have r46 := ite_f h43 r42
   refine q_ (.bool true) (q_ (.bool true) (n_' (n_' (n_' (n_' (n_' (q_ (.bool true) (s_nil ?_))))))))
   obtain rfl := Option.some.inj r46
   exact k32 _ _ ⟨ha_, rfl⟩
  have r47 := ite_f h39 r38
  refine q_ (.bool true) (q_ (.bool true) (n_' (n_' (n_' (n_' (n_' (n_' (n_' (q_ (.bool true) (q_ (.bool true) (n_' (n_' (n_' (n_' (n_' (q_ (.bool true) (s_nil ?_)))))))))))))))))
  obtain rfl := Option.some.inj r47
  exact k32 _ _ ⟨ha_, rfl⟩
 obtain ⟨hh33, rfl⟩ := hM
 obtain ⟨β, rfl⟩ := has_ex hh33
 clear hh33
 refine k26 _ _ ?_
 refine w_cond (o27) (by kernel_rfl) rfl (fun h48 => ?_) (fun h48 => ?_)
 ·have r49 := ite_t h48 r29
  refine w_seqk fun _ k50 => g_' ?_
  obtain ⟨y51, hy52, r53⟩ := bind_some r49
  refine s_ck 70 #[i_ 14] (by kernel_rfl) (c_viaductref01_E e15.wf hy52) ?_
  rintro _ H54 ⟨rfl, e55⟩
  have u60 := (r17.frS e55 Dj.nil_l)
  obtain ⟨H56, q57, e58, r59⟩ := Row.store (P := Try.prog) (t := 46) (p := 0) e55.wf u60 (.agg #[i_ y51, .slice none 0 0]) [i_ y51, .slice none 0 0] (by kernel_rfl) (by kernel_rfl) (one_cons (rfl) (one_cons (rfl) (one_nil))) (Nat.le_of_ble_eq_true (by kernel_rfl)) [i_ y51, .slice none 0 0] (by kernel_rfl)
  refine s_ek (undef) (by kernel_rfl) (map_ok q57) ?_
  refine s_nil (k50 _ _ ?_)
  refine w_ret (th_ret ?_)
  refine b_ret (fn := Try.f55) (vs := [.agg #[i_ y51, .slice none 0 0]]) (aRes_cell (Eq.trans (b := aLoad Try.prog 46 (pt_ b13 0) H56) (by kernel_rfl) (r59.ld (by kernel_rfl))) (rfl)) ?_
  obtain rfl := Option.some.inj r53
  exact ⟨(.slice none 0 0), [], rfl, (FrS.step wf (FrS.step wf (((FrS.refl (W := []) wf).extR e9).extR e15) e55 Inn.nil) e58 (hb16.fresh e9.next)), (Ow.nil (by decide)), Inn.nil⟩
 have r61 := ite_bf h48 r29
 refine w_skip (k25 _ _ (w_seqk fun _ k62 => w_seqk fun _ k63 => ?_))
 obtain ⟨o64, hx65, r66⟩ := bind_some r61
 refine w_mid (fun α H67 => Has α [(1, pt_ b7 0), (2, pt_ b13 0), (3, i_ ((First.length : Int) - 1)), (4, i_ (To.length : Int)), (47, .bool o64)] ∧ H14 = H67) (fun _ k69 => ?_) (fun α H67 hM => ?_)
 ·refine g_' (q_ (i_ ((First.length : Int) - 1)) ?_)
  refine s_b (((First.length : Int) - 1) > 65536) (by kernel_rfl) (fun h71 => ?_) (fun h71 => ?_)
  ·have r72 := ite_t h71 hx65
   refine q_ (.bool true) (n_' (n_' (q_ (.bool true) (s_nil ?_))))
   obtain rfl := Option.some.inj r72
   exact k69 _ _ ⟨ha_, rfl⟩
  have r73 := ite_f h71 hx65
  refine q_ (.bool false) (q_ (i_ (To.length : Int)) (q_ (.bool (decide ((To.length : Int) > 262144))) (q_ (.bool (decide ((To.length : Int) > 262144))) (s_nil ?_))))
  obtain rfl := Option.some.inj r73
  exact k69 _ _ ⟨ha_, rfl⟩
 obtain ⟨hh70, rfl⟩ := hM
 obtain ⟨β, rfl⟩ := has_ex hh70
 clear hh70
 refine k63 _ _ ?_
 refine w_cond (o64) (by kernel_rfl) rfl (fun h74 => ?_) (fun h74 => ?_)
 ·have r75 := ite_t h74 r66
  refine w_seqk fun _ k76 => g_' ?_
  obtain ⟨y77, hy78, r79⟩ := bind_some r75
  refine s_ck 70 #[i_ 9] (by kernel_rfl) (c_viaductref01_E e15.wf hy78) ?_
  rintro _ H80 ⟨rfl, e81⟩
  have u86 := (r17.frS e81 Dj.nil_l)
  obtain ⟨H82, q83, e84, r85⟩ := Row.store (P := Try.prog) (t := 46) (p := 0) e81.wf u86 (.agg #[i_ y77, .slice none 0 0]) [i_ y77, .slice none 0 0] (by kernel_rfl) (by kernel_rfl) (one_cons (rfl) (one_cons (rfl) (one_nil))) (Nat.le_of_ble_eq_true (by kernel_rfl)) [i_ y77, .slice none 0 0] (by kernel_rfl)
  refine s_ek (undef) (by kernel_rfl) (map_ok q83) ?_
  refine s_nil (k76 _ _ ?_)
  refine w_ret (th_ret ?_)
  refine b_ret (fn := Try.f55) (vs := [.agg #[i_ y77, .slice none 0 0]]) (aRes_cell (Eq.trans (b := aLoad Try.prog 46 (pt_ b13 0) H82) (by kernel_rfl) (r85.ld (by kernel_rfl))) (rfl)) ?_
  obtain rfl := Option.some.inj r79
  exact ⟨(.slice none 0 0), [], rfl, (FrS.step wf (FrS.step wf (((FrS.refl (W := []) wf).extR e9).extR e15) e81 Inn.nil) e84 (hb16.fresh e9.next)), (Ow.nil (by decide)), Inn.nil⟩
 have r87 := ite_bf h74 r66
 refine w_skip (k62 _ _ (w_seqk fun _ k88 => w_seqk fun _ k89 => g_' (q_ (i_ 0) (s_nil (k89 _ _ ?_)))))
 obtain ⟨z93, hx91, r92⟩ := bind_some r87
 refine w_mid (fun α H94 => ∃ o90, z93 = Sum.inr o90 ∧ Has α [(1, pt_ b7 0), (2, pt_ b13 0), (3, i_ ((First.length : Int) - 1)), (4, i_ (To.length : Int))] ∧ H14 = H94) (fun _ k96 => ?_) (fun α H94 hM => ?_)
 ·refine w_block ?_
  obtain ⟨n98, hn99⟩ := loopO_iff.1 hx91
  refine w_loopn (fun n α H100 => ∃ (v0 : Int), iterO (fun zz_ => z_viaductref05_DocCheck_l0 First zz_) n v0 = some z93 ∧ Has α [(1, pt_ b7 0), (2, pt_ b13 0), (3, i_ ((First.length : Int) - 1)), (4, i_ (To.length : Int)), (5, i_ v0)] ∧ H14 = H100) n98 ⟨0, hn99, ha_, rfl⟩ ?_
  rintro n98 α H100 ⟨v0, hi103, hh102, rfl⟩ K108 k108
  obtain ⟨n104, z105, rfl, hz106, hn107⟩ := iter_succ hi103
  obtain ⟨β, rfl⟩ := has_ex hh102
  clear hh102
  replace hz106 : z_viaductref05_DocCheck_l0 First v0 = some z105 := hz106
  unfold z_viaductref05_DocCheck_l0 at hz106
  refine w_seqk fun _ k109 => w_seqk fun _ k110 => g_' (q_ (i_ v0) (q_ (i_ ((First.length : Int) - 1)) (q_ (.bool (decide (v0 < ((First.length : Int) - 1)))) (s_nil (k110 _ _ ?_)))))
  refine w_condp (v0 < ((First.length : Int) - 1)) (by kernel_rfl) rfl (fun h111 => ?_) (fun h111 => ?_)
  ·have r112 := ite_t h111 hz106
   refine w_skip (k109 _ _ (w_seqk fun _ k113 => w_block (w_seqk fun _ k114 => ?_)))
   refine w_draw [0, 1, 2, 3, 4, 5, 6, 7, 8, 9, 10, 11] (by kernel_rfl) ?_
   refine e_' (pt_ b7 0) ?_
   refine m_' (hd_First) (aLoad Try.prog 22 (pt_ b7 0) H14) (u20.ld (by kernel_rfl)) ?_
   refine e_' (i_ v0) ?_
   obtain ⟨g115, r116⟩ := G_some r112
   refine d_w ((v0 + 1)) (k := .i64) (x := (v0 + 1)) (by kernel_rfl) (wrap64 g115) ?_
   obtain ⟨g117, r118⟩ := G_some r116
   refine m_' (elp hd_First 1 (v0 + 1).toNat 0) (aIndexAddr Try.prog 22 hd_First (i_ (v0 + 1))) (u21.idxb (by kernel_rfl) g117.1 g117.2) ?_
   refine m_' (i_ (gt First (v0 + 1))) (aLoad Try.prog 3 (elp hd_First 1 (v0 + 1).toNat 0) H14) (u21.ld g117.1 g117.2 (by kernel_rfl)) ?_
   refine e_' (pt_ b7 0) ?_
   refine m_' (hd_First) (aLoad Try.prog 22 (pt_ b7 0) H14) (u20.ld (by kernel_rfl)) ?_
   refine e_' (i_ v0) ?_
   obtain ⟨g119, r120⟩ := G_some r118
   refine m_' (elp hd_First 1 v0.toNat 0) (aIndexAddr Try.prog 22 hd_First (i_ v0)) (u21.idxb (by kernel_rfl) g119.1 g119.2) ?_
   refine m_' (i_ (gt First v0)) (aLoad Try.prog 3 (elp hd_First 1 v0.toNat 0) H14) (u21.ld g119.1 g119.2 (by kernel_rfl)) ?_
   refine e_' (.bool (decide ((gt First (v0 + 1)) < (gt First v0)))) ?_
   refine d_nil ?_
   refine k114 _ _ ?_
   refine w_condp ((gt First (v0 + 1)) < (gt First v0)) (by kernel_rfl) rfl (fun h121 => ?_) (fun h121 => ?_)
   ·have r122 := ite_t h121 r120
    refine w_seqk fun _ k123 => g_' (q_ (i_ v0) ?_)
    obtain ⟨y124, hy125, r126⟩ := bind_some r122
    refine s_ck 70 #[i_ 14] (by kernel_rfl) (c_viaductref01_E e15.wf hy125) ?_
    rintro _ H127 ⟨rfl, e128⟩
    obtain ⟨y129, hy130, r131⟩ := bind_some r126
    refine s_ck 111 #[i_ 3, i_ v0, .agg #[i_ y124, .slice none 0 0]] (by kernel_rfl) (c_viaductref01_At e128.wf (Sq.nil (enc := enc_i64_i64) (sz := 2) (by decide)) hy130) ?_
    rintro _ H134 ⟨s132, f133, rfl, e135, m136, i137⟩
    obtain ⟨a139, n140, c141, rfl⟩ := m136.form
    have u146 := ((r17.frS e128 Dj.nil_l).frS e135 Dj.nil_l)
    obtain ⟨H142, q143, e144, r145⟩ := Row.store (P := Try.prog) (t := 46) (p := 0) e135.wf u146 (.agg #[i_ y129.1, .slice a139 n140 c141]) [i_ y129.1, .slice a139 n140 c141] (by kernel_rfl) (by kernel_rfl) (one_cons (rfl) (one_cons (m136.one1) (one_nil))) (Nat.le_of_ble_eq_true (by kernel_rfl)) [i_ y129.1, .slice a139 n140 c141] (by kernel_rfl)
    refine s_ek (undef) (by kernel_rfl) (map_ok q143) ?_
    refine s_nil (k123 _ _ ?_)
    refine w_ret (bl_ret (th_ret (th_ret (bl_ret (th_ret (th_ret ?_))))))
    obtain ⟨v147, hv148, hz149⟩ := map_some r131
    subst hz149
    obtain rfl := it_inr hn107
    have hq150 := elim_inl r92
    rw [hq150] at hv148
    refine b_ret (fn := Try.f55) (vs := [.agg #[i_ y129.1, .slice a139 n140 c141]]) (aRes_cell (Eq.trans (b := aLoad Try.prog 46 (pt_ b13 0) H142) (by kernel_rfl) (r145.ld (by kernel_rfl))) (rfl)) ?_
    have u151 := (m136.fr e144 (Dj.symm (i137.djn (r17.ltF.le e128.next))))
    obtain rfl := Option.some.inj hv148
    exact ⟨(.slice a139 n140 c141), f133, rfl, (FrS.step wf (FrS.step wf (FrS.step wf (((FrS.refl (W := []) wf).extR e9).extR e15) e128 Inn.nil) e135 Inn.nil) e144 (hb16.fresh e9.next)), u151, (i137.fresh (ntr (ntr e9.next e15.next) e128.next))⟩
   have r152 := ite_f h121 r120
   refine w_skip (k113 _ _ (g_' (q_ (i_ v0) ?_)))
   obtain ⟨g153, r154⟩ := G_some r152
   refine w_' (v0 + 1) (wrap64 (by have := g153; omega)) ?_
   refine q_ (i_ (v0 + 1)) (s_nil ?_)
   obtain rfl := Option.some.inj r154
   exact k108 n104 _ _ (Nat.lt_succ_self _) ⟨(v0 + 1), hn107, ha_, rfl⟩
  have r155 := ite_f h111 hz106
  refine w_exit (th_exit (th_exit (bl_eq ?_)))
  obtain rfl := Option.some.inj r155
  obtain rfl := it_inr hn107
  exact k96 _ _ ⟨_, rfl, ha_, rfl⟩
 obtain ⟨o90, rfl, hh97, rfl⟩ := hM
 have r156 := elim_inr r92
 obtain ⟨β, rfl⟩ := has_ex hh97
 clear hh97
 refine k88 _ _ (w_seqk fun _ k157 => g_' (q_ (i_ 0) (s_nil (k157 _ _ (w_seqk fun _ k158 => w_seqk fun _ k159 => g_' (q_ (i_ 0) (s_nil (k159 _ _ ?_))))))))
 obtain ⟨z163, hx161, r162⟩ := bind_some r156
 refine w_mid (fun α H164 => ∃ o160, z163 = Sum.inr o160 ∧ Has α [(2, pt_ b13 0)] ∧ H14 = H164) (fun _ k166 => ?_) (fun α H164 hM => ?_)
 ·refine w_block ?_
  obtain ⟨n168, hn169⟩ := loopO_iff.1 hx161
  refine w_loopn (fun n α H170 => ∃ (v2 : Int), ∃ (i3 : Int), iterO (fun zz_ => z_viaductref05_DocCheck_l2 First To Weight zz_.1 zz_.2) n (v2, i3) = some z163 ∧ Has α [(1, pt_ b7 0), (2, pt_ b13 0), (3, i_ ((First.length : Int) - 1)), (4, i_ (To.length : Int)), (6, i_ v2), (7, i_ i3)] ∧ H14 = H170) n168 ⟨0, 0, hn169, ha_, rfl⟩ ?_
  rintro n168 α H170 ⟨v2, i3, hi173, hh172, rfl⟩ K178 k178
  obtain ⟨n174, z175, rfl, hz176, hn177⟩ := iter_succ hi173
  obtain ⟨β, rfl⟩ := has_ex hh172
  clear hh172
  replace hz176 : z_viaductref05_DocCheck_l2 First To Weight v2 i3 = some z175 := hz176
  unfold z_viaductref05_DocCheck_l2 at hz176
  refine w_seqk fun _ k179 => w_seqk fun _ k180 => g_' (q_ (i_ i3) (q_ (i_ (To.length : Int)) (q_ (.bool (decide (i3 < (To.length : Int)))) (s_nil (k180 _ _ ?_)))))
  refine w_condp (i3 < (To.length : Int)) (by kernel_rfl) rfl (fun h181 => ?_) (fun h181 => ?_)
  ·have r182 := ite_t h181 hz176
   refine w_skip (k179 _ _ (w_seqk fun _ k183 => w_block (w_seqk fun _ k184 => ?_)))
   obtain ⟨o185, hx186, r187⟩ := bind_some r182
   refine w_mid (fun α H188 => Has α [(1, pt_ b7 0), (2, pt_ b13 0), (3, i_ ((First.length : Int) - 1)), (4, i_ (To.length : Int)), (6, i_ o185), (7, i_ i3)] ∧ H14 = H188) (fun _ k190 => ?_) (fun α H188 hM => ?_)
   ·refine w_block ?_
    obtain ⟨n192, hn193⟩ := loopO_iff.1 hx186
    refine w_loopn (fun n α H194 => ∃ (v1 : Int), iterO (fun zz_ => z_viaductref05_DocCheck_l1 First i3 zz_) n v1 = some o185 ∧ Has α [(1, pt_ b7 0), (2, pt_ b13 0), (3, i_ ((First.length : Int) - 1)), (4, i_ (To.length : Int)), (6, i_ v1), (7, i_ i3)] ∧ H14 = H194) n192 ⟨v2, hn193, ha_, rfl⟩ ?_
    rintro n192 α H194 ⟨v1, hi197, hh196, rfl⟩ K202 k202
    obtain ⟨n198, z199, rfl, hz200, hn201⟩ := iter_succ hi197
    obtain ⟨β, rfl⟩ := has_ex hh196
    clear hh196
    replace hz200 : z_viaductref05_DocCheck_l1 First i3 v1 = some z199 := hz200
    unfold z_viaductref05_DocCheck_l1 at hz200
    refine w_seqk fun _ k203 => w_seqk fun _ k204 => g_' (q_ (pt_ b7 0) ?_)
    refine l_' (hd_First) (aLoad Try.prog 22 (pt_ b7 0) H14) (u20.ld (by kernel_rfl)) ?_
    refine q_ (i_ v1) ?_
    obtain ⟨g205, r206⟩ := G_some hz200
    refine w_' (v1 + 1) (wrap64 g205) ?_
    obtain ⟨g207, r208⟩ := G_some r206
    refine l_' (elp hd_First 1 (v1 + 1).toNat 0) (aIndexAddr Try.prog 22 hd_First (i_ (v1 + 1))) (u21.idxb (by kernel_rfl) g207.1 g207.2) ?_
    refine l_' (i_ (gt First (v1 + 1))) (aLoad Try.prog 3 (elp hd_First 1 (v1 + 1).toNat 0) H14) (u21.ld g207.1 g207.2 (by kernel_rfl)) ?_
    refine q_ (i_ i3) (q_ (.bool (decide ((gt First (v1 + 1)) ≤ i3))) (s_nil (k204 _ _ ?_)))
    refine w_condp ((gt First (v1 + 1)) ≤ i3) (by kernel_rfl) rfl (fun h209 => ?_) (fun h209 => ?_)
    ·have r210 := ite_t h209 r208
     refine w_skip (k203 _ _ (w_block (g_' (q_ (i_ v1) ?_))))
     obtain ⟨g211, r212⟩ := G_some r210
     refine w_' (v1 + 1) (wrap64 (by have := g211; omega)) ?_
     refine q_ (i_ (v1 + 1)) (s_nil ?_)
     obtain rfl := Option.some.inj r212
     exact k202 n198 _ _ (Nat.lt_succ_self _) ⟨(v1 + 1), hn201, ha_, rfl⟩
    have r213 := ite_f h209 r208
    refine w_exit (th_exit (th_exit (bl_eq ?_)))
    obtain rfl := Option.some.inj r213
    obtain rfl := it_inr hn201
    exact k190 _ _ ⟨ha_, rfl⟩
   obtain ⟨hh191, rfl⟩ := hM
   obtain ⟨β, rfl⟩ := has_ex hh191
   clear hh191
   refine k184 _ _ (w_seqk fun _ k214 => g_' (q_ (i_ 0) (s_nil (k214 _ _ (w_seqk fun _ k215 => w_block (w_seqk fun _ k216 => ?_))))))
   obtain ⟨o217, hx218, r219⟩ := bind_some r187
   refine w_mid (fun α H220 => Has α [(1, pt_ b7 0), (2, pt_ b13 0), (3, i_ ((First.length : Int) - 1)), (4, i_ (To.length : Int)), (6, i_ o185), (7, i_ i3), (8, i_ 0), (84, .bool o217)] ∧ H14 = H220) (fun _ k222 => ?_) (fun α H220 hM => ?_)
   ·refine g_' (q_ (pt_ b7 1) ?_)
    refine l_' (hd_To) (aLoad Try.prog 22 (pt_ b7 1) H14) (u20.ld (by kernel_rfl)) ?_
    refine q_ (i_ i3) ?_
    obtain ⟨g224, r225⟩ := G_some hx218
    refine l_' (elp hd_To 1 i3.toNat 0) (aIndexAddr Try.prog 22 hd_To (i_ i3)) (u24.idxb (by kernel_rfl) g224 h181) ?_
    refine l_' (i_ (gt To i3)) (aLoad Try.prog 3 (elp hd_To 1 i3.toNat 0) H14) (u24.ld g224 h181 (by kernel_rfl)) ?_
    refine s_b ((gt To i3) < 0) (by kernel_rfl) (fun h226 => ?_) (fun h226 => ?_)
    ·have r227 := ite_t h226 r225
     refine q_ (.bool true) (n_' (n_' (n_' (n_' (n_' (n_' (n_' (q_ (.bool true) (q_ (.bool true) (s_nil ?_))))))))))
     obtain rfl := Option.some.inj r227
     exact k222 _ _ ⟨ha_, rfl⟩
    have r228 := ite_f h226 r225
    refine q_ (.bool false) (q_ (pt_ b7 1) ?_)
    refine l_' (hd_To) (aLoad Try.prog 22 (pt_ b7 1) H14) (u20.ld (by kernel_rfl)) ?_
    refine q_ (i_ i3) ?_
    refine l_' (elp hd_To 1 i3.toNat 0) (aIndexAddr Try.prog 22 hd_To (i_ i3)) (u24.idxb (by kernel_rfl) g224 h181) ?_
    refine l_' (i_ (gt To i3)) (aLoad Try.prog 3 (elp hd_To 1 i3.toNat 0) H14) (u24.ld g224 h181 (by kernel_rfl)) ?_
    refine q_ (i_ ((First.length : Int) - 1)) (q_ (.bool (decide ((gt To i3) ≥ ((First.length : Int) - 1)))) (q_ (.bool (decide ((gt To i3) ≥ ((First.length : Int) - 1)))) (q_ (.bool (decide ((gt To i3) ≥ ((First.length : Int) - 1)))) (s_nil ?_))))
    obtain rfl := Option.some.inj r228
    exact k222 _ _ ⟨ha_, rfl⟩
   obtain ⟨hh223, rfl⟩ := hM
   obtain ⟨β, rfl⟩ := has_ex hh223
   clear hh223
   refine k216 _ _ ?_
   obtain ⟨o229, hx230, r231⟩ := bind_some r219
   refine w_mid (fun α H232 => Has α [(1, pt_ b7 0), (2, pt_ b13 0), (3, i_ ((First.length : Int) - 1)), (4, i_ (To.length : Int)), (6, i_ o185), (7, i_ i3), (8, i_ o229)] ∧ H14 = H232) (fun _ k234 => ?_) (fun α H232 hM => ?_)
   ·refine w_cond (o217) (by kernel_rfl) rfl (fun h236 => ?_) (fun h236 => ?_)
    ·have r237 := ite_t h236 hx230
     refine g_' (q_ (i_ 7) (s_nil ?_))
     obtain rfl := Option.some.inj r237
     exact k234 _ _ ⟨ha_, rfl⟩
    have r238 := ite_bf h236 hx230
    refine w_seqk fun _ k239 => ?_
    obtain ⟨o240, hx241, r242⟩ := bind_some r238
    refine w_mid (fun α H243 => Has α [(1, pt_ b7 0), (2, pt_ b13 0), (3, i_ ((First.length : Int) - 1)), (4, i_ (To.length : Int)), (6, i_ o185), (7, i_ i3), (8, i_ 0), (100, .bool o240)] ∧ H14 = H243) (fun _ k245 => ?_) (fun α H243 hM => ?_)
    ·refine w_draw [0, 1, 2, 3, 4, 5, 6, 7, 8, 9, 10, 11, 12, 13, 14, 15, 16, 17, 18, 19, 20, 21, 22, 23, 24, 25, 26, 27, 28, 29, 30] (by kernel_rfl) ?_
     refine e_' (pt_ b7 1) ?_
     refine m_' (hd_To) (aLoad Try.prog 22 (pt_ b7 1) H14) (u20.ld (by kernel_rfl)) ?_
     refine e_' (i_ i3) ?_
     obtain ⟨g247, r248⟩ := G_some hx241
     refine m_' (elp hd_To 1 i3.toNat 0) (aIndexAddr Try.prog 22 hd_To (i_ i3)) (u24.idxb (by kernel_rfl) g247 h181) ?_
     refine m_' (i_ (gt To i3)) (aLoad Try.prog 3 (elp hd_To 1 i3.toNat 0) H14) (u24.ld g247 h181 (by kernel_rfl)) ?_
     refine e_' (i_ o185) ?_
     refine d_b ((gt To i3) = o185) (by kernel_rfl) (fun h249 => ?_) (fun h249 => ?_)
     ·have r250 := ite_t h249 r248
      refine e_' (.bool true) (j_' (j_' (j_' (j_' (j_' (j_' (j_' (j_' (j_' (j_' (j_' (j_' (j_' (j_' (j_' (j_' (j_' (j_' (j_' (j_' (j_' (e_' (.bool true) (e_' (.bool true) ?_)))))))))))))))))))))))
      refine d_nil ?_
      obtain rfl := Option.some.inj r250
      exact k245 _ _ ⟨ha_, rfl⟩
     have r251 := ite_f h249 r248
     refine e_' (.bool false) (e_' (i_ i3) (e_' (pt_ b7 0) ?_))
     refine m_' (hd_First) (aLoad Try.prog 22 (pt_ b7 0) H14) (u20.ld (by kernel_rfl)) ?_
     refine e_' (i_ o185) ?_
     obtain ⟨g252, r253⟩ := G_some r251
     refine m_' (elp hd_First 1 o185.toNat 0) (aIndexAddr Try.prog 22 hd_First (i_ o185)) (u21.idxb (by kernel_rfl) g252.1 g252.2) ?_
     refine m_' (i_ (gt First o185)) (aLoad Try.prog 3 (elp hd_First 1 o185.toNat 0) H14) (u21.ld g252.1 g252.2 (by kernel_rfl)) ?_
     refine d_b (i3 > (gt First o185)) (by kernel_rfl) (fun h254 => ?_) (fun h254 => ?_)
     ·have r255 := ite_t h254 r253
      refine e_' (.bool true) (e_' (pt_ b7 1) ?_)
      refine m_' (hd_To) (aLoad Try.prog 22 (pt_ b7 1) H14) (u20.ld (by kernel_rfl)) ?_
      refine e_' (i_ i3) ?_
      refine m_' (elp hd_To 1 i3.toNat 0) (aIndexAddr Try.prog 22 hd_To (i_ i3)) (u24.idxb (by kernel_rfl) g247 h181) ?_
      refine m_' (i_ (gt To i3)) (aLoad Try.prog 3 (elp hd_To 1 i3.toNat 0) H14) (u24.ld g247 h181 (by kernel_rfl)) ?_
      refine e_' (pt_ b7 1) ?_
      refine m_' (hd_To) (aLoad Try.prog 22 (pt_ b7 1) H14) (u20.ld (by kernel_rfl)) ?_
      refine e_' (i_ i3) ?_
      obtain ⟨g256, r257⟩ := G_some r255
      refine d_w ((i3 - 1)) (k := .i64) (x := (i3 - 1)) (by kernel_rfl) (wrap64 g256) ?_
      obtain ⟨g258, r259⟩ := G_some r257
      refine m_' (elp hd_To 1 (i3 - 1).toNat 0) (aIndexAddr Try.prog 22 hd_To (i_ (i3 - 1))) (u24.idxb (by kernel_rfl) g258.1 g258.2) ?_
      refine m_' (i_ (gt To (i3 - 1))) (aLoad Try.prog 3 (elp hd_To 1 (i3 - 1).toNat 0) H14) (u24.ld g258.1 g258.2 (by kernel_rfl)) ?_
      refine e_' (.bool (decide ((gt To i3) ≤ (gt To (i3 - 1))))) (e_' (.bool (decide ((gt To i3) ≤ (gt To (i3 - 1))))) (e_' (.bool (decide ((gt To i3) ≤ (gt To (i3 - 1))))) (e_' (.bool (decide ((gt To i3) ≤ (gt To (i3 - 1))))) ?_)))
      refine d_nil ?_
      obtain rfl := Option.some.inj r259
      exact k245 _ _ ⟨ha_, rfl⟩
     have r260 := ite_f h254 r253
     refine e_' (.bool false) (j_' (j_' (j_' (j_' (j_' (j_' (j_' (j_' (j_' (j_' (j_' (j_' (e_' (.bool false) (e_' (.bool false) (e_' (.bool false) ?_)))))))))))))))
     refine d_nil ?_
     obtain rfl := Option.some.inj r260
     exact k245 _ _ ⟨ha_, rfl⟩
    obtain ⟨hh246, rfl⟩ := hM
    obtain ⟨β, rfl⟩ := has_ex hh246
    clear hh246
    refine k239 _ _ ?_
    refine w_cond (o240) (by kernel_rfl) rfl (fun h261 => ?_) (fun h261 => ?_)
    ·have r262 := ite_t h261 r242
     refine g_' (q_ (i_ 14) (s_nil ?_))
     obtain rfl := Option.some.inj r262
     exact k234 _ _ ⟨ha_, rfl⟩
    have r263 := ite_bf h261 r242
    refine w_seqk fun _ k264 => g_' (q_ (pt_ b7 2) ?_)
    refine l_' (hd_Weight) (aLoad Try.prog 22 (pt_ b7 2) H14) (u20.ld (by kernel_rfl)) ?_
    refine q_ (i_ i3) ?_
    obtain ⟨g265, r266⟩ := G_some r263
    have u267 := ((h_Weight.ext e9).ext e15)
    refine l_' (elp hd_Weight 1 i3.toNat 0) (aIndexAddr Try.prog 22 hd_Weight (i_ i3)) (u267.idxb (by kernel_rfl) g265.1 g265.2) ?_
    refine l_' (i_ (gt Weight i3)) (aLoad Try.prog 3 (elp hd_Weight 1 i3.toNat 0) H14) (u267.ld g265.1 g265.2 (by kernel_rfl)) ?_
    refine s_b ((gt Weight i3) < 0) (by kernel_rfl) (fun h268 => ?_) (fun h268 => ?_)
    ·have r269 := ite_t h268 r266
     refine q_ (.bool true) (n_' (n_' (n_' (n_' (n_' (n_' (q_ (.bool true) (q_ (.bool true) (s_nil (k264 _ _ ?_))))))))))
     refine w_cond true (by kernel_rfl) rfl (fun _ => ?_) (fun h => by cases h)
     refine g_' (q_ (i_ 8) (s_nil ?_))
     obtain rfl := Option.some.inj r269
     exact k234 _ _ ⟨ha_, rfl⟩
    have r270 := ite_f h268 r266
    refine q_ (.bool false) (q_ (pt_ b7 2) ?_)
    refine l_' (hd_Weight) (aLoad Try.prog 22 (pt_ b7 2) H14) (u20.ld (by kernel_rfl)) ?_
    refine q_ (i_ i3) ?_
    refine l_' (elp hd_Weight 1 i3.toNat 0) (aIndexAddr Try.prog 22 hd_Weight (i_ i3)) (u267.idxb (by kernel_rfl) g265.1 g265.2) ?_
    refine l_' (i_ (gt Weight i3)) (aLoad Try.prog 3 (elp hd_Weight 1 i3.toNat 0) H14) (u267.ld g265.1 g265.2 (by kernel_rfl)) ?_
    refine q_ (.bool (decide ((gt Weight i3) > 2147483647))) (q_ (.bool (decide ((gt Weight i3) > 2147483647))) (q_ (.bool (decide ((gt Weight i3) > 2147483647))) (s_nil (k264 _ _ ?_))))
    refine w_condp ((gt Weight i3) > 2147483647) (by kernel_rfl) rfl (fun h271 => ?_) (fun h271 => ?_)
    ·have r272 := ite_t h271 r270
     refine g_' (q_ (i_ 8) (s_nil ?_))
     obtain rfl := Option.some.inj r272
     exact k234 _ _ ⟨ha_, rfl⟩
    have r273 := ite_f h271 r270
    refine w_skip ?_
    obtain rfl := Option.some.inj r273
    exact k234 _ _ ⟨ha_, rfl⟩
   obtain ⟨hh235, rfl⟩ := hM
   obtain ⟨β, rfl⟩ := has_ex hh235
   clear hh235
   refine k215 _ _ (w_seqk fun _ k274 => g_' (q_ (i_ o229) (q_ (.bool (!decide (o229 = 0))) (s_nil (k274 _ _ ?_)))))
   refine w_condn (o229 = 0) (by kernel_rfl) rfl (fun h275 => ?_) (fun h275 => ?_)
   ·have r276 := ite_f h275 r231
    refine w_seqk fun _ k277 => g_' (q_ (i_ i3) (q_ (i_ o229) ?_))
    obtain ⟨y278, hy279, r280⟩ := bind_some r276
    refine s_ck 70 #[i_ o229] (by kernel_rfl) (c_viaductref01_E e15.wf hy279) ?_
    rintro _ H281 ⟨rfl, e282⟩
    obtain ⟨y283, hy284, r285⟩ := bind_some r280
    refine s_ck 111 #[i_ 4, i_ i3, .agg #[i_ y278, .slice none 0 0]] (by kernel_rfl) (c_viaductref01_At e282.wf (Sq.nil (enc := enc_i64_i64) (sz := 2) (by decide)) hy284) ?_
    rintro _ H288 ⟨s286, f287, rfl, e289, m290, i291⟩
    obtain ⟨a293, n294, c295, rfl⟩ := m290.form
    have u300 := ((r17.frS e282 Dj.nil_l).frS e289 Dj.nil_l)
    obtain ⟨H296, q297, e298, r299⟩ := Row.store (P := Try.prog) (t := 46) (p := 0) e289.wf u300 (.agg #[i_ y283.1, .slice a293 n294 c295]) [i_ y283.1, .slice a293 n294 c295] (by kernel_rfl) (by kernel_rfl) (one_cons (rfl) (one_cons (m290.one1) (one_nil))) (Nat.le_of_ble_eq_true (by kernel_rfl)) [i_ y283.1, .slice a293 n294 c295] (by kernel_rfl)
    refine s_ek (undef) (by kernel_rfl) (map_ok q297) ?_
    refine s_nil (k277 _ _ ?_)
    refine w_ret (bl_ret (th_ret (th_ret (bl_ret (th_ret (th_ret ?_))))))
    obtain ⟨v301, hv302, hz303⟩ := map_some r285
    subst hz303
    obtain rfl := it_inr hn177
    have hq304 := elim_inl r162
    rw [hq304] at hv302
    refine b_ret (fn := Try.f55) (vs := [.agg #[i_ y283.1, .slice a293 n294 c295]]) (aRes_cell (Eq.trans (b := aLoad Try.prog 46 (pt_ b13 0) H296) (by kernel_rfl) (r299.ld (by kernel_rfl))) (rfl)) ?_
    have u305 := (m290.fr e298 (Dj.symm (i291.djn (r17.ltF.le e282.next))))
    obtain rfl := Option.some.inj hv302
    exact ⟨(.slice a293 n294 c295), f287, rfl, (FrS.step wf (FrS.step wf (FrS.step wf (((FrS.refl (W := []) wf).extR e9).extR e15) e282 Inn.nil) e289 Inn.nil) e298 (hb16.fresh e9.next)), u305, (i291.fresh (ntr (ntr e9.next e15.next) e282.next))⟩
   have r306 := ite_t h275 r231
   refine w_skip (k183 _ _ (g_' (q_ (i_ i3) ?_)))
   obtain ⟨g307, r308⟩ := G_some r306
   refine w_' (i3 + 1) (wrap64 g307) ?_
   refine q_ (i_ (i3 + 1)) (s_nil ?_)
   obtain rfl := Option.some.inj r308
   exact k178 n174 _ _ (Nat.lt_succ_self _) ⟨o185, (i3 + 1), hn177, ha_, rfl⟩
  have r309 := ite_f h181 hz176
  refine w_exit (th_exit (th_exit (bl_eq ?_)))
  obtain rfl := Option.some.inj r309
  obtain rfl := it_inr hn177
  exact k166 _ _ ⟨_, rfl, ha_, rfl⟩
 obtain ⟨o160, rfl, hh167, rfl⟩ := hM
 have r310 := elim_inr r162
 obtain ⟨β, rfl⟩ := has_ex hh167
 clear hh167
 refine k158 _ _ (w_seqk fun _ k311 => g_' (q_ (.agg #[i_ 0, .slice none 0 0]) ?_))
 obtain ⟨H312, q313, e314, r315⟩ := Row.store (P := Try.prog) (t := 46) (p := 0) e15.wf r17 (.agg #[i_ 0, .slice none 0 0]) [i_ 0, .slice none 0 0] (by kernel_rfl) (by kernel_rfl) (one_cons (rfl) (one_cons (rfl) (one_nil))) (Nat.le_of_ble_eq_true (by kernel_rfl)) [i_ 0, .slice none 0 0] (by kernel_rfl)
 refine s_ek (undef) (by kernel_rfl) (map_ok q313) ?_
 refine s_nil (k311 _ _ ?_)
 refine w_ret ?_
 refine b_ret (fn := Try.f55) (vs := [.agg #[i_ 0, .slice none 0 0]]) (aRes_cell (Eq.trans (b := aLoad Try.prog 46 (pt_ b13 0) H312) (by kernel_rfl) (r315.ld (by kernel_rfl))) (rfl)) ?_
 obtain rfl := Option.some.inj r310
 exact ⟨(.slice none 0 0), [], rfl, (FrS.step wf (((FrS.refl (W := []) wf).extR e9).extR e15) e314 (hb16.fresh e9.next)), (Ow.nil (by decide)), Inn.nil⟩
theorem c_viaductref01_Err_Bad {H : AH} {hd_Places : Value} {fp_Places : Fp} {Code : Int} {Places : List (Int × Int)} {r : Bool}
    (wf : WF H) (h_Places : Sq enc_i64_i64 2 H hd_Places Places fp_Places) (hr : z_viaductref01_Err_Bad Code Places = some r) :
    ACalls Try.prog 56 #[.agg #[i_ Code, hd_Places]] H fun v H' => v = .bool r ∧ FrS [] H H' := by
 refine acalls_of_body mixed Try.func56 rfl (Nat.le_of_ble_eq_true rfl) ?_
 unfold z_viaductref01_Err_Bad at hr
 refine w_seqk fun _ k1 => g_' ?_
 refine s_rwl wf [i_ Code, hd_Places] (one_cons (rfl) (one_cons (h_Places.one1) (one_nil))) (by kernel_rfl) fun b2 H3 e4 hb5 r6 => ?_
 refine q_ (.bool false) (s_nil (k1 _ _ (w_seqk fun _ k8 => g_' (q_ (pt_ b2 0) ?_))))
 refine l_' (i_ Code) (aLoad Try.prog 3 (pt_ b2 0) H3) (r6.ld (by kernel_rfl)) ?_
 refine s_bn (Code = 0) (by kernel_rfl) (fun h9 => ?_) (fun h9 => ?_)
 ·have r10 := ite_t h9 hr
  refine q_ (.bool false) (q_ (pt_ b2 1) ?_)
  refine l_' (hd_Places) (aLoad Try.prog 44 (pt_ b2 1) H3) (r6.ld (by kernel_rfl)) ?_
  have u11 := (h_Places.ext e4)
  refine l_' (i_ (Places.length : Int)) (aLen Try.prog 44 hd_Places H3) (u11.lenb (by kernel_rfl)) ?_
  refine q_ (.bool (decide ((Places.length : Int) > 0))) (q_ (.bool (decide ((Places.length : Int) > 0))) (q_ (.bool (decide ((Places.length : Int) > 0))) (s_nil (k8 _ _ ?_))))
  refine w_ret ?_
  refine b_ret (fn := Try.f56) (vs := [.bool (decide ((Places.length : Int) > 0))]) (aRes_tmp (by kernel_rfl) (rfl)) ?_
  obtain rfl := Option.some.inj r10
  exact ⟨rfl, ((FrS.refl (W := []) wf).extR e4)⟩
 have r12 := ite_f h9 hr
 refine q_ (.bool true) (n_' (n_' (n_' (n_' (q_ (.bool true) (q_ (.bool true) (s_nil (k8 _ _ ?_))))))))
 refine w_ret ?_
 refine b_ret (fn := Try.f56) (vs := [.bool true]) (aRes_tmp (by kernel_rfl) (rfl)) ?_
 obtain rfl := Option.some.inj r12
 exact ⟨rfl, ((FrS.refl (W := []) wf).extR e4)⟩
theorem c_viaductlaw08_few {H : AH} {hd_First : Value} {fp_First : Fp} {hd_To : Value} {fp_To : Fp} {hd_Weight : Value} {fp_Weight : Fp} {First : List (Int)} {To : List (Int)} {Weight : List (Int)} {r : Bool}
    (wf : WF H) (h_First : Sq (encI .i64) 1 H hd_First First fp_First) (h_To : Sq (encI .i64) 1 H hd_To To fp_To) (h_Weight : Sq (encI .i64) 1 H hd_Weight Weight fp_Weight) (hr : z_viaductlaw08_few First To Weight = some r) :
    ACalls Try.prog 8 #[.agg #[hd_First, hd_To, hd_Weight]] H fun v H' => v = .bool r ∧ FrS [] H H' := by
 refine acalls_of_body mixed Try.func8 rfl (Nat.le_of_ble_eq_true rfl) ?_
 unfold z_viaductlaw08_few at hr
 refine w_seqk fun _ k1 => g_' ?_
 refine s_rwl wf [hd_First, hd_To, hd_Weight] (one_cons (h_First.one1) (one_cons (h_To.one1) (one_cons (h_Weight.one1) (one_nil)))) (by kernel_rfl) fun b2 H3 e4 hb5 r6 => ?_
 refine q_ (.bool false) (s_nil (k1 _ _ (w_seqk fun _ k8 => g_' ?_)))
 refine l_' (.agg #[hd_First, hd_To, hd_Weight]) (aLoad Try.prog 24 (pt_ b2 0) H3) (r6.ld (by kernel_rfl)) ?_
 have u9 := (h_First.ext e4)
 have u10 := (h_To.ext e4)
 have u11 := (h_Weight.ext e4)
 obtain ⟨y12, hy13, r14⟩ := bind_some hr
 refine s_ck 55 #[.agg #[hd_First, hd_To, hd_Weight]] (by kernel_rfl) (c_viaductref05_DocCheck e4.wf u9 u10 u11 hy13) ?_
 rintro _ H17 ⟨s15, f16, rfl, e18, m19, i20⟩
 obtain ⟨a22, n23, c24, rfl⟩ := m19.form
 refine s_rwk e18.wf [i_ 0, .slice none 0 0] (by kernel_rfl) fun b25 H26 e27 hb28 r29 => ?_
 have u35 := (m19.ext e27)
 obtain ⟨H31, q32, e33, r34⟩ := Row.store (P := Try.prog) (t := 46) (p := 0) e27.wf r29 (.agg #[i_ y12.1, .slice a22 n23 c24]) [i_ y12.1, .slice a22 n23 c24] (by kernel_rfl) (by kernel_rfl) (one_cons (rfl) (one_cons (u35.one1) (one_nil))) (Nat.le_of_ble_eq_true (by kernel_rfl)) [i_ y12.1, .slice a22 n23 c24] (by kernel_rfl)
 refine s_ek (undef) (by kernel_rfl) (map_ok q32) ?_
 refine s_nil (k8 _ _ (w_seqk fun _ k36 => g_' ?_))
 refine l_' (.agg #[i_ y12.1, .slice a22 n23 c24]) (aLoad Try.prog 46 (pt_ b25 0) H31) (r34.ld (by kernel_rfl)) ?_
 have u37 := (u35.fr e33 (hb28.djn m19.lt))
 obtain ⟨y38, hy39, r40⟩ := bind_some r14
 refine s_ck 56 #[.agg #[i_ y12.1, .slice a22 n23 c24]] (by kernel_rfl) (c_viaductref01_Err_Bad e33.wf u37.sq hy39) ?_
 rintro _ H41 ⟨rfl, e42⟩
 by_cases h43 : y38 = true
 ·have r44 := ite_t h43 r40
  rw [h43]
  refine q_ (.bool true) (n_' (n_' (n_' (n_' (q_ (.bool true) (q_ (.bool true) (s_nil (k36 _ _ ?_))))))))
  refine w_ret ?_
  refine b_ret (fn := Try.f8) (vs := [.bool true]) (aRes_tmp (by kernel_rfl) (rfl)) ?_
  obtain rfl := Option.some.inj r44
  exact ⟨rfl, (FrS.step wf (FrS.step wf ((FrS.step wf ((FrS.refl (W := []) wf).extR e4) e18 Inn.nil).extR e27) e33 (hb28.fresh (ntr e4.next e18.next))) e42 Inn.nil)⟩
 have r46 := ite_f h43 r40
 rw [nb h43]
 refine q_ (.bool false) (q_ (pt_ b2 0) ?_)
 have u48 := ((((r6.frS e18 Dj.nil_l).ext e27).frS e33 (hb28.djn (r6.ltF.le e18.next))).frS e42 Dj.nil_l)
 refine l_' (hd_First) (aLoad Try.prog 22 (pt_ b2 0) H41) (u48.ld (by kernel_rfl)) ?_
 have u49 := ((((u9.fr e18 Dj.nil_l).ext e27).fr e33 (hb28.djn (h_First.lt.le (ntr e4.next e18.next)))).fr e42 Dj.nil_l)
 refine l_' (i_ (First.length : Int)) (aLen Try.prog 22 hd_First H41) (u49.lenb (by kernel_rfl)) ?_
 refine q_ (.bool (decide ((First.length : Int) ≤ 30))) (q_ (.bool (decide ((First.length : Int) ≤ 30))) (q_ (.bool (decide ((First.length : Int) ≤ 30))) (s_nil (k36 _ _ ?_))))
 refine w_ret ?_
 refine b_ret (fn := Try.f8) (vs := [.bool (decide ((First.length : Int) ≤ 30))]) (aRes_tmp (by kernel_rfl) (rfl)) ?_
 obtain rfl := Option.some.inj r46
 exact ⟨rfl, (FrS.step wf (FrS.step wf ((FrS.step wf ((FrS.refl (W := []) wf).extR e4) e18 Inn.nil).extR e27) e33 (hb28.fresh (ntr e4.next e18.next))) e42 Inn.nil)⟩
theorem c_viaductref02_TwinInts {H : AH} {hd_l : Value} {fp_l : Fp} {l : List (Int)} {r : List (Int)}
    (wf : WF H) (h_l : Sq (encI .i64) 1 H hd_l l fp_l) (hr : z_viaductref02_TwinInts l = some r) :
    ACalls Try.prog 112 #[hd_l] H fun v H' => ∃ (s3 : Value) (f4 : Fp), v = s3 ∧ FrS [] H H' ∧ Ow (encI .i64) 1 H' s3 r f4 ∧ Inn [] H f4 := by
 refine acalls_of_body mixed Try.func112 rfl (Nat.le_of_ble_eq_true rfl) ?_
 unfold z_viaductref02_TwinInts at hr
 refine w_seqk fun _ k6 => g_' (q_ (.slice none 0 0) (s_nil (k6 _ _ (w_seqk fun _ k7 => g_' (q_ (.slice none 0 0) (s_nil (k7 _ _ (w_seqk fun _ k8 => w_seqk fun _ k9 => g_' (q_ (hd_l) ?_)))))))))
 refine l_' (i_ (l.length : Int)) (aLen Try.prog 22 hd_l H) (h_l.lenb (by kernel_rfl)) ?_
 refine q_ (i_ 0) (s_nil (k9 _ _ ?_))
 obtain ⟨o10, hx11, r12⟩ := bind_some hr
 refine w_mid (fun α H13 => ∃ (s17 : Value) (f18 : Fp), Has α [(3, s17)] ∧ FrS [] H H13 ∧ Ow (encI .i64) 1 H13 s17 o10 f18 ∧ Inn [] H f18) (fun _ k20 => ?_) (fun α H13 hM => ?_)
 ·refine w_block ?_
  obtain ⟨n22, hn23⟩ := loopO_iff.1 hx11
  refine w_loopn (fun n α H24 => ∃ (m0 : List (Int)), ∃ (i1 : Int), ∃ (s28 : Value), ∃ (f29 : Fp), iterO (fun zz_ => z_viaductref02_TwinInts_l0 l zz_.1 zz_.2) n (m0, i1) = some o10 ∧ Has α [(3, s28), (6, hd_l), (7, i_ (l.length : Int)), (8, i_ i1)] ∧ FrS [] H H24 ∧ Ow (encI .i64) 1 H24 s28 m0 f29 ∧ Inn [] H f29) n22 ⟨[], 0, (.slice none 0 0), [], hn23, ha_, (FrS.refl (W := []) wf), (Ow.nil (by decide)), Inn.nil⟩ ?_
  rintro n22 α H24 ⟨m0, i1, s28, f29, hi32, hh31, e25, m27, i30⟩ K37 k37
  obtain ⟨n33, z34, rfl, hz35, hn36⟩ := iter_succ hi32
  obtain ⟨β, rfl⟩ := has_ex hh31
  clear hh31
  replace hz35 : z_viaductref02_TwinInts_l0 l m0 i1 = some z34 := hz35
  unfold z_viaductref02_TwinInts_l0 at hz35
  obtain ⟨a38, n39, c40, rfl⟩ := m27.form
  refine w_seqk fun _ k41 => g_' (q_ (.bool (decide (i1 < (l.length : Int)))) (s_nil (k41 _ _ (w_seqk fun _ k42 => ?_))))
  refine w_condp (i1 < (l.length : Int)) (by kernel_rfl) rfl (fun h43 => ?_) (fun h43 => ?_)
  ·have r44 := ite_t h43 hz35
   refine w_skip (k42 _ _ (w_seqk fun _ k45 => w_block (w_seqk fun _ k46 => g_' ?_)))
   obtain ⟨g47, r48⟩ := G_some r44
   have u49 := (h_l.fr e25 Dj.nil_l)
   refine l_' (elp hd_l 1 i1.toNat 0) (aIndexAddr Try.prog 22 hd_l (i_ i1)) (u49.idxb (by kernel_rfl) g47 h43) ?_
   refine l_' (i_ (gt l i1)) (aLoad Try.prog 3 (elp hd_l 1 i1.toNat 0) H24) (u49.ld g47 h43 (by kernel_rfl)) ?_
   refine q_ (i_ (gt l i1)) (s_nil (k46 _ _ (g_' (q_ (.slice a38 n39 c40) (q_ (i_ (gt l i1)) ?_)))))
   refine s_owk (enc := (encI .i64)) (sz := 1) e25.wf [(gt l i1)] 1 (by decide) (fun _ _ => rfl) (fun _ _ => rfl) rfl (by kernel_rfl) fun s50 f51 H52 e53 hf54 hm55 => ?_
   obtain ⟨a56, n57, c58, rfl⟩ := hm55.form
   have u60 := (m27.ext e53)
   obtain ⟨g61, r62⟩ := G_some r48
   obtain ⟨s63, H64, f65, q69, e66, hm67, hf68⟩ := Ow.append (P := Try.prog) 8 e53.wf u60 hm55.sq (fun _ _ => rfl) (at_ := #[22, 22]) rfl rfl (by kernel_rfl) (by kernel_rfl) (by decide) (by have := g61; first | omega | (simp only [List.length_cons, List.length_nil] at this ⊢; omega) | (simp at this ⊢; omega))
   obtain ⟨a70, n71, c72, rfl⟩ := hm67.form
   refine s_ek (.slice a70 n71 c72) (by kernel_rfl) (q69) ?_
   refine q_ (.slice a70 n71 c72) (s_nil (k45 _ _ (g_' ?_)))
   obtain ⟨g74, r75⟩ := G_some r62
   refine w_' (i1 + 1) (wrap64 (by have := g74; omega)) ?_
   refine q_ (i_ (i1 + 1)) (s_nil ?_)
   obtain rfl := Option.some.inj r75
   exact k37 n33 _ _ (Nat.lt_succ_self _) ⟨(m0 ++ [(gt l i1)]), (i1 + 1), (.slice a70 n71 c72), f65, hn36, ha_, (FrS.step wf ((FrS.step wf (FrS.refl (W := []) wf) e25 Inn.nil).extR e53) e66 (i30.fresh (Nat.le_refl _))), hm67, (Inn.trans (i30.fresh (Nat.le_refl _)) (ntr e25.next e53.next) hf68)⟩
  have r76 := ite_f h43 hz35
  refine w_exit (th_exit (th_exit (bl_eq ?_)))
  obtain rfl := Option.some.inj r76
  obtain rfl := it_inr hn36
  exact k20 _ _ ⟨(.slice a38 n39 c40), f29, ha_, (FrS.step wf (FrS.refl (W := []) wf) e25 Inn.nil), m27, (i30.fresh (Nat.le_refl _))⟩
 obtain ⟨s17, f18, hh21, e14, m16, i19⟩ := hM
 obtain ⟨β, rfl⟩ := has_ex hh21
 clear hh21
 obtain ⟨a77, n78, c79, rfl⟩ := m16.form
 refine k8 _ _ (w_seqk fun _ k80 => g_' (q_ (.slice a77 n78 c79) (q_ (.slice a77 n78 c79) (s_nil (k80 _ _ ?_)))))
 refine w_ret ?_
 refine b_ret (fn := Try.f112) (vs := [.slice a77 n78 c79]) (aRes_tmp (by kernel_rfl) (rfl)) ?_
 obtain rfl := Option.some.inj r12
 exact ⟨(.slice a77 n78 c79), f18, rfl, (FrS.step wf (FrS.refl (W := []) wf) e14 Inn.nil), m16, (i19.fresh (Nat.le_refl _))⟩
theorem c_viaductref05_Twin {H : AH} {hd_First : Value} {fp_First : Fp} {hd_To : Value} {fp_To : Fp} {hd_Weight : Value} {fp_Weight : Fp} {First : List (Int)} {To : List (Int)} {Weight : List (Int)} {r : List (Int) × List (Int) × List (Int)}
    (wf : WF H) (h_First : Sq (encI .i64) 1 H hd_First First fp_First) (h_To : Sq (encI .i64) 1 H hd_To To fp_To) (h_Weight : Sq (encI .i64) 1 H hd_Weight Weight fp_Weight) (hr : z_viaductref05_Twin First To Weight = some r) :
    ACalls Try.prog 57 #[.agg #[hd_First, hd_To, hd_Weight]] H fun v H' => ∃ (s3 : Value) (f4 : Fp) (s7 : Value) (f8 : Fp) (s11 : Value) (f12 : Fp), v = .agg #[s3, s7, s11] ∧ FrS [] H H' ∧ Ow (encI .i64) 1 H' s3 r.1 f4 ∧ Ow (encI .i64) 1 H' s7 r.2.1 f8 ∧ Ow (encI .i64) 1 H' s11 r.2.2 f12 ∧ Inn [] H f4 ∧ Inn [] H f8 ∧ Inn [] H f12 ∧ Dj f4 f8 ∧ Dj f4 f12 ∧ Dj f8 f12 := by
 refine acalls_of_body mixed Try.func57 rfl (Nat.le_of_ble_eq_true rfl) ?_
 unfold z_viaductref05_Twin at hr
 refine w_seqk fun _ k19 => g_' ?_
 refine s_rwl wf [hd_First, hd_To, hd_Weight] (one_cons (h_First.one1) (one_cons (h_To.one1) (one_cons (h_Weight.one1) (one_nil)))) (by kernel_rfl) fun b20 H21 e22 hb23 r24 => ?_
 refine s_rwk e22.wf [.slice none 0 0, .slice none 0 0, .slice none 0 0] (by kernel_rfl) fun b26 H27 e28 hb29 r30 => ?_
 refine s_nil (k19 _ _ (w_seqk fun _ k32 => ?_))
 refine w_draw [0, 1, 3, 4, 6, 7, 2, 5, 8, 9, 10] (by kernel_rfl) ?_
 refine e_' (pt_ b20 0) ?_
 have u33 := (r24.ext e28)
 refine m_' (hd_First) (aLoad Try.prog 22 (pt_ b20 0) H27) (u33.ld (by kernel_rfl)) ?_
 refine e_' (pt_ b20 1) ?_
 refine d_fl (hd_To) (x := aLoad Try.prog 22 (pt_ b20 1) H27) (by kernel_rfl) (u33.ld (by kernel_rfl)) ?_
 refine e_' (pt_ b20 2) ?_
 refine d_fl (hd_Weight) (x := aLoad Try.prog 22 (pt_ b20 2) H27) (by kernel_rfl) (u33.ld (by kernel_rfl)) ?_
 have u34 := ((h_First.ext e22).ext e28)
 obtain ⟨y35, hy36, r37⟩ := bind_some hr
 refine d_ck 112 #[hd_First] (by kernel_rfl) (c_viaductref02_TwinInts e28.wf u34 hy36) ?_
 rintro s38 H40 ⟨_, f39, rfl, e41, m42, i43⟩
 obtain ⟨a45, n46, c47, rfl⟩ := m42.form
 have u48 := (u33.frS e41 Dj.nil_l)
 refine ⟨st_ql (y := aLoad Try.prog 22 (pt_ b20 2) H40) (by kernel_rfl) (u48.ld (by kernel_rfl)) (st_ql (y := aLoad Try.prog 22 (pt_ b20 1) H40) (by kernel_rfl) (u48.ld (by kernel_rfl)) (st_nil)), ?_⟩
 have u49 := (((h_To.ext e22).ext e28).fr e41 Dj.nil_l)
 obtain ⟨y50, hy51, r52⟩ := bind_some r37
 refine d_ck 112 #[hd_To] (by kernel_rfl) (c_viaductref02_TwinInts e41.wf u49 hy51) ?_
 rintro s53 H55 ⟨_, f54, rfl, e56, m57, i58⟩
 obtain ⟨a60, n61, c62, rfl⟩ := m57.form
 have u63 := (u48.frS e56 Dj.nil_l)
 refine ⟨st_ql (y := aLoad Try.prog 22 (pt_ b20 2) H55) (by kernel_rfl) (u63.ld (by kernel_rfl)) (st_anc (by kernel_rfl) (st_nil)), ?_⟩
 have u64 := ((((h_Weight.ext e22).ext e28).fr e41 Dj.nil_l).fr e56 Dj.nil_l)
 obtain ⟨y65, hy66, r67⟩ := bind_some r52
 refine d_ck 112 #[hd_Weight] (by kernel_rfl) (c_viaductref02_TwinInts e56.wf u64 hy66) ?_
 rintro s68 H70 ⟨_, f69, rfl, e71, m72, i73⟩
 obtain ⟨a75, n76, c77, rfl⟩ := m72.form
 refine ⟨st_anc (by kernel_rfl) (st_anc (by kernel_rfl) (st_nil)), ?_⟩
 refine e_' (.agg #[.slice a45 n46 c47, .slice a60 n61 c62, .slice a75 n76 c77]) ?_
 have u82 := (((r30.frS e41 Dj.nil_l).frS e56 Dj.nil_l).frS e71 Dj.nil_l)
 have u83 := (m57.fr e71 Dj.nil_l)
 have u84 := ((m42.fr e56 Dj.nil_l).fr e71 Dj.nil_l)
 obtain ⟨H78, q79, e80, r81⟩ := Row.store (P := Try.prog) (t := 24) (p := 0) e71.wf u82 (.agg #[.slice a45 n46 c47, .slice a60 n61 c62, .slice a75 n76 c77]) [.slice a45 n46 c47, .slice a60 n61 c62, .slice a75 n76 c77] (by kernel_rfl) (by kernel_rfl) (one_cons (u84.one1) (one_cons (u83.one1) (one_cons (m72.one1) (one_nil)))) (Nat.le_of_ble_eq_true (by kernel_rfl)) [.slice a45 n46 c47, .slice a60 n61 c62, .slice a75 n76 c77] (by kernel_rfl)
 refine d_ek (undef) (by kernel_rfl) (map_ok q79) (st_anc (by kernel_rfl) (st_anc (by kernel_rfl) (st_nil))) ?_
 refine d_nil ?_
 refine k32 _ _ ?_
 refine w_ret ?_
 refine b_ret (fn := Try.f57) (vs := [.agg #[.slice a45 n46 c47, .slice a60 n61 c62, .slice a75 n76 c77]]) (aRes_cell (Eq.trans (b := aLoad Try.prog 24 (pt_ b26 0) H78) (by kernel_rfl) (r81.ld (by kernel_rfl))) (rfl)) ?_
 have u85 := (u84.fr e80 (Dj.symm (i43.djn r30.ltF)))
 have u86 := (u83.fr e80 (Dj.symm (i58.djn (r30.ltF.le e41.next))))
 have u87 := (m72.fr e80 (Dj.symm (i73.djn (r30.ltF.le (ntr e41.next e56.next)))))
 obtain rfl := Option.some.inj r67
 exact ⟨(.slice a45 n46 c47), f39, (.slice a60 n61 c62), f54, (.slice a75 n76 c77), f69, rfl, (FrS.step wf (FrS.step wf (FrS.step wf (FrS.step wf (((FrS.refl (W := []) wf).extR e22).extR e28) e41 Inn.nil) e56 Inn.nil) e71 Inn.nil) e80 (hb29.fresh e22.next)), u85, u86, u87, (i43.fresh (ntr e22.next e28.next)), (i58.fresh (ntr (ntr e22.next e28.next) e41.next)), (i73.fresh (ntr (ntr (ntr e22.next e28.next) e41.next) e56.next)), (Dj.symm (i58.djn m42.lt)), (Dj.symm (i73.djn (m42.lt.le e56.next))), (Dj.symm (i73.djn m57.lt))⟩
theorem c_viaductlaw08_of {H : AH} {hd_First : Value} {fp_First : Fp} {hd_To : Value} {fp_To : Fp} {hd_Weight : Value} {fp_Weight : Fp} {First : List (Int)} {To : List (Int)} {Weight : List (Int)} {r : List (Int) × List (Int) × List (Int)}
    (wf : WF H) (h_First : Sq (encI .i64) 1 H hd_First First fp_First) (h_To : Sq (encI .i64) 1 H hd_To To fp_To) (h_Weight : Sq (encI .i64) 1 H hd_Weight Weight fp_Weight) (hr : z_viaductlaw08_of First To Weight = some r) :
    ACalls Try.prog 9 #[.agg #[hd_First, hd_To, hd_Weight]] H fun v H' => ∃ (s3 : Value) (f4 : Fp) (s7 : Value) (f8 : Fp) (s11 : Value) (f12 : Fp), v = .agg #[s3, s7, s11] ∧ FrS [] H H' ∧ Ow (encI .i64) 1 H' s3 r.1 f4 ∧ Ow (encI .i64) 1 H' s7 r.2.1 f8 ∧ Ow (encI .i64) 1 H' s11 r.2.2 f12 ∧ Inn [] H f4 ∧ Inn [] H f8 ∧ Inn [] H f12 ∧ Dj f4 f8 ∧ Dj f4 f12 ∧ Dj f8 f12 := by
 refine acalls_of_body mixed Try.func9 rfl (Nat.le_of_ble_eq_true rfl) ?_
 unfold z_viaductlaw08_of at hr
 refine w_seqk fun _ k19 => g_' ?_
 refine s_rwl wf [hd_First, hd_To, hd_Weight] (one_cons (h_First.one1) (one_cons (h_To.one1) (one_cons (h_Weight.one1) (one_nil)))) (by kernel_rfl) fun b20 H21 e22 hb23 r24 => ?_
 refine s_rwk e22.wf [.slice none 0 0, .slice none 0 0, .slice none 0 0] (by kernel_rfl) fun b26 H27 e28 hb29 r30 => ?_
 refine s_nil (k19 _ _ (w_seqk fun _ k32 => g_' ?_))
 have u33 := (r24.ext e28)
 refine l_' (.agg #[hd_First, hd_To, hd_Weight]) (aLoad Try.prog 24 (pt_ b20 0) H27) (u33.ld (by kernel_rfl)) ?_
 have u34 := ((h_First.ext e22).ext e28)
 have u35 := ((h_To.ext e22).ext e28)
 have u36 := ((h_Weight.ext e22).ext e28)
 obtain ⟨y37, hy38, r39⟩ := bind_some hr
 refine s_ck 57 #[.agg #[hd_First, hd_To, hd_Weight]] (by kernel_rfl) (c_viaductref05_Twin e28.wf u34 u35 u36 hy38) ?_
 rintro _ H46 ⟨s40, f41, s42, f43, s44, f45, rfl, e47, m48, m49, m50, i51, i52, i53, d54, d55, d56⟩
 obtain ⟨a60, n61, c62, rfl⟩ := m48.form
 obtain ⟨a63, n64, c65, rfl⟩ := m49.form
 obtain ⟨a66, n67, c68, rfl⟩ := m50.form
 refine s_rwk e47.wf [.slice none 0 0, .slice none 0 0, .slice none 0 0] (by kernel_rfl) fun b69 H70 e71 hb72 r73 => ?_
 have u79 := (m50.ext e71)
 have u80 := (m49.ext e71)
 have u81 := (m48.ext e71)
 obtain ⟨H75, q76, e77, r78⟩ := Row.store (P := Try.prog) (t := 24) (p := 0) e71.wf r73 (.agg #[.slice a60 n61 c62, .slice a63 n64 c65, .slice a66 n67 c68]) [.slice a60 n61 c62, .slice a63 n64 c65, .slice a66 n67 c68] (by kernel_rfl) (by kernel_rfl) (one_cons (u81.one1) (one_cons (u80.one1) (one_cons (u79.one1) (one_nil)))) (Nat.le_of_ble_eq_true (by kernel_rfl)) [.slice a60 n61 c62, .slice a63 n64 c65, .slice a66 n67 c68] (by kernel_rfl)
 refine s_ek (undef) (by kernel_rfl) (map_ok q76) ?_
 refine s_nil (k32 _ _ (w_seqk fun _ k82 => g_' (q_ (pt_ b69 0) ?_)))
 refine l_' (.slice a60 n61 c62) (aLoad Try.prog 22 (pt_ b69 0) H75) (r78.ld (by kernel_rfl)) ?_
 refine q_ (pt_ b69 1) ?_
 refine l_' (.slice a63 n64 c65) (aLoad Try.prog 22 (pt_ b69 1) H75) (r78.ld (by kernel_rfl)) ?_
 refine q_ (pt_ b69 2) ?_
 refine l_' (.slice a66 n67 c68) (aLoad Try.prog 22 (pt_ b69 2) H75) (r78.ld (by kernel_rfl)) ?_
 refine q_ (.agg #[.slice a60 n61 c62, .slice a63 n64 c65, .slice a66 n67 c68]) ?_
 have u87 := (((r30.frS e47 Dj.nil_l).ext e71).frS e77 (hb72.djn (r30.ltF.le e47.next)))
 have u88 := (u79.fr e77 (hb72.djn m50.lt))
 have u89 := (u80.fr e77 (hb72.djn m49.lt))
 have u90 := (u81.fr e77 (hb72.djn m48.lt))
 obtain ⟨H83, q84, e85, r86⟩ := Row.store (P := Try.prog) (t := 27) (p := 0) e77.wf u87 (.agg #[.slice a60 n61 c62, .slice a63 n64 c65, .slice a66 n67 c68]) [.slice a60 n61 c62, .slice a63 n64 c65, .slice a66 n67 c68] (by kernel_rfl) (by kernel_rfl) (one_cons (u90.one1) (one_cons (u89.one1) (one_cons (u88.one1) (one_nil)))) (Nat.le_of_ble_eq_true (by kernel_rfl)) [.slice a60 n61 c62, .slice a63 n64 c65, .slice a66 n67 c68] (by kernel_rfl)
 refine s_ek (undef) (by kernel_rfl) (map_ok q84) ?_
 refine s_nil (k82 _ _ ?_)
 refine w_ret ?_
 refine b_ret (fn := Try.f9) (vs := [.agg #[.slice a60 n61 c62, .slice a63 n64 c65, .slice a66 n67 c68]]) (aRes_cell (Eq.trans (b := aLoad Try.prog 27 (pt_ b26 0) H83) (by kernel_rfl) (r86.ld (by kernel_rfl))) (rfl)) ?_
 have u91 := (u90.fr e85 (Dj.symm (i51.djn r30.ltF)))
 have u92 := (u89.fr e85 (Dj.symm (i52.djn r30.ltF)))
 have u93 := (u88.fr e85 (Dj.symm (i53.djn r30.ltF)))
 obtain rfl := Option.some.inj r39
 exact ⟨(.slice a60 n61 c62), f41, (.slice a63 n64 c65), f43, (.slice a66 n67 c68), f45, rfl, (FrS.step wf (FrS.step wf ((FrS.step wf (((FrS.refl (W := []) wf).extR e22).extR e28) e47 Inn.nil).extR e71) e77 (hb72.fresh (ntr (ntr e22.next e28.next) e47.next))) e85 (hb29.fresh e22.next)), u91, u92, u93, (i51.fresh (ntr e22.next e28.next)), (i52.fresh (ntr e22.next e28.next)), (i53.fresh (ntr e22.next e28.next)), d54, d55, d56⟩
theorem c_csr_Csr_nodes {H : AH} {hd_First : Value} {fp_First : Fp} {hd_To : Value} {fp_To : Fp} {hd_Weight : Value} {fp_Weight : Fp} {First : List (Int)} {To : List (Int)} {Weight : List (Int)} {r : Int}
    (wf : WF H) (h_First : Sq (encI .i64) 1 H hd_First First fp_First) (h_To : Sq (encI .i64) 1 H hd_To To fp_To) (h_Weight : Sq (encI .i64) 1 H hd_Weight Weight fp_Weight) (hr : z_csr_Csr_nodes First To Weight = some r) :
    ACalls Try.prog 107 #[.agg #[hd_First, hd_To, hd_Weight]] H fun v H' => v = i_ r ∧ FrS [] H H' := by
 refine acalls_of_body mixed Try.func107 rfl (Nat.le_of_ble_eq_true rfl) ?_
 unfold z_csr_Csr_nodes at hr
 refine w_seqk fun _ k1 => g_' ?_
 refine s_rwl wf [hd_First, hd_To, hd_Weight] (one_cons (h_First.one1) (one_cons (h_To.one1) (one_cons (h_Weight.one1) (one_nil)))) (by kernel_rfl) fun b2 H3 e4 hb5 r6 => ?_
 refine q_ (i_ 0) (s_nil (k1 _ _ (w_seqk fun _ k8 => g_' (q_ (pt_ b2 0) ?_))))
 refine l_' (hd_First) (aLoad Try.prog 22 (pt_ b2 0) H3) (r6.ld (by kernel_rfl)) ?_
 have u9 := (h_First.ext e4)
 refine l_' (i_ (First.length : Int)) (aLen Try.prog 22 hd_First H3) (u9.lenb (by kernel_rfl)) ?_
 obtain ⟨g10, r11⟩ := G_some hr
 refine w_' ((First.length : Int) - 1) (wrap64 g10) ?_
 refine q_ (i_ ((First.length : Int) - 1)) (s_nil (k8 _ _ ?_))
 refine w_ret ?_
 refine b_ret (fn := Try.f107) (vs := [i_ ((First.length : Int) - 1)]) (aRes_tmp (by kernel_rfl) (rfl)) ?_
 obtain rfl := Option.some.inj r11
 exact ⟨rfl, ((FrS.refl (W := []) wf).extR e4)⟩
theorem c_fault_At {H : AH} {ev_err : Value} {fp_err : Fp} {kind : Int} {at_ : Int} {err : Er} {r : Er}
    (wf : WF H) (h_err : Ev 122 235 H ev_err err fp_err) (hr : z_fault_At kind at_ err = some r) :
    ACalls Try.prog 119 #[i_ kind, i_ at_, ev_err] H fun v H' => ∃ (v3 : Value) (f4 : Fp), v = v3 ∧ FrS [] H H' ∧ Ev 122 235 H' v3 r f4 ∧ Inn fp_err H f4 := by
 refine acalls_of_body mixed Try.func119 rfl (Nat.le_of_ble_eq_true rfl) ?_
 unfold z_fault_At at hr
 refine w_seqk fun _ k6 => g_' (q_ (.nilIface) (s_nil (k6 _ _ (w_seqk fun _ k7 => w_seqk fun _ k8 => g_' (q_ (ev_err) ?_)))))
 rcases (h_err).cases with ⟨h9, rfl⟩ | ⟨h9, t10, x11, rfl⟩
 ·have r12 := ite_t h9 hr
  refine q_ (.bool true) (s_nil (k8 _ _ ?_))
  refine w_cond true (by kernel_rfl) rfl (fun _ => ?_) (fun h => by cases h)
  refine w_seqk fun _ k13 => g_' (q_ (.nilIface) (s_nil (k13 _ _ ?_)))
  refine w_ret (th_ret ?_)
  refine b_ret (fn := Try.f119) (vs := [.nilIface]) (aRes_tmp (by kernel_rfl) (rfl)) ?_
  obtain rfl := Option.some.inj r12
  exact ⟨(.nilIface), [], rfl, (FrS.refl (W := []) wf), Ev.nil, Inn.nil⟩
 have r14 := ite_f h9 hr
 refine l_' (.bool false) (aBin Try.prog .eql 31 (.tmp 7) (.const .nilIface) (.iface t10 x11) .nilIface) (aBin_nil (by kernel_rfl)) ?_
 refine s_nil (k8 _ _ ?_)
 refine w_cond false (by kernel_rfl) rfl (fun h => by cases h) (fun _ => ?_)
 refine w_skip (k7 _ _ (w_seqk fun _ k15 => g_' (q_ (i_ kind) (q_ (i_ at_) (q_ (.agg #[i_ kind, i_ at_]) (q_ (.iface t10 x11) (q_ (.agg #[i_ kind, i_ at_, .iface t10 x11]) ?_)))))))
 refine s_rwl wf [i_ kind, i_ at_, .iface t10 x11] (one_cons (rfl) (one_cons (rfl) (one_cons (h_err.one1) (one_nil)))) (by kernel_rfl) fun b16 H17 e18 hb19 r20 => ?_
 have u22 := (h_err.ext e18)
 obtain ⟨fq23, he24, hi25⟩ := Ev.at r20 u22 hb19
 refine q_ (.iface 235 (pt_ b16 0)) (q_ (.iface 235 (pt_ b16 0)) (s_nil (k15 _ _ ?_)))
 refine w_ret ?_
 refine b_ret (fn := Try.f119) (vs := [.iface 235 (pt_ b16 0)]) (aRes_tmp (by kernel_rfl) (rfl)) ?_
 obtain rfl := Option.some.inj r14
 exact ⟨(.iface 235 (pt_ b16 0)), fq23, rfl, ((FrS.refl (W := []) wf).extR e18), he24, (Inn.trans Inn.refl' (Nat.le_refl _) hi25)⟩
end Go.Vd

/-! (KSy1) -/

set_option maxRecDepth 100000
set_option maxHeartbeats 4000000
set_option linter.unusedVariables false
namespace Go.Vd
open Go.Proofs
attribute [local irreducible] wpSeq wpOrd aWp
theorem c_csr_Csr_arc {H : AH} {hd_First : Value} {fp_First : Fp} {hd_To : Value} {fp_To : Fp} {hd_Weight : Value} {fp_Weight : Fp} {First : List (Int)} {To : List (Int)} {Weight : List (Int)} {v_ : Int} {i : Int} {r : Er}
    (wf : WF H) (h_First : Sq (encI .i64) 1 H hd_First First fp_First) (h_To : Sq (encI .i64) 1 H hd_To To fp_To) (h_Weight : Sq (encI .i64) 1 H hd_Weight Weight fp_Weight) (hr : z_csr_Csr_arc First To Weight v_ i = some r) :
    ACalls Try.prog 120 #[.agg #[hd_First, hd_To, hd_Weight], i_ v_, i_ i] H fun v H' => ∃ (v3 : Value) (f4 : Fp), v = v3 ∧ FrS [] H H' ∧ Ev 122 235 H' v3 r f4 ∧ Inn [] H f4 := by
 refine acalls_of_body mixed Try.func120 rfl (Nat.le_of_ble_eq_true rfl) ?_
 unfold z_csr_Csr_arc at hr
 refine w_seqk fun _ k6 => g_' ?_
 refine s_rwl wf [hd_First, hd_To, hd_Weight] (one_cons (h_First.one1) (one_cons (h_To.one1) (one_cons (h_Weight.one1) (one_nil)))) (by kernel_rfl) fun b7 H8 e9 hb10 r11 => ?_
 refine q_ (.nilIface) (s_nil (k6 _ _ (w_seqk fun _ k13 => g_' (q_ (pt_ b7 1) ?_))))
 refine l_' (hd_To) (aLoad Try.prog 22 (pt_ b7 1) H8) (r11.ld (by kernel_rfl)) ?_
 refine q_ (i_ i) ?_
 obtain ⟨g14, r15⟩ := G_some hr
 have u16 := (h_To.ext e9)
 refine l_' (elp hd_To 1 i.toNat 0) (aIndexAddr Try.prog 22 hd_To (i_ i)) (u16.idxb (by kernel_rfl) g14.1 g14.2) ?_
 refine l_' (i_ (gt To i)) (aLoad Try.prog 3 (elp hd_To 1 i.toNat 0) H8) (u16.ld g14.1 g14.2 (by kernel_rfl)) ?_
 refine q_ (i_ (gt To i)) (s_nil (k13 _ _ (w_seqk fun _ k17 => w_block (w_seqk fun _ k18 => ?_))))
 obtain ⟨o19, hx20, r21⟩ := bind_some r15
 refine w_mid (fun α H22 => Has α [(1, i_ v_), (2, i_ i), (3, pt_ b7 0), (7, i_ (gt To i)), (13, .bool o19)] ∧ FrS [] H8 H22) (fun _ k24 => ?_) (fun α H22 hM => ?_)
 ·refine g_' (q_ (i_ (gt To i)) ?_)
  refine s_b ((gt To i) < 0) (by kernel_rfl) (fun h26 => ?_) (fun h26 => ?_)
  ·have r27 := ite_t h26 hx20
   refine q_ (.bool true) (n_' (n_' (n_' (n_' (q_ (.bool true) (q_ (.bool true) (s_nil ?_)))))))
   obtain rfl := Option.some.inj r27
   exact k24 _ _ ⟨ha_, (FrS.refl (W := []) e9.wf)⟩
  have r28 := ite_f h26 hx20
  refine q_ (.bool false) (q_ (i_ (gt To i)) ?_)
  refine l_' (.agg #[hd_First, hd_To, hd_Weight]) (aLoad Try.prog 27 (pt_ b7 0) H8) (r11.ld (by kernel_rfl)) ?_
  have u29 := (h_First.ext e9)
  have u30 := (h_Weight.ext e9)
  obtain ⟨y31, hy32, r33⟩ := bind_some r28
  refine s_ck 107 #[.agg #[hd_First, hd_To, hd_Weight]] (by kernel_rfl) (c_csr_Csr_nodes e9.wf u29 u16 u30 hy32) ?_
  rintro _ H34 ⟨rfl, e35⟩
  refine q_ (.bool (decide ((gt To i) ≥ y31))) (q_ (.bool (decide ((gt To i) ≥ y31))) (q_ (.bool (decide ((gt To i) ≥ y31))) (s_nil ?_)))
  obtain rfl := Option.some.inj r33
  exact k24 _ _ ⟨ha_, (FrS.step e9.wf (FrS.refl (W := []) e9.wf) e35 Inn.nil)⟩
 obtain ⟨hh25, e23⟩ := hM
 obtain ⟨β, rfl⟩ := has_ex hh25
 clear hh25
 refine k18 _ _ ?_
 refine w_cond (o19) (by kernel_rfl) rfl (fun h36 => ?_) (fun h36 => ?_)
 ·have r37 := ite_t h36 r21
  refine w_seqk fun _ k38 => g_' (q_ (.iface 122 (i_ 7)) (q_ (.iface 122 (i_ 7)) (s_nil (k38 _ _ ?_))))
  refine w_ret (bl_ret (th_ret ?_))
  refine b_ret (fn := Try.f120) (vs := [.iface 122 (i_ 7)]) (aRes_tmp (by kernel_rfl) (rfl)) ?_
  obtain rfl := Option.some.inj r37
  exact ⟨(.iface 122 (i_ 7)), [], rfl, (FrS.step wf ((FrS.refl (W := []) wf).extR e9) e23 Inn.nil), Ev.no, Inn.nil⟩
 have r39 := ite_bf h36 r21
 refine w_seqk fun _ k40 => ?_
 obtain ⟨o41, hx42, r43⟩ := bind_some r39
 refine w_mid (fun α H44 => Has α [(2, i_ i), (3, pt_ b7 0), (23, .bool o41)] ∧ H22 = H44) (fun _ k46 => ?_) (fun α H44 hM => ?_)
 ·refine g_' (q_ (i_ (gt To i)) (q_ (i_ v_) ?_))
  refine s_b ((gt To i) = v_) (by kernel_rfl) (fun h48 => ?_) (fun h48 => ?_)
  ·have r49 := ite_t h48 hx42
   refine q_ (.bool true) (n_' (n_' (n_' (n_' (n_' (n_' (n_' (n_' (n_' (n_' (n_' (n_' (n_' (n_' (n_' (n_' (n_' (q_ (.bool true) (q_ (.bool true) (s_nil ?_))))))))))))))))))))
   obtain rfl := Option.some.inj r49
   exact k46 _ _ ⟨ha_, rfl⟩
  have r50 := ite_f h48 hx42
  refine q_ (.bool false) (q_ (i_ i) (q_ (pt_ b7 0) ?_))
  have u51 := (r11.frS e23 Dj.nil_l)
  refine l_' (hd_First) (aLoad Try.prog 22 (pt_ b7 0) H22) (u51.ld (by kernel_rfl)) ?_
  refine q_ (i_ v_) ?_
  obtain ⟨g52, r53⟩ := G_some r50
  have u54 := ((h_First.ext e9).fr e23 Dj.nil_l)
  refine l_' (elp hd_First 1 v_.toNat 0) (aIndexAddr Try.prog 22 hd_First (i_ v_)) (u54.idxb (by kernel_rfl) g52.1 g52.2) ?_
  refine l_' (i_ (gt First v_)) (aLoad Try.prog 3 (elp hd_First 1 v_.toNat 0) H22) (u54.ld g52.1 g52.2 (by kernel_rfl)) ?_
  refine s_b (i > (gt First v_)) (by kernel_rfl) (fun h55 => ?_) (fun h55 => ?_)
  ·have r56 := ite_t h55 r53
   refine q_ (.bool true) (q_ (i_ (gt To i)) (q_ (pt_ b7 1) ?_))
   refine l_' (hd_To) (aLoad Try.prog 22 (pt_ b7 1) H22) (u51.ld (by kernel_rfl)) ?_
   refine q_ (i_ i) ?_
   obtain ⟨g57, r58⟩ := G_some r56
   refine w_' (i - 1) (wrap64 g57) ?_
   obtain ⟨g59, r60⟩ := G_some r58
   have u61 := (u16.fr e23 Dj.nil_l)
   refine l_' (elp hd_To 1 (i - 1).toNat 0) (aIndexAddr Try.prog 22 hd_To (i_ (i - 1))) (u61.idxb (by kernel_rfl) g59.1 g59.2) ?_
   refine l_' (i_ (gt To (i - 1))) (aLoad Try.prog 3 (elp hd_To 1 (i - 1).toNat 0) H22) (u61.ld g59.1 g59.2 (by kernel_rfl)) ?_
   refine q_ (.bool (decide ((gt To i) ≤ (gt To (i - 1))))) (q_ (.bool (decide ((gt To i) ≤ (gt To (i - 1))))) (q_ (.bool (decide ((gt To i) ≤ (gt To (i - 1))))) (q_ (.bool (decide ((gt To i) ≤ (gt To (i - 1))))) (s_nil ?_))))
   obtain rfl := Option.some.inj r60
   exact k46 _ _ ⟨ha_, rfl⟩
  have r62 := ite_f h55 r53
  refine q_ (.bool false) (n_' (n_' (n_' (n_' (n_' (n_' (n_' (n_' (q_ (.bool false) (q_ (.bool false) (q_ (.bool false) (s_nil ?_))))))))))))
  obtain rfl := Option.some.inj r62
  exact k46 _ _ ⟨ha_, rfl⟩
 obtain ⟨hh47, rfl⟩ := hM
 obtain ⟨β, rfl⟩ := has_ex hh47
 clear hh47
 refine k40 _ _ ?_
 refine w_cond (o41) (by kernel_rfl) rfl (fun h63 => ?_) (fun h63 => ?_)
 ·have r64 := ite_t h63 r43
  refine w_seqk fun _ k65 => g_' (q_ (.iface 122 (i_ 14)) (q_ (.iface 122 (i_ 14)) (s_nil (k65 _ _ ?_))))
  refine w_ret (bl_ret (th_ret ?_))
  refine b_ret (fn := Try.f120) (vs := [.iface 122 (i_ 14)]) (aRes_tmp (by kernel_rfl) (rfl)) ?_
  obtain rfl := Option.some.inj r64
  exact ⟨(.iface 122 (i_ 14)), [], rfl, (FrS.step wf ((FrS.refl (W := []) wf).extR e9) e23 Inn.nil), Ev.no, Inn.nil⟩
 have r66 := ite_bf h63 r43
 refine w_seqk fun _ k67 => g_' (q_ (pt_ b7 2) ?_)
 have u68 := (r11.frS e23 Dj.nil_l)
 refine l_' (hd_Weight) (aLoad Try.prog 22 (pt_ b7 2) H22) (u68.ld (by kernel_rfl)) ?_
 refine q_ (i_ i) ?_
 obtain ⟨g69, r70⟩ := G_some r66
 have u71 := ((h_Weight.ext e9).fr e23 Dj.nil_l)
 refine l_' (elp hd_Weight 1 i.toNat 0) (aIndexAddr Try.prog 22 hd_Weight (i_ i)) (u71.idxb (by kernel_rfl) g14.1 g69) ?_
 refine l_' (i_ (gt Weight i)) (aLoad Try.prog 3 (elp hd_Weight 1 i.toNat 0) H22) (u71.ld g14.1 g69 (by kernel_rfl)) ?_
 refine s_b ((gt Weight i) < 0) (by kernel_rfl) (fun h72 => ?_) (fun h72 => ?_)
 ·have r73 := ite_t h72 r70
  refine q_ (.bool true) (n_' (n_' (n_' (n_' (n_' (n_' (q_ (.bool true) (q_ (.bool true) (s_nil (k67 _ _ ?_))))))))))
  refine w_cond true (by kernel_rfl) rfl (fun _ => ?_) (fun h => by cases h)
  refine w_seqk fun _ k74 => g_' (q_ (.iface 122 (i_ 8)) (q_ (.iface 122 (i_ 8)) (s_nil (k74 _ _ ?_))))
  refine w_ret (bl_ret (th_ret ?_))
  refine b_ret (fn := Try.f120) (vs := [.iface 122 (i_ 8)]) (aRes_tmp (by kernel_rfl) (rfl)) ?_
  obtain rfl := Option.some.inj r73
  exact ⟨(.iface 122 (i_ 8)), [], rfl, (FrS.step wf ((FrS.refl (W := []) wf).extR e9) e23 Inn.nil), Ev.no, Inn.nil⟩
 have r75 := ite_f h72 r70
 refine q_ (.bool false) (q_ (pt_ b7 2) ?_)
 refine l_' (hd_Weight) (aLoad Try.prog 22 (pt_ b7 2) H22) (u68.ld (by kernel_rfl)) ?_
 refine q_ (i_ i) ?_
 refine l_' (elp hd_Weight 1 i.toNat 0) (aIndexAddr Try.prog 22 hd_Weight (i_ i)) (u71.idxb (by kernel_rfl) g14.1 g69) ?_
 refine l_' (i_ (gt Weight i)) (aLoad Try.prog 3 (elp hd_Weight 1 i.toNat 0) H22) (u71.ld g14.1 g69 (by kernel_rfl)) ?_
 refine q_ (.bool (decide ((gt Weight i) > 2147483647))) (q_ (.bool (decide ((gt Weight i) > 2147483647))) (q_ (.bool (decide ((gt Weight i) > 2147483647))) (s_nil (k67 _ _ ?_))))
 refine w_condp ((gt Weight i) > 2147483647) (by kernel_rfl) rfl (fun h76 => ?_) (fun h76 => ?_)
 ·have r77 := ite_t h76 r75
  refine w_seqk fun _ k78 => g_' (q_ (.iface 122 (i_ 8)) (q_ (.iface 122 (i_ 8)) (s_nil (k78 _ _ ?_))))
  refine w_ret (bl_ret (th_ret ?_))
  refine b_ret (fn := Try.f120) (vs := [.iface 122 (i_ 8)]) (aRes_tmp (by kernel_rfl) (rfl)) ?_
  obtain rfl := Option.some.inj r77
  exact ⟨(.iface 122 (i_ 8)), [], rfl, (FrS.step wf ((FrS.refl (W := []) wf).extR e9) e23 Inn.nil), Ev.no, Inn.nil⟩
 have r79 := ite_f h76 r75
 refine w_skip (k17 _ _ (w_seqk fun _ k80 => g_' (q_ (.nilIface) (s_nil (k80 _ _ ?_)))))
 refine w_ret ?_
 refine b_ret (fn := Try.f120) (vs := [.nilIface]) (aRes_tmp (by kernel_rfl) (rfl)) ?_
 obtain rfl := Option.some.inj r79
 exact ⟨(.nilIface), [], rfl, (FrS.step wf ((FrS.refl (W := []) wf).extR e9) e23 Inn.nil), Ev.nil, Inn.nil⟩
theorem c_csr_Check {H : AH} {hd_First : Value} {fp_First : Fp} {hd_To : Value} {fp_To : Fp} {hd_Weight : Value} {fp_Weight : Fp} {First : List (Int)} {To : List (Int)} {Weight : List (Int)} {r : Er}
    (wf : WF H) (h_First : Sq (encI .i64) 1 H hd_First First fp_First) (h_To : Sq (encI .i64) 1 H hd_To To fp_To) (h_Weight : Sq (encI .i64) 1 H hd_Weight Weight fp_Weight) (hr : z_csr_Check First To Weight = some r) :
    ACalls Try.prog 62 #[.agg #[hd_First, hd_To, hd_Weight]] H fun v H' => ∃ (v3 : Value) (f4 : Fp), v = v3 ∧ FrS [] H H' ∧ Ev 122 235 H' v3 r f4 ∧ Inn [] H f4 := by
 refine acalls_of_body mixed Try.func62 rfl (Nat.le_of_ble_eq_true rfl) ?_
 unfold z_csr_Check at hr
 refine w_seqk fun _ k6 => g_' ?_
 refine s_rwl wf [hd_First, hd_To, hd_Weight] (one_cons (h_First.one1) (one_cons (h_To.one1) (one_cons (h_Weight.one1) (one_nil)))) (by kernel_rfl) fun b7 H8 e9 hb10 r11 => ?_
 refine q_ (.nilIface) (s_nil (k6 _ _ (w_seqk fun _ k13 => g_' ?_)))
 refine l_' (.agg #[hd_First, hd_To, hd_Weight]) (aLoad Try.prog 27 (pt_ b7 0) H8) (r11.ld (by kernel_rfl)) ?_
 have u14 := (h_First.ext e9)
 have u15 := (h_To.ext e9)
 have u16 := (h_Weight.ext e9)
 obtain ⟨y17, hy18, r19⟩ := bind_some hr
 refine s_ck 107 #[.agg #[hd_First, hd_To, hd_Weight]] (by kernel_rfl) (c_csr_Csr_nodes e9.wf u14 u15 u16 hy18) ?_
 rintro _ H20 ⟨rfl, e21⟩
 refine q_ (i_ y17) (s_nil (k13 _ _ (w_seqk fun _ k22 => w_block (w_seqk fun _ k23 => ?_))))
 obtain ⟨o24, hx25, r26⟩ := bind_some r19
 refine w_mid (fun α H27 => Has α [(1, pt_ b7 0), (3, i_ y17), (10, .bool o24)] ∧ H20 = H27) (fun _ k29 => ?_) (fun α H27 hM => ?_)
 ·refine w_draw [0, 1, 2, 3, 4, 5, 6, 7, 8, 9, 10, 11, 12, 13, 14, 15, 16, 17, 18, 19, 20, 21, 22, 23, 24, 25, 26, 27, 28, 29] (by kernel_rfl) ?_
  refine e_' (i_ y17) ?_
  refine d_b (y17 < 0) (by kernel_rfl) (fun h31 => ?_) (fun h31 => ?_)
  ·have r32 := ite_t h31 hx25
   refine e_' (.bool true) (j_' (j_' (j_' (j_' (j_' (e_' (.bool true) (e_' (.bool true) (j_' (j_' (j_' (j_' (j_' (j_' (j_' (j_' (j_' (e_' (.bool true) (e_' (.bool true) (j_' (j_' (j_' (j_' (j_' (j_' (j_' (e_' (.bool true) (e_' (.bool true) ?_)))))))))))))))))))))))))))
   refine d_nil ?_
   obtain rfl := Option.some.inj r32
   exact k29 _ _ ⟨ha_, rfl⟩
  have r33 := ite_f h31 hx25
  refine e_' (.bool false) (e_' (pt_ b7 0) ?_)
  have u34 := (r11.frS e21 Dj.nil_l)
  refine m_' (hd_First) (aLoad Try.prog 22 (pt_ b7 0) H20) (u34.ld (by kernel_rfl)) ?_
  obtain ⟨g35, r36⟩ := G_some r33
  have u37 := (u14.fr e21 Dj.nil_l)
  refine m_' (elp hd_First 1 (0 : Int).toNat 0) (aIndexAddr Try.prog 22 hd_First (i_ 0)) (u37.idxb (by kernel_rfl) (by decide) g35) ?_
  refine m_' (i_ (gt First 0)) (aLoad Try.prog 3 (elp hd_First 1 (0 : Int).toNat 0) H20) (u37.ld (by decide) g35 (by kernel_rfl)) ?_
  refine d_bn ((gt First 0) = 0) (by kernel_rfl) (fun h38 => ?_) (fun h38 => ?_)
  ·have r39 := ite_t h38 r36
   refine e_' (.bool false) (e_' (.bool false) (e_' (pt_ b7 0) ?_))
   refine m_' (hd_First) (aLoad Try.prog 22 (pt_ b7 0) H20) (u34.ld (by kernel_rfl)) ?_
   refine e_' (i_ y17) ?_
   obtain ⟨g40, r41⟩ := G_some r39
   refine m_' (elp hd_First 1 y17.toNat 0) (aIndexAddr Try.prog 22 hd_First (i_ y17)) (u37.idxb (by kernel_rfl) g40.1 g40.2) ?_
   refine m_' (i_ (gt First y17)) (aLoad Try.prog 3 (elp hd_First 1 y17.toNat 0) H20) (u37.ld g40.1 g40.2 (by kernel_rfl)) ?_
   refine e_' (pt_ b7 1) ?_
   refine m_' (hd_To) (aLoad Try.prog 22 (pt_ b7 1) H20) (u34.ld (by kernel_rfl)) ?_
   have u42 := (u15.fr e21 Dj.nil_l)
   refine m_' (i_ (To.length : Int)) (aLen Try.prog 22 hd_To H20) (u42.lenb (by kernel_rfl)) ?_
   refine d_bn ((gt First y17) = (To.length : Int)) (by kernel_rfl) (fun h43 => ?_) (fun h43 => ?_)
   ·have r44 := ite_t h43 r41
    refine e_' (.bool false) (e_' (.bool false) (e_' (pt_ b7 1) ?_))
    refine m_' (hd_To) (aLoad Try.prog 22 (pt_ b7 1) H20) (u34.ld (by kernel_rfl)) ?_
    refine m_' (i_ (To.length : Int)) (aLen Try.prog 22 hd_To H20) (u42.lenb (by kernel_rfl)) ?_
    refine e_' (pt_ b7 2) ?_
    refine m_' (hd_Weight) (aLoad Try.prog 22 (pt_ b7 2) H20) (u34.ld (by kernel_rfl)) ?_
    have u45 := (u16.fr e21 Dj.nil_l)
    refine m_' (i_ (Weight.length : Int)) (aLen Try.prog 22 hd_Weight H20) (u45.lenb (by kernel_rfl)) ?_
    refine e_' (.bool (!decide ((To.length : Int) = (Weight.length : Int)))) (e_' (.bool (!decide ((To.length : Int) = (Weight.length : Int)))) (e_' (.bool (!decide ((To.length : Int) = (Weight.length : Int)))) ?_))
    refine d_nil ?_
    obtain rfl := Option.some.inj r44
    exact k29 _ _ ⟨ha_, rfl⟩
   have r46 := ite_f h43 r41
   refine e_' (.bool true) (e_' (.bool true) (j_' (j_' (j_' (j_' (j_' (j_' (j_' (e_' (.bool true) (e_' (.bool true) ?_))))))))))
   refine d_nil ?_
   obtain rfl := Option.some.inj r46
   exact k29 _ _ ⟨ha_, rfl⟩
  have r47 := ite_f h38 r36
  refine e_' (.bool true) (e_' (.bool true) (j_' (j_' (j_' (j_' (j_' (j_' (j_' (j_' (j_' (e_' (.bool true) (e_' (.bool true) (j_' (j_' (j_' (j_' (j_' (j_' (j_' (e_' (.bool true) (e_' (.bool true) ?_)))))))))))))))))))))
  refine d_nil ?_
  obtain rfl := Option.some.inj r47
  exact k29 _ _ ⟨ha_, rfl⟩
 obtain ⟨hh30, rfl⟩ := hM
 obtain ⟨β, rfl⟩ := has_ex hh30
 clear hh30
 refine k23 _ _ ?_
 refine w_cond (o24) (by kernel_rfl) rfl (fun h48 => ?_) (fun h48 => ?_)
 ·have r49 := ite_t h48 r26
  refine w_seqk fun _ k50 => g_' (q_ (.iface 122 (i_ 14)) (q_ (.iface 122 (i_ 14)) (s_nil (k50 _ _ ?_))))
  refine w_ret (bl_ret (th_ret ?_))
  refine b_ret (fn := Try.f62) (vs := [.iface 122 (i_ 14)]) (aRes_tmp (by kernel_rfl) (rfl)) ?_
  obtain rfl := Option.some.inj r49
  exact ⟨(.iface 122 (i_ 14)), [], rfl, (FrS.step wf ((FrS.refl (W := []) wf).extR e9) e21 Inn.nil), Ev.no, Inn.nil⟩
 have r51 := ite_bf h48 r26
 refine w_seqk fun _ k52 => ?_
 obtain ⟨o53, hx54, r55⟩ := bind_some r51
 refine w_mid (fun α H56 => Has α [(1, pt_ b7 0), (3, i_ y17), (41, .bool o53)] ∧ H20 = H56) (fun _ k58 => ?_) (fun α H56 hM => ?_)
 ·refine g_' (q_ (i_ y17) ?_)
  refine s_b (y17 > 65536) (by kernel_rfl) (fun h60 => ?_) (fun h60 => ?_)
  ·have r61 := ite_t h60 hx54
   refine q_ (.bool true) (n_' (n_' (n_' (n_' (q_ (.bool true) (q_ (.bool true) (s_nil ?_)))))))
   obtain rfl := Option.some.inj r61
   exact k58 _ _ ⟨ha_, rfl⟩
  have r62 := ite_f h60 hx54
  refine q_ (.bool false) (q_ (pt_ b7 1) ?_)
  have u63 := (r11.frS e21 Dj.nil_l)
  refine l_' (hd_To) (aLoad Try.prog 22 (pt_ b7 1) H20) (u63.ld (by kernel_rfl)) ?_
  have u64 := (u15.fr e21 Dj.nil_l)
  refine l_' (i_ (To.length : Int)) (aLen Try.prog 22 hd_To H20) (u64.lenb (by kernel_rfl)) ?_
  refine q_ (.bool (decide ((To.length : Int) > 262144))) (q_ (.bool (decide ((To.length : Int) > 262144))) (q_ (.bool (decide ((To.length : Int) > 262144))) (s_nil ?_)))
  obtain rfl := Option.some.inj r62
  exact k58 _ _ ⟨ha_, rfl⟩
 obtain ⟨hh59, rfl⟩ := hM
 obtain ⟨β, rfl⟩ := has_ex hh59
 clear hh59
 refine k52 _ _ ?_
 refine w_cond (o53) (by kernel_rfl) rfl (fun h65 => ?_) (fun h65 => ?_)
 ·have r66 := ite_t h65 r55
  refine w_seqk fun _ k67 => g_' (q_ (.iface 122 (i_ 9)) (q_ (.iface 122 (i_ 9)) (s_nil (k67 _ _ ?_))))
  refine w_ret (bl_ret (th_ret ?_))
  refine b_ret (fn := Try.f62) (vs := [.iface 122 (i_ 9)]) (aRes_tmp (by kernel_rfl) (rfl)) ?_
  obtain rfl := Option.some.inj r66
  exact ⟨(.iface 122 (i_ 9)), [], rfl, (FrS.step wf ((FrS.refl (W := []) wf).extR e9) e21 Inn.nil), Ev.no, Inn.nil⟩
 have r68 := ite_bf h65 r55
 refine w_skip (k22 _ _ (w_seqk fun _ k69 => w_seqk fun _ k70 => g_' (q_ (i_ y17) (q_ (i_ 0) (s_nil (k70 _ _ ?_))))))
 obtain ⟨z74, hx72, r73⟩ := bind_some r68
 refine w_mid (fun α H75 => ∃ o71, z74 = Sum.inr o71 ∧ Has α [(1, pt_ b7 0), (3, i_ y17)] ∧ H20 = H75) (fun _ k77 => ?_) (fun α H75 hM => ?_)
 ·refine w_block ?_
  obtain ⟨n79, hn80⟩ := loopO_iff.1 hx72
  refine w_loopn (fun n α H81 => ∃ (i0 : Int), iterO (fun zz_ => z_csr_Check_l0 First y17 zz_) n i0 = some z74 ∧ Has α [(1, pt_ b7 0), (3, i_ y17), (51, i_ y17), (52, i_ i0)] ∧ H20 = H81) n79 ⟨0, hn80, ha_, rfl⟩ ?_
  rintro n79 α H81 ⟨i0, hi84, hh83, rfl⟩ K89 k89
  obtain ⟨n85, z86, rfl, hz87, hn88⟩ := iter_succ hi84
  obtain ⟨β, rfl⟩ := has_ex hh83
  clear hh83
  replace hz87 : z_csr_Check_l0 First y17 i0 = some z86 := hz87
  unfold z_csr_Check_l0 at hz87
  refine w_seqk fun _ k90 => g_' (q_ (.bool (decide (i0 < y17))) (s_nil (k90 _ _ (w_seqk fun _ k91 => ?_))))
  refine w_condp (i0 < y17) (by kernel_rfl) rfl (fun h92 => ?_) (fun h92 => ?_)
  ·have r93 := ite_t h92 hz87
   refine w_skip (k91 _ _ (w_seqk fun _ k94 => w_block (w_seqk fun _ k95 => g_' (q_ (i_ i0) (q_ (i_ i0) (s_nil (k95 _ _ (w_seqk fun _ k96 => ?_))))))))
   refine w_draw [0, 1, 2, 3, 4, 5, 6, 7, 8, 9, 10, 11] (by kernel_rfl) ?_
   refine e_' (pt_ b7 0) ?_
   have u97 := (r11.frS e21 Dj.nil_l)
   refine m_' (hd_First) (aLoad Try.prog 22 (pt_ b7 0) H20) (u97.ld (by kernel_rfl)) ?_
   refine e_' (i_ i0) ?_
   obtain ⟨g98, r99⟩ := G_some r93
   refine d_w ((i0 + 1)) (k := .i64) (x := (i0 + 1)) (by kernel_rfl) (wrap64 g98) ?_
   obtain ⟨g100, r101⟩ := G_some r99
   have u102 := (u14.fr e21 Dj.nil_l)
   refine m_' (elp hd_First 1 (i0 + 1).toNat 0) (aIndexAddr Try.prog 22 hd_First (i_ (i0 + 1))) (u102.idxb (by kernel_rfl) g100.1 g100.2) ?_
   refine m_' (i_ (gt First (i0 + 1))) (aLoad Try.prog 3 (elp hd_First 1 (i0 + 1).toNat 0) H20) (u102.ld g100.1 g100.2 (by kernel_rfl)) ?_
   refine e_' (pt_ b7 0) ?_
   refine m_' (hd_First) (aLoad Try.prog 22 (pt_ b7 0) H20) (u97.ld (by kernel_rfl)) ?_
   refine e_' (i_ i0) ?_
   obtain ⟨g103, r104⟩ := G_some r101
   refine m_' (elp hd_First 1 i0.toNat 0) (aIndexAddr Try.prog 22 hd_First (i_ i0)) (u102.idxb (by kernel_rfl) g103.1 g103.2) ?_
   refine m_' (i_ (gt First i0)) (aLoad Try.prog 3 (elp hd_First 1 i0.toNat 0) H20) (u102.ld g103.1 g103.2 (by kernel_rfl)) ?_
   refine e_' (.bool (decide ((gt First (i0 + 1)) < (gt First i0)))) ?_
   refine d_nil ?_
   refine k96 _ _ ?_
   refine w_condp ((gt First (i0 + 1)) < (gt First i0)) (by kernel_rfl) rfl (fun h105 => ?_) (fun h105 => ?_)
   ·have r106 := ite_t h105 r104
    refine w_seqk fun _ k107 => g_' (q_ (i_ i0) (q_ (.iface 122 (i_ 14)) ?_))
    obtain ⟨y108, hy109, r110⟩ := bind_some r106
    refine s_ck 119 #[i_ 3, i_ i0, .iface 122 (i_ 14)] (by kernel_rfl) (c_fault_At e21.wf (Ev.no (tf := 235)) hy109) ?_
    rintro v111 H113 ⟨_, f112, rfl, e114, m115, i116⟩
    refine q_ (v111) (s_nil (k107 _ _ ?_))
    refine w_ret (bl_ret (th_ret (th_ret (bl_ret (th_ret (th_ret ?_))))))
    obtain ⟨v118, hv119, hz120⟩ := map_some r110
    subst hz120
    obtain rfl := it_inr hn88
    have hq121 := elim_inl r73
    rw [hq121] at hv119
    refine b_ret (fn := Try.f62) (vs := [v111]) (aRes_tmp (by kernel_rfl) (rfl)) ?_
    obtain rfl := Option.some.inj hv119
    exact ⟨(v111), f112, rfl, (FrS.step wf (FrS.step wf ((FrS.refl (W := []) wf).extR e9) e21 Inn.nil) e114 Inn.nil), m115, (i116.fresh (ntr e9.next e21.next))⟩
   have r122 := ite_f h105 r104
   refine w_skip (k94 _ _ (g_' ?_))
   obtain ⟨g123, r124⟩ := G_some r122
   refine w_' (i0 + 1) (wrap64 (by have := g123; omega)) ?_
   refine q_ (i_ (i0 + 1)) (s_nil ?_)
   obtain rfl := Option.some.inj r124
   exact k89 n85 _ _ (Nat.lt_succ_self _) ⟨(i0 + 1), hn88, ha_, rfl⟩
  have r125 := ite_f h92 hz87
  refine w_exit (th_exit (th_exit (bl_eq ?_)))
  obtain rfl := Option.some.inj r125
  obtain rfl := it_inr hn88
  exact k77 _ _ ⟨_, rfl, ha_, rfl⟩
 obtain ⟨o71, rfl, hh78, rfl⟩ := hM
 have r126 := elim_inr r73
 obtain ⟨β, rfl⟩ := has_ex hh78
 clear hh78
 refine k69 _ _ (w_seqk fun _ k127 => w_seqk fun _ k128 => g_' (q_ (i_ y17) (q_ (i_ 0) (s_nil (k128 _ _ ?_)))))
 obtain ⟨z132, hx130, r131⟩ := bind_some r126
 refine w_mid (fun α H133 => ∃ o129, z132 = Sum.inr o129 ∧ Has α [] ∧ FrS [] H20 H133) (fun _ k135 => ?_) (fun α H133 hM => ?_)
 ·refine w_block ?_
  obtain ⟨n137, hn138⟩ := loopO_iff.1 hx130
  refine w_loopn (fun n α H139 => ∃ (i2 : Int), iterO (fun zz_ => z_csr_Check_l2 First To Weight y17 zz_) n i2 = some z132 ∧ Has α [(1, pt_ b7 0), (71, i_ y17), (72, i_ i2)] ∧ FrS [] H20 H139) n137 ⟨0, hn138, ha_, (FrS.refl (W := []) e21.wf)⟩ ?_
  rintro n137 α H139 ⟨i2, hi142, hh141, e140⟩ K147 k147
  obtain ⟨n143, z144, rfl, hz145, hn146⟩ := iter_succ hi142
  obtain ⟨β, rfl⟩ := has_ex hh141
  clear hh141
  replace hz145 : z_csr_Check_l2 First To Weight y17 i2 = some z144 := hz145
  unfold z_csr_Check_l2 at hz145
  refine w_seqk fun _ k148 => g_' (q_ (.bool (decide (i2 < y17))) (s_nil (k148 _ _ (w_seqk fun _ k149 => ?_))))
  refine w_condp (i2 < y17) (by kernel_rfl) rfl (fun h150 => ?_) (fun h150 => ?_)
  ·have r151 := ite_t h150 hz145
   refine w_skip (k149 _ _ (w_seqk fun _ k152 => w_block (w_seqk fun _ k153 => g_' (q_ (i_ i2) (q_ (i_ i2) (s_nil (k153 _ _ (w_seqk fun _ k154 => g_' (q_ (pt_ b7 0) ?_)))))))))
   have u155 := ((r11.frS e21 Dj.nil_l).frS e140 Dj.nil_l)
   refine l_' (hd_First) (aLoad Try.prog 22 (pt_ b7 0) H139) (u155.ld (by kernel_rfl)) ?_
   refine q_ (i_ i2) ?_
   obtain ⟨g156, r157⟩ := G_some r151
   have u158 := ((u14.fr e21 Dj.nil_l).fr e140 Dj.nil_l)
   refine l_' (elp hd_First 1 i2.toNat 0) (aIndexAddr Try.prog 22 hd_First (i_ i2)) (u158.idxb (by kernel_rfl) g156.1 g156.2) ?_
   refine l_' (i_ (gt First i2)) (aLoad Try.prog 3 (elp hd_First 1 i2.toNat 0) H139) (u158.ld g156.1 g156.2 (by kernel_rfl)) ?_
   refine q_ (i_ (gt First i2)) (s_nil (k154 _ _ ?_))
   obtain ⟨z162, hx160, r161⟩ := bind_some r157
   refine w_mid (fun α H163 => ∃ o159, z162 = Sum.inr o159 ∧ Has α [(1, pt_ b7 0), (71, i_ y17), (72, i_ i2)] ∧ FrS [] H139 H163) (fun _ k165 => ?_) (fun α H163 hM => ?_)
   ·refine w_block ?_
    obtain ⟨n167, hn168⟩ := loopO_iff.1 hx160
    refine w_loopn (fun n α H169 => ∃ (i1 : Int), iterO (fun zz_ => z_csr_Check_l1 First To Weight i2 zz_) n i1 = some z162 ∧ Has α [(1, pt_ b7 0), (5, i_ i2), (6, i_ i1), (71, i_ y17), (72, i_ i2)] ∧ FrS [] H139 H169) n167 ⟨(gt First i2), hn168, ha_, (FrS.refl (W := []) e140.wf)⟩ ?_
    rintro n167 α H169 ⟨i1, hi172, hh171, e170⟩ K177 k177
    obtain ⟨n173, z174, rfl, hz175, hn176⟩ := iter_succ hi172
    obtain ⟨β, rfl⟩ := has_ex hh171
    clear hh171
    replace hz175 : z_csr_Check_l1 First To Weight i2 i1 = some z174 := hz175
    unfold z_csr_Check_l1 at hz175
    refine w_seqk fun _ k178 => w_seqk fun _ k179 => g_' (q_ (i_ i1) (q_ (pt_ b7 0) ?_))
    have u180 := (u155.frS e170 Dj.nil_l)
    refine l_' (hd_First) (aLoad Try.prog 22 (pt_ b7 0) H169) (u180.ld (by kernel_rfl)) ?_
    refine q_ (i_ i2) ?_
    obtain ⟨g181, r182⟩ := G_some hz175
    refine w_' (i2 + 1) (wrap64 (by have := g181; omega)) ?_
    obtain ⟨g183, r184⟩ := G_some r182
    have u185 := (u158.fr e170 Dj.nil_l)
    refine l_' (elp hd_First 1 (i2 + 1).toNat 0) (aIndexAddr Try.prog 22 hd_First (i_ (i2 + 1))) (u185.idxb (by kernel_rfl) g183.1 g183.2) ?_
    refine l_' (i_ (gt First (i2 + 1))) (aLoad Try.prog 3 (elp hd_First 1 (i2 + 1).toNat 0) H169) (u185.ld g183.1 g183.2 (by kernel_rfl)) ?_
    refine q_ (.bool (decide (i1 < (gt First (i2 + 1))))) (s_nil (k179 _ _ ?_))
    refine w_condp (i1 < (gt First (i2 + 1))) (by kernel_rfl) rfl (fun h186 => ?_) (fun h186 => ?_)
    ·have r187 := ite_t h186 r184
     refine w_skip (k178 _ _ (w_seqk fun _ k188 => w_block (w_seqk fun _ k189 => g_' ?_)))
     refine l_' (.agg #[hd_First, hd_To, hd_Weight]) (aLoad Try.prog 27 (pt_ b7 0) H169) (u180.ld (by kernel_rfl)) ?_
     refine q_ (i_ i2) (q_ (i_ i1) ?_)
     have u190 := (((u15.fr e21 Dj.nil_l).fr e140 Dj.nil_l).fr e170 Dj.nil_l)
     have u191 := (((u16.fr e21 Dj.nil_l).fr e140 Dj.nil_l).fr e170 Dj.nil_l)
     obtain ⟨y192, hy193, r194⟩ := bind_some r187
     refine s_ck 120 #[.agg #[hd_First, hd_To, hd_Weight], i_ i2, i_ i1] (by kernel_rfl) (c_csr_Csr_arc e170.wf u185 u190 u191 hy193) ?_
     rintro v195 H197 ⟨_, f196, rfl, e198, m199, i200⟩
     refine q_ (v195) (s_nil (k189 _ _ (w_seqk fun _ k202 => g_' (q_ (v195) ?_))))
     rcases (m199).cases with ⟨h203, rfl⟩ | ⟨h203, t204, x205, rfl⟩
     ·have r206 := ite_t h203 r194
      refine q_ (.bool false) (s_nil (k202 _ _ ?_))
      refine w_cond false (by kernel_rfl) rfl (fun h => by cases h) (fun _ => ?_)
      refine w_skip (k188 _ _ (g_' (q_ (i_ i1) ?_)))
      obtain ⟨g207, r208⟩ := G_some r206
      refine w_' (i1 + 1) (wrap64 g207) ?_
      refine q_ (i_ (i1 + 1)) (s_nil ?_)
      obtain rfl := Option.some.inj r208
      exact k177 n173 _ _ (Nat.lt_succ_self _) ⟨(i1 + 1), hn176, ha_, (FrS.step e140.wf (FrS.step e140.wf (FrS.refl (W := []) e140.wf) e170 Inn.nil) e198 Inn.nil)⟩
     have r209 := ite_f h203 r194
     refine l_' (.bool true) (aBin Try.prog .neq 31 (.tmp 94) (.const .nilIface) (.iface t204 x205) .nilIface) (aBin_nnil (by kernel_rfl)) ?_
     refine s_nil (k202 _ _ ?_)
     refine w_cond true (by kernel_rfl) rfl (fun _ => ?_) (fun h => by cases h)
     refine w_seqk fun _ k210 => g_' (q_ (i_ i1) (q_ (.iface t204 x205) ?_))
     obtain ⟨y211, hy212, r213⟩ := bind_some r209
     refine s_ck 119 #[i_ 4, i_ i1, .iface t204 x205] (by kernel_rfl) (c_fault_At e198.wf m199 hy212) ?_
     rintro v214 H216 ⟨_, f215, rfl, e217, m218, i219⟩
     refine q_ (v214) (s_nil (k210 _ _ ?_))
     refine w_ret (bl_ret (th_ret (th_ret (bl_ret (th_ret (bl_ret (th_ret (th_ret (bl_ret (th_ret (th_ret ?_)))))))))))
     obtain ⟨v221, hv222, hz223⟩ := map_some r213
     subst hz223
     obtain rfl := it_inr hn176
     have hq224 := elim_inl r161
     rw [hq224] at hv222
     obtain ⟨v225, hv226, hz227⟩ := map_some hv222
     subst hz227
     obtain rfl := it_inr hn146
     have hq228 := elim_inl r131
     rw [hq228] at hv226
     refine b_ret (fn := Try.f62) (vs := [v214]) (aRes_tmp (by kernel_rfl) (rfl)) ?_
     obtain rfl := Option.some.inj hv226
     exact ⟨(v214), f215, rfl, (FrS.step wf (FrS.step wf (FrS.step wf (FrS.step wf (FrS.step wf ((FrS.refl (W := []) wf).extR e9) e21 Inn.nil) e140 Inn.nil) e170 Inn.nil) e198 Inn.nil) e217 Inn.nil), m218, (Inn.trans (i200.fresh (ntr (ntr (ntr e9.next e21.next) e140.next) e170.next)) (ntr (ntr (ntr (ntr e9.next e21.next) e140.next) e170.next) e198.next) i219)⟩
    have r229 := ite_f h186 r184
    refine w_exit (th_exit (th_exit (bl_eq ?_)))
    obtain rfl := Option.some.inj r229
    obtain rfl := it_inr hn176
    exact k165 _ _ ⟨_, rfl, ha_, (FrS.step e140.wf (FrS.refl (W := []) e140.wf) e170 Inn.nil)⟩
   obtain ⟨o159, rfl, hh166, e164⟩ := hM
   have r230 := elim_inr r161
   obtain ⟨β, rfl⟩ := has_ex hh166
   clear hh166
   refine k152 _ _ (g_' ?_)
   obtain ⟨g231, r232⟩ := G_some r230
   refine w_' (i2 + 1) (wrap64 (by have := g231; omega)) ?_
   refine q_ (i_ (i2 + 1)) (s_nil ?_)
   obtain rfl := Option.some.inj r232
   exact k147 n143 _ _ (Nat.lt_succ_self _) ⟨(i2 + 1), hn146, ha_, (FrS.step e21.wf (FrS.step e21.wf (FrS.refl (W := []) e21.wf) e140 Inn.nil) e164 Inn.nil)⟩
  have r233 := ite_f h150 hz145
  refine w_exit (th_exit (th_exit (bl_eq ?_)))
  obtain rfl := Option.some.inj r233
  obtain rfl := it_inr hn146
  exact k135 _ _ ⟨_, rfl, trivial, (FrS.step e21.wf (FrS.refl (W := []) e21.wf) e140 Inn.nil)⟩
 obtain ⟨o129, rfl, hh136, e134⟩ := hM
 have r234 := elim_inr r131
 obtain ⟨β, rfl⟩ := has_ex hh136
 clear hh136
 refine k127 _ _ (w_seqk fun _ k235 => g_' (q_ (.nilIface) (s_nil (k235 _ _ ?_))))
 refine w_ret ?_
 refine b_ret (fn := Try.f62) (vs := [.nilIface]) (aRes_tmp (by kernel_rfl) (rfl)) ?_
 obtain rfl := Option.some.inj r234
 exact ⟨(.nilIface), [], rfl, (FrS.step wf (FrS.step wf ((FrS.refl (W := []) wf).extR e9) e21 Inn.nil) e134 Inn.nil), Ev.nil, Inn.nil⟩
theorem c_search_nodes {H : AH} {hd_First : Value} {fp_First : Fp} {hd_To : Value} {fp_To : Fp} {hd_Weight : Value} {fp_Weight : Fp} {First : List (Int)} {To : List (Int)} {Weight : List (Int)} {r : Int}
    (wf : WF H) (h_First : Sq (encI .i64) 1 H hd_First First fp_First) (h_To : Sq (encI .i64) 1 H hd_To To fp_To) (h_Weight : Sq (encI .i64) 1 H hd_Weight Weight fp_Weight) (hr : z_search_nodes First To Weight = some r) :
    ACalls Try.prog 63 #[.agg #[hd_First, hd_To, hd_Weight]] H fun v H' => v = i_ r ∧ FrS [] H H' := by
 refine acalls_of_body mixed Try.func63 rfl (Nat.le_of_ble_eq_true rfl) ?_
 unfold z_search_nodes at hr
 refine w_seqk fun _ k1 => g_' ?_
 refine s_rwl wf [hd_First, hd_To, hd_Weight] (one_cons (h_First.one1) (one_cons (h_To.one1) (one_cons (h_Weight.one1) (one_nil)))) (by kernel_rfl) fun b2 H3 e4 hb5 r6 => ?_
 refine q_ (i_ 0) (s_nil (k1 _ _ (w_seqk fun _ k8 => g_' (q_ (pt_ b2 0) ?_))))
 refine l_' (hd_First) (aLoad Try.prog 22 (pt_ b2 0) H3) (r6.ld (by kernel_rfl)) ?_
 have u9 := (h_First.ext e4)
 refine l_' (i_ (First.length : Int)) (aLen Try.prog 22 hd_First H3) (u9.lenb (by kernel_rfl)) ?_
 obtain ⟨g10, r11⟩ := G_some hr
 refine w_' ((First.length : Int) - 1) (wrap64 g10) ?_
 refine q_ (i_ ((First.length : Int) - 1)) (s_nil (k8 _ _ ?_))
 refine w_ret ?_
 refine b_ret (fn := Try.f63) (vs := [i_ ((First.length : Int) - 1)]) (aRes_tmp (by kernel_rfl) (rfl)) ?_
 obtain rfl := Option.some.inj r11
 exact ⟨rfl, ((FrS.refl (W := []) wf).extR e4)⟩
theorem c_search_node {H : AH} {hd_First : Value} {fp_First : Fp} {hd_To : Value} {fp_To : Fp} {hd_Weight : Value} {fp_Weight : Fp} {hd_list : Value} {fp_list : Fp} {First : List (Int)} {To : List (Int)} {Weight : List (Int)} {list : List (Int)} {r : Er}
    (wf : WF H) (h_First : Sq (encI .i64) 1 H hd_First First fp_First) (h_To : Sq (encI .i64) 1 H hd_To To fp_To) (h_Weight : Sq (encI .i64) 1 H hd_Weight Weight fp_Weight) (h_list : Sq (encI .i64) 1 H hd_list list fp_list) (hr : z_search_node First To Weight list = some r) :
    ACalls Try.prog 58 #[.agg #[hd_First, hd_To, hd_Weight], hd_list] H fun v H' => ∃ (v3 : Value) (f4 : Fp), v = v3 ∧ FrS [] H H' ∧ Ev 122 235 H' v3 r f4 ∧ Inn [] H f4 := by
 refine acalls_of_body mixed Try.func58 rfl (Nat.le_of_ble_eq_true rfl) ?_
 unfold z_search_node at hr
 refine w_seqk fun _ k6 => g_' ?_
 refine s_rwl wf [hd_First, hd_To, hd_Weight] (one_cons (h_First.one1) (one_cons (h_To.one1) (one_cons (h_Weight.one1) (one_nil)))) (by kernel_rfl) fun b7 H8 e9 hb10 r11 => ?_
 refine q_ (.nilIface) (s_nil (k6 _ _ (w_seqk fun _ k13 => w_seqk fun _ k14 => g_' ?_)))
 refine l_' (.agg #[hd_First, hd_To, hd_Weight]) (aLoad Try.prog 27 (pt_ b7 0) H8) (r11.ld (by kernel_rfl)) ?_
 have u15 := (h_First.ext e9)
 have u16 := (h_To.ext e9)
 have u17 := (h_Weight.ext e9)
 obtain ⟨y18, hy19, r20⟩ := bind_some hr
 refine s_ck 62 #[.agg #[hd_First, hd_To, hd_Weight]] (by kernel_rfl) (c_csr_Check e9.wf u15 u16 u17 hy19) ?_
 rintro v21 H23 ⟨_, f22, rfl, e24, m25, i26⟩
 refine q_ (v21) (s_nil (k14 _ _ (w_seqk fun _ k28 => g_' (q_ (v21) ?_))))
 rcases (m25).cases with ⟨h29, rfl⟩ | ⟨h29, t30, x31, rfl⟩
 ·have r32 := ite_t h29 r20
  refine q_ (.bool false) (s_nil (k28 _ _ ?_))
  refine w_cond false (by kernel_rfl) rfl (fun h => by cases h) (fun _ => ?_)
  refine w_skip (k13 _ _ (w_seqk fun _ k33 => w_seqk fun _ k34 => g_' (q_ (hd_list) ?_)))
  have u35 := ((h_list.ext e9).fr e24 Dj.nil_l)
  refine l_' (i_ (list.length : Int)) (aLen Try.prog 22 hd_list H23) (u35.lenb (by kernel_rfl)) ?_
  refine q_ (i_ 0) (s_nil (k34 _ _ ?_))
  obtain ⟨z39, hx37, r38⟩ := bind_some r32
  refine w_mid (fun α H40 => ∃ o36, z39 = Sum.inr o36 ∧ Has α [] ∧ FrS [] H23 H40) (fun _ k42 => ?_) (fun α H40 hM => ?_)
  ·refine w_block ?_
   obtain ⟨n44, hn45⟩ := loopO_iff.1 hx37
   refine w_loopn (fun n α H46 => ∃ (i0 : Int), iterO (fun zz_ => z_search_node_l0 First To Weight list zz_) n i0 = some z39 ∧ Has α [(2, pt_ b7 0), (13, hd_list), (14, i_ (list.length : Int)), (15, i_ i0)] ∧ FrS [] H23 H46) n44 ⟨0, hn45, ha_, (FrS.refl (W := []) e24.wf)⟩ ?_
   rintro n44 α H46 ⟨i0, hi49, hh48, e47⟩ K54 k54
   obtain ⟨n50, z51, rfl, hz52, hn53⟩ := iter_succ hi49
   obtain ⟨β, rfl⟩ := has_ex hh48
   clear hh48
   replace hz52 : z_search_node_l0 First To Weight list i0 = some z51 := hz52
   unfold z_search_node_l0 at hz52
   refine w_seqk fun _ k55 => g_' (q_ (.bool (decide (i0 < (list.length : Int)))) (s_nil (k55 _ _ (w_seqk fun _ k56 => ?_))))
   refine w_condp (i0 < (list.length : Int)) (by kernel_rfl) rfl (fun h57 => ?_) (fun h57 => ?_)
   ·have r58 := ite_t h57 hz52
    refine w_skip (k56 _ _ (w_seqk fun _ k59 => w_block (w_seqk fun _ k60 => g_' ?_)))
    obtain ⟨g61, r62⟩ := G_some r58
    have u63 := (u35.fr e47 Dj.nil_l)
    refine l_' (elp hd_list 1 i0.toNat 0) (aIndexAddr Try.prog 22 hd_list (i_ i0)) (u63.idxb (by kernel_rfl) g61 h57) ?_
    refine l_' (i_ (gt list i0)) (aLoad Try.prog 3 (elp hd_list 1 i0.toNat 0) H46) (u63.ld g61 h57 (by kernel_rfl)) ?_
    refine q_ (i_ (gt list i0)) (s_nil (k60 _ _ (w_seqk fun _ k64 => g_' (q_ (i_ (gt list i0)) ?_))))
    refine s_b ((gt list i0) < 0) (by kernel_rfl) (fun h65 => ?_) (fun h65 => ?_)
    ·have r66 := ite_t h65 r62
     refine q_ (.bool true) (n_' (n_' (n_' (n_' (q_ (.bool true) (s_nil (k64 _ _ ?_)))))))
     refine w_cond true (by kernel_rfl) rfl (fun _ => ?_) (fun h => by cases h)
     refine w_seqk fun _ k67 => g_' (q_ (.iface 122 (i_ 7)) (q_ (.iface 122 (i_ 7)) (s_nil (k67 _ _ ?_))))
     refine w_ret (bl_ret (th_ret (th_ret (bl_ret (th_ret (th_ret ?_))))))
     obtain ⟨v68, hv69, hz70⟩ := map_some r66
     subst hz70
     obtain rfl := it_inr hn53
     have hq71 := elim_inl r38
     rw [hq71] at hv69
     refine b_ret (fn := Try.f58) (vs := [.iface 122 (i_ 7)]) (aRes_tmp (by kernel_rfl) (rfl)) ?_
     obtain rfl := Option.some.inj hv69
     exact ⟨(.iface 122 (i_ 7)), [], rfl, (FrS.step wf (FrS.step wf ((FrS.refl (W := []) wf).extR e9) e24 Inn.nil) e47 Inn.nil), Ev.no, Inn.nil⟩
    have r72 := ite_f h65 r62
    refine q_ (.bool false) (q_ (i_ (gt list i0)) ?_)
    have u73 := ((r11.frS e24 Dj.nil_l).frS e47 Dj.nil_l)
    refine l_' (.agg #[hd_First, hd_To, hd_Weight]) (aLoad Try.prog 27 (pt_ b7 0) H46) (u73.ld (by kernel_rfl)) ?_
    have u74 := ((u15.fr e24 Dj.nil_l).fr e47 Dj.nil_l)
    have u75 := ((u16.fr e24 Dj.nil_l).fr e47 Dj.nil_l)
    have u76 := ((u17.fr e24 Dj.nil_l).fr e47 Dj.nil_l)
    obtain ⟨y77, hy78, r79⟩ := bind_some r72
    refine s_ck 63 #[.agg #[hd_First, hd_To, hd_Weight]] (by kernel_rfl) (c_search_nodes e47.wf u74 u75 u76 hy78) ?_
    rintro _ H80 ⟨rfl, e81⟩
    refine q_ (.bool (decide ((gt list i0) ≥ y77))) (q_ (.bool (decide ((gt list i0) ≥ y77))) (s_nil (k64 _ _ ?_)))
    refine w_condp ((gt list i0) ≥ y77) (by kernel_rfl) rfl (fun h82 => ?_) (fun h82 => ?_)
    ·have r83 := ite_t h82 r79
     refine w_seqk fun _ k84 => g_' (q_ (.iface 122 (i_ 7)) (q_ (.iface 122 (i_ 7)) (s_nil (k84 _ _ ?_))))
     refine w_ret (bl_ret (th_ret (th_ret (bl_ret (th_ret (th_ret ?_))))))
     obtain ⟨v85, hv86, hz87⟩ := map_some r83
     subst hz87
     obtain rfl := it_inr hn53
     have hq88 := elim_inl r38
     rw [hq88] at hv86
     refine b_ret (fn := Try.f58) (vs := [.iface 122 (i_ 7)]) (aRes_tmp (by kernel_rfl) (rfl)) ?_
     obtain rfl := Option.some.inj hv86
     exact ⟨(.iface 122 (i_ 7)), [], rfl, (FrS.step wf (FrS.step wf (FrS.step wf ((FrS.refl (W := []) wf).extR e9) e24 Inn.nil) e47 Inn.nil) e81 Inn.nil), Ev.no, Inn.nil⟩
    have r89 := ite_f h82 r79
    refine w_skip (k59 _ _ (g_' ?_))
    obtain ⟨g90, r91⟩ := G_some r89
    refine w_' (i0 + 1) (wrap64 (by have := g90; omega)) ?_
    refine q_ (i_ (i0 + 1)) (s_nil ?_)
    obtain rfl := Option.some.inj r91
    exact k54 n50 _ _ (Nat.lt_succ_self _) ⟨(i0 + 1), hn53, ha_, (FrS.step e24.wf (FrS.step e24.wf (FrS.refl (W := []) e24.wf) e47 Inn.nil) e81 Inn.nil)⟩
   have r92 := ite_f h57 hz52
   refine w_exit (th_exit (th_exit (bl_eq ?_)))
   obtain rfl := Option.some.inj r92
   obtain rfl := it_inr hn53
   exact k42 _ _ ⟨_, rfl, trivial, (FrS.step e24.wf (FrS.refl (W := []) e24.wf) e47 Inn.nil)⟩
  obtain ⟨o36, rfl, hh43, e41⟩ := hM
  have r93 := elim_inr r38
  obtain ⟨β, rfl⟩ := has_ex hh43
  clear hh43
  refine k33 _ _ (w_seqk fun _ k94 => g_' (q_ (.nilIface) (s_nil (k94 _ _ ?_))))
  refine w_ret ?_
  refine b_ret (fn := Try.f58) (vs := [.nilIface]) (aRes_tmp (by kernel_rfl) (rfl)) ?_
  obtain rfl := Option.some.inj r93
  exact ⟨(.nilIface), [], rfl, (FrS.step wf (FrS.step wf ((FrS.refl (W := []) wf).extR e9) e24 Inn.nil) e41 Inn.nil), Ev.nil, Inn.nil⟩
 have r95 := ite_f h29 r20
 refine l_' (.bool true) (aBin Try.prog .neq 31 (.tmp 10) (.const .nilIface) (.iface t30 x31) .nilIface) (aBin_nnil (by kernel_rfl)) ?_
 refine s_nil (k28 _ _ ?_)
 refine w_cond true (by kernel_rfl) rfl (fun _ => ?_) (fun h => by cases h)
 refine w_seqk fun _ k96 => g_' (q_ (.iface t30 x31) (q_ (.iface t30 x31) (s_nil (k96 _ _ ?_))))
 refine w_ret (th_ret ?_)
 refine b_ret (fn := Try.f58) (vs := [.iface t30 x31]) (aRes_tmp (by kernel_rfl) (rfl)) ?_
 obtain rfl := Option.some.inj r95
 exact ⟨(.iface t30 x31), f22, rfl, (FrS.step wf ((FrS.refl (W := []) wf).extR e9) e24 Inn.nil), m25, (i26.fresh e9.next)⟩
theorem c_search_free {H : AH} {r : Unit}
    (wf : WF H) (hr : z_search_free = some r) :
    ACalls Try.prog 60 #[] H fun v H' => v = .agg #[i_ 4611686018427387904, i_ 4611686018427387904, .int .u64 18446744073709551615] ∧ FrS [] H H' := by
 refine acalls_of_body mixed Try.func60 rfl (Nat.le_of_ble_eq_true rfl) ?_
 unfold z_search_free at hr
 refine w_seqk fun _ k1 => g_' ?_
 refine s_rwk wf [i_ 0, i_ 0, .int .u64 0] (by kernel_rfl) fun b2 H3 e4 hb5 r6 => ?_
 refine s_nil (k1 _ _ (w_seqk fun _ k8 => g_' (q_ (.agg #[i_ 4611686018427387904, i_ 4611686018427387904, .int .u64 18446744073709551615]) ?_)))
 obtain ⟨H9, q10, e11, r12⟩ := Row.store (P := Try.prog) (t := 117) (p := 0) e4.wf r6 (.agg #[i_ 4611686018427387904, i_ 4611686018427387904, .int .u64 18446744073709551615]) [i_ 4611686018427387904, i_ 4611686018427387904, .int .u64 18446744073709551615] (by kernel_rfl) (by kernel_rfl) (one_cons (rfl) (one_cons (rfl) (one_cons (rfl) (one_nil)))) (Nat.le_of_ble_eq_true (by kernel_rfl)) [i_ 4611686018427387904, i_ 4611686018427387904, .int .u64 18446744073709551615] (by kernel_rfl)
 refine s_ek (undef) (by kernel_rfl) (map_ok q10) ?_
 refine s_nil (k8 _ _ ?_)
 refine w_ret ?_
 refine b_ret (fn := Try.f60) (vs := [.agg #[i_ 4611686018427387904, i_ 4611686018427387904, .int .u64 18446744073709551615]]) (aRes_cell (Eq.trans (b := aLoad Try.prog 117 (pt_ b2 0) H9) (by kernel_rfl) (r12.ld (by kernel_rfl))) (rfl)) ?_
 obtain rfl := Option.some.inj hr
 exact ⟨rfl, (FrS.step wf ((FrS.refl (W := []) wf).extR e4) e11 (hb5.fresh (Nat.le_refl _)))⟩
theorem c_heap_New {H : AH} {n_ : Int} {r : (Unit) ⊕ (List (Int))}
    (wf : WF H) (hr : z_heap_New n_ = some r) :
    ACalls Try.prog 113 #[i_ n_] H fun v H' => Sum.elim (fun (r : Unit) => v = .tuple #[.pointer none, .iface 122 (i_ 1)] ∧ H = H') (fun (r : List (Int)) => ∃ (s3 : Value) (f4 : Fp) (b7 : Nat), v = .tuple #[pt_ b7 0, .nilIface] ∧ FrS [] H H' ∧ Ow (encI .i64) 1 H' s3 r f4 ∧ Row H' b7 [.slice none 0 0, s3] ∧ Inn [] H f4 ∧ Inn [] H [b7] ∧ Dj f4 [b7]) r := by
 refine acalls_of_body mixed Try.func113 rfl (Nat.le_of_ble_eq_true rfl) ?_
 unfold z_heap_New at hr
 refine w_seqk fun _ k11 => g_' (q_ (.pointer none) (q_ (.nilIface) (s_nil (k11 _ _ (w_seqk fun _ k12 => w_seqk fun _ k13 => ?_)))))
 obtain ⟨o14, hx15, r16⟩ := bind_some hr
 refine w_mid (fun α H17 => Has α [(0, i_ n_), (9, .bool o14)] ∧ H = H17) (fun _ k19 => ?_) (fun α H17 hM => ?_)
 ·refine g_' (q_ (i_ n_) ?_)
  refine s_b (n_ < 0) (by kernel_rfl) (fun h21 => ?_) (fun h21 => ?_)
  ·have r22 := ite_t h21 hx15
   refine q_ (.bool true) (n_' (n_' (q_ (.bool true) (s_nil ?_))))
   obtain rfl := Option.some.inj r22
   exact k19 _ _ ⟨ha_, rfl⟩
  have r23 := ite_f h21 hx15
  refine q_ (.bool false) (q_ (i_ n_) (q_ (.bool (decide (n_ > 65536))) (q_ (.bool (decide (n_ > 65536))) (s_nil ?_))))
  obtain rfl := Option.some.inj r23
  exact k19 _ _ ⟨ha_, rfl⟩
 obtain ⟨hh20, rfl⟩ := hM
 obtain ⟨β, rfl⟩ := has_ex hh20
 clear hh20
 refine k13 _ _ ?_
 refine w_cond (o14) (by kernel_rfl) rfl (fun h24 => ?_) (fun h24 => ?_)
 ·have r25 := ite_t h24 r16
  refine w_seqk fun _ k26 => g_' (q_ (.iface 122 (i_ 1)) (q_ (.pointer none) (q_ (.iface 122 (i_ 1)) (s_nil (k26 _ _ ?_)))))
  refine w_ret (th_ret ?_)
  refine b_ret (fn := Try.f113) (vs := [.pointer none, .iface 122 (i_ 1)]) (aRes_tmp (by kernel_rfl) (aRes_tmp (by kernel_rfl) (rfl))) ?_
  obtain rfl := Option.some.inj r25
  exact (elimP_l ⟨rfl, rfl⟩)
 have r27 := ite_bf h24 r16
 refine w_skip (k12 _ _ (w_seqk fun _ k28 => g_' (q_ (i_ n_) ?_)))
 obtain ⟨g29, r30⟩ := G_some r27
 refine s_mks (t := 22) (m := 8) (l := n_) (c := n_) (enc := (encI .i64)) (sz := 1) wf (0 : Int) (by kernel_rfl) (by decide) g29.1 (Int.le_refl _) (by omega) (by have := g29; omega) (by kernel_rfl) fun s31 f32 H33 e34 hf35 hm36 => ?_
 obtain ⟨a37, n38, c39, rfl⟩ := hm36.form
 have hm36 : Ow (encI .i64) 1 H33 (.slice a37 n38 c39) (List.replicate n_.toNat (0 : Int)) f32 := hm36
 refine q_ (.agg #[.slice none 0 0, .slice a37 n38 c39]) ?_
 refine s_rwl e34.wf [.slice none 0 0, .slice a37 n38 c39] (one_cons (rfl) (one_cons (hm36.one1) (one_nil))) (by kernel_rfl) fun b41 H42 e43 hb44 r45 => ?_
 refine q_ (pt_ b41 0) (q_ (.nilIface) (s_nil (k28 _ _ ?_)))
 refine w_ret ?_
 refine b_ret (fn := Try.f113) (vs := [pt_ b41 0, .nilIface]) (aRes_tmp (by kernel_rfl) (aRes_tmp (by kernel_rfl) (rfl))) ?_
 have u47 := (hm36.ext e43)
 obtain rfl := Option.some.inj r30
 exact (elimP_r ⟨(.slice a37 n38 c39), f32, b41, rfl, (((FrS.refl (W := []) wf).extR e34).extR e43), u47, r45, (hf35.fresh (Nat.le_refl _)), (hb44.fresh e34.next), (Dj.symm (hb44.djn hm36.lt))⟩)
theorem c_stamp_New {H : AH} {n_ : Int} {age : Int} {r : (Unit) ⊕ (List (Int × Int) × Int)}
    (wf : WF H) (hr : z_stamp_New n_ age = some r) :
    ACalls Try.prog 114 #[i_ n_, .int .u32 age] H fun v H' => Sum.elim (fun (r : Unit) => v = .tuple #[.pointer none, .iface 122 (i_ 1)] ∧ H = H') (fun (r : List (Int × Int) × Int) => ∃ (s3 : Value) (f4 : Fp) (b7 : Nat), v = .tuple #[pt_ b7 0, .nilIface] ∧ FrS [] H H' ∧ Ow enc_u64_u32 2 H' s3 r.1 f4 ∧ Row H' b7 [s3, .int .u32 r.2, i_ 0] ∧ Inn [] H f4 ∧ Inn [] H [b7] ∧ Dj f4 [b7]) r := by
 refine acalls_of_body mixed Try.func114 rfl (Nat.le_of_ble_eq_true rfl) ?_
 unfold z_stamp_New at hr
 refine w_seqk fun _ k11 => g_' (q_ (.pointer none) (q_ (.nilIface) (s_nil (k11 _ _ (w_seqk fun _ k12 => w_seqk fun _ k13 => ?_)))))
 obtain ⟨o14, hx15, r16⟩ := bind_some hr
 refine w_mid (fun α H17 => Has α [(0, i_ n_), (1, .int .u32 age), (11, .bool o14)] ∧ H = H17) (fun _ k19 => ?_) (fun α H17 hM => ?_)
 ·refine g_' (q_ (i_ n_) ?_)
  refine s_b (n_ < 0) (by kernel_rfl) (fun h21 => ?_) (fun h21 => ?_)
  ·have r22 := ite_t h21 hx15
   refine q_ (.bool true) (n_' (n_' (q_ (.bool true) (s_nil ?_))))
   obtain rfl := Option.some.inj r22
   exact k19 _ _ ⟨ha_, rfl⟩
  have r23 := ite_f h21 hx15
  refine q_ (.bool false) (q_ (i_ n_) (q_ (.bool (decide (n_ > 65536))) (q_ (.bool (decide (n_ > 65536))) (s_nil ?_))))
  obtain rfl := Option.some.inj r23
  exact k19 _ _ ⟨ha_, rfl⟩
 obtain ⟨hh20, rfl⟩ := hM
 obtain ⟨β, rfl⟩ := has_ex hh20
 clear hh20
 refine k13 _ _ ?_
 refine w_cond (o14) (by kernel_rfl) rfl (fun h24 => ?_) (fun h24 => ?_)
 ·have r25 := ite_t h24 r16
  refine w_seqk fun _ k26 => g_' (q_ (.iface 122 (i_ 1)) (q_ (.pointer none) (q_ (.iface 122 (i_ 1)) (s_nil (k26 _ _ ?_)))))
  refine w_ret (th_ret ?_)
  refine b_ret (fn := Try.f114) (vs := [.pointer none, .iface 122 (i_ 1)]) (aRes_tmp (by kernel_rfl) (aRes_tmp (by kernel_rfl) (rfl))) ?_
  obtain rfl := Option.some.inj r25
  exact (elimP_l ⟨rfl, rfl⟩)
 have r27 := ite_bf h24 r16
 refine w_skip (k12 _ _ (w_seqk fun _ k28 => g_' (q_ (i_ n_) ?_)))
 obtain ⟨g29, r30⟩ := G_some r27
 refine s_mks (t := 189) (m := 16) (l := n_) (c := n_) (enc := enc_u64_u32) (sz := 2) wf ((0, 0) : Int × Int) (by kernel_rfl) (by decide) g29.1 (Int.le_refl _) (by omega) (by have := g29; omega) (by kernel_rfl) fun s31 f32 H33 e34 hf35 hm36 => ?_
 obtain ⟨a37, n38, c39, rfl⟩ := hm36.form
 have hm36 : Ow enc_u64_u32 2 H33 (.slice a37 n38 c39) (List.replicate n_.toNat ((0, 0) : Int × Int)) f32 := hm36
 refine q_ (.int .u32 age) ?_
 refine l_' (.int .u32 (max age 1)) (aMax Try.prog [.int .u32 age, .int .u32 1]) (aMax_two _ _) ?_
 refine q_ (.agg #[.slice a37 n38 c39, .int .u32 (max age 1), i_ 0]) ?_
 refine s_rwl e34.wf [.slice a37 n38 c39, .int .u32 (max age 1), i_ 0] (one_cons (hm36.one1) (one_cons (rfl) (one_cons (rfl) (one_nil)))) (by kernel_rfl) fun b41 H42 e43 hb44 r45 => ?_
 refine q_ (pt_ b41 0) (q_ (.nilIface) (s_nil (k28 _ _ ?_)))
 refine w_ret ?_
 refine b_ret (fn := Try.f114) (vs := [pt_ b41 0, .nilIface]) (aRes_tmp (by kernel_rfl) (aRes_tmp (by kernel_rfl) (rfl))) ?_
 have u47 := (hm36.ext e43)
 obtain rfl := Option.some.inj r30
 exact (elimP_r ⟨(.slice a37 n38 c39), f32, b41, rfl, (((FrS.refl (W := []) wf).extR e34).extR e43), u47, r45, (hf35.fresh (Nat.le_refl _)), (hb44.fresh e34.next), (Dj.symm (hb44.djn hm36.lt))⟩)
theorem c_stamp_Stamp_Set {H : AH} {b_s : Nat} {hd_s_ : Value} {fp_s_ : Fp} {s_ : List (Int × Int)} {s_2 : Int} {s_3 : Int} {i : Int} {v_ : Int} {r : Er × List (Int × Int) × Int}
    (wf : WF H) (h_s_ : Ow enc_u64_u32 2 H hd_s_ s_ fp_s_) (h_s : Row H b_s [hd_s_, .int .u32 s_2, i_ s_3]) (dj_b_s_fp_s_ : Dj [b_s] fp_s_) (hr : z_stamp_Stamp_Set s_ s_2 s_3 i v_ = some r) :
    ACalls Try.prog 144 #[pt_ b_s 0, i_ i, .int .u64 v_] H fun v H' => ∃ (v3 : Value) (f4 : Fp), v = v3 ∧ FrS ([b_s] ++ fp_s_) H H' ∧ Ev 122 235 H' v3 r.1 f4 ∧ Ow enc_u64_u32 2 H' hd_s_ r.2.1 fp_s_ ∧ Row H' b_s [hd_s_, .int .u32 s_2, i_ r.2.2] ∧ Inn [] H f4 := by
 refine acalls_of_body mixed Try.func144 rfl (Nat.le_of_ble_eq_true rfl) ?_
 unfold z_stamp_Stamp_Set at hr
 refine w_seqk fun _ k10 => g_' (q_ (.nilIface) (s_nil (k10 _ _ (w_seqk fun _ k11 => w_seqk fun _ k12 => g_' (q_ (pt_ b_s 0) (q_ (.bool false) (s_nil (k12 _ _ ?_))))))))
 refine w_cond false (by kernel_rfl) rfl (fun h => by cases h) (fun _ => ?_)
 refine w_skip (k11 _ _ (w_seqk fun _ k13 => w_seqk fun _ k14 => ?_))
 obtain ⟨o15, hx16, r17⟩ := bind_some hr
 refine w_mid (fun α H18 => Has α [(0, pt_ b_s 0), (1, i_ i), (2, .int .u64 v_), (20, .bool o15)] ∧ H = H18) (fun _ k20 => ?_) (fun α H18 hM => ?_)
 ·refine g_' (q_ (i_ i) ?_)
  refine s_b (i < 0) (by kernel_rfl) (fun h22 => ?_) (fun h22 => ?_)
  ·have r23 := ite_t h22 hx16
   refine q_ (.bool true) (n_' (n_' (n_' (n_' (n_' (n_' (n_' (q_ (.bool true) (s_nil ?_)))))))))
   obtain rfl := Option.some.inj r23
   exact k20 _ _ ⟨ha_, rfl⟩
  have r24 := ite_f h22 hx16
  refine q_ (.bool false) (q_ (i_ i) (q_ (pt_ b_s 0) (q_ (pt_ b_s 0) (q_ (pt_ b_s 0) ?_))))
  refine l_' (hd_s_) (aLoad Try.prog 189 (pt_ b_s 0) H) (h_s.ld (by kernel_rfl)) ?_
  refine l_' (i_ (s_.length : Int)) (aLen Try.prog 189 hd_s_ H) (h_s_.sq.lenb (by kernel_rfl)) ?_
  refine q_ (.bool (decide (i ≥ (s_.length : Int)))) (q_ (.bool (decide (i ≥ (s_.length : Int)))) (s_nil ?_))
  obtain rfl := Option.some.inj r24
  exact k20 _ _ ⟨ha_, rfl⟩
 obtain ⟨hh21, rfl⟩ := hM
 obtain ⟨β, rfl⟩ := has_ex hh21
 clear hh21
 refine k14 _ _ ?_
 refine w_cond (o15) (by kernel_rfl) rfl (fun h25 => ?_) (fun h25 => ?_)
 ·have r26 := ite_t h25 r17
  refine w_seqk fun _ k27 => g_' (q_ (.iface 122 (i_ 7)) (q_ (.iface 122 (i_ 7)) (s_nil (k27 _ _ ?_))))
  refine w_ret (th_ret ?_)
  refine b_ret (fn := Try.f144) (vs := [.iface 122 (i_ 7)]) (aRes_tmp (by kernel_rfl) (rfl)) ?_
  obtain rfl := Option.some.inj r26
  exact ⟨(.iface 122 (i_ 7)), [], rfl, (FrS.refl (W := ([b_s] ++ fp_s_)) wf), Ev.no, h_s_, h_s, Inn.nil⟩
 have r28 := ite_bf h25 r17
 refine w_skip (k13 _ _ (w_seqk fun _ k29 => w_seqk fun _ k30 => ?_))
 refine w_draw [0, 1, 2, 3, 4, 5, 6, 7, 8, 9, 10, 11, 12] (by kernel_rfl) ?_
 refine e_' (pt_ b_s 0) (e_' (pt_ b_s 0) (e_' (pt_ b_s 0) ?_))
 refine m_' (hd_s_) (aLoad Try.prog 189 (pt_ b_s 0) H) (h_s.ld (by kernel_rfl)) ?_
 refine e_' (i_ i) ?_
 obtain ⟨g31, r32⟩ := G_some r28
 refine m_' (elp hd_s_ 2 i.toNat 0) (aIndexAddr Try.prog 189 hd_s_ (i_ i)) (h_s_.sq.idxb (by kernel_rfl) g31.1 g31.2) ?_
 refine m_' (elp hd_s_ 2 i.toNat 1) (aFieldAddr Try.prog 193 (elp hd_s_ 2 i.toNat 0) 1) (Sq.fldq (d := 1) h_s_.sq g31.1 g31.2 (by kernel_rfl)) ?_
 refine m_' (.int .u32 ((gt s_ i).2)) (aLoad Try.prog 90 (elp hd_s_ 2 i.toNat 1) H) (h_s_.sq.ld g31.1 g31.2 (by kernel_rfl)) ?_
 refine e_' (pt_ b_s 0) (e_' (pt_ b_s 0) (e_' (pt_ b_s 1) ?_))
 refine m_' (.int .u32 s_2) (aLoad Try.prog 90 (pt_ b_s 1) H) (h_s.ld (by kernel_rfl)) ?_
 refine e_' (.bool (!decide (((gt s_ i).2) = s_2))) ?_
 refine d_nil ?_
 refine k30 _ _ ?_
 obtain ⟨o33, hx34, r35⟩ := bind_some r32
 refine w_mid (fun α H36 => Has α [(0, pt_ b_s 0), (1, i_ i), (2, .int .u64 v_)] ∧ FrS [b_s] H H36 ∧ Row H36 b_s [hd_s_, .int .u32 s_2, i_ o33]) (fun _ k40 => ?_) (fun α H36 hM => ?_)
 ·refine w_condn (((gt s_ i).2) = s_2) (by kernel_rfl) rfl (fun h42 => ?_) (fun h42 => ?_)
  ·have r43 := ite_f h42 hx34
   refine g_' (q_ (pt_ b_s 0) (q_ (pt_ b_s 0) (q_ (pt_ b_s 2) ?_)))
   refine l_' (i_ s_3) (aLoad Try.prog 3 (pt_ b_s 2) H) (h_s.ld (by kernel_rfl)) ?_
   obtain ⟨g44, r45⟩ := G_some r43
   refine w_' (s_3 + 1) (wrap64 g44) ?_
   refine q_ (pt_ b_s 0) (q_ (pt_ b_s 2) ?_)
   obtain ⟨H46, q47, e48, r49⟩ := Row.store (P := Try.prog) (t := 3) (p := 2) wf h_s (i_ (s_3 + 1)) [i_ (s_3 + 1)] (by kernel_rfl) (by kernel_rfl) (one_cons (rfl) (one_nil)) (Nat.le_of_ble_eq_true (by kernel_rfl)) [hd_s_, .int .u32 s_2, i_ (s_3 + 1)] (by kernel_rfl)
   refine s_ek (undef) (by kernel_rfl) (map_ok q47) ?_
   refine s_nil ?_
   obtain rfl := Option.some.inj r45
   exact k40 _ _ ⟨ha_, (FrS.step wf (FrS.refl (W := [b_s]) wf) e48 Inn.refl'), r49⟩
  have r50 := ite_t h42 hx34
  refine w_skip ?_
  obtain rfl := Option.some.inj r50
  exact k40 _ _ ⟨ha_, (FrS.refl (W := [b_s]) wf), h_s⟩
 obtain ⟨hh41, e37, m39⟩ := hM
 obtain ⟨β, rfl⟩ := has_ex hh41
 clear hh41
 refine k29 _ _ (w_seqk fun _ k51 => ?_)
 refine w_draw [0, 1, 2, 3, 4, 5, 6, 7, 8, 9, 10, 11, 12] (by kernel_rfl) ?_
 refine e_' (pt_ b_s 0) (e_' (pt_ b_s 0) (e_' (pt_ b_s 0) ?_))
 refine m_' (hd_s_) (aLoad Try.prog 189 (pt_ b_s 0) H36) (m39.ld (by kernel_rfl)) ?_
 refine e_' (i_ i) (e_' (.int .u64 v_) (e_' (pt_ b_s 0) (e_' (pt_ b_s 0) (e_' (pt_ b_s 1) ?_))))
 refine m_' (.int .u32 s_2) (aLoad Try.prog 90 (pt_ b_s 1) H36) (m39.ld (by kernel_rfl)) ?_
 refine e_' (.agg #[.int .u64 v_, .int .u32 s_2]) ?_
 have u52 := (h_s_.fr e37 dj_b_s_fp_s_)
 refine m_' (elp hd_s_ 2 i.toNat 0) (aIndexAddr Try.prog 189 hd_s_ (i_ i)) (u52.sq.idxb (by kernel_rfl) g31.1 g31.2) ?_
 obtain ⟨H53, q54, e55, hm56⟩ := Ow.store (P := Try.prog) (t := 193) (off := 0) e37.wf u52 g31.1 g31.2 (.agg #[.int .u64 v_, .int .u32 s_2]) [.int .u64 v_, .int .u32 s_2] (by kernel_rfl) (by kernel_rfl) rfl (v_, s_2) (Nat.le_of_ble_eq_true rfl) (by kernel_rfl)
 refine d_ek (undef) (by kernel_rfl) (map_ok q54) (st_nil) ?_
 refine d_nil ?_
 refine k51 _ _ (w_seqk fun _ k57 => g_' (q_ (.nilIface) (s_nil (k57 _ _ ?_))))
 refine w_ret ?_
 refine b_ret (fn := Try.f144) (vs := [.nilIface]) (aRes_tmp (by kernel_rfl) (rfl)) ?_
 have u58 := (m39.frS e55 (Dj.symm dj_b_s_fp_s_))
 obtain rfl := Option.some.inj r35
 exact ⟨(.nilIface), [], rfl, (FrS.step wf (FrS.step wf (FrS.refl (W := ([b_s] ++ fp_s_)) wf) e37 Inn.left) e55 (Inn.right Inn.refl')), Ev.nil, hm56, u58, Inn.nil⟩
theorem c_heap_Heap_check {H : AH} {b_h : Nat} {hd_h_ : Value} {fp_h_ : Fp} {hd_h_2 : Value} {fp_h_2 : Fp} {h_ : List (Int × Int)} {h_2 : List (Int)} {id_ : Int} {r : Er}
    (wf : WF H) (h_h_ : Sq enc_u64_u32 2 H hd_h_ h_ fp_h_) (h_h_2 : Sq (encI .i64) 1 H hd_h_2 h_2 fp_h_2) (h_h : Row H b_h [hd_h_, hd_h_2]) (hr : z_heap_Heap_check h_ h_2 id_ = some r) :
    ACalls Try.prog 163 #[pt_ b_h 0, .int .u32 id_] H fun v H' => ∃ (v3 : Value) (f4 : Fp), v = v3 ∧ H = H' ∧ Ev 122 235 H' v3 r f4 ∧ Inn [] H f4 := by
 refine acalls_of_body mixed Try.func163 rfl (Nat.le_of_ble_eq_true rfl) ?_
 unfold z_heap_Heap_check at hr
 refine w_seqk fun _ k6 => g_' (q_ (.nilIface) (s_nil (k6 _ _ (w_seqk fun _ k7 => w_seqk fun _ k8 => g_' (q_ (pt_ b_h 0) (q_ (.bool false) (s_nil (k8 _ _ ?_))))))))
 refine w_cond false (by kernel_rfl) rfl (fun h => by cases h) (fun _ => ?_)
 refine w_skip (k7 _ _ (w_seqk fun _ k9 => w_seqk fun _ k10 => g_' (q_ (.int .u32 id_) ?_)))
 obtain ⟨g11, r12⟩ := G_some hr
 refine w_' id_ (wrap64 g11) ?_
 refine q_ (pt_ b_h 0) (q_ (pt_ b_h 0) (q_ (pt_ b_h 1) ?_))
 refine l_' (hd_h_2) (aLoad Try.prog 22 (pt_ b_h 1) H) (h_h.ld (by kernel_rfl)) ?_
 refine l_' (i_ (h_2.length : Int)) (aLen Try.prog 22 hd_h_2 H) (h_h_2.lenb (by kernel_rfl)) ?_
 refine q_ (.bool (decide (id_ ≥ (h_2.length : Int)))) (s_nil (k10 _ _ ?_))
 refine w_condp (id_ ≥ (h_2.length : Int)) (by kernel_rfl) rfl (fun h13 => ?_) (fun h13 => ?_)
 ·have r14 := ite_t h13 r12
  refine w_seqk fun _ k15 => g_' (q_ (.iface 122 (i_ 7)) (q_ (.iface 122 (i_ 7)) (s_nil (k15 _ _ ?_))))
  refine w_ret (th_ret ?_)
  refine b_ret (fn := Try.f163) (vs := [.iface 122 (i_ 7)]) (aRes_tmp (by kernel_rfl) (rfl)) ?_
  obtain rfl := Option.some.inj r14
  exact ⟨(.iface 122 (i_ 7)), [], rfl, rfl, Ev.no, Inn.nil⟩
 have r16 := ite_f h13 r12
 refine w_skip (k9 _ _ (w_seqk fun _ k17 => g_' (q_ (.nilIface) (s_nil (k17 _ _ ?_)))))
 refine w_ret ?_
 refine b_ret (fn := Try.f163) (vs := [.nilIface]) (aRes_tmp (by kernel_rfl) (rfl)) ?_
 obtain rfl := Option.some.inj r16
 exact ⟨(.nilIface), [], rfl, rfl, Ev.nil, Inn.nil⟩
theorem c_heap_Heap_put {H : AH} {b_h : Nat} {hd_h_ : Value} {fp_h_ : Fp} {hd_h_2 : Value} {fp_h_2 : Fp} {h_ : List (Int × Int)} {h_2 : List (Int)} {i : Int} {key : Int} {id_ : Int} {r : List (Int × Int) × List (Int)}
    (wf : WF H) (h_h_ : Ow enc_u64_u32 2 H hd_h_ h_ fp_h_) (h_h_2 : Ow (encI .i64) 1 H hd_h_2 h_2 fp_h_2) (h_h : Row H b_h [hd_h_, hd_h_2]) (dj_fp_h__b_h : Dj fp_h_ [b_h]) (dj_fp_h__fp_h_2 : Dj fp_h_ fp_h_2) (hr : z_heap_Heap_put h_ h_2 i key id_ = some r) :
    ACalls Try.prog 164 #[pt_ b_h 0, i_ i, .agg #[.int .u64 key, .int .u32 id_]] H fun v H' => v = .tuple #[] ∧ FrS (fp_h_ ++ fp_h_2) H H' ∧ Ow enc_u64_u32 2 H' hd_h_ r.1 fp_h_ ∧ Ow (encI .i64) 1 H' hd_h_2 r.2 fp_h_2 := by
 refine acalls_of_body mixed Try.func164 rfl (Nat.le_of_ble_eq_true rfl) ?_
 unfold z_heap_Heap_put at hr
 refine w_seqk fun _ k5 => g_' ?_
 refine s_rwl wf [.int .u64 key, .int .u32 id_] (one_cons (rfl) (one_cons (rfl) (one_nil))) (by kernel_rfl) fun b6 H7 e8 hb9 r10 => ?_
 refine s_nil (k5 _ _ (w_seqk fun _ k12 => ?_))
 refine w_draw [0, 1, 2, 3, 4, 5, 6, 7] (by kernel_rfl) ?_
 refine e_' (pt_ b_h 0) (e_' (pt_ b_h 0) (e_' (pt_ b_h 0) ?_))
 have u13 := (h_h.ext e8)
 refine m_' (hd_h_) (aLoad Try.prog 227 (pt_ b_h 0) H7) (u13.ld (by kernel_rfl)) ?_
 refine e_' (i_ i) ?_
 refine m_' (.agg #[.int .u64 key, .int .u32 id_]) (aLoad Try.prog 233 (pt_ b6 0) H7) (r10.ld (by kernel_rfl)) ?_
 obtain ⟨g14, r15⟩ := G_some hr
 have u16 := (h_h_.ext e8)
 refine m_' (elp hd_h_ 2 i.toNat 0) (aIndexAddr Try.prog 227 hd_h_ (i_ i)) (u16.sq.idxb (by kernel_rfl) g14.1 g14.2) ?_
 obtain ⟨H17, q18, e19, hm20⟩ := Ow.store (P := Try.prog) (t := 233) (off := 0) e8.wf u16 g14.1 g14.2 (.agg #[.int .u64 key, .int .u32 id_]) [.int .u64 key, .int .u32 id_] (by kernel_rfl) (by kernel_rfl) rfl (key, id_) (Nat.le_of_ble_eq_true rfl) (by kernel_rfl)
 refine d_ek (undef) (by kernel_rfl) (map_ok q18) (st_nil) ?_
 refine d_nil ?_
 refine k12 _ _ ?_
 refine w_draw [0, 1, 2, 3, 4, 5, 6, 7, 8, 9] (by kernel_rfl) ?_
 refine e_' (pt_ b_h 0) (e_' (pt_ b_h 0) (e_' (pt_ b_h 1) ?_))
 have u21 := (u13.frS e19 dj_fp_h__b_h)
 refine m_' (hd_h_2) (aLoad Try.prog 22 (pt_ b_h 1) H17) (u21.ld (by kernel_rfl)) ?_
 refine e_' (pt_ b6 1) ?_
 have u22 := (r10.frS e19 (Dj.symm (hb9.djn h_h_.lt)))
 refine m_' (.int .u32 id_) (aLoad Try.prog 90 (pt_ b6 1) H17) (u22.ld (by kernel_rfl)) ?_
 refine e_' (i_ i) ?_
 obtain ⟨g23, r24⟩ := G_some r15
 refine d_w ((i + 1)) (k := .i64) (x := (i + 1)) (by kernel_rfl) (wrap64 (by have := g23; omega)) ?_
 obtain ⟨g25, r26⟩ := G_some r24
 have u27 := ((h_h_2.ext e8).fr e19 dj_fp_h__fp_h_2)
 refine m_' (elp hd_h_2 1 id_.toNat 0) (aIndexAddr Try.prog 22 hd_h_2 (.int .u32 id_)) (u27.sq.idxb (by kernel_rfl) g25.1 g25.2) ?_
 obtain ⟨H28, q29, e30, hm31⟩ := Ow.store (P := Try.prog) (t := 3) (off := 0) e19.wf u27 g25.1 g25.2 (i_ (i + 1)) [i_ (i + 1)] (by kernel_rfl) (by kernel_rfl) rfl (i + 1) (Nat.le_of_ble_eq_true rfl) (by kernel_rfl)
 refine d_ek (undef) (by kernel_rfl) (map_ok q29) (st_nil) ?_
 refine d_nil ?_
 refine b_nrm (fn := Try.f164) (vs := []) (rfl) ?_
 have u32 := (hm20.fr e30 (Dj.symm dj_fp_h__fp_h_2))
 obtain rfl := Option.some.inj r26
 exact ⟨rfl, (FrS.step wf (FrS.step wf ((FrS.refl (W := (fp_h_ ++ fp_h_2)) wf).extR e8) e19 Inn.left) e30 (Inn.right Inn.refl')), u32, hm31⟩
theorem c_heap_item_less {H : AH} {key : Int} {id_ : Int} {key_ : Int} {id_2 : Int} {r : Bool}
    (wf : WF H) (hr : z_heap_item_less key id_ key_ id_2 = some r) :
    ACalls Try.prog 173 #[.agg #[.int .u64 key, .int .u32 id_], .agg #[.int .u64 key_, .int .u32 id_2]] H fun v H' => v = .bool r ∧ FrS [] H H' := by
 refine acalls_of_body mixed Try.func173 rfl (Nat.le_of_ble_eq_true rfl) ?_
 unfold z_heap_item_less at hr
 refine w_seqk fun _ k1 => g_' ?_
 refine s_rwl wf [.int .u64 key, .int .u32 id_] (one_cons (rfl) (one_cons (rfl) (one_nil))) (by kernel_rfl) fun b2 H3 e4 hb5 r6 => ?_
 refine s_rwl e4.wf [.int .u64 key_, .int .u32 id_2] (one_cons (rfl) (one_cons (rfl) (one_nil))) (by kernel_rfl) fun b8 H9 e10 hb11 r12 => ?_
 refine q_ (.bool false) (s_nil (k1 _ _ (w_seqk fun _ k14 => g_' (q_ (pt_ b2 0) ?_))))
 have u15 := (r6.ext e10)
 refine l_' (.int .u64 key) (aLoad Try.prog 42 (pt_ b2 0) H9) (u15.ld (by kernel_rfl)) ?_
 refine q_ (pt_ b8 0) ?_
 refine l_' (.int .u64 key_) (aLoad Try.prog 42 (pt_ b8 0) H9) (r12.ld (by kernel_rfl)) ?_
 refine s_b (key < key_) (by kernel_rfl) (fun h16 => ?_) (fun h16 => ?_)
 ·have r17 := ite_t h16 hr
  refine q_ (.bool true) (n_' (n_' (n_' (n_' (n_' (n_' (n_' (n_' (n_' (n_' (n_' (n_' (q_ (.bool true) (q_ (.bool true) (s_nil (k14 _ _ ?_))))))))))))))))
  refine w_ret ?_
  refine b_ret (fn := Try.f173) (vs := [.bool true]) (aRes_tmp (by kernel_rfl) (rfl)) ?_
  obtain rfl := Option.some.inj r17
  exact ⟨rfl, (((FrS.refl (W := []) wf).extR e4).extR e10)⟩
 have r18 := ite_f h16 hr
 refine q_ (.bool false) (q_ (pt_ b2 0) ?_)
 refine l_' (.int .u64 key) (aLoad Try.prog 42 (pt_ b2 0) H9) (u15.ld (by kernel_rfl)) ?_
 refine q_ (pt_ b8 0) ?_
 refine l_' (.int .u64 key_) (aLoad Try.prog 42 (pt_ b8 0) H9) (r12.ld (by kernel_rfl)) ?_
 refine s_b (key = key_) (by kernel_rfl) (fun h19 => ?_) (fun h19 => ?_)
 ·have r20 := ite_t h19 r18
  refine q_ (.bool true) (q_ (pt_ b2 1) ?_)
  refine l_' (.int .u32 id_) (aLoad Try.prog 90 (pt_ b2 1) H9) (u15.ld (by kernel_rfl)) ?_
  refine q_ (pt_ b8 1) ?_
  refine l_' (.int .u32 id_2) (aLoad Try.prog 90 (pt_ b8 1) H9) (r12.ld (by kernel_rfl)) ?_
  refine q_ (.bool (decide (id_ < id_2))) (q_ (.bool (decide (id_ < id_2))) (q_ (.bool (decide (id_ < id_2))) (q_ (.bool (decide (id_ < id_2))) (s_nil (k14 _ _ ?_)))))
  refine w_ret ?_
  refine b_ret (fn := Try.f173) (vs := [.bool (decide (id_ < id_2))]) (aRes_tmp (by kernel_rfl) (rfl)) ?_
  obtain rfl := Option.some.inj r20
  exact ⟨rfl, (((FrS.refl (W := []) wf).extR e4).extR e10)⟩
 have r21 := ite_f h19 r18
 refine q_ (.bool false) (n_' (n_' (n_' (n_' (n_' (q_ (.bool false) (q_ (.bool false) (q_ (.bool false) (s_nil (k14 _ _ ?_))))))))))
 refine w_ret ?_
 refine b_ret (fn := Try.f173) (vs := [.bool false]) (aRes_tmp (by kernel_rfl) (rfl)) ?_
 obtain rfl := Option.some.inj r21
 exact ⟨rfl, (((FrS.refl (W := []) wf).extR e4).extR e10)⟩
end Go.Vd

/-! (KSy2) -/

set_option maxRecDepth 100000
set_option maxHeartbeats 4000000
set_option linter.unusedVariables false
namespace Go.Vd
open Go.Proofs
attribute [local irreducible] wpSeq wpOrd aWp
theorem c_heap_Heap_up {H : AH} {b_h : Nat} {hd_h_ : Value} {fp_h_ : Fp} {hd_h_2 : Value} {fp_h_2 : Fp} {h_ : List (Int × Int)} {h_2 : List (Int)} {i : Int} {r : List (Int × Int) × List (Int)}
    (wf : WF H) (h_h_ : Ow enc_u64_u32 2 H hd_h_ h_ fp_h_) (h_h_2 : Ow (encI .i64) 1 H hd_h_2 h_2 fp_h_2) (h_h : Row H b_h [hd_h_, hd_h_2]) (dj_fp_h__b_h : Dj fp_h_ [b_h]) (dj_fp_h__fp_h_2 : Dj fp_h_ fp_h_2) (dj_fp_h_2_b_h : Dj fp_h_2 [b_h]) (hr : z_heap_Heap_up h_ h_2 i = some r) :
    ACalls Try.prog 165 #[pt_ b_h 0, i_ i] H fun v H' => v = .tuple #[] ∧ FrS (fp_h_ ++ fp_h_2) H H' ∧ Ow enc_u64_u32 2 H' hd_h_ r.1 fp_h_ ∧ Ow (encI .i64) 1 H' hd_h_2 r.2 fp_h_2 := by
 refine acalls_of_body mixed Try.func165 rfl (Nat.le_of_ble_eq_true rfl) ?_
 unfold z_heap_Heap_up at hr
 refine w_seqk fun _ k5 => g_' (q_ (pt_ b_h 0) (q_ (pt_ b_h 0) (q_ (pt_ b_h 0) ?_)))
 refine l_' (hd_h_) (aLoad Try.prog 227 (pt_ b_h 0) H) (h_h.ld (by kernel_rfl)) ?_
 refine q_ (i_ i) ?_
 obtain ⟨g6, r7⟩ := G_some hr
 refine l_' (elp hd_h_ 2 i.toNat 0) (aIndexAddr Try.prog 227 hd_h_ (i_ i)) (h_h_.sq.idxb (by kernel_rfl) g6.1 g6.2) ?_
 refine l_' (.agg #[.int .u64 ((gt h_ i).1), .int .u32 ((gt h_ i).2)]) (aLoad Try.prog 233 (elp hd_h_ 2 i.toNat 0) H) (h_h_.sq.ld g6.1 g6.2 (by kernel_rfl)) ?_
 refine s_rwk wf [.int .u64 0, .int .u32 0] (by kernel_rfl) fun b8 H9 e10 hb11 r12 => ?_
 obtain ⟨H14, q15, e16, r17⟩ := Row.store (P := Try.prog) (t := 233) (p := 0) e10.wf r12 (.agg #[.int .u64 ((gt h_ i).1), .int .u32 ((gt h_ i).2)]) [.int .u64 ((gt h_ i).1), .int .u32 ((gt h_ i).2)] (by kernel_rfl) (by kernel_rfl) (one_cons (rfl) (one_cons (rfl) (one_nil))) (Nat.le_of_ble_eq_true (by kernel_rfl)) [.int .u64 ((gt h_ i).1), .int .u32 ((gt h_ i).2)] (by kernel_rfl)
 refine s_ek (undef) (by kernel_rfl) (map_ok q15) ?_
 refine s_nil (k5 _ _ (w_seqk fun _ k18 => ?_))
 obtain ⟨o19, hx20, r21⟩ := bind_some r7
 refine w_mid (fun α H22 => Has α [(0, pt_ b_h 0), (1, i_ o19.2.2), (4, pt_ b8 0)] ∧ FrS (fp_h_ ++ fp_h_2) H14 H22 ∧ Ow enc_u64_u32 2 H22 hd_h_ o19.1 fp_h_ ∧ Ow (encI .i64) 1 H22 hd_h_2 o19.2.1 fp_h_2) (fun _ k28 => ?_) (fun α H22 hM => ?_)
 ·refine w_block ?_
  obtain ⟨n30, hn31⟩ := loopO_iff.1 hx20
  have u44 := ((h_h_.ext e10).fr e16 (hb11.djn h_h_.lt))
  have u45 := ((h_h_2.ext e10).fr e16 (hb11.djn h_h_2.lt))
  refine w_loopn (fun n α H32 => ∃ (h0 : List (Int × Int)), ∃ (h1 : List (Int)), ∃ (i2 : Int), iterO (fun zz_ => z_heap_Heap_up_l0 h_ i zz_.1 zz_.2.1 zz_.2.2) n (h0, h1, i2) = some o19 ∧ Has α [(0, pt_ b_h 0), (1, i_ i2), (4, pt_ b8 0)] ∧ FrS (fp_h_ ++ fp_h_2) H14 H32 ∧ Ow enc_u64_u32 2 H32 hd_h_ h0 fp_h_ ∧ Ow (encI .i64) 1 H32 hd_h_2 h1 fp_h_2) n30 ⟨h_, h_2, i, hn31, ha_, (FrS.refl (W := (fp_h_ ++ fp_h_2)) e16.wf), u44, u45⟩ ?_
  rintro n30 α H32 ⟨h0, h1, i2, hi39, hh38, e33, m35, m37⟩ K46 k46
  obtain ⟨n40, z41, rfl, hz42, hn43⟩ := iter_succ hi39
  obtain ⟨β, rfl⟩ := has_ex hh38
  clear hh38
  replace hz42 : z_heap_Heap_up_l0 h_ i h0 h1 i2 = some z41 := hz42
  unfold z_heap_Heap_up_l0 at hz42
  refine w_seqk fun _ k47 => w_seqk fun _ k48 => g_' (q_ (i_ i2) (q_ (.bool (decide (i2 > 0))) (s_nil (k48 _ _ ?_))))
  refine w_condp (i2 > 0) (by kernel_rfl) rfl (fun h49 => ?_) (fun h49 => ?_)
  ·have r50 := ite_t h49 hz42
   refine w_skip (k47 _ _ (w_block (w_seqk fun _ k51 => g_' (q_ (i_ i2) ?_))))
   obtain ⟨g52, r53⟩ := G_some r50
   refine w_' (i2 - 1) (wrap64 g52) ?_
   obtain ⟨g54, r55⟩ := G_some r53
   refine w_' (Int.tdiv (i2 - 1) 4) (wrap64 g54) ?_
   refine q_ (i_ (Int.tdiv (i2 - 1) 4)) (s_nil (k51 _ _ (w_seqk fun _ k56 => w_seqk fun _ k57 => ?_)))
   refine w_draw [0, 1, 2, 3, 4, 5, 6, 7, 8, 9] (by kernel_rfl) ?_
   have u58 := (r17.frS e33 (Dj.app (Dj.symm (hb11.djn h_h_.lt)) (Dj.symm (hb11.djn h_h_2.lt))))
   refine m_' (.agg #[.int .u64 ((gt h_ i).1), .int .u32 ((gt h_ i).2)]) (aLoad Try.prog 233 (pt_ b8 0) H32) (u58.ld (by kernel_rfl)) ?_
   refine e_' (pt_ b_h 0) (e_' (pt_ b_h 0) (e_' (pt_ b_h 0) ?_))
   have u59 := (((h_h.ext e10).frS e16 (hb11.djn h_h.ltF)).frS e33 (Dj.app dj_fp_h__b_h dj_fp_h_2_b_h))
   refine m_' (hd_h_) (aLoad Try.prog 227 (pt_ b_h 0) H32) (u59.ld (by kernel_rfl)) ?_
   refine e_' (i_ (Int.tdiv (i2 - 1) 4)) ?_
   obtain ⟨g60, r61⟩ := G_some r55
   refine m_' (elp hd_h_ 2 (Int.tdiv (i2 - 1) 4).toNat 0) (aIndexAddr Try.prog 227 hd_h_ (i_ (Int.tdiv (i2 - 1) 4))) (m35.sq.idxb (by kernel_rfl) g60.1 g60.2) ?_
   refine m_' (.agg #[.int .u64 ((gt h0 (Int.tdiv (i2 - 1) 4)).1), .int .u32 ((gt h0 (Int.tdiv (i2 - 1) 4)).2)]) (aLoad Try.prog 233 (elp hd_h_ 2 (Int.tdiv (i2 - 1) 4).toNat 0) H32) (m35.sq.ld g60.1 g60.2 (by kernel_rfl)) ?_
   obtain ⟨y62, hy63, r64⟩ := bind_some r61
   refine d_ck 173 #[.agg #[.int .u64 ((gt h_ i).1), .int .u32 ((gt h_ i).2)], .agg #[.int .u64 ((gt h0 (Int.tdiv (i2 - 1) 4)).1), .int .u32 ((gt h0 (Int.tdiv (i2 - 1) 4)).2)]] (by kernel_rfl) (c_heap_item_less e33.wf hy63) ?_
   rintro _ H65 ⟨rfl, e66⟩
   refine ⟨st_nil, ?_⟩
   refine e_' (.bool (!y62)) ?_
   refine d_nil ?_
   refine k57 _ _ ?_
   refine w_cond ((!y62)) (by kernel_rfl) rfl (fun h67 => ?_) (fun h67 => ?_)
   ·have r68 := ite_t h67 r64
    refine w_exit (th_exit (bl_ne (by decide) (th_exit (bl_eq ?_))))
    have u69 := (m35.fr e66 Dj.nil_l)
    have u70 := (m37.fr e66 Dj.nil_l)
    obtain rfl := Option.some.inj r68
    obtain rfl := it_inr hn43
    exact k28 _ _ ⟨ha_, (FrS.step e16.wf (FrS.step e16.wf (FrS.refl (W := (fp_h_ ++ fp_h_2)) e16.wf) e33 (Inn.app Inn.left (Inn.right Inn.refl'))) e66 Inn.nil), u69, u70⟩
   have r71 := ite_bf h67 r64
   refine w_skip (k56 _ _ (w_seqk fun _ k72 => g_' (q_ (pt_ b_h 0) (q_ (i_ i2) (q_ (pt_ b_h 0) (q_ (pt_ b_h 0) (q_ (pt_ b_h 0) ?_)))))))
   have u73 := (u59.frS e66 Dj.nil_l)
   refine l_' (hd_h_) (aLoad Try.prog 227 (pt_ b_h 0) H65) (u73.ld (by kernel_rfl)) ?_
   refine q_ (i_ (Int.tdiv (i2 - 1) 4)) ?_
   have u74 := (m35.fr e66 Dj.nil_l)
   refine l_' (elp hd_h_ 2 (Int.tdiv (i2 - 1) 4).toNat 0) (aIndexAddr Try.prog 227 hd_h_ (i_ (Int.tdiv (i2 - 1) 4))) (u74.sq.idxb (by kernel_rfl) g60.1 g60.2) ?_
   refine l_' (.agg #[.int .u64 ((gt h0 (Int.tdiv (i2 - 1) 4)).1), .int .u32 ((gt h0 (Int.tdiv (i2 - 1) 4)).2)]) (aLoad Try.prog 233 (elp hd_h_ 2 (Int.tdiv (i2 - 1) 4).toNat 0) H65) (u74.sq.ld g60.1 g60.2 (by kernel_rfl)) ?_
   have u75 := (m37.fr e66 Dj.nil_l)
   obtain ⟨y76, hy77, r78⟩ := bind_some r71
   refine s_ck 164 #[pt_ b_h 0, i_ i2, .agg #[.int .u64 ((gt h0 (Int.tdiv (i2 - 1) 4)).1), .int .u32 ((gt h0 (Int.tdiv (i2 - 1) 4)).2)]] (by kernel_rfl) (c_heap_Heap_put e66.wf u74 u75 u73 dj_fp_h__b_h dj_fp_h__fp_h_2 hy77) ?_
   rintro _ H79 ⟨rfl, e80, m81, m82⟩
   refine s_nil (k72 _ _ (g_' (q_ (i_ (Int.tdiv (i2 - 1) 4)) (q_ (i_ (Int.tdiv (i2 - 1) 4)) (s_nil ?_)))))
   obtain rfl := Option.some.inj r78
   exact k46 n40 _ _ (Nat.lt_succ_self _) ⟨y76.1, y76.2, (Int.tdiv (i2 - 1) 4), hn43, ha_, (FrS.step e16.wf (FrS.step e16.wf (FrS.step e16.wf (FrS.refl (W := (fp_h_ ++ fp_h_2)) e16.wf) e33 (Inn.app Inn.left (Inn.right Inn.refl'))) e66 Inn.nil) e80 (Inn.app Inn.left (Inn.right Inn.refl'))), m81, m82⟩
  have r83 := ite_f h49 hz42
  refine w_exit (th_exit (th_exit (bl_eq ?_)))
  obtain rfl := Option.some.inj r83
  obtain rfl := it_inr hn43
  exact k28 _ _ ⟨ha_, (FrS.step e16.wf (FrS.refl (W := (fp_h_ ++ fp_h_2)) e16.wf) e33 (Inn.app Inn.left (Inn.right Inn.refl'))), m35, m37⟩
 obtain ⟨hh29, e23, m25, m27⟩ := hM
 obtain ⟨β, rfl⟩ := has_ex hh29
 clear hh29
 refine k18 _ _ (g_' (q_ (pt_ b_h 0) (q_ (i_ o19.2.2) ?_)))
 have u84 := (r17.frS e23 (Dj.app (Dj.symm (hb11.djn h_h_.lt)) (Dj.symm (hb11.djn h_h_2.lt))))
 refine l_' (.agg #[.int .u64 ((gt h_ i).1), .int .u32 ((gt h_ i).2)]) (aLoad Try.prog 233 (pt_ b8 0) H22) (u84.ld (by kernel_rfl)) ?_
 have u85 := (((h_h.ext e10).frS e16 (hb11.djn h_h.ltF)).frS e23 (Dj.app dj_fp_h__b_h dj_fp_h_2_b_h))
 obtain ⟨y86, hy87, r88⟩ := bind_some r21
 refine s_ck 164 #[pt_ b_h 0, i_ o19.2.2, .agg #[.int .u64 ((gt h_ i).1), .int .u32 ((gt h_ i).2)]] (by kernel_rfl) (c_heap_Heap_put e23.wf m25 m27 u85 dj_fp_h__b_h dj_fp_h__fp_h_2 hy87) ?_
 rintro _ H89 ⟨rfl, e90, m91, m92⟩
 refine s_nil ?_
 refine b_nrm (fn := Try.f165) (vs := []) (rfl) ?_
 obtain rfl := Option.some.inj r88
 exact ⟨rfl, (FrS.step wf (FrS.step wf (FrS.step wf ((FrS.refl (W := (fp_h_ ++ fp_h_2)) wf).extR e10) e16 (hb11.fresh (Nat.le_refl _))) e23 (Inn.app Inn.left (Inn.right Inn.refl'))) e90 (Inn.app Inn.left (Inn.right Inn.refl'))), m91, m92⟩
theorem c_heap_Heap_down {H : AH} {b_h : Nat} {hd_h_ : Value} {fp_h_ : Fp} {hd_h_2 : Value} {fp_h_2 : Fp} {h_ : List (Int × Int)} {h_2 : List (Int)} {i : Int} {r : List (Int × Int) × List (Int)}
    (wf : WF H) (h_h_ : Ow enc_u64_u32 2 H hd_h_ h_ fp_h_) (h_h_2 : Ow (encI .i64) 1 H hd_h_2 h_2 fp_h_2) (h_h : Row H b_h [hd_h_, hd_h_2]) (dj_fp_h__b_h : Dj fp_h_ [b_h]) (dj_fp_h__fp_h_2 : Dj fp_h_ fp_h_2) (dj_fp_h_2_b_h : Dj fp_h_2 [b_h]) (hr : z_heap_Heap_down h_ h_2 i = some r) :
    ACalls Try.prog 166 #[pt_ b_h 0, i_ i] H fun v H' => v = .tuple #[] ∧ FrS (fp_h_ ++ fp_h_2) H H' ∧ Ow enc_u64_u32 2 H' hd_h_ r.1 fp_h_ ∧ Ow (encI .i64) 1 H' hd_h_2 r.2 fp_h_2 := by
 refine acalls_of_body mixed Try.func166 rfl (Nat.le_of_ble_eq_true rfl) ?_
 unfold z_heap_Heap_down at hr
 refine w_seqk fun _ k5 => g_' (q_ (pt_ b_h 0) (q_ (pt_ b_h 0) (q_ (pt_ b_h 0) ?_)))
 refine l_' (hd_h_) (aLoad Try.prog 227 (pt_ b_h 0) H) (h_h.ld (by kernel_rfl)) ?_
 refine q_ (i_ i) ?_
 obtain ⟨g6, r7⟩ := G_some hr
 refine l_' (elp hd_h_ 2 i.toNat 0) (aIndexAddr Try.prog 227 hd_h_ (i_ i)) (h_h_.sq.idxb (by kernel_rfl) g6.1 g6.2) ?_
 refine l_' (.agg #[.int .u64 ((gt h_ i).1), .int .u32 ((gt h_ i).2)]) (aLoad Try.prog 233 (elp hd_h_ 2 i.toNat 0) H) (h_h_.sq.ld g6.1 g6.2 (by kernel_rfl)) ?_
 refine s_rwk wf [.int .u64 0, .int .u32 0] (by kernel_rfl) fun b8 H9 e10 hb11 r12 => ?_
 obtain ⟨H14, q15, e16, r17⟩ := Row.store (P := Try.prog) (t := 233) (p := 0) e10.wf r12 (.agg #[.int .u64 ((gt h_ i).1), .int .u32 ((gt h_ i).2)]) [.int .u64 ((gt h_ i).1), .int .u32 ((gt h_ i).2)] (by kernel_rfl) (by kernel_rfl) (one_cons (rfl) (one_cons (rfl) (one_nil))) (Nat.le_of_ble_eq_true (by kernel_rfl)) [.int .u64 ((gt h_ i).1), .int .u32 ((gt h_ i).2)] (by kernel_rfl)
 refine s_ek (undef) (by kernel_rfl) (map_ok q15) ?_
 refine s_nil (k5 _ _ (w_seqk fun _ k18 => ?_))
 obtain ⟨o19, hx20, r21⟩ := bind_some r7
 refine w_mid (fun α H22 => Has α [(0, pt_ b_h 0), (1, i_ o19.2.2), (4, pt_ b8 0)] ∧ FrS (fp_h_ ++ fp_h_2) H14 H22 ∧ Ow enc_u64_u32 2 H22 hd_h_ o19.1 fp_h_ ∧ Ow (encI .i64) 1 H22 hd_h_2 o19.2.1 fp_h_2) (fun _ k28 => ?_) (fun α H22 hM => ?_)
 ·refine w_block ?_
  obtain ⟨n30, hn31⟩ := loopO_iff.1 hx20
  have u44 := ((h_h_.ext e10).fr e16 (hb11.djn h_h_.lt))
  have u45 := ((h_h_2.ext e10).fr e16 (hb11.djn h_h_2.lt))
  refine w_loopn (fun n α H32 => ∃ (h2 : List (Int × Int)), ∃ (h3 : List (Int)), ∃ (i4 : Int), iterO (fun zz_ => z_heap_Heap_down_l1 h_ i zz_.1 zz_.2.1 zz_.2.2) n (h2, h3, i4) = some o19 ∧ Has α [(0, pt_ b_h 0), (1, i_ i4), (4, pt_ b8 0)] ∧ FrS (fp_h_ ++ fp_h_2) H14 H32 ∧ Ow enc_u64_u32 2 H32 hd_h_ h2 fp_h_ ∧ Ow (encI .i64) 1 H32 hd_h_2 h3 fp_h_2) n30 ⟨h_, h_2, i, hn31, ha_, (FrS.refl (W := (fp_h_ ++ fp_h_2)) e16.wf), u44, u45⟩ ?_
  rintro n30 α H32 ⟨h2, h3, i4, hi39, hh38, e33, m35, m37⟩ K46 k46
  obtain ⟨n40, z41, rfl, hz42, hn43⟩ := iter_succ hi39
  obtain ⟨β, rfl⟩ := has_ex hh38
  clear hh38
  replace hz42 : z_heap_Heap_down_l1 h_ i h2 h3 i4 = some z41 := hz42
  unfold z_heap_Heap_down_l1 at hz42
  refine w_block (w_seqk fun _ k47 => g_' (q_ (i_ (-1)) (s_nil (k47 _ _ (w_seqk fun _ k48 => w_seqk fun _ k49 => g_' (q_ (i_ 0) (s_nil (k49 _ _ ?_))))))))
  obtain ⟨o50, hx51, r52⟩ := bind_some hz42
  refine w_mid (fun α H53 => Has α [(0, pt_ b_h 0), (1, i_ i4), (4, pt_ b8 0), (5, i_ o50)] ∧ FrS [] H32 H53) (fun _ k55 => ?_) (fun α H53 hM => ?_)
  ·refine w_block ?_
   obtain ⟨n57, hn58⟩ := loopO_iff.1 hx51
   refine w_loopn (fun n α H59 => ∃ (i0 : Int), ∃ (best1 : Int), iterO (fun zz_ => z_heap_Heap_down_l0 h2 i4 zz_.1 zz_.2) n (i0, best1) = some o50 ∧ Has α [(0, pt_ b_h 0), (1, i_ i4), (4, pt_ b8 0), (5, i_ best1), (15, i_ i0)] ∧ FrS [] H32 H59) n57 ⟨0, (-1), hn58, ha_, (FrS.refl (W := []) e33.wf)⟩ ?_
   rintro n57 α H59 ⟨i0, best1, hi62, hh61, e60⟩ K67 k67
   obtain ⟨n63, z64, rfl, hz65, hn66⟩ := iter_succ hi62
   obtain ⟨β, rfl⟩ := has_ex hh61
   clear hh61
   replace hz65 : z_heap_Heap_down_l0 h2 i4 i0 best1 = some z64 := hz65
   unfold z_heap_Heap_down_l0 at hz65
   refine w_seqk fun _ k68 => g_' (q_ (.bool (decide (i0 < 4))) (s_nil (k68 _ _ (w_seqk fun _ k69 => ?_))))
   refine w_condp (i0 < 4) (by kernel_rfl) rfl (fun h70 => ?_) (fun h70 => ?_)
   ·have r71 := ite_t h70 hz65
    refine w_skip (k69 _ _ (w_seqk fun _ k72 => w_block (w_seqk fun _ k73 => g_' (q_ (i_ i0) (q_ (i_ i0) (s_nil (k73 _ _ (w_seqk fun _ k74 => g_' (q_ (i_ i4) ?_)))))))))
    obtain ⟨g75, r76⟩ := G_some r71
    refine w_' (i4 * 4) (wrap64 g75) ?_
    obtain ⟨g77, r78⟩ := G_some r76
    refine w_' ((i4 * 4) + 1) (wrap64 g77) ?_
    refine q_ (i_ i0) ?_
    obtain ⟨g79, r80⟩ := G_some r78
    refine w_' (((i4 * 4) + 1) + i0) (wrap64 g79) ?_
    refine q_ (i_ (((i4 * 4) + 1) + i0)) (s_nil (k74 _ _ (w_seqk fun _ k81 => ?_)))
    refine w_draw [0, 1, 2, 3, 4, 5, 6, 7, 8, 9, 10, 11, 12, 13, 14, 15, 16, 17, 18, 19, 20, 21, 22, 23, 24, 25, 26, 27] (by kernel_rfl) ?_
    refine e_' (i_ (((i4 * 4) + 1) + i0)) (e_' (pt_ b_h 0) (e_' (pt_ b_h 0) (e_' (pt_ b_h 0) ?_)))
    have u82 := ((((h_h.ext e10).frS e16 (hb11.djn h_h.ltF)).frS e33 (Dj.app dj_fp_h__b_h dj_fp_h_2_b_h)).frS e60 Dj.nil_l)
    refine m_' (hd_h_) (aLoad Try.prog 227 (pt_ b_h 0) H59) (u82.ld (by kernel_rfl)) ?_
    have u83 := (m35.fr e60 Dj.nil_l)
    refine m_' (i_ (h2.length : Int)) (aLen Try.prog 227 hd_h_ H59) (u83.sq.lenb (by kernel_rfl)) ?_
    refine d_b ((((i4 * 4) + 1) + i0) < (h2.length : Int)) (by kernel_rfl) (fun h84 => ?_) (fun h84 => ?_)
    ·have r85 := ite_t h84 r80
     refine e_' (.bool true) (e_' (i_ best1) ?_)
     refine d_b (best1 < 0) (by kernel_rfl) (fun h86 => ?_) (fun h86 => ?_)
     ·have r87 := ite_t h86 r85
      refine e_' (.bool true) (j_' (j_' (j_' (j_' (j_' (j_' (j_' (j_' (j_' (j_' (j_' (j_' (j_' (j_' (j_' (e_' (.bool true) (e_' (.bool true) ?_)))))))))))))))))
      refine d_nil ?_
      refine k81 _ _ ?_
      refine w_cond true (by kernel_rfl) rfl (fun _ => ?_) (fun h => by cases h)
      refine g_' (q_ (i_ (((i4 * 4) + 1) + i0)) (q_ (i_ (((i4 * 4) + 1) + i0)) (s_nil (k72 _ _ (g_' ?_)))))
      obtain ⟨g88, r89⟩ := G_some r87
      refine w_' (i0 + 1) (wrap64 g88) ?_
      refine q_ (i_ (i0 + 1)) (s_nil ?_)
      obtain rfl := Option.some.inj r89
      exact k67 n63 _ _ (Nat.lt_succ_self _) ⟨(i0 + 1), (((i4 * 4) + 1) + i0), hn66, ha_, (FrS.step e33.wf (FrS.refl (W := []) e33.wf) e60 Inn.nil)⟩
     have r90 := ite_f h86 r85
     refine e_' (.bool false) (e_' (pt_ b_h 0) (e_' (pt_ b_h 0) (e_' (pt_ b_h 0) ?_)))
     refine m_' (hd_h_) (aLoad Try.prog 227 (pt_ b_h 0) H59) (u82.ld (by kernel_rfl)) ?_
     refine e_' (i_ (((i4 * 4) + 1) + i0)) ?_
     obtain ⟨g91, r92⟩ := G_some r90
     refine m_' (elp hd_h_ 2 (((i4 * 4) + 1) + i0).toNat 0) (aIndexAddr Try.prog 227 hd_h_ (i_ (((i4 * 4) + 1) + i0))) (u83.sq.idxb (by kernel_rfl) g91 h84) ?_
     refine m_' (.agg #[.int .u64 ((gt h2 (((i4 * 4) + 1) + i0)).1), .int .u32 ((gt h2 (((i4 * 4) + 1) + i0)).2)]) (aLoad Try.prog 233 (elp hd_h_ 2 (((i4 * 4) + 1) + i0).toNat 0) H59) (u83.sq.ld g91 h84 (by kernel_rfl)) ?_
     refine e_' (pt_ b_h 0) (e_' (pt_ b_h 0) (e_' (pt_ b_h 0) ?_))
     refine m_' (hd_h_) (aLoad Try.prog 227 (pt_ b_h 0) H59) (u82.ld (by kernel_rfl)) ?_
     refine e_' (i_ best1) ?_
     obtain ⟨g93, r94⟩ := G_some r92
     refine m_' (elp hd_h_ 2 best1.toNat 0) (aIndexAddr Try.prog 227 hd_h_ (i_ best1)) (u83.sq.idxb (by kernel_rfl) g93.1 g93.2) ?_
     refine m_' (.agg #[.int .u64 ((gt h2 best1).1), .int .u32 ((gt h2 best1).2)]) (aLoad Try.prog 233 (elp hd_h_ 2 best1.toNat 0) H59) (u83.sq.ld g93.1 g93.2 (by kernel_rfl)) ?_
     obtain ⟨y95, hy96, r97⟩ := bind_some r94
     refine d_ck 173 #[.agg #[.int .u64 ((gt h2 (((i4 * 4) + 1) + i0)).1), .int .u32 ((gt h2 (((i4 * 4) + 1) + i0)).2)], .agg #[.int .u64 ((gt h2 best1).1), .int .u32 ((gt h2 best1).2)]] (by kernel_rfl) (c_heap_item_less e60.wf hy96) ?_
     rintro _ H98 ⟨rfl, e99⟩
     refine ⟨st_nil, ?_⟩
     refine e_' (.bool y95) (e_' (.bool y95) ?_)
     refine d_nil ?_
     refine k81 _ _ ?_
     refine w_cond (y95) (by kernel_rfl) rfl (fun h100 => ?_) (fun h100 => ?_)
     ·have r101 := ite_t h100 r97
      refine g_' (q_ (i_ (((i4 * 4) + 1) + i0)) (q_ (i_ (((i4 * 4) + 1) + i0)) (s_nil (k72 _ _ (g_' ?_)))))
      obtain ⟨g102, r103⟩ := G_some r101
      refine w_' (i0 + 1) (wrap64 g102) ?_
      refine q_ (i_ (i0 + 1)) (s_nil ?_)
      obtain rfl := Option.some.inj r103
      exact k67 n63 _ _ (Nat.lt_succ_self _) ⟨(i0 + 1), (((i4 * 4) + 1) + i0), hn66, ha_, (FrS.step e33.wf (FrS.step e33.wf (FrS.refl (W := []) e33.wf) e60 Inn.nil) e99 Inn.nil)⟩
     have r104 := ite_bf h100 r97
     refine w_skip (k72 _ _ (g_' ?_))
     obtain ⟨g105, r106⟩ := G_some r104
     refine w_' (i0 + 1) (wrap64 g105) ?_
     refine q_ (i_ (i0 + 1)) (s_nil ?_)
     obtain rfl := Option.some.inj r106
     exact k67 n63 _ _ (Nat.lt_succ_self _) ⟨(i0 + 1), best1, hn66, ha_, (FrS.step e33.wf (FrS.step e33.wf (FrS.refl (W := []) e33.wf) e60 Inn.nil) e99 Inn.nil)⟩
    have r107 := ite_f h84 r80
    refine e_' (.bool false) (j_' (j_' (j_' (j_' (j_' (j_' (j_' (j_' (j_' (j_' (j_' (j_' (j_' (j_' (j_' (j_' (j_' (j_' (j_' (e_' (.bool false) ?_))))))))))))))))))))
    refine d_nil ?_
    refine k81 _ _ ?_
    refine w_cond false (by kernel_rfl) rfl (fun h => by cases h) (fun _ => ?_)
    refine w_skip (k72 _ _ (g_' ?_))
    obtain ⟨g108, r109⟩ := G_some r107
    refine w_' (i0 + 1) (wrap64 g108) ?_
    refine q_ (i_ (i0 + 1)) (s_nil ?_)
    obtain rfl := Option.some.inj r109
    exact k67 n63 _ _ (Nat.lt_succ_self _) ⟨(i0 + 1), best1, hn66, ha_, (FrS.step e33.wf (FrS.refl (W := []) e33.wf) e60 Inn.nil)⟩
   have r110 := ite_f h70 hz65
   refine w_exit (th_exit (th_exit (bl_eq ?_)))
   obtain rfl := Option.some.inj r110
   obtain rfl := it_inr hn66
   exact k55 _ _ ⟨ha_, (FrS.step e33.wf (FrS.refl (W := []) e33.wf) e60 Inn.nil)⟩
  obtain ⟨hh56, e54⟩ := hM
  obtain ⟨β, rfl⟩ := has_ex hh56
  clear hh56
  refine k48 _ _ (w_seqk fun _ k111 => w_seqk fun _ k112 => ?_)
  obtain ⟨o113, hx114, r115⟩ := bind_some r52
  refine w_mid (fun α H116 => Has α [(0, pt_ b_h 0), (1, i_ i4), (4, pt_ b8 0), (5, i_ o50), (66, .bool o113)] ∧ FrS [] H53 H116) (fun _ k118 => ?_) (fun α H116 hM => ?_)
  ·refine w_draw [0, 1, 2, 3, 4, 5, 6, 7, 8, 9, 10, 11, 12, 13] (by kernel_rfl) ?_
   refine e_' (i_ o50) ?_
   refine d_b (o50 < 0) (by kernel_rfl) (fun h120 => ?_) (fun h120 => ?_)
   ·have r121 := ite_t h120 hx114
    refine e_' (.bool true) (j_' (j_' (j_' (j_' (j_' (j_' (j_' (j_' (j_' (j_' (e_' (.bool true) ?_)))))))))))
    refine d_nil ?_
    obtain rfl := Option.some.inj r121
    exact k118 _ _ ⟨ha_, (FrS.refl (W := []) e54.wf)⟩
   have r122 := ite_f h120 hx114
   refine e_' (.bool false) (e_' (pt_ b_h 0) (e_' (pt_ b_h 0) (e_' (pt_ b_h 0) ?_)))
   have u123 := ((((h_h.ext e10).frS e16 (hb11.djn h_h.ltF)).frS e33 (Dj.app dj_fp_h__b_h dj_fp_h_2_b_h)).frS e54 Dj.nil_l)
   refine m_' (hd_h_) (aLoad Try.prog 227 (pt_ b_h 0) H53) (u123.ld (by kernel_rfl)) ?_
   refine e_' (i_ o50) ?_
   obtain ⟨g124, r125⟩ := G_some r122
   have u126 := (m35.fr e54 Dj.nil_l)
   refine m_' (elp hd_h_ 2 o50.toNat 0) (aIndexAddr Try.prog 227 hd_h_ (i_ o50)) (u126.sq.idxb (by kernel_rfl) g124.1 g124.2) ?_
   refine m_' (.agg #[.int .u64 ((gt h2 o50).1), .int .u32 ((gt h2 o50).2)]) (aLoad Try.prog 233 (elp hd_h_ 2 o50.toNat 0) H53) (u126.sq.ld g124.1 g124.2 (by kernel_rfl)) ?_
   have u127 := ((r17.frS e33 (Dj.app (Dj.symm (hb11.djn h_h_.lt)) (Dj.symm (hb11.djn h_h_2.lt)))).frS e54 Dj.nil_l)
   refine m_' (.agg #[.int .u64 ((gt h_ i).1), .int .u32 ((gt h_ i).2)]) (aLoad Try.prog 233 (pt_ b8 0) H53) (u127.ld (by kernel_rfl)) ?_
   obtain ⟨y128, hy129, r130⟩ := bind_some r125
   refine d_ck 173 #[.agg #[.int .u64 ((gt h2 o50).1), .int .u32 ((gt h2 o50).2)], .agg #[.int .u64 ((gt h_ i).1), .int .u32 ((gt h_ i).2)]] (by kernel_rfl) (c_heap_item_less e54.wf hy129) ?_
   rintro _ H131 ⟨rfl, e132⟩
   refine ⟨st_nil, ?_⟩
   refine e_' (.bool (!y128)) (e_' (.bool (!y128)) ?_)
   refine d_nil ?_
   obtain rfl := Option.some.inj r130
   exact k118 _ _ ⟨ha_, (FrS.step e54.wf (FrS.refl (W := []) e54.wf) e132 Inn.nil)⟩
  obtain ⟨hh119, e117⟩ := hM
  obtain ⟨β, rfl⟩ := has_ex hh119
  clear hh119
  refine k112 _ _ ?_
  refine w_cond (o113) (by kernel_rfl) rfl (fun h133 => ?_) (fun h133 => ?_)
  ·have r134 := ite_t h133 r115
   refine w_exit (th_exit (bl_ne (by decide) (th_exit (bl_eq ?_))))
   have u135 := ((m35.fr e54 Dj.nil_l).fr e117 Dj.nil_l)
   have u136 := ((m37.fr e54 Dj.nil_l).fr e117 Dj.nil_l)
   obtain rfl := Option.some.inj r134
   obtain rfl := it_inr hn43
   exact k28 _ _ ⟨ha_, (FrS.step e16.wf (FrS.step e16.wf (FrS.step e16.wf (FrS.refl (W := (fp_h_ ++ fp_h_2)) e16.wf) e33 (Inn.app Inn.left (Inn.right Inn.refl'))) e54 Inn.nil) e117 Inn.nil), u135, u136⟩
  have r137 := ite_bf h133 r115
  refine w_skip (k111 _ _ (w_seqk fun _ k138 => g_' (q_ (pt_ b_h 0) (q_ (i_ i4) (q_ (pt_ b_h 0) (q_ (pt_ b_h 0) (q_ (pt_ b_h 0) ?_)))))))
  have u139 := (((((h_h.ext e10).frS e16 (hb11.djn h_h.ltF)).frS e33 (Dj.app dj_fp_h__b_h dj_fp_h_2_b_h)).frS e54 Dj.nil_l).frS e117 Dj.nil_l)
  refine l_' (hd_h_) (aLoad Try.prog 227 (pt_ b_h 0) H116) (u139.ld (by kernel_rfl)) ?_
  refine q_ (i_ o50) ?_
  obtain ⟨g140, r141⟩ := G_some r137
  have u142 := ((m35.fr e54 Dj.nil_l).fr e117 Dj.nil_l)
  refine l_' (elp hd_h_ 2 o50.toNat 0) (aIndexAddr Try.prog 227 hd_h_ (i_ o50)) (u142.sq.idxb (by kernel_rfl) g140.1 g140.2) ?_
  refine l_' (.agg #[.int .u64 ((gt h2 o50).1), .int .u32 ((gt h2 o50).2)]) (aLoad Try.prog 233 (elp hd_h_ 2 o50.toNat 0) H116) (u142.sq.ld g140.1 g140.2 (by kernel_rfl)) ?_
  have u143 := ((m37.fr e54 Dj.nil_l).fr e117 Dj.nil_l)
  obtain ⟨y144, hy145, r146⟩ := bind_some r141
  refine s_ck 164 #[pt_ b_h 0, i_ i4, .agg #[.int .u64 ((gt h2 o50).1), .int .u32 ((gt h2 o50).2)]] (by kernel_rfl) (c_heap_Heap_put e117.wf u142 u143 u139 dj_fp_h__b_h dj_fp_h__fp_h_2 hy145) ?_
  rintro _ H147 ⟨rfl, e148, m149, m150⟩
  refine s_nil (k138 _ _ (g_' (q_ (i_ o50) (q_ (i_ o50) (s_nil ?_)))))
  obtain rfl := Option.some.inj r146
  exact k46 n40 _ _ (Nat.lt_succ_self _) ⟨y144.1, y144.2, o50, hn43, ha_, (FrS.step e16.wf (FrS.step e16.wf (FrS.step e16.wf (FrS.step e16.wf (FrS.refl (W := (fp_h_ ++ fp_h_2)) e16.wf) e33 (Inn.app Inn.left (Inn.right Inn.refl'))) e54 Inn.nil) e117 Inn.nil) e148 (Inn.app Inn.left (Inn.right Inn.refl'))), m149, m150⟩
 obtain ⟨hh29, e23, m25, m27⟩ := hM
 obtain ⟨β, rfl⟩ := has_ex hh29
 clear hh29
 refine k18 _ _ (g_' (q_ (pt_ b_h 0) (q_ (i_ o19.2.2) ?_)))
 have u151 := (r17.frS e23 (Dj.app (Dj.symm (hb11.djn h_h_.lt)) (Dj.symm (hb11.djn h_h_2.lt))))
 refine l_' (.agg #[.int .u64 ((gt h_ i).1), .int .u32 ((gt h_ i).2)]) (aLoad Try.prog 233 (pt_ b8 0) H22) (u151.ld (by kernel_rfl)) ?_
 have u152 := (((h_h.ext e10).frS e16 (hb11.djn h_h.ltF)).frS e23 (Dj.app dj_fp_h__b_h dj_fp_h_2_b_h))
 obtain ⟨y153, hy154, r155⟩ := bind_some r21
 refine s_ck 164 #[pt_ b_h 0, i_ o19.2.2, .agg #[.int .u64 ((gt h_ i).1), .int .u32 ((gt h_ i).2)]] (by kernel_rfl) (c_heap_Heap_put e23.wf m25 m27 u152 dj_fp_h__b_h dj_fp_h__fp_h_2 hy154) ?_
 rintro _ H156 ⟨rfl, e157, m158, m159⟩
 refine s_nil ?_
 refine b_nrm (fn := Try.f166) (vs := []) (rfl) ?_
 obtain rfl := Option.some.inj r155
 exact ⟨rfl, (FrS.step wf (FrS.step wf (FrS.step wf ((FrS.refl (W := (fp_h_ ++ fp_h_2)) wf).extR e10) e16 (hb11.fresh (Nat.le_refl _))) e23 (Inn.app Inn.left (Inn.right Inn.refl'))) e157 (Inn.app Inn.left (Inn.right Inn.refl'))), m158, m159⟩
theorem c_heap_Heap_Set {H : AH} {b_h : Nat} {hd_h_ : Value} {fp_h_ : Fp} {hd_h_2 : Value} {fp_h_2 : Fp} {h_ : List (Int × Int)} {h_2 : List (Int)} {id_ : Int} {key : Int} {r : Er × List (Int) × List (Int × Int)}
    (wf : WF H) (h_h_ : Ow enc_u64_u32 2 H hd_h_ h_ fp_h_) (h_h_2 : Ow (encI .i64) 1 H hd_h_2 h_2 fp_h_2) (h_h : Row H b_h [hd_h_, hd_h_2]) (dj_fp_h__b_h : Dj fp_h_ [b_h]) (dj_fp_h__fp_h_2 : Dj fp_h_ fp_h_2) (dj_b_h_fp_h_2 : Dj [b_h] fp_h_2) (hr : z_heap_Heap_Set h_ h_2 id_ key = some r) :
    ACalls Try.prog 145 #[pt_ b_h 0, .int .u32 id_, .int .u64 key] H fun v H' => ∃ (v3 : Value) (f4 : Fp) (s9 : Value) (f10 : Fp), v = v3 ∧ FrS ([b_h] ++ (fp_h_ ++ fp_h_2)) H H' ∧ Ev 122 235 H' v3 r.1 f4 ∧ Ow (encI .i64) 1 H' hd_h_2 r.2.1 fp_h_2 ∧ Ow enc_u64_u32 2 H' s9 r.2.2 f10 ∧ Row H' b_h [s9, hd_h_2] ∧ Inn [] H f4 ∧ Inn fp_h_ H f10 ∧ Dj f4 f10 := by
 refine acalls_of_body mixed Try.func145 rfl (Nat.le_of_ble_eq_true rfl) ?_
 unfold z_heap_Heap_Set at hr
 refine w_seqk fun _ k16 => g_' (q_ (.nilIface) (s_nil (k16 _ _ (w_seqk fun _ k17 => w_seqk fun _ k18 => g_' (q_ (pt_ b_h 0) (q_ (.int .u32 id_) ?_))))))
 obtain ⟨y19, hy20, r21⟩ := bind_some hr
 refine s_ck 163 #[pt_ b_h 0, .int .u32 id_] (by kernel_rfl) (c_heap_Heap_check wf h_h_.sq h_h_2.sq h_h hy20) ?_
 rintro v22 _ ⟨_, f23, rfl, rfl, m26, i27⟩
 refine q_ (v22) (s_nil (k18 _ _ (w_seqk fun _ k29 => g_' (q_ (v22) ?_))))
 rcases (m26).cases with ⟨h30, rfl⟩ | ⟨h30, t31, x32, rfl⟩
 ·have r33 := ite_t h30 r21
  refine q_ (.bool false) (s_nil (k29 _ _ ?_))
  refine w_cond false (by kernel_rfl) rfl (fun h => by cases h) (fun _ => ?_)
  refine w_skip (k17 _ _ (w_seqk fun _ k34 => g_' (q_ (pt_ b_h 0) (q_ (pt_ b_h 0) (q_ (pt_ b_h 1) ?_)))))
  refine l_' (hd_h_2) (aLoad Try.prog 22 (pt_ b_h 1) H) (h_h.ld (by kernel_rfl)) ?_
  refine q_ (.int .u32 id_) ?_
  obtain ⟨g35, r36⟩ := G_some r33
  refine l_' (elp hd_h_2 1 id_.toNat 0) (aIndexAddr Try.prog 22 hd_h_2 (.int .u32 id_)) (h_h_2.sq.idxb (by kernel_rfl) g35.1 g35.2) ?_
  refine l_' (i_ (gt h_2 id_)) (aLoad Try.prog 3 (elp hd_h_2 1 id_.toNat 0) H) (h_h_2.sq.ld g35.1 g35.2 (by kernel_rfl)) ?_
  obtain ⟨g37, r38⟩ := G_some r36
  refine w_' ((gt h_2 id_) - 1) (wrap64 g37) ?_
  refine q_ (i_ ((gt h_2 id_) - 1)) (s_nil (k34 _ _ (w_seqk fun _ k39 => w_seqk fun _ k40 => g_' (q_ (i_ ((gt h_2 id_) - 1)) (q_ (.bool (decide (((gt h_2 id_) - 1) < 0))) (s_nil (k40 _ _ ?_)))))))
  obtain ⟨o41, hx42, r43⟩ := bind_some r38
  refine w_mid (fun α H44 => ∃ (s48 : Value) (f49 : Fp), Has α [(0, pt_ b_h 0), (1, .int .u32 id_), (2, .int .u64 key), (8, i_ o41.2)] ∧ FrS ([b_h] ++ fp_h_) H H44 ∧ Ow enc_u64_u32 2 H44 s48 o41.1 f49 ∧ Row H44 b_h [s48, hd_h_2] ∧ Inn fp_h_ H f49) (fun _ k53 => ?_) (fun α H44 hM => ?_)
  ·refine w_condp (((gt h_2 id_) - 1) < 0) (by kernel_rfl) rfl (fun h55 => ?_) (fun h55 => ?_)
   ·have r56 := ite_t h55 hx42
    refine w_seqk fun _ k57 => g_' (q_ (pt_ b_h 0) (q_ (pt_ b_h 0) (q_ (pt_ b_h 0) ?_)))
    refine l_' (hd_h_) (aLoad Try.prog 227 (pt_ b_h 0) H) (h_h.ld (by kernel_rfl)) ?_
    refine l_' (i_ (h_.length : Int)) (aLen Try.prog 227 hd_h_ H) (h_h_.sq.lenb (by kernel_rfl)) ?_
    refine q_ (i_ (h_.length : Int)) (s_nil (k57 _ _ (g_' (q_ (pt_ b_h 0) (q_ (pt_ b_h 0) (q_ (pt_ b_h 0) (q_ (pt_ b_h 0) ?_)))))))
    refine l_' (hd_h_) (aLoad Try.prog 227 (pt_ b_h 0) H) (h_h.ld (by kernel_rfl)) ?_
    refine q_ (.agg #[.int .u64 0, .int .u32 0]) ?_
    refine s_owk (enc := enc_u64_u32) (sz := 2) wf [(0, 0)] 1 (by decide) (fun _ _ => rfl) (fun _ _ => rfl) rfl (by kernel_rfl) fun s58 f59 H60 e61 hf62 hm63 => ?_
    obtain ⟨a64, n65, c66, rfl⟩ := hm63.form
    have u68 := (h_h_.ext e61)
    obtain ⟨g69, r70⟩ := G_some r56
    obtain ⟨s71, H72, f73, q77, e74, hm75, hf76⟩ := Ow.append (P := Try.prog) 16 e61.wf u68 hm63.sq (fun _ _ => rfl) (at_ := #[227, 227]) rfl rfl (by kernel_rfl) (by kernel_rfl) (by decide) (by have := g69; first | omega | (simp only [List.length_cons, List.length_nil] at this ⊢; omega) | (simp at this ⊢; omega))
    obtain ⟨a78, n79, c80, rfl⟩ := hm75.form
    refine s_ek (.slice a78 n79 c80) (by kernel_rfl) (q77) ?_
    refine q_ (pt_ b_h 0) (q_ (pt_ b_h 0) ?_)
    have u86 := ((h_h.ext e61).frS e74 dj_fp_h__b_h)
    obtain ⟨H82, q83, e84, r85⟩ := Row.store (P := Try.prog) (t := 227) (p := 0) e74.wf u86 (.slice a78 n79 c80) [.slice a78 n79 c80] (by kernel_rfl) (by kernel_rfl) (one_cons (hm75.one1) (one_nil)) (Nat.le_of_ble_eq_true (by kernel_rfl)) [.slice a78 n79 c80, hd_h_2] (by kernel_rfl)
    refine s_ek (undef) (by kernel_rfl) (map_ok q83) ?_
    refine s_nil ?_
    have u87 := (hm75.fr e84 (Dj.symm (hf76.dj dj_fp_h__b_h (h_h.ltF.le e61.next))))
    obtain rfl := Option.some.inj r70
    exact k53 _ _ ⟨(.slice a78 n79 c80), f73, ha_, (FrS.step wf (FrS.step wf ((FrS.refl (W := ([b_h] ++ fp_h_)) wf).extR e61) e74 (Inn.right Inn.refl')) e84 Inn.left), u87, r85, (Inn.trans Inn.refl' e61.next hf76)⟩
   have r88 := ite_f h55 hx42
   refine w_skip ?_
   obtain rfl := Option.some.inj r88
   exact k53 _ _ ⟨(hd_h_), fp_h_, ha_, (FrS.refl (W := ([b_h] ++ fp_h_)) wf), h_h_, h_h, Inn.refl'⟩
  obtain ⟨s48, f49, hh54, e45, m47, m51, i52⟩ := hM
  obtain ⟨β, rfl⟩ := has_ex hh54
  clear hh54
  obtain ⟨a89, n90, c91, rfl⟩ := m47.form
  refine k39 _ _ (w_seqk fun _ k92 => g_' (q_ (pt_ b_h 0) (q_ (i_ o41.2) (q_ (.int .u64 key) (q_ (.int .u32 id_) (q_ (.agg #[.int .u64 key, .int .u32 id_]) ?_))))))
  have u93 := (h_h_2.fr e45 (Dj.app dj_b_h_fp_h_2 dj_fp_h__fp_h_2))
  obtain ⟨y94, hy95, r96⟩ := bind_some r43
  refine s_ck 164 #[pt_ b_h 0, i_ o41.2, .agg #[.int .u64 key, .int .u32 id_]] (by kernel_rfl) (c_heap_Heap_put e45.wf m47 u93 m51 (i52.dj dj_fp_h__b_h h_h.ltF) (i52.dj dj_fp_h__fp_h_2 h_h_2.lt) hy95) ?_
  rintro _ H97 ⟨rfl, e98, m99, m100⟩
  refine s_nil (k92 _ _ (w_seqk fun _ k101 => g_' (q_ (pt_ b_h 0) (q_ (i_ o41.2) ?_))))
  have u102 := (m51.frS e98 (Dj.app (i52.dj dj_fp_h__b_h h_h.ltF) (Dj.symm dj_b_h_fp_h_2)))
  obtain ⟨y103, hy104, r105⟩ := bind_some r96
  refine s_ck 165 #[pt_ b_h 0, i_ o41.2] (by kernel_rfl) (c_heap_Heap_up e98.wf m99 m100 u102 (i52.dj dj_fp_h__b_h h_h.ltF) (i52.dj dj_fp_h__fp_h_2 h_h_2.lt) (Dj.symm dj_b_h_fp_h_2) hy104) ?_
  rintro _ H106 ⟨rfl, e107, m108, m109⟩
  refine s_nil (k101 _ _ (w_seqk fun _ k110 => g_' (q_ (pt_ b_h 0) (q_ (pt_ b_h 0) (q_ (pt_ b_h 0) (q_ (pt_ b_h 1) ?_))))))
  have u111 := (u102.frS e107 (Dj.app (i52.dj dj_fp_h__b_h h_h.ltF) (Dj.symm dj_b_h_fp_h_2)))
  refine l_' (hd_h_2) (aLoad Try.prog 22 (pt_ b_h 1) H106) (u111.ld (by kernel_rfl)) ?_
  refine q_ (.int .u32 id_) ?_
  obtain ⟨g112, r113⟩ := G_some r105
  refine l_' (elp hd_h_2 1 id_.toNat 0) (aIndexAddr Try.prog 22 hd_h_2 (.int .u32 id_)) (m109.sq.idxb (by kernel_rfl) g35.1 g112) ?_
  refine l_' (i_ (gt y103.2 id_)) (aLoad Try.prog 3 (elp hd_h_2 1 id_.toNat 0) H106) (m109.sq.ld g35.1 g112 (by kernel_rfl)) ?_
  obtain ⟨g114, r115⟩ := G_some r113
  refine w_' ((gt y103.2 id_) - 1) (wrap64 g114) ?_
  obtain ⟨y116, hy117, r118⟩ := bind_some r115
  refine s_ck 166 #[pt_ b_h 0, i_ ((gt y103.2 id_) - 1)] (by kernel_rfl) (c_heap_Heap_down e107.wf m108 m109 u111 (i52.dj dj_fp_h__b_h h_h.ltF) (i52.dj dj_fp_h__fp_h_2 h_h_2.lt) (Dj.symm dj_b_h_fp_h_2) hy117) ?_
  rintro _ H119 ⟨rfl, e120, m121, m122⟩
  refine s_nil (k110 _ _ (w_seqk fun _ k123 => g_' (q_ (.nilIface) (s_nil (k123 _ _ ?_)))))
  refine w_ret ?_
  refine b_ret (fn := Try.f145) (vs := [.nilIface]) (aRes_tmp (by kernel_rfl) (rfl)) ?_
  have u124 := (u111.frS e120 (Dj.app (i52.dj dj_fp_h__b_h h_h.ltF) (Dj.symm dj_b_h_fp_h_2)))
  obtain rfl := Option.some.inj r118
  exact ⟨(.nilIface), [], (.slice a89 n90 c91), f49, rfl, (FrS.step wf (FrS.step wf (FrS.step wf (FrS.step wf (FrS.refl (W := ([b_h] ++ (fp_h_ ++ fp_h_2))) wf) e45 (Inn.app Inn.left (Inn.right Inn.left))) e98 (Inn.app (Inn.trans (Inn.right Inn.left) (Nat.le_refl _) i52) (Inn.right (Inn.right Inn.refl')))) e107 (Inn.app (Inn.trans (Inn.right Inn.left) (Nat.le_refl _) i52) (Inn.right (Inn.right Inn.refl')))) e120 (Inn.app (Inn.trans (Inn.right Inn.left) (Nat.le_refl _) i52) (Inn.right (Inn.right Inn.refl')))), Ev.nil, m122, m121, u124, Inn.nil, (Inn.trans Inn.refl' (Nat.le_refl _) i52), Dj.nil_l⟩
 have r125 := ite_f h30 r21
 refine l_' (.bool true) (aBin Try.prog .neq 31 (.tmp 12) (.const .nilIface) (.iface t31 x32) .nilIface) (aBin_nnil (by kernel_rfl)) ?_
 refine s_nil (k29 _ _ ?_)
 refine w_cond true (by kernel_rfl) rfl (fun _ => ?_) (fun h => by cases h)
 refine w_seqk fun _ k126 => g_' (q_ (.iface t31 x32) (q_ (.iface t31 x32) (s_nil (k126 _ _ ?_))))
 refine w_ret (th_ret ?_)
 refine b_ret (fn := Try.f145) (vs := [.iface t31 x32]) (aRes_tmp (by kernel_rfl) (rfl)) ?_
 obtain rfl := Option.some.inj r125
 exact ⟨(.iface t31 x32), f23, (hd_h_), fp_h_, rfl, (FrS.refl (W := ([b_h] ++ (fp_h_ ++ fp_h_2))) wf), m26, h_h_2, h_h_, h_h, (i27.fresh (Nat.le_refl _)), Inn.refl', (i27.djn h_h_.lt)⟩
theorem c_search_state_label {H : AH} {b_st : Nat} {hd_st_ : Value} {fp_st_ : Fp} {hd_st_2 : Value} {fp_st_2 : Fp} {hd_st_3 : Value} {fp_st_3 : Fp} {b_st_4 : Nat} {hd_st_5 : Value} {fp_st_5 : Fp} {hd_st_6 : Value} {fp_st_6 : Fp} {b_st_7 : Nat} {hd_st_8 : Value} {fp_st_8 : Fp} {hd_st_11 : Value} {fp_st_11 : Fp} {hd_st_12 : Value} {fp_st_12 : Fp} {st_ : List (Int)} {st_2 : List (Int)} {st_3 : List (Int)} {st_5 : List (Int × Int)} {st_6 : List (Int)} {st_8 : List (Int × Int)} {st_9 : Int} {st_10 : Int} {st_11 : List (Int)} {st_12 : List (Bool)} {v_ : Int} {d : Int} {hops : Int} {r : List (Int) × List (Int × Int) × List (Int × Int) × Int × List (Int)}
    (wf : WF H) (h_st_ : Sq (encI .i64) 1 H hd_st_ st_ fp_st_) (h_st_2 : Sq (encI .i64) 1 H hd_st_2 st_2 fp_st_2) (h_st_3 : Sq (encI .i64) 1 H hd_st_3 st_3 fp_st_3) (h_st_5 : Ow enc_u64_u32 2 H hd_st_5 st_5 fp_st_5) (h_st_6 : Ow (encI .i64) 1 H hd_st_6 st_6 fp_st_6) (h_st_4 : Row H b_st_4 [hd_st_5, hd_st_6]) (h_st_8 : Ow enc_u64_u32 2 H hd_st_8 st_8 fp_st_8) (h_st_7 : Row H b_st_7 [hd_st_8, .int .u32 st_9, i_ st_10]) (h_st_11 : Ow (encI .i64) 1 H hd_st_11 st_11 fp_st_11) (h_st_12 : Sq encB 1 H hd_st_12 st_12 fp_st_12) (h_st : Row H b_st [hd_st_, hd_st_2, hd_st_3, pt_ b_st_4 0, pt_ b_st_7 0, hd_st_11, hd_st_12]) (dj_b_st_7_fp_st_8 : Dj [b_st_7] fp_st_8) (dj_fp_st_8_b_st : Dj fp_st_8 [b_st]) (dj_b_st_7_b_st : Dj [b_st_7] [b_st]) (dj_fp_st_8_fp_st_11 : Dj fp_st_8 fp_st_11) (dj_b_st_7_fp_st_11 : Dj [b_st_7] fp_st_11) (dj_fp_st_11_b_st : Dj fp_st_11 [b_st]) (dj_fp_st_8_fp_st_5 : Dj fp_st_8 fp_st_5) (dj_b_st_7_fp_st_5 : Dj [b_st_7] fp_st_5) (dj_fp_st_11_fp_st_5 : Dj fp_st_11 fp_st_5) (dj_fp_st_8_fp_st_6 : Dj fp_st_8 fp_st_6) (dj_b_st_7_fp_st_6 : Dj [b_st_7] fp_st_6) (dj_fp_st_11_fp_st_6 : Dj fp_st_11 fp_st_6) (dj_fp_st_8_b_st_4 : Dj fp_st_8 [b_st_4]) (dj_b_st_7_b_st_4 : Dj [b_st_7] [b_st_4]) (dj_fp_st_11_b_st_4 : Dj fp_st_11 [b_st_4]) (dj_fp_st_5_b_st_4 : Dj fp_st_5 [b_st_4]) (dj_fp_st_5_fp_st_6 : Dj fp_st_5 fp_st_6) (dj_b_st_4_fp_st_6 : Dj [b_st_4] fp_st_6) (hr : z_search_state_label st_ st_2 st_3 st_5 st_6 st_8 st_9 st_10 st_11 st_12 v_ d hops = some r) :
    ACalls Try.prog 115 #[pt_ b_st 0, i_ v_, .int .u64 d, i_ hops] H fun v H' => ∃ (s5 : Value) (f6 : Fp), v = .tuple #[] ∧ FrS ([b_st_4] ++ ([b_st_7] ++ (fp_st_11 ++ (fp_st_5 ++ (fp_st_6 ++ fp_st_8))))) H H' ∧ Ow (encI .i64) 1 H' hd_st_6 r.1 fp_st_6 ∧ Ow enc_u64_u32 2 H' s5 r.2.1 f6 ∧ Row H' b_st_4 [s5, hd_st_6] ∧ Ow enc_u64_u32 2 H' hd_st_8 r.2.2.1 fp_st_8 ∧ Row H' b_st_7 [hd_st_8, .int .u32 st_9, i_ r.2.2.2.1] ∧ Ow (encI .i64) 1 H' hd_st_11 r.2.2.2.2 fp_st_11 ∧ Inn fp_st_5 H f6 := by
 refine acalls_of_body mixed Try.func115 rfl (Nat.le_of_ble_eq_true rfl) ?_
 unfold z_search_state_label at hr
 refine w_seqk fun _ k16 => g_' (q_ (pt_ b_st 0) (q_ (pt_ b_st 0) (q_ (pt_ b_st 4) ?_)))
 refine l_' (pt_ b_st_7 0) (aLoad Try.prog 124 (pt_ b_st 4) H) (h_st.ld (by kernel_rfl)) ?_
 refine q_ (i_ v_) (q_ (.int .u64 d) ?_)
 obtain ⟨y17, hy18, r19⟩ := bind_some hr
 refine s_ck 144 #[pt_ b_st_7 0, i_ v_, .int .u64 d] (by kernel_rfl) (c_stamp_Stamp_Set wf h_st_8 h_st_7 dj_b_st_7_fp_st_8 hy18) ?_
 rintro v20 H22 ⟨_, f21, rfl, e23, m24, m25, m26, i27⟩
 refine s_nil (k16 _ _ (w_seqk fun _ k29 => g_' (q_ (pt_ b_st 0) (q_ (pt_ b_st 0) (q_ (pt_ b_st 5) ?_)))))
 have u30 := (h_st.frS e23 (Dj.app dj_b_st_7_b_st dj_fp_st_8_b_st))
 refine l_' (hd_st_11) (aLoad Try.prog 22 (pt_ b_st 5) H22) (u30.ld (by kernel_rfl)) ?_
 refine q_ (i_ v_) (q_ (i_ hops) ?_)
 obtain ⟨g31, r32⟩ := G_some r19
 have u33 := (h_st_11.fr e23 (Dj.app dj_b_st_7_fp_st_11 dj_fp_st_8_fp_st_11))
 refine l_' (elp hd_st_11 1 v_.toNat 0) (aIndexAddr Try.prog 22 hd_st_11 (i_ v_)) (u33.sq.idxb (by kernel_rfl) g31.1 g31.2) ?_
 obtain ⟨H34, q35, e36, hm37⟩ := Ow.store (P := Try.prog) (t := 3) (off := 0) e23.wf u33 g31.1 g31.2 (i_ hops) [i_ hops] (by kernel_rfl) (by kernel_rfl) rfl hops (Nat.le_of_ble_eq_true rfl) (by kernel_rfl)
 refine s_ek (undef) (by kernel_rfl) (map_ok q35) ?_
 refine s_nil (k29 _ _ (g_' (q_ (pt_ b_st 0) (q_ (pt_ b_st 0) (q_ (pt_ b_st 3) ?_)))))
 have u38 := (u30.frS e36 dj_fp_st_11_b_st)
 refine l_' (pt_ b_st_4 0) (aLoad Try.prog 123 (pt_ b_st 3) H34) (u38.ld (by kernel_rfl)) ?_
 refine q_ (i_ v_) ?_
 obtain ⟨g39, r40⟩ := G_some r32
 refine s_w (v_) (k := .u32) (x := v_) (by kernel_rfl) (wrapu32 (by have := g39; omega)) ?_
 refine q_ (.int .u64 d) ?_
 have u41 := ((h_st_5.fr e23 (Dj.app dj_b_st_7_fp_st_5 dj_fp_st_8_fp_st_5)).fr e36 dj_fp_st_11_fp_st_5)
 have u42 := ((h_st_6.fr e23 (Dj.app dj_b_st_7_fp_st_6 dj_fp_st_8_fp_st_6)).fr e36 dj_fp_st_11_fp_st_6)
 have u43 := ((h_st_4.frS e23 (Dj.app dj_b_st_7_b_st_4 dj_fp_st_8_b_st_4)).frS e36 dj_fp_st_11_b_st_4)
 obtain ⟨y44, hy45, r46⟩ := bind_some r40
 refine s_ck 145 #[pt_ b_st_4 0, .int .u32 v_, .int .u64 d] (by kernel_rfl) (c_heap_Heap_Set e36.wf u41 u42 u43 dj_fp_st_5_b_st_4 dj_fp_st_5_fp_st_6 dj_b_st_4_fp_st_6 hy45) ?_
 rintro v47 H51 ⟨_, f48, s49, f50, rfl, e52, m53, m54, m55, m56, i57, i58, d59⟩
 obtain ⟨a62, n63, c64, rfl⟩ := m55.form
 refine s_nil ?_
 refine b_nrm (fn := Try.f115) (vs := []) (rfl) ?_
 have u65 := ((m25.fr e36 (Dj.symm dj_fp_st_8_fp_st_11)).fr e52 (Dj.app (Dj.symm dj_fp_st_8_b_st_4) (Dj.app (Dj.symm dj_fp_st_8_fp_st_5) (Dj.symm dj_fp_st_8_fp_st_6))))
 have u66 := ((m26.frS e36 (Dj.symm dj_b_st_7_fp_st_11)).frS e52 (Dj.app (Dj.symm dj_b_st_7_b_st_4) (Dj.app (Dj.symm dj_b_st_7_fp_st_5) (Dj.symm dj_b_st_7_fp_st_6))))
 have u67 := (hm37.fr e52 (Dj.app (Dj.symm dj_fp_st_11_b_st_4) (Dj.app (Dj.symm dj_fp_st_11_fp_st_5) (Dj.symm dj_fp_st_11_fp_st_6))))
 obtain rfl := Option.some.inj r46
 exact ⟨(.slice a62 n63 c64), f50, rfl, (FrS.step wf (FrS.step wf (FrS.step wf (FrS.refl (W := ([b_st_4] ++ ([b_st_7] ++ (fp_st_11 ++ (fp_st_5 ++ (fp_st_6 ++ fp_st_8)))))) wf) e23 (Inn.app (Inn.right Inn.left) (Inn.right (Inn.right (Inn.right (Inn.right (Inn.right Inn.refl'))))))) e36 (Inn.right (Inn.right Inn.left))) e52 (Inn.app Inn.left (Inn.app (Inn.right (Inn.right (Inn.right Inn.left))) (Inn.right (Inn.right (Inn.right (Inn.right Inn.left))))))), m54, m55, m56, u65, u66, u67, (Inn.trans Inn.refl' (ntr e23.next e36.next) i58)⟩
theorem c_heap_Heap_Top {H : AH} {b_h : Nat} {hd_h_ : Value} {fp_h_ : Fp} {hd_h_2 : Value} {fp_h_2 : Fp} {h_ : List (Int × Int)} {h_2 : List (Int)} {r : Int × Int × Bool}
    (wf : WF H) (h_h_ : Sq enc_u64_u32 2 H hd_h_ h_ fp_h_) (h_h_2 : Sq (encI .i64) 1 H hd_h_2 h_2 fp_h_2) (h_h : Row H b_h [hd_h_, hd_h_2]) (hr : z_heap_Heap_Top h_ h_2 = some r) :
    ACalls Try.prog 116 #[pt_ b_h 0] H fun v H' => v = .tuple #[.int .u32 r.1, .int .u64 r.2.1, .bool r.2.2] ∧ H = H' := by
 refine acalls_of_body mixed Try.func116 rfl (Nat.le_of_ble_eq_true rfl) ?_
 unfold z_heap_Heap_Top at hr
 refine w_seqk fun _ k1 => g_' (q_ (.int .u32 0) (q_ (.int .u64 0) (q_ (.bool false) (s_nil (k1 _ _ (w_seqk fun _ k2 => w_seqk fun _ k3 => g_' (q_ (pt_ b_h 0) (q_ (.bool false) (q_ (.bool false) (q_ (pt_ b_h 0) (q_ (pt_ b_h 0) (q_ (pt_ b_h 0) ?_))))))))))))
 refine l_' (hd_h_) (aLoad Try.prog 227 (pt_ b_h 0) H) (h_h.ld (by kernel_rfl)) ?_
 refine l_' (i_ (h_.length : Int)) (aLen Try.prog 227 hd_h_ H) (h_h_.lenb (by kernel_rfl)) ?_
 refine q_ (.bool (decide ((h_.length : Int) = 0))) (q_ (.bool (decide ((h_.length : Int) = 0))) (s_nil (k3 _ _ ?_)))
 refine w_condp ((h_.length : Int) = 0) (by kernel_rfl) rfl (fun h4 => ?_) (fun h4 => ?_)
 ·have r5 := ite_t h4 hr
  refine w_seqk fun _ k6 => g_' (q_ (.int .u32 0) (q_ (.int .u64 0) (q_ (.bool false) (s_nil (k6 _ _ ?_)))))
  refine w_ret (th_ret ?_)
  refine b_ret (fn := Try.f116) (vs := [.int .u32 0, .int .u64 0, .bool false]) (aRes_tmp (by kernel_rfl) (aRes_tmp (by kernel_rfl) (aRes_tmp (by kernel_rfl) (rfl)))) ?_
  obtain rfl := Option.some.inj r5
  exact ⟨rfl, rfl⟩
 have r7 := ite_f h4 hr
 refine w_skip (k2 _ _ (w_seqk fun _ k8 => ?_))
 refine w_draw [0, 1, 2, 3, 4, 5, 6, 7, 8, 9, 10, 11, 12, 13, 14, 15, 16] (by kernel_rfl) ?_
 refine e_' (pt_ b_h 0) (e_' (pt_ b_h 0) (e_' (pt_ b_h 0) ?_))
 refine m_' (hd_h_) (aLoad Try.prog 227 (pt_ b_h 0) H) (h_h.ld (by kernel_rfl)) ?_
 obtain ⟨g9, r10⟩ := G_some r7
 refine m_' (elp hd_h_ 2 (0 : Int).toNat 0) (aIndexAddr Try.prog 227 hd_h_ (i_ 0)) (h_h_.idxb (by kernel_rfl) (by decide) g9) ?_
 refine m_' (elp hd_h_ 2 (0 : Int).toNat 1) (aFieldAddr Try.prog 233 (elp hd_h_ 2 (0 : Int).toNat 0) 1) (Sq.fldq (d := 1) h_h_ (by decide) g9 (by kernel_rfl)) ?_
 refine m_' (.int .u32 ((gt h_ 0).2)) (aLoad Try.prog 90 (elp hd_h_ 2 (0 : Int).toNat 1) H) (h_h_.ld (by decide) g9 (by kernel_rfl)) ?_
 refine e_' (pt_ b_h 0) (e_' (pt_ b_h 0) (e_' (pt_ b_h 0) ?_))
 refine m_' (hd_h_) (aLoad Try.prog 227 (pt_ b_h 0) H) (h_h.ld (by kernel_rfl)) ?_
 refine m_' (elp hd_h_ 2 (0 : Int).toNat 0) (aIndexAddr Try.prog 227 hd_h_ (i_ 0)) (h_h_.idxb (by kernel_rfl) (by decide) g9) ?_
 refine m_' (elp hd_h_ 2 (0 : Int).toNat 0) (aFieldAddr Try.prog 233 (elp hd_h_ 2 (0 : Int).toNat 0) 0) (Sq.fldq (d := 0) h_h_ (by decide) g9 (by kernel_rfl)) ?_
 refine m_' (.int .u64 ((gt h_ 0).1)) (aLoad Try.prog 42 (elp hd_h_ 2 (0 : Int).toNat 0) H) (h_h_.ld (by decide) g9 (by kernel_rfl)) ?_
 refine e_' (.int .u32 ((gt h_ 0).2)) (e_' (.int .u64 ((gt h_ 0).1)) (e_' (.bool true) ?_))
 refine d_nil ?_
 refine k8 _ _ ?_
 refine w_ret ?_
 refine b_ret (fn := Try.f116) (vs := [.int .u32 ((gt h_ 0).2), .int .u64 ((gt h_ 0).1), .bool true]) (aRes_tmp (by kernel_rfl) (aRes_tmp (by kernel_rfl) (aRes_tmp (by kernel_rfl) (rfl)))) ?_
 obtain rfl := Option.some.inj r10
 exact ⟨rfl, rfl⟩
theorem c_heap_Heap_Key {H : AH} {b_h : Nat} {hd_h_ : Value} {fp_h_ : Fp} {hd_h_2 : Value} {fp_h_2 : Fp} {h_ : List (Int × Int)} {h_2 : List (Int)} {id_ : Int} {r : Int × Bool}
    (wf : WF H) (h_h_ : Sq enc_u64_u32 2 H hd_h_ h_ fp_h_) (h_h_2 : Sq (encI .i64) 1 H hd_h_2 h_2 fp_h_2) (h_h : Row H b_h [hd_h_, hd_h_2]) (hr : z_heap_Heap_Key h_ h_2 id_ = some r) :
    ACalls Try.prog 167 #[pt_ b_h 0, .int .u32 id_] H fun v H' => v = .tuple #[.int .u64 r.1, .bool r.2] ∧ H = H' := by
 refine acalls_of_body mixed Try.func167 rfl (Nat.le_of_ble_eq_true rfl) ?_
 unfold z_heap_Heap_Key at hr
 refine w_seqk fun _ k1 => g_' (q_ (.int .u64 0) (q_ (.bool false) (s_nil (k1 _ _ (w_seqk fun _ k2 => w_seqk fun _ k3 => ?_)))))
 obtain ⟨o4, hx5, r6⟩ := bind_some hr
 refine w_mid (fun α H7 => Has α [(0, pt_ b_h 0), (1, .int .u32 id_), (19, .bool o4)] ∧ H = H7) (fun _ k9 => ?_) (fun α H7 hM => ?_)
 ·refine g_' (q_ (pt_ b_h 0) (q_ (.int .u32 id_) ?_))
  obtain ⟨y11, hy12, r13⟩ := bind_some hx5
  refine s_ck 163 #[pt_ b_h 0, .int .u32 id_] (by kernel_rfl) (c_heap_Heap_check wf h_h_ h_h_2 h_h hy12) ?_
  rintro v14 _ ⟨_, f15, rfl, rfl, m18, i19⟩
  rcases (m18).cases with ⟨h21, rfl⟩ | ⟨h21, t22, x23, rfl⟩
  ·have r24 := ite_t h21 r13
   refine q_ (.bool false) (q_ (.bool false) (q_ (pt_ b_h 0) (q_ (pt_ b_h 0) (q_ (pt_ b_h 1) ?_))))
   refine l_' (hd_h_2) (aLoad Try.prog 22 (pt_ b_h 1) H) (h_h.ld (by kernel_rfl)) ?_
   refine q_ (.int .u32 id_) ?_
   obtain ⟨g25, r26⟩ := G_some r24
   refine l_' (elp hd_h_2 1 id_.toNat 0) (aIndexAddr Try.prog 22 hd_h_2 (.int .u32 id_)) (h_h_2.idxb (by kernel_rfl) g25.1 g25.2) ?_
   refine l_' (i_ (gt h_2 id_)) (aLoad Try.prog 3 (elp hd_h_2 1 id_.toNat 0) H) (h_h_2.ld g25.1 g25.2 (by kernel_rfl)) ?_
   refine q_ (.bool (decide ((gt h_2 id_) = 0))) (q_ (.bool (decide ((gt h_2 id_) = 0))) (s_nil ?_))
   obtain rfl := Option.some.inj r26
   exact k9 _ _ ⟨ha_, rfl⟩
  have r27 := ite_f h21 r13
  refine l_' (.bool true) (aBin Try.prog .neq 31 (.tmp 8) (.const .nilIface) (.iface t22 x23) .nilIface) (aBin_nnil (by kernel_rfl)) ?_
  refine q_ (.bool true) (n_' (n_' (n_' (n_' (n_' (n_' (n_' (n_' (q_ (.bool true) (s_nil ?_))))))))))
  obtain rfl := Option.some.inj r27
  exact k9 _ _ ⟨ha_, rfl⟩
 obtain ⟨hh10, rfl⟩ := hM
 obtain ⟨β, rfl⟩ := has_ex hh10
 clear hh10
 refine k3 _ _ ?_
 refine w_cond (o4) (by kernel_rfl) rfl (fun h28 => ?_) (fun h28 => ?_)
 ·have r29 := ite_t h28 r6
  refine w_seqk fun _ k30 => g_' (q_ (.int .u64 0) (q_ (.bool false) (s_nil (k30 _ _ ?_))))
  refine w_ret (th_ret ?_)
  refine b_ret (fn := Try.f167) (vs := [.int .u64 0, .bool false]) (aRes_tmp (by kernel_rfl) (aRes_tmp (by kernel_rfl) (rfl))) ?_
  obtain rfl := Option.some.inj r29
  exact ⟨rfl, rfl⟩
 have r31 := ite_bf h28 r6
 refine w_skip (k2 _ _ (w_seqk fun _ k32 => ?_))
 refine w_draw [0, 1, 2, 3, 4, 5, 6, 7, 8, 9, 10, 11, 12, 13, 14, 15, 16] (by kernel_rfl) ?_
 refine e_' (pt_ b_h 0) (e_' (pt_ b_h 0) (e_' (pt_ b_h 0) ?_))
 refine m_' (hd_h_) (aLoad Try.prog 227 (pt_ b_h 0) H) (h_h.ld (by kernel_rfl)) ?_
 refine e_' (pt_ b_h 0) (e_' (pt_ b_h 0) (e_' (pt_ b_h 1) ?_))
 refine m_' (hd_h_2) (aLoad Try.prog 22 (pt_ b_h 1) H) (h_h.ld (by kernel_rfl)) ?_
 refine e_' (.int .u32 id_) ?_
 obtain ⟨g33, r34⟩ := G_some r31
 refine m_' (elp hd_h_2 1 id_.toNat 0) (aIndexAddr Try.prog 22 hd_h_2 (.int .u32 id_)) (h_h_2.idxb (by kernel_rfl) g33.1 g33.2) ?_
 refine m_' (i_ (gt h_2 id_)) (aLoad Try.prog 3 (elp hd_h_2 1 id_.toNat 0) H) (h_h_2.ld g33.1 g33.2 (by kernel_rfl)) ?_
 obtain ⟨g35, r36⟩ := G_some r34
 refine d_w (((gt h_2 id_) - 1)) (k := .i64) (x := ((gt h_2 id_) - 1)) (by kernel_rfl) (wrap64 g35) ?_
 obtain ⟨g37, r38⟩ := G_some r36
 refine m_' (elp hd_h_ 2 ((gt h_2 id_) - 1).toNat 0) (aIndexAddr Try.prog 227 hd_h_ (i_ ((gt h_2 id_) - 1))) (h_h_.idxb (by kernel_rfl) g37.1 g37.2) ?_
 refine m_' (elp hd_h_ 2 ((gt h_2 id_) - 1).toNat 0) (aFieldAddr Try.prog 233 (elp hd_h_ 2 ((gt h_2 id_) - 1).toNat 0) 0) (Sq.fldq (d := 0) h_h_ g37.1 g37.2 (by kernel_rfl)) ?_
 refine m_' (.int .u64 ((gt h_ ((gt h_2 id_) - 1)).1)) (aLoad Try.prog 42 (elp hd_h_ 2 ((gt h_2 id_) - 1).toNat 0) H) (h_h_.ld g37.1 g37.2 (by kernel_rfl)) ?_
 refine e_' (.int .u64 ((gt h_ ((gt h_2 id_) - 1)).1)) (e_' (.bool true) ?_)
 refine d_nil ?_
 refine k32 _ _ ?_
 refine w_ret ?_
 refine b_ret (fn := Try.f167) (vs := [.int .u64 ((gt h_ ((gt h_2 id_) - 1)).1), .bool true]) (aRes_tmp (by kernel_rfl) (aRes_tmp (by kernel_rfl) (rfl))) ?_
 obtain rfl := Option.some.inj r38
 exact ⟨rfl, rfl⟩
theorem c_heap_Heap_Remove {H : AH} {b_h : Nat} {hd_h_ : Value} {fp_h_ : Fp} {hd_h_2 : Value} {fp_h_2 : Fp} {h_ : List (Int × Int)} {h_2 : List (Int)} {id_ : Int} {r : Bool × List (Int) × List (Int × Int)}
    (wf : WF H) (h_h_ : Ow enc_u64_u32 2 H hd_h_ h_ fp_h_) (h_h_2 : Ow (encI .i64) 1 H hd_h_2 h_2 fp_h_2) (h_h : Row H b_h [hd_h_, hd_h_2]) (dj_b_h_fp_h_2 : Dj [b_h] fp_h_2) (dj_b_h_fp_h_ : Dj [b_h] fp_h_) (dj_fp_h_2_fp_h_ : Dj fp_h_2 fp_h_) (hr : z_heap_Heap_Remove h_ h_2 id_ = some r) :
    ACalls Try.prog 146 #[pt_ b_h 0, .int .u32 id_] H fun v H' => ∃ (s5 : Value), v = .bool r.1 ∧ FrS ([b_h] ++ (fp_h_ ++ fp_h_2)) H H' ∧ Ow (encI .i64) 1 H' hd_h_2 r.2.1 fp_h_2 ∧ Ow enc_u64_u32 2 H' s5 r.2.2 fp_h_ ∧ Row H' b_h [s5, hd_h_2] := by
 refine acalls_of_body mixed Try.func146 rfl (Nat.le_of_ble_eq_true rfl) ?_
 unfold z_heap_Heap_Remove at hr
 refine w_seqk fun _ k8 => g_' (q_ (.bool false) (s_nil (k8 _ _ (w_seqk fun _ k9 => w_seqk fun _ k10 => g_' (q_ (pt_ b_h 0) (q_ (.int .u32 id_) ?_))))))
 obtain ⟨y11, hy12, r13⟩ := bind_some hr
 refine s_ck 167 #[pt_ b_h 0, .int .u32 id_] (by kernel_rfl) (c_heap_Heap_Key wf h_h_.sq h_h_2.sq h_h hy12) ?_
 rintro _ _ ⟨rfl, rfl⟩
 refine q_ (.tuple #[.int .u64 y11.1, .bool y11.2]) (q_ (.int .u64 y11.1) (q_ (.bool y11.2) (q_ (.int .u64 y11.1) (q_ (.bool y11.2) (s_nil (k10 _ _ (w_seqk fun _ k16 => g_' (q_ (.bool y11.2) (q_ (.bool (!y11.2)) (s_nil (k16 _ _ ?_)))))))))))
 refine w_cond ((!y11.2)) (by kernel_rfl) rfl (fun h17 => ?_) (fun h17 => ?_)
 ·have r18 := ite_t h17 r13
  refine w_seqk fun _ k19 => g_' (q_ (.bool false) (s_nil (k19 _ _ ?_)))
  refine w_ret (th_ret ?_)
  refine b_ret (fn := Try.f146) (vs := [.bool false]) (aRes_tmp (by kernel_rfl) (rfl)) ?_
  obtain rfl := Option.some.inj r18
  exact ⟨(hd_h_), rfl, (FrS.refl (W := ([b_h] ++ (fp_h_ ++ fp_h_2))) wf), h_h_2, h_h_, h_h⟩
 have r20 := ite_bf h17 r13
 refine w_skip (k9 _ _ (w_seqk fun _ k21 => ?_))
 refine w_draw [0, 1, 2, 3, 4, 5, 6, 7, 8, 9, 10, 11, 12, 13, 14, 15] (by kernel_rfl) ?_
 refine e_' (pt_ b_h 0) (e_' (pt_ b_h 0) (e_' (pt_ b_h 1) ?_))
 refine m_' (hd_h_2) (aLoad Try.prog 22 (pt_ b_h 1) H) (h_h.ld (by kernel_rfl)) ?_
 refine e_' (.int .u32 id_) ?_
 obtain ⟨g22, r23⟩ := G_some r20
 refine m_' (elp hd_h_2 1 id_.toNat 0) (aIndexAddr Try.prog 22 hd_h_2 (.int .u32 id_)) (h_h_2.sq.idxb (by kernel_rfl) g22.1 g22.2) ?_
 refine m_' (i_ (gt h_2 id_)) (aLoad Try.prog 3 (elp hd_h_2 1 id_.toNat 0) H) (h_h_2.sq.ld g22.1 g22.2 (by kernel_rfl)) ?_
 obtain ⟨g24, r25⟩ := G_some r23
 refine d_w (((gt h_2 id_) - 1)) (k := .i64) (x := ((gt h_2 id_) - 1)) (by kernel_rfl) (wrap64 g24) ?_
 refine e_' (pt_ b_h 0) (e_' (pt_ b_h 0) (e_' (pt_ b_h 0) ?_))
 refine m_' (hd_h_) (aLoad Try.prog 227 (pt_ b_h 0) H) (h_h.ld (by kernel_rfl)) ?_
 refine m_' (i_ (h_.length : Int)) (aLen Try.prog 227 hd_h_ H) (h_h_.sq.lenb (by kernel_rfl)) ?_
 obtain ⟨g26, r27⟩ := G_some r25
 refine d_w (((h_.length : Int) - 1)) (k := .i64) (x := ((h_.length : Int) - 1)) (by kernel_rfl) (wrap64 g26) ?_
 refine e_' (i_ ((gt h_2 id_) - 1)) (e_' (i_ ((h_.length : Int) - 1)) ?_)
 refine d_nil ?_
 refine k21 _ _ (w_seqk fun _ k28 => g_' (q_ (pt_ b_h 0) (q_ (pt_ b_h 0) (q_ (pt_ b_h 0) ?_))))
 refine l_' (hd_h_) (aLoad Try.prog 227 (pt_ b_h 0) H) (h_h.ld (by kernel_rfl)) ?_
 refine q_ (i_ ((h_.length : Int) - 1)) ?_
 obtain ⟨g29, r30⟩ := G_some r27
 refine l_' (elp hd_h_ 2 ((h_.length : Int) - 1).toNat 0) (aIndexAddr Try.prog 227 hd_h_ (i_ ((h_.length : Int) - 1))) (h_h_.sq.idxb (by kernel_rfl) g29.1 g29.2) ?_
 refine l_' (.agg #[.int .u64 ((gt h_ ((h_.length : Int) - 1)).1), .int .u32 ((gt h_ ((h_.length : Int) - 1)).2)]) (aLoad Try.prog 233 (elp hd_h_ 2 ((h_.length : Int) - 1).toNat 0) H) (h_h_.sq.ld g29.1 g29.2 (by kernel_rfl)) ?_
 refine s_rwk wf [.int .u64 0, .int .u32 0] (by kernel_rfl) fun b31 H32 e33 hb34 r35 => ?_
 obtain ⟨H37, q38, e39, r40⟩ := Row.store (P := Try.prog) (t := 233) (p := 0) e33.wf r35 (.agg #[.int .u64 ((gt h_ ((h_.length : Int) - 1)).1), .int .u32 ((gt h_ ((h_.length : Int) - 1)).2)]) [.int .u64 ((gt h_ ((h_.length : Int) - 1)).1), .int .u32 ((gt h_ ((h_.length : Int) - 1)).2)] (by kernel_rfl) (by kernel_rfl) (one_cons (rfl) (one_cons (rfl) (one_nil))) (Nat.le_of_ble_eq_true (by kernel_rfl)) [.int .u64 ((gt h_ ((h_.length : Int) - 1)).1), .int .u32 ((gt h_ ((h_.length : Int) - 1)).2)] (by kernel_rfl)
 refine s_ek (undef) (by kernel_rfl) (map_ok q38) ?_
 refine s_nil (k28 _ _ (w_seqk fun _ k41 => g_' (q_ (pt_ b_h 0) (q_ (pt_ b_h 0) (q_ (pt_ b_h 0) (q_ (pt_ b_h 0) ?_))))))
 have u42 := ((h_h.ext e33).frS e39 (hb34.djn h_h.ltF))
 refine l_' (hd_h_) (aLoad Try.prog 227 (pt_ b_h 0) H37) (u42.ld (by kernel_rfl)) ?_
 refine q_ (i_ ((h_.length : Int) - 1)) ?_
 obtain ⟨g43, r44⟩ := G_some r30
 have u48 := ((h_h_.ext e33).fr e39 (hb34.djn h_h_.lt))
 obtain ⟨s45, q46, hs47⟩ := Ow.head (P := Try.prog) u48 (t := 227) (by kernel_rfl) (hi := (some (i_ ((h_.length : Int) - 1)))) (r := ((h_.length : Int) - 1).toNat) (aBound_int _ (by have := g43; omega)) (by have := g43; omega)
 obtain ⟨a49, n50, c51, rfl⟩ := hs47.form
 refine s_ql (.slice a49 n50 c51) (by kernel_rfl) q46 ?_
 refine q_ (pt_ b_h 0) (q_ (pt_ b_h 0) ?_)
 obtain ⟨H53, q54, e55, r56⟩ := Row.store (P := Try.prog) (t := 227) (p := 0) e39.wf u42 (.slice a49 n50 c51) [.slice a49 n50 c51] (by kernel_rfl) (by kernel_rfl) (one_cons (hs47.one1) (one_nil)) (Nat.le_of_ble_eq_true (by kernel_rfl)) [.slice a49 n50 c51, hd_h_2] (by kernel_rfl)
 refine s_ek (undef) (by kernel_rfl) (map_ok q54) ?_
 refine s_nil (k41 _ _ (w_seqk fun _ k57 => g_' (q_ (pt_ b_h 0) (q_ (pt_ b_h 0) (q_ (pt_ b_h 1) ?_)))))
 refine l_' (hd_h_2) (aLoad Try.prog 22 (pt_ b_h 1) H53) (r56.ld (by kernel_rfl)) ?_
 refine q_ (.int .u32 id_) ?_
 have u58 := (((h_h_2.ext e33).fr e39 (hb34.djn h_h_2.lt)).fr e55 dj_b_h_fp_h_2)
 refine l_' (elp hd_h_2 1 id_.toNat 0) (aIndexAddr Try.prog 22 hd_h_2 (.int .u32 id_)) (u58.sq.idxb (by kernel_rfl) g22.1 g22.2) ?_
 obtain ⟨H59, q60, e61, hm62⟩ := Ow.store (P := Try.prog) (t := 3) (off := 0) e55.wf u58 g22.1 g22.2 (i_ 0) [i_ 0] (by kernel_rfl) (by kernel_rfl) rfl 0 (Nat.le_of_ble_eq_true rfl) (by kernel_rfl)
 refine s_ek (undef) (by kernel_rfl) (map_ok q60) ?_
 refine s_nil (k57 _ _ (w_seqk fun _ k63 => w_seqk fun _ k64 => g_' (q_ (i_ ((gt h_2 id_) - 1)) (q_ (i_ ((h_.length : Int) - 1)) (q_ (.bool (decide (((gt h_2 id_) - 1) < ((h_.length : Int) - 1)))) (s_nil (k64 _ _ ?_)))))))
 refine w_condp (((gt h_2 id_) - 1) < ((h_.length : Int) - 1)) (by kernel_rfl) rfl (fun h65 => ?_) (fun h65 => ?_)
 ·have r66 := ite_t h65 r44
  refine w_seqk fun _ k67 => g_' (q_ (pt_ b_h 0) (q_ (i_ ((gt h_2 id_) - 1)) ?_))
  have u68 := ((r40.frS e55 (Dj.symm (hb34.djn h_h.ltF))).frS e61 (Dj.symm (hb34.djn h_h_2.lt)))
  refine l_' (.agg #[.int .u64 ((gt h_ ((h_.length : Int) - 1)).1), .int .u32 ((gt h_ ((h_.length : Int) - 1)).2)]) (aLoad Try.prog 233 (pt_ b31 0) H59) (u68.ld (by kernel_rfl)) ?_
  have u69 := ((hs47.fr e55 dj_b_h_fp_h_).fr e61 dj_fp_h_2_fp_h_)
  have u70 := (r56.frS e61 (Dj.symm dj_b_h_fp_h_2))
  obtain ⟨y71, hy72, r73⟩ := bind_some r66
  refine s_ck 164 #[pt_ b_h 0, i_ ((gt h_2 id_) - 1), .agg #[.int .u64 ((gt h_ ((h_.length : Int) - 1)).1), .int .u32 ((gt h_ ((h_.length : Int) - 1)).2)]] (by kernel_rfl) (c_heap_Heap_put e61.wf u69 hm62 u70 (Dj.symm dj_b_h_fp_h_) (Dj.symm dj_fp_h_2_fp_h_) hy72) ?_
  rintro _ H74 ⟨rfl, e75, m76, m77⟩
  refine s_nil (k67 _ _ (w_seqk fun _ k78 => g_' (q_ (pt_ b_h 0) (q_ (i_ ((gt h_2 id_) - 1)) ?_))))
  have u79 := (u70.frS e75 (Dj.app (Dj.symm dj_b_h_fp_h_) (Dj.symm dj_b_h_fp_h_2)))
  obtain ⟨y80, hy81, r82⟩ := bind_some r73
  refine s_ck 165 #[pt_ b_h 0, i_ ((gt h_2 id_) - 1)] (by kernel_rfl) (c_heap_Heap_up e75.wf m76 m77 u79 (Dj.symm dj_b_h_fp_h_) (Dj.symm dj_fp_h_2_fp_h_) (Dj.symm dj_b_h_fp_h_2) hy81) ?_
  rintro _ H83 ⟨rfl, e84, m85, m86⟩
  refine s_nil (k78 _ _ ?_)
  refine w_draw [0, 1, 2, 3, 4, 5, 6, 7, 8, 9, 10] (by kernel_rfl) ?_
  refine e_' (pt_ b_h 0) (e_' (pt_ b_h 0) (e_' (pt_ b_h 0) (e_' (pt_ b_h 1) ?_)))
  have u87 := (u79.frS e84 (Dj.app (Dj.symm dj_b_h_fp_h_) (Dj.symm dj_b_h_fp_h_2)))
  refine m_' (hd_h_2) (aLoad Try.prog 22 (pt_ b_h 1) H83) (u87.ld (by kernel_rfl)) ?_
  refine e_' (pt_ b31 1) ?_
  have u88 := ((u68.frS e75 (Dj.app (Dj.symm (hb34.djn h_h_.lt)) (Dj.symm (hb34.djn h_h_2.lt)))).frS e84 (Dj.app (Dj.symm (hb34.djn h_h_.lt)) (Dj.symm (hb34.djn h_h_2.lt))))
  refine m_' (.int .u32 ((gt h_ ((h_.length : Int) - 1)).2)) (aLoad Try.prog 90 (pt_ b31 1) H83) (u88.ld (by kernel_rfl)) ?_
  obtain ⟨g89, r90⟩ := G_some r82
  refine m_' (elp hd_h_2 1 ((gt h_ ((h_.length : Int) - 1)).2).toNat 0) (aIndexAddr Try.prog 22 hd_h_2 (.int .u32 ((gt h_ ((h_.length : Int) - 1)).2))) (m86.sq.idxb (by kernel_rfl) g89.1 g89.2) ?_
  refine m_' (i_ (gt y80.2 ((gt h_ ((h_.length : Int) - 1)).2))) (aLoad Try.prog 3 (elp hd_h_2 1 ((gt h_ ((h_.length : Int) - 1)).2).toNat 0) H83) (m86.sq.ld g89.1 g89.2 (by kernel_rfl)) ?_
  obtain ⟨g91, r92⟩ := G_some r90
  refine d_w (((gt y80.2 ((gt h_ ((h_.length : Int) - 1)).2)) - 1)) (k := .i64) (x := ((gt y80.2 ((gt h_ ((h_.length : Int) - 1)).2)) - 1)) (by kernel_rfl) (wrap64 g91) ?_
  obtain ⟨y93, hy94, r95⟩ := bind_some r92
  refine d_ck 166 #[pt_ b_h 0, i_ ((gt y80.2 ((gt h_ ((h_.length : Int) - 1)).2)) - 1)] (by kernel_rfl) (c_heap_Heap_down e84.wf m85 m86 u87 (Dj.symm dj_b_h_fp_h_) (Dj.symm dj_fp_h_2_fp_h_) (Dj.symm dj_b_h_fp_h_2) hy94) ?_
  rintro _ H96 ⟨rfl, e97, m98, m99⟩
  refine ⟨st_nil, ?_⟩
  refine d_nil ?_
  refine k63 _ _ (w_seqk fun _ k100 => g_' (q_ (.bool true) (s_nil (k100 _ _ ?_))))
  refine w_ret ?_
  refine b_ret (fn := Try.f146) (vs := [.bool true]) (aRes_tmp (by kernel_rfl) (rfl)) ?_
  have u101 := (u87.frS e97 (Dj.app (Dj.symm dj_b_h_fp_h_) (Dj.symm dj_b_h_fp_h_2)))
  obtain rfl := Option.some.inj r95
  exact ⟨(.slice a49 n50 c51), rfl, (FrS.step wf (FrS.step wf (FrS.step wf (FrS.step wf (FrS.step wf (FrS.step wf ((FrS.refl (W := ([b_h] ++ (fp_h_ ++ fp_h_2))) wf).extR e33) e39 (hb34.fresh (Nat.le_refl _))) e55 Inn.left) e61 (Inn.right (Inn.right Inn.refl'))) e75 (Inn.app (Inn.right Inn.left) (Inn.right (Inn.right Inn.refl')))) e84 (Inn.app (Inn.right Inn.left) (Inn.right (Inn.right Inn.refl')))) e97 (Inn.app (Inn.right Inn.left) (Inn.right (Inn.right Inn.refl')))), m99, m98, u101⟩
 have r102 := ite_f h65 r44
 refine w_skip (k63 _ _ (w_seqk fun _ k103 => g_' (q_ (.bool true) (s_nil (k103 _ _ ?_)))))
 refine w_ret ?_
 refine b_ret (fn := Try.f146) (vs := [.bool true]) (aRes_tmp (by kernel_rfl) (rfl)) ?_
 have u104 := ((hs47.fr e55 dj_b_h_fp_h_).fr e61 dj_fp_h_2_fp_h_)
 have u105 := (r56.frS e61 (Dj.symm dj_b_h_fp_h_2))
 obtain rfl := Option.some.inj r102
 exact ⟨(.slice a49 n50 c51), rfl, (FrS.step wf (FrS.step wf (FrS.step wf ((FrS.refl (W := ([b_h] ++ (fp_h_ ++ fp_h_2))) wf).extR e33) e39 (hb34.fresh (Nat.le_refl _))) e55 Inn.left) e61 (Inn.right (Inn.right Inn.refl'))), hm62, u104, u105⟩
theorem c_heap_Heap_Pop {H : AH} {b_h : Nat} {hd_h_ : Value} {fp_h_ : Fp} {hd_h_2 : Value} {fp_h_2 : Fp} {h_ : List (Int × Int)} {h_2 : List (Int)} {r : Int × Int × Bool × List (Int) × List (Int × Int)}
    (wf : WF H) (h_h_ : Ow enc_u64_u32 2 H hd_h_ h_ fp_h_) (h_h_2 : Ow (encI .i64) 1 H hd_h_2 h_2 fp_h_2) (h_h : Row H b_h [hd_h_, hd_h_2]) (dj_b_h_fp_h_2 : Dj [b_h] fp_h_2) (dj_b_h_fp_h_ : Dj [b_h] fp_h_) (dj_fp_h_2_fp_h_ : Dj fp_h_2 fp_h_) (hr : z_heap_Heap_Pop h_ h_2 = some r) :
    ACalls Try.prog 117 #[pt_ b_h 0] H fun v H' => ∃ (s5 : Value), v = .tuple #[.int .u32 r.1, .int .u64 r.2.1, .bool r.2.2.1] ∧ FrS ([b_h] ++ (fp_h_ ++ fp_h_2)) H H' ∧ Ow (encI .i64) 1 H' hd_h_2 r.2.2.2.1 fp_h_2 ∧ Ow enc_u64_u32 2 H' s5 r.2.2.2.2 fp_h_ ∧ Row H' b_h [s5, hd_h_2] := by
 refine acalls_of_body mixed Try.func117 rfl (Nat.le_of_ble_eq_true rfl) ?_
 unfold z_heap_Heap_Pop at hr
 refine w_seqk fun _ k8 => g_' (q_ (.int .u32 0) (q_ (.int .u64 0) (q_ (.bool false) (s_nil (k8 _ _ (w_seqk fun _ k9 => g_' (q_ (pt_ b_h 0) ?_)))))))
 obtain ⟨y10, hy11, r12⟩ := bind_some hr
 refine s_ck 116 #[pt_ b_h 0] (by kernel_rfl) (c_heap_Heap_Top wf h_h_.sq h_h_2.sq h_h hy11) ?_
 rintro _ _ ⟨rfl, rfl⟩
 refine q_ (.tuple #[.int .u32 y10.1, .int .u64 y10.2.1, .bool y10.2.2]) (q_ (.int .u32 y10.1) (q_ (.int .u64 y10.2.1) (q_ (.bool y10.2.2) (q_ (.int .u32 y10.1) (q_ (.int .u64 y10.2.1) (q_ (.bool y10.2.2) (s_nil (k9 _ _ (w_seqk fun _ k15 => w_seqk fun _ k16 => g_' (q_ (.bool y10.2.2) (s_nil (k16 _ _ ?_))))))))))))
 refine w_cond (y10.2.2) (by kernel_rfl) rfl (fun h17 => ?_) (fun h17 => ?_)
 ·have r18 := ite_t h17 r12
  refine g_' (q_ (pt_ b_h 0) (q_ (.int .u32 y10.1) ?_))
  obtain ⟨y19, hy20, r21⟩ := bind_some r18
  refine s_ck 146 #[pt_ b_h 0, .int .u32 y10.1] (by kernel_rfl) (c_heap_Heap_Remove wf h_h_ h_h_2 h_h dj_b_h_fp_h_2 dj_b_h_fp_h_ dj_fp_h_2_fp_h_ hy20) ?_
  rintro _ H23 ⟨s22, rfl, e24, m25, m26, m27⟩
  obtain ⟨a29, n30, c31, rfl⟩ := m26.form
  refine s_nil (k15 _ _ (w_seqk fun _ k32 => g_' (q_ (.int .u32 y10.1) (q_ (.int .u64 y10.2.1) (q_ (.bool y10.2.2) (q_ (.int .u32 y10.1) (q_ (.int .u64 y10.2.1) (q_ (.bool y10.2.2) (s_nil (k32 _ _ ?_))))))))))
  refine w_ret ?_
  refine b_ret (fn := Try.f117) (vs := [.int .u32 y10.1, .int .u64 y10.2.1, .bool y10.2.2]) (aRes_tmp (by kernel_rfl) (aRes_tmp (by kernel_rfl) (aRes_tmp (by kernel_rfl) (rfl)))) ?_
  obtain rfl := Option.some.inj r21
  exact ⟨(.slice a29 n30 c31), rfl, (FrS.step wf (FrS.refl (W := ([b_h] ++ (fp_h_ ++ fp_h_2))) wf) e24 (Inn.app Inn.left (Inn.app (Inn.right Inn.left) (Inn.right (Inn.right Inn.refl'))))), m25, m26, m27⟩
 have r33 := ite_bf h17 r12
 refine w_skip (k15 _ _ (w_seqk fun _ k34 => g_' (q_ (.int .u32 y10.1) (q_ (.int .u64 y10.2.1) (q_ (.bool y10.2.2) (q_ (.int .u32 y10.1) (q_ (.int .u64 y10.2.1) (q_ (.bool y10.2.2) (s_nil (k34 _ _ ?_))))))))))
 refine w_ret ?_
 refine b_ret (fn := Try.f117) (vs := [.int .u32 y10.1, .int .u64 y10.2.1, .bool y10.2.2]) (aRes_tmp (by kernel_rfl) (aRes_tmp (by kernel_rfl) (aRes_tmp (by kernel_rfl) (rfl)))) ?_
 obtain rfl := Option.some.inj r33
 exact ⟨(hd_h_), rfl, (FrS.refl (W := ([b_h] ++ (fp_h_ ++ fp_h_2))) wf), h_h_2, h_h_, h_h⟩
theorem c_stamp_Stamp_Get {H : AH} {b_s : Nat} {hd_s_ : Value} {fp_s_ : Fp} {s_ : List (Int × Int)} {s_2 : Int} {s_3 : Int} {i : Int} {r : Int × Bool}
    (wf : WF H) (h_s_ : Sq enc_u64_u32 2 H hd_s_ s_ fp_s_) (h_s : Row H b_s [hd_s_, .int .u32 s_2, i_ s_3]) (hr : z_stamp_Stamp_Get s_ s_2 s_3 i = some r) :
    ACalls Try.prog 67 #[pt_ b_s 0, i_ i] H fun v H' => v = .tuple #[.int .u64 r.1, .bool r.2] ∧ H = H' := by
 refine acalls_of_body mixed Try.func67 rfl (Nat.le_of_ble_eq_true rfl) ?_
 unfold z_stamp_Stamp_Get at hr
 refine w_seqk fun _ k1 => g_' (q_ (.int .u64 0) (q_ (.bool false) (s_nil (k1 _ _ (w_seqk fun _ k2 => w_seqk fun _ k3 => ?_)))))
 obtain ⟨o4, hx5, r6⟩ := bind_some hr
 refine w_mid (fun α H7 => Has α [(0, pt_ b_s 0), (1, i_ i), (35, .bool o4)] ∧ H = H7) (fun _ k9 => ?_) (fun α H7 hM => ?_)
 ·refine w_draw [0, 1, 2, 3, 4, 5, 6, 7, 8, 9, 10, 11, 12, 13, 14, 15, 16, 17, 18, 19, 20, 21, 22, 23, 24, 25, 26, 27, 28, 29] (by kernel_rfl) ?_
  refine e_' (pt_ b_s 0) (e_' (.bool false) (e_' (.bool false) (e_' (i_ i) ?_)))
  refine d_b (i < 0) (by kernel_rfl) (fun h11 => ?_) (fun h11 => ?_)
  ·have r12 := ite_t h11 hx5
   refine e_' (.bool true) (e_' (.bool true) (j_' (j_' (j_' (j_' (j_' (j_' (j_' (e_' (.bool true) (e_' (.bool true) (j_' (j_' (j_' (j_' (j_' (j_' (j_' (j_' (j_' (j_' (j_' (j_' (j_' (e_' (.bool true) ?_))))))))))))))))))))))))
   refine d_nil ?_
   obtain rfl := Option.some.inj r12
   exact k9 _ _ ⟨ha_, rfl⟩
  have r13 := ite_f h11 hx5
  refine e_' (.bool false) (e_' (.bool false) (e_' (i_ i) (e_' (pt_ b_s 0) (e_' (pt_ b_s 0) (e_' (pt_ b_s 0) ?_)))))
  refine m_' (hd_s_) (aLoad Try.prog 189 (pt_ b_s 0) H) (h_s.ld (by kernel_rfl)) ?_
  refine m_' (i_ (s_.length : Int)) (aLen Try.prog 189 hd_s_ H) (h_s_.lenb (by kernel_rfl)) ?_
  refine d_b (i ≥ (s_.length : Int)) (by kernel_rfl) (fun h14 => ?_) (fun h14 => ?_)
  ·have r15 := ite_t h14 r13
   refine e_' (.bool true) (e_' (.bool true) (j_' (j_' (j_' (j_' (j_' (j_' (j_' (j_' (j_' (j_' (j_' (j_' (j_' (e_' (.bool true) ?_)))))))))))))))
   refine d_nil ?_
   obtain rfl := Option.some.inj r15
   exact k9 _ _ ⟨ha_, rfl⟩
  have r16 := ite_f h14 r13
  refine e_' (.bool false) (e_' (.bool false) (e_' (pt_ b_s 0) (e_' (pt_ b_s 0) (e_' (pt_ b_s 0) ?_))))
  refine m_' (hd_s_) (aLoad Try.prog 189 (pt_ b_s 0) H) (h_s.ld (by kernel_rfl)) ?_
  refine e_' (i_ i) ?_
  obtain ⟨g17, r18⟩ := G_some r16
  refine m_' (elp hd_s_ 2 i.toNat 0) (aIndexAddr Try.prog 189 hd_s_ (i_ i)) (h_s_.idxb (by kernel_rfl) g17.1 g17.2) ?_
  refine m_' (elp hd_s_ 2 i.toNat 1) (aFieldAddr Try.prog 193 (elp hd_s_ 2 i.toNat 0) 1) (Sq.fldq (d := 1) h_s_ g17.1 g17.2 (by kernel_rfl)) ?_
  refine m_' (.int .u32 ((gt s_ i).2)) (aLoad Try.prog 90 (elp hd_s_ 2 i.toNat 1) H) (h_s_.ld g17.1 g17.2 (by kernel_rfl)) ?_
  refine e_' (pt_ b_s 0) (e_' (pt_ b_s 0) (e_' (pt_ b_s 1) ?_))
  refine m_' (.int .u32 s_2) (aLoad Try.prog 90 (pt_ b_s 1) H) (h_s.ld (by kernel_rfl)) ?_
  refine e_' (.bool (!decide (((gt s_ i).2) = s_2))) (e_' (.bool (!decide (((gt s_ i).2) = s_2))) ?_)
  refine d_nil ?_
  obtain rfl := Option.some.inj r18
  exact k9 _ _ ⟨ha_, rfl⟩
 obtain ⟨hh10, rfl⟩ := hM
 obtain ⟨β, rfl⟩ := has_ex hh10
 clear hh10
 refine k3 _ _ ?_
 refine w_cond (o4) (by kernel_rfl) rfl (fun h19 => ?_) (fun h19 => ?_)
 ·have r20 := ite_t h19 r6
  refine w_seqk fun _ k21 => g_' (q_ (.int .u64 0) (q_ (.bool false) (s_nil (k21 _ _ ?_))))
  refine w_ret (th_ret ?_)
  refine b_ret (fn := Try.f67) (vs := [.int .u64 0, .bool false]) (aRes_tmp (by kernel_rfl) (aRes_tmp (by kernel_rfl) (rfl))) ?_
  obtain rfl := Option.some.inj r20
  exact ⟨rfl, rfl⟩
 have r22 := ite_bf h19 r6
 refine w_skip (k2 _ _ (w_seqk fun _ k23 => g_' (q_ (pt_ b_s 0) (q_ (pt_ b_s 0) (q_ (pt_ b_s 0) ?_)))))
 refine l_' (hd_s_) (aLoad Try.prog 189 (pt_ b_s 0) H) (h_s.ld (by kernel_rfl)) ?_
 refine q_ (i_ i) ?_
 obtain ⟨g24, r25⟩ := G_some r22
 refine l_' (elp hd_s_ 2 i.toNat 0) (aIndexAddr Try.prog 189 hd_s_ (i_ i)) (h_s_.idxb (by kernel_rfl) g24.1 g24.2) ?_
 refine l_' (elp hd_s_ 2 i.toNat 0) (aFieldAddr Try.prog 193 (elp hd_s_ 2 i.toNat 0) 0) (Sq.fldq (d := 0) h_s_ g24.1 g24.2 (by kernel_rfl)) ?_
 refine l_' (.int .u64 ((gt s_ i).1)) (aLoad Try.prog 42 (elp hd_s_ 2 i.toNat 0) H) (h_s_.ld g24.1 g24.2 (by kernel_rfl)) ?_
 refine q_ (.int .u64 ((gt s_ i).1)) (q_ (.bool true) (s_nil (k23 _ _ ?_)))
 refine w_ret ?_
 refine b_ret (fn := Try.f67) (vs := [.int .u64 ((gt s_ i).1), .bool true]) (aRes_tmp (by kernel_rfl) (aRes_tmp (by kernel_rfl) (rfl))) ?_
 obtain rfl := Option.some.inj r25
 exact ⟨rfl, rfl⟩
end Go.Vd

/-! (KSy3) -/

set_option maxRecDepth 100000
set_option maxHeartbeats 4000000
set_option linter.unusedVariables false
namespace Go.Vd
open Go.Proofs
attribute [local irreducible] wpSeq wpOrd aWp
theorem c_search_state_settle {H : AH} {b_st : Nat} {hd_st_ : Value} {fp_st_ : Fp} {hd_st_2 : Value} {fp_st_2 : Fp} {hd_st_3 : Value} {fp_st_3 : Fp} {b_st_4 : Nat} {hd_st_5 : Value} {fp_st_5 : Fp} {hd_st_6 : Value} {fp_st_6 : Fp} {b_st_7 : Nat} {hd_st_8 : Value} {fp_st_8 : Fp} {hd_st_11 : Value} {fp_st_11 : Fp} {hd_st_12 : Value} {fp_st_12 : Fp} {st_ : List (Int)} {st_2 : List (Int)} {st_3 : List (Int)} {st_5 : List (Int × Int)} {st_6 : List (Int)} {st_8 : List (Int × Int)} {st_9 : Int} {st_10 : Int} {st_11 : List (Int)} {st_12 : List (Bool)} {v_ : Int} {d : Int} {hops : Int} {r : List (Int) × List (Int × Int) × List (Int × Int) × Int × List (Int) × List (Bool)}
    (wf : WF H) (h_st_ : Sq (encI .i64) 1 H hd_st_ st_ fp_st_) (h_st_2 : Sq (encI .i64) 1 H hd_st_2 st_2 fp_st_2) (h_st_3 : Sq (encI .i64) 1 H hd_st_3 st_3 fp_st_3) (h_st_5 : Ow enc_u64_u32 2 H hd_st_5 st_5 fp_st_5) (h_st_6 : Ow (encI .i64) 1 H hd_st_6 st_6 fp_st_6) (h_st_4 : Row H b_st_4 [hd_st_5, hd_st_6]) (h_st_8 : Ow enc_u64_u32 2 H hd_st_8 st_8 fp_st_8) (h_st_7 : Row H b_st_7 [hd_st_8, .int .u32 st_9, i_ st_10]) (h_st_11 : Ow (encI .i64) 1 H hd_st_11 st_11 fp_st_11) (h_st_12 : Ow encB 1 H hd_st_12 st_12 fp_st_12) (h_st : Row H b_st [hd_st_, hd_st_2, hd_st_3, pt_ b_st_4 0, pt_ b_st_7 0, hd_st_11, hd_st_12]) (dj_fp_st_12_b_st : Dj fp_st_12 [b_st]) (dj_fp_st_12_fp_st_11 : Dj fp_st_12 fp_st_11) (dj_fp_st_12_fp_st_6 : Dj fp_st_12 fp_st_6) (dj_fp_st_12_fp_st_5 : Dj fp_st_12 fp_st_5) (dj_fp_st_12_b_st_4 : Dj fp_st_12 [b_st_4]) (dj_fp_st_12_fp_st_8 : Dj fp_st_12 fp_st_8) (dj_fp_st_12_b_st_7 : Dj fp_st_12 [b_st_7]) (dj_fp_st_12_fp_st_ : Dj fp_st_12 fp_st_) (dj_fp_st_12_fp_st_2 : Dj fp_st_12 fp_st_2) (dj_fp_st_12_fp_st_3 : Dj fp_st_12 fp_st_3) (dj_b_st_7_fp_st_8 : Dj [b_st_7] fp_st_8) (dj_fp_st_8_b_st : Dj fp_st_8 [b_st]) (dj_b_st_7_b_st : Dj [b_st_7] [b_st]) (dj_fp_st_8_fp_st_11 : Dj fp_st_8 fp_st_11) (dj_b_st_7_fp_st_11 : Dj [b_st_7] fp_st_11) (dj_fp_st_11_b_st : Dj fp_st_11 [b_st]) (dj_fp_st_8_fp_st_5 : Dj fp_st_8 fp_st_5) (dj_b_st_7_fp_st_5 : Dj [b_st_7] fp_st_5) (dj_fp_st_11_fp_st_5 : Dj fp_st_11 fp_st_5) (dj_fp_st_8_fp_st_6 : Dj fp_st_8 fp_st_6) (dj_b_st_7_fp_st_6 : Dj [b_st_7] fp_st_6) (dj_fp_st_11_fp_st_6 : Dj fp_st_11 fp_st_6) (dj_fp_st_8_b_st_4 : Dj fp_st_8 [b_st_4]) (dj_b_st_7_b_st_4 : Dj [b_st_7] [b_st_4]) (dj_fp_st_11_b_st_4 : Dj fp_st_11 [b_st_4]) (dj_fp_st_5_b_st_4 : Dj fp_st_5 [b_st_4]) (dj_fp_st_5_fp_st_6 : Dj fp_st_5 fp_st_6) (dj_b_st_4_fp_st_6 : Dj [b_st_4] fp_st_6) (dj_fp_st_6_b_st : Dj fp_st_6 [b_st]) (dj_fp_st_5_b_st : Dj fp_st_5 [b_st]) (dj_b_st_4_b_st : Dj [b_st_4] [b_st]) (dj_fp_st_8_fp_st_ : Dj fp_st_8 fp_st_) (dj_fp_st_6_fp_st_ : Dj fp_st_6 fp_st_) (dj_fp_st_5_fp_st_ : Dj fp_st_5 fp_st_) (dj_fp_st_11_fp_st_ : Dj fp_st_11 fp_st_) (dj_b_st_7_fp_st_ : Dj [b_st_7] fp_st_) (dj_b_st_4_fp_st_ : Dj [b_st_4] fp_st_) (dj_fp_st_8_fp_st_2 : Dj fp_st_8 fp_st_2) (dj_fp_st_6_fp_st_2 : Dj fp_st_6 fp_st_2) (dj_fp_st_5_fp_st_2 : Dj fp_st_5 fp_st_2) (dj_fp_st_11_fp_st_2 : Dj fp_st_11 fp_st_2) (dj_b_st_7_fp_st_2 : Dj [b_st_7] fp_st_2) (dj_b_st_4_fp_st_2 : Dj [b_st_4] fp_st_2) (dj_fp_st_8_fp_st_3 : Dj fp_st_8 fp_st_3) (dj_fp_st_6_fp_st_3 : Dj fp_st_6 fp_st_3) (dj_fp_st_5_fp_st_3 : Dj fp_st_5 fp_st_3) (dj_fp_st_11_fp_st_3 : Dj fp_st_11 fp_st_3) (dj_b_st_7_fp_st_3 : Dj [b_st_7] fp_st_3) (dj_b_st_4_fp_st_3 : Dj [b_st_4] fp_st_3) (dj_fp_st_8_fp_st_12 : Dj fp_st_8 fp_st_12) (dj_fp_st_6_fp_st_12 : Dj fp_st_6 fp_st_12) (dj_fp_st_5_fp_st_12 : Dj fp_st_5 fp_st_12) (dj_b_st_7_fp_st_12 : Dj [b_st_7] fp_st_12) (dj_b_st_4_fp_st_12 : Dj [b_st_4] fp_st_12) (dj_fp_st_5_fp_st_8 : Dj fp_st_5 fp_st_8) (dj_fp_st_5_b_st_7 : Dj fp_st_5 [b_st_7]) (dj_fp_st_5_fp_st_11 : Dj fp_st_5 fp_st_11) (hr : z_search_state_settle st_ st_2 st_3 st_5 st_6 st_8 st_9 st_10 st_11 st_12 v_ d hops = some r) :
    ACalls Try.prog 118 #[pt_ b_st 0, i_ v_, .int .u64 d, i_ hops] H fun v H' => ∃ (s5 : Value) (f6 : Fp), v = .tuple #[] ∧ FrS ([b_st_4] ++ ([b_st_7] ++ (fp_st_11 ++ (fp_st_12 ++ (fp_st_5 ++ (fp_st_6 ++ fp_st_8)))))) H H' ∧ Ow (encI .i64) 1 H' hd_st_6 r.1 fp_st_6 ∧ Ow enc_u64_u32 2 H' s5 r.2.1 f6 ∧ Row H' b_st_4 [s5, hd_st_6] ∧ Ow enc_u64_u32 2 H' hd_st_8 r.2.2.1 fp_st_8 ∧ Row H' b_st_7 [hd_st_8, .int .u32 st_9, i_ r.2.2.2.1] ∧ Ow (encI .i64) 1 H' hd_st_11 r.2.2.2.2.1 fp_st_11 ∧ Ow encB 1 H' hd_st_12 r.2.2.2.2.2 fp_st_12 ∧ Inn fp_st_5 H f6 := by
 refine acalls_of_body mixed Try.func118 rfl (Nat.le_of_ble_eq_true rfl) ?_
 unfold z_search_state_settle at hr
 refine w_seqk fun _ k18 => g_' (q_ (pt_ b_st 0) (q_ (pt_ b_st 0) (q_ (pt_ b_st 6) ?_)))
 refine l_' (hd_st_12) (aLoad Try.prog 125 (pt_ b_st 6) H) (h_st.ld (by kernel_rfl)) ?_
 refine q_ (i_ v_) ?_
 obtain ⟨g19, r20⟩ := G_some hr
 refine l_' (elp hd_st_12 1 v_.toNat 0) (aIndexAddr Try.prog 125 hd_st_12 (i_ v_)) (h_st_12.sq.idxb (by kernel_rfl) g19.1 g19.2) ?_
 obtain ⟨H21, q22, e23, hm24⟩ := Ow.store (P := Try.prog) (t := 4) (off := 0) wf h_st_12 g19.1 g19.2 (.bool true) [.bool true] (by kernel_rfl) (by kernel_rfl) rfl true (Nat.le_of_ble_eq_true rfl) (by kernel_rfl)
 refine s_ek (undef) (by kernel_rfl) (map_ok q22) ?_
 refine s_nil (k18 _ _ (w_seqk fun _ k25 => w_seqk fun _ k26 => g_' (q_ (pt_ b_st 0) (q_ (pt_ b_st 0) (q_ (pt_ b_st 5) ?_)))))
 have u27 := (h_st.frS e23 dj_fp_st_12_b_st)
 refine l_' (hd_st_11) (aLoad Try.prog 22 (pt_ b_st 5) H21) (u27.ld (by kernel_rfl)) ?_
 refine q_ (i_ v_) ?_
 obtain ⟨g28, r29⟩ := G_some r20
 have u30 := (h_st_11.fr e23 dj_fp_st_12_fp_st_11)
 refine l_' (elp hd_st_11 1 v_.toNat 0) (aIndexAddr Try.prog 22 hd_st_11 (i_ v_)) (u30.sq.idxb (by kernel_rfl) g19.1 g28) ?_
 refine l_' (i_ (gt st_11 v_)) (aLoad Try.prog 3 (elp hd_st_11 1 v_.toNat 0) H21) (u30.sq.ld g19.1 g28 (by kernel_rfl)) ?_
 refine q_ (i_ hops) (q_ (.bool (decide ((gt st_11 v_) ≥ hops))) (s_nil (k26 _ _ ?_)))
 refine w_condp ((gt st_11 v_) ≥ hops) (by kernel_rfl) rfl (fun h31 => ?_) (fun h31 => ?_)
 ·have r32 := ite_t h31 r29
  refine w_ret (th_ret ?_)
  refine b_ret (fn := Try.f118) (vs := []) (rfl) ?_
  have u33 := (h_st_6.fr e23 dj_fp_st_12_fp_st_6)
  have u34 := (h_st_5.fr e23 dj_fp_st_12_fp_st_5)
  have u35 := (h_st_4.frS e23 dj_fp_st_12_b_st_4)
  have u36 := (h_st_8.fr e23 dj_fp_st_12_fp_st_8)
  have u37 := (h_st_7.frS e23 dj_fp_st_12_b_st_7)
  obtain rfl := Option.some.inj r32
  exact ⟨(hd_st_5), fp_st_5, rfl, (FrS.step wf (FrS.refl (W := ([b_st_4] ++ ([b_st_7] ++ (fp_st_11 ++ (fp_st_12 ++ (fp_st_5 ++ (fp_st_6 ++ fp_st_8))))))) wf) e23 (Inn.right (Inn.right (Inn.right Inn.left)))), u33, u34, u35, u36, u37, u30, hm24, Inn.refl'⟩
 have r38 := ite_f h31 r29
 refine w_skip (k25 _ _ (w_seqk fun _ k39 => g_' (q_ (pt_ b_st 0) (q_ (pt_ b_st 0) (q_ (pt_ b_st 0) (q_ (pt_ b_st 0) ?_))))))
 refine l_' (hd_st_) (aLoad Try.prog 22 (pt_ b_st 0) H21) (u27.ld (by kernel_rfl)) ?_
 refine q_ (i_ v_) ?_
 obtain ⟨g40, r41⟩ := G_some r38
 have u42 := (h_st_.fr e23 dj_fp_st_12_fp_st_)
 refine l_' (elp hd_st_ 1 v_.toNat 0) (aIndexAddr Try.prog 22 hd_st_ (i_ v_)) (u42.idxb (by kernel_rfl) g19.1 g40) ?_
 refine l_' (i_ (gt st_ v_)) (aLoad Try.prog 3 (elp hd_st_ 1 v_.toNat 0) H21) (u42.ld g19.1 g40 (by kernel_rfl)) ?_
 refine q_ (i_ (gt st_ v_)) (s_nil (k39 _ _ ?_))
 obtain ⟨o43, hx44, r45⟩ := bind_some r41
 refine w_mid (fun α H46 => ∃ (s52 : Value) (f53 : Fp), Has α [] ∧ FrS ([b_st_4] ++ ([b_st_7] ++ (fp_st_11 ++ (fp_st_5 ++ (fp_st_6 ++ fp_st_8))))) H21 H46 ∧ Ow (encI .i64) 1 H46 hd_st_6 o43.1 fp_st_6 ∧ Ow enc_u64_u32 2 H46 s52 o43.2.1 f53 ∧ Row H46 b_st_4 [s52, hd_st_6] ∧ Ow enc_u64_u32 2 H46 hd_st_8 o43.2.2.1 fp_st_8 ∧ Row H46 b_st_7 [hd_st_8, .int .u32 st_9, i_ o43.2.2.2.1] ∧ Ow (encI .i64) 1 H46 hd_st_11 o43.2.2.2.2 fp_st_11 ∧ Inn fp_st_5 H21 f53) (fun _ k63 => ?_) (fun α H46 hM => ?_)
 ·refine w_block ?_
  obtain ⟨n65, hn66⟩ := loopO_iff.1 hx44
  have u90 := (h_st_5.fr e23 dj_fp_st_12_fp_st_5)
  have u91 := (h_st_6.fr e23 dj_fp_st_12_fp_st_6)
  have u92 := (h_st_4.frS e23 dj_fp_st_12_b_st_4)
  have u93 := (h_st_8.fr e23 dj_fp_st_12_fp_st_8)
  have u94 := (h_st_7.frS e23 dj_fp_st_12_b_st_7)
  refine w_loopn (fun n α H67 => ∃ (st0 : List (Int × Int)), ∃ (st1 : List (Int)), ∃ (st2 : List (Int × Int)), ∃ (st3 : Int), ∃ (st4 : List (Int)), ∃ (i5 : Int), ∃ (s71 : Value), ∃ (f72 : Fp), iterO (fun zz_ => z_search_state_settle_l0 st_ st_2 st_3 st_9 st_12 v_ d zz_.1 zz_.2.1 zz_.2.2.1 zz_.2.2.2.1 zz_.2.2.2.2.1 zz_.2.2.2.2.2) n (st0, st1, st2, st3, st4, i5) = some o43 ∧ Has α [(0, pt_ b_st 0), (1, i_ v_), (2, .int .u64 d), (8, i_ i5)] ∧ FrS ([b_st_4] ++ ([b_st_7] ++ (fp_st_11 ++ (fp_st_5 ++ (fp_st_6 ++ fp_st_8))))) H21 H67 ∧ Ow enc_u64_u32 2 H67 s71 st0 f72 ∧ Ow (encI .i64) 1 H67 hd_st_6 st1 fp_st_6 ∧ Row H67 b_st_4 [s71, hd_st_6] ∧ Ow enc_u64_u32 2 H67 hd_st_8 st2 fp_st_8 ∧ Row H67 b_st_7 [hd_st_8, .int .u32 st_9, i_ st3] ∧ Ow (encI .i64) 1 H67 hd_st_11 st4 fp_st_11 ∧ Inn fp_st_5 H21 f72) n65 ⟨st_5, st_6, st_8, st_10, st_11, (gt st_ v_), (hd_st_5), fp_st_5, hn66, ha_, (FrS.refl (W := ([b_st_4] ++ ([b_st_7] ++ (fp_st_11 ++ (fp_st_5 ++ (fp_st_6 ++ fp_st_8)))))) e23.wf), u90, u91, u92, u93, u94, u30, Inn.refl'⟩ ?_
  rintro n65 α H67 ⟨st0, st1, st2, st3, st4, i5, s71, f72, hi85, hh84, e68, m70, m74, m76, m78, m80, m82, i83⟩ K95 k95
  obtain ⟨n86, z87, rfl, hz88, hn89⟩ := iter_succ hi85
  obtain ⟨β, rfl⟩ := has_ex hh84
  clear hh84
  replace hz88 : z_search_state_settle_l0 st_ st_2 st_3 st_9 st_12 v_ d st0 st1 st2 st3 st4 i5 = some z87 := hz88
  unfold z_search_state_settle_l0 at hz88
  obtain ⟨a96, n97, c98, rfl⟩ := m70.form
  refine w_seqk fun _ k99 => w_seqk fun _ k100 => g_' (q_ (i_ i5) (q_ (pt_ b_st 0) (q_ (pt_ b_st 0) (q_ (pt_ b_st 0) (q_ (pt_ b_st 0) ?_)))))
  have u101 := (u27.frS e68 (Dj.app dj_b_st_4_b_st (Dj.app dj_b_st_7_b_st (Dj.app dj_fp_st_11_b_st (Dj.app dj_fp_st_5_b_st (Dj.app dj_fp_st_6_b_st dj_fp_st_8_b_st))))))
  refine l_' (hd_st_) (aLoad Try.prog 22 (pt_ b_st 0) H67) (u101.ld (by kernel_rfl)) ?_
  refine q_ (i_ v_) ?_
  obtain ⟨g102, r103⟩ := G_some hz88
  refine w_' (v_ + 1) (wrap64 (by have := g102; omega)) ?_
  obtain ⟨g104, r105⟩ := G_some r103
  have u106 := (u42.fr e68 (Dj.app dj_b_st_4_fp_st_ (Dj.app dj_b_st_7_fp_st_ (Dj.app dj_fp_st_11_fp_st_ (Dj.app dj_fp_st_5_fp_st_ (Dj.app dj_fp_st_6_fp_st_ dj_fp_st_8_fp_st_))))))
  refine l_' (elp hd_st_ 1 (v_ + 1).toNat 0) (aIndexAddr Try.prog 22 hd_st_ (i_ (v_ + 1))) (u106.idxb (by kernel_rfl) g104.1 g104.2) ?_
  refine l_' (i_ (gt st_ (v_ + 1))) (aLoad Try.prog 3 (elp hd_st_ 1 (v_ + 1).toNat 0) H67) (u106.ld g104.1 g104.2 (by kernel_rfl)) ?_
  refine q_ (.bool (decide (i5 < (gt st_ (v_ + 1))))) (s_nil (k100 _ _ ?_))
  refine w_condp (i5 < (gt st_ (v_ + 1))) (by kernel_rfl) rfl (fun h107 => ?_) (fun h107 => ?_)
  ·have r108 := ite_t h107 r105
   refine w_skip (k99 _ _ (w_seqk fun _ k109 => w_block (w_seqk fun _ k110 => ?_)))
   refine w_draw [0, 1, 2, 3, 4, 5, 6, 7, 8, 9, 10, 11, 12, 13, 14, 15, 16, 17, 18, 19, 20] (by kernel_rfl) ?_
   refine e_' (pt_ b_st 0) (e_' (pt_ b_st 0) (e_' (pt_ b_st 0) (e_' (pt_ b_st 1) ?_)))
   refine m_' (hd_st_2) (aLoad Try.prog 22 (pt_ b_st 1) H67) (u101.ld (by kernel_rfl)) ?_
   refine e_' (i_ i5) ?_
   obtain ⟨g111, r112⟩ := G_some r108
   have u113 := ((h_st_2.fr e23 dj_fp_st_12_fp_st_2).fr e68 (Dj.app dj_b_st_4_fp_st_2 (Dj.app dj_b_st_7_fp_st_2 (Dj.app dj_fp_st_11_fp_st_2 (Dj.app dj_fp_st_5_fp_st_2 (Dj.app dj_fp_st_6_fp_st_2 dj_fp_st_8_fp_st_2))))))
   refine m_' (elp hd_st_2 1 i5.toNat 0) (aIndexAddr Try.prog 22 hd_st_2 (i_ i5)) (u113.idxb (by kernel_rfl) g111.1 g111.2) ?_
   refine m_' (i_ (gt st_2 i5)) (aLoad Try.prog 3 (elp hd_st_2 1 i5.toNat 0) H67) (u113.ld g111.1 g111.2 (by kernel_rfl)) ?_
   refine e_' (.int .u64 d) (e_' (pt_ b_st 0) (e_' (pt_ b_st 0) (e_' (pt_ b_st 0) (e_' (pt_ b_st 2) ?_))))
   refine m_' (hd_st_3) (aLoad Try.prog 22 (pt_ b_st 2) H67) (u101.ld (by kernel_rfl)) ?_
   refine e_' (i_ i5) ?_
   obtain ⟨g114, r115⟩ := G_some r112
   have u116 := ((h_st_3.fr e23 dj_fp_st_12_fp_st_3).fr e68 (Dj.app dj_b_st_4_fp_st_3 (Dj.app dj_b_st_7_fp_st_3 (Dj.app dj_fp_st_11_fp_st_3 (Dj.app dj_fp_st_5_fp_st_3 (Dj.app dj_fp_st_6_fp_st_3 dj_fp_st_8_fp_st_3))))))
   refine m_' (elp hd_st_3 1 i5.toNat 0) (aIndexAddr Try.prog 22 hd_st_3 (i_ i5)) (u116.idxb (by kernel_rfl) g111.1 g114) ?_
   refine m_' (i_ (gt st_3 i5)) (aLoad Try.prog 3 (elp hd_st_3 1 i5.toNat 0) H67) (u116.ld g111.1 g114 (by kernel_rfl)) ?_
   obtain ⟨g117, r118⟩ := G_some r115
   refine d_w ((gt st_3 i5)) (k := .u64) (x := (gt st_3 i5)) (by kernel_rfl) (wrapu64 g117) ?_
   obtain ⟨g119, r120⟩ := G_some r118
   refine d_w ((d + (gt st_3 i5))) (k := .u64) (x := (d + (gt st_3 i5))) (by kernel_rfl) (wrapu64 g119) ?_
   refine e_' (i_ (gt st_2 i5)) (e_' (.int .u64 (d + (gt st_3 i5))) ?_)
   refine d_nil ?_
   refine k110 _ _ (w_seqk fun _ k121 => g_' (q_ (pt_ b_st 0) (q_ (pt_ b_st 0) (q_ (pt_ b_st 4) ?_))))
   refine l_' (pt_ b_st_7 0) (aLoad Try.prog 124 (pt_ b_st 4) H67) (u101.ld (by kernel_rfl)) ?_
   refine q_ (i_ (gt st_2 i5)) ?_
   obtain ⟨y122, hy123, r124⟩ := bind_some r120
   refine s_ck 67 #[pt_ b_st_7 0, i_ (gt st_2 i5)] (by kernel_rfl) (c_stamp_Stamp_Get e68.wf m78.sq m80 hy123) ?_
   rintro _ _ ⟨rfl, rfl⟩
   refine q_ (.tuple #[.int .u64 y122.1, .bool y122.2]) (q_ (.int .u64 y122.1) (q_ (.bool y122.2) (q_ (.int .u64 y122.1) (q_ (.bool y122.2) (s_nil (k121 _ _ (w_seqk fun _ k127 => ?_)))))))
   obtain ⟨o128, hx129, r130⟩ := bind_some r124
   refine w_mid (fun α H131 => Has α [(0, pt_ b_st 0), (1, i_ v_), (2, .int .u64 d), (8, i_ i5), (9, i_ (gt st_2 i5)), (10, .int .u64 (d + (gt st_3 i5))), (93, .bool o128)] ∧ H67 = H131) (fun _ k133 => ?_) (fun α H131 hM => ?_)
   ·refine g_' (q_ (pt_ b_st 0) (q_ (pt_ b_st 0) (q_ (pt_ b_st 6) ?_)))
    refine l_' (hd_st_12) (aLoad Try.prog 125 (pt_ b_st 6) H67) (u101.ld (by kernel_rfl)) ?_
    refine q_ (i_ (gt st_2 i5)) ?_
    obtain ⟨g135, r136⟩ := G_some hx129
    have u137 := (hm24.fr e68 (Dj.app dj_b_st_4_fp_st_12 (Dj.app dj_b_st_7_fp_st_12 (Dj.app (Dj.symm dj_fp_st_12_fp_st_11) (Dj.app dj_fp_st_5_fp_st_12 (Dj.app dj_fp_st_6_fp_st_12 dj_fp_st_8_fp_st_12))))))
    refine l_' (elp hd_st_12 1 (gt st_2 i5).toNat 0) (aIndexAddr Try.prog 125 hd_st_12 (i_ (gt st_2 i5))) (u137.sq.idxb (by kernel_rfl) g135.1 g135.2) ?_
    refine l_' (.bool (gt (st_12.set v_.toNat true) (gt st_2 i5))) (aLoad Try.prog 4 (elp hd_st_12 1 (gt st_2 i5).toNat 0) H67) (u137.sq.ld g135.1 g135.2 (by kernel_rfl)) ?_
    refine q_ (.bool (!(gt (st_12.set v_.toNat true) (gt st_2 i5)))) (q_ (.bool (!(gt (st_12.set v_.toNat true) (gt st_2 i5)))) ?_)
    by_cases h138 : (!(gt (st_12.set v_.toNat true) (gt st_2 i5))) = true
    ·have r139 := ite_t h138 r136
     rw [h138]
     refine q_ (.bool y122.2) (q_ (.bool (!y122.2)) (q_ (.bool (!y122.2)) ?_))
     by_cases h140 : (!y122.2) = true
     ·have r141 := ite_t h140 r139
      rw [h140]
      refine n_' (n_' (n_' (q_ (.bool true) (q_ (.bool true) (s_nil ?_)))))
      obtain rfl := Option.some.inj r141
      exact k133 _ _ ⟨ha_, rfl⟩
     have r142 := ite_f h140 r139
     rw [nb h140]
     refine q_ (.int .u64 (d + (gt st_3 i5))) (q_ (.int .u64 y122.1) (q_ (.bool (decide ((d + (gt st_3 i5)) < y122.1))) (q_ (.bool (decide ((d + (gt st_3 i5)) < y122.1))) (q_ (.bool (decide ((d + (gt st_3 i5)) < y122.1))) (s_nil ?_)))))
     obtain rfl := Option.some.inj r142
     exact k133 _ _ ⟨ha_, rfl⟩
    have r143 := ite_f h138 r136
    rw [nb h138]
    refine n_' (n_' (n_' (n_' (n_' (n_' (n_' (q_ (.bool false) (s_nil ?_))))))))
    obtain rfl := Option.some.inj r143
    exact k133 _ _ ⟨ha_, rfl⟩
   obtain ⟨hh134, rfl⟩ := hM
   obtain ⟨β, rfl⟩ := has_ex hh134
   clear hh134
   refine k127 _ _ ?_
   refine w_cond (o128) (by kernel_rfl) rfl (fun h144 => ?_) (fun h144 => ?_)
   ·have r145 := ite_t h144 r130
    refine g_' (q_ (pt_ b_st 0) (q_ (i_ (gt st_2 i5)) (q_ (.int .u64 (d + (gt st_3 i5))) (q_ (pt_ b_st 0) (q_ (pt_ b_st 0) (q_ (pt_ b_st 5) ?_))))))
    refine l_' (hd_st_11) (aLoad Try.prog 22 (pt_ b_st 5) H67) (u101.ld (by kernel_rfl)) ?_
    refine q_ (i_ v_) ?_
    obtain ⟨g146, r147⟩ := G_some r145
    refine l_' (elp hd_st_11 1 v_.toNat 0) (aIndexAddr Try.prog 22 hd_st_11 (i_ v_)) (m82.sq.idxb (by kernel_rfl) g19.1 g146) ?_
    refine l_' (i_ (gt st4 v_)) (aLoad Try.prog 3 (elp hd_st_11 1 v_.toNat 0) H67) (m82.sq.ld g19.1 g146 (by kernel_rfl)) ?_
    obtain ⟨g148, r149⟩ := G_some r147
    refine w_' ((gt st4 v_) + 1) (wrap64 g148) ?_
    have u150 := (hm24.fr e68 (Dj.app dj_b_st_4_fp_st_12 (Dj.app dj_b_st_7_fp_st_12 (Dj.app (Dj.symm dj_fp_st_12_fp_st_11) (Dj.app dj_fp_st_5_fp_st_12 (Dj.app dj_fp_st_6_fp_st_12 dj_fp_st_8_fp_st_12))))))
    obtain ⟨y151, hy152, r153⟩ := bind_some r149
    refine s_ck 115 #[pt_ b_st 0, i_ (gt st_2 i5), .int .u64 (d + (gt st_3 i5)), i_ ((gt st4 v_) + 1)] (by kernel_rfl) (c_search_state_label e68.wf u106 u113 u116 m70 m74 m76 m78 m80 m82 u150.sq u101 dj_b_st_7_fp_st_8 dj_fp_st_8_b_st dj_b_st_7_b_st dj_fp_st_8_fp_st_11 dj_b_st_7_fp_st_11 dj_fp_st_11_b_st (Dj.symm (i83.dj dj_fp_st_5_fp_st_8 (h_st_8.lt.le e23.next))) (Dj.symm (i83.dj dj_fp_st_5_b_st_7 (h_st_7.ltF.le e23.next))) (Dj.symm (i83.dj dj_fp_st_5_fp_st_11 (h_st_11.lt.le e23.next))) dj_fp_st_8_fp_st_6 dj_b_st_7_fp_st_6 dj_fp_st_11_fp_st_6 dj_fp_st_8_b_st_4 dj_b_st_7_b_st_4 dj_fp_st_11_b_st_4 (i83.dj dj_fp_st_5_b_st_4 (h_st_4.ltF.le e23.next)) (i83.dj dj_fp_st_5_fp_st_6 (h_st_6.lt.le e23.next)) dj_b_st_4_fp_st_6 hy152) ?_
    rintro _ H156 ⟨s154, f155, rfl, e157, m158, m159, m160, m161, m162, m163, i164⟩
    obtain ⟨a166, n167, c168, rfl⟩ := m159.form
    refine s_nil (k109 _ _ (g_' (q_ (i_ i5) ?_)))
    obtain ⟨g169, r170⟩ := G_some r153
    refine w_' (i5 + 1) (wrap64 (by have := g169; omega)) ?_
    refine q_ (i_ (i5 + 1)) (s_nil ?_)
    obtain rfl := Option.some.inj r170
    exact k95 n86 _ _ (Nat.lt_succ_self _) ⟨y151.2.1, y151.1, y151.2.2.1, y151.2.2.2.1, y151.2.2.2.2, (i5 + 1), (.slice a166 n167 c168), f155, hn89, ha_, (FrS.step e23.wf (FrS.step e23.wf (FrS.refl (W := ([b_st_4] ++ ([b_st_7] ++ (fp_st_11 ++ (fp_st_5 ++ (fp_st_6 ++ fp_st_8)))))) e23.wf) e68 (Inn.app Inn.left (Inn.app (Inn.right Inn.left) (Inn.app (Inn.right (Inn.right Inn.left)) (Inn.app (Inn.right (Inn.right (Inn.right Inn.left))) (Inn.app (Inn.right (Inn.right (Inn.right (Inn.right Inn.left)))) (Inn.right (Inn.right (Inn.right (Inn.right (Inn.right Inn.refl'))))))))))) e157 (Inn.app Inn.left (Inn.app (Inn.right Inn.left) (Inn.app (Inn.right (Inn.right Inn.left)) (Inn.app (Inn.trans (Inn.right (Inn.right (Inn.right Inn.left))) (Nat.le_refl _) i83) (Inn.app (Inn.right (Inn.right (Inn.right (Inn.right Inn.left)))) (Inn.right (Inn.right (Inn.right (Inn.right (Inn.right Inn.refl'))))))))))), m159, m158, m160, m161, m162, m163, (Inn.trans (Inn.trans Inn.refl' (Nat.le_refl _) i83) e68.next i164)⟩
   have r171 := ite_bf h144 r130
   refine w_skip (k109 _ _ (g_' (q_ (i_ i5) ?_)))
   obtain ⟨g172, r173⟩ := G_some r171
   refine w_' (i5 + 1) (wrap64 (by have := g172; omega)) ?_
   refine q_ (i_ (i5 + 1)) (s_nil ?_)
   obtain rfl := Option.some.inj r173
   exact k95 n86 _ _ (Nat.lt_succ_self _) ⟨st0, st1, st2, st3, st4, (i5 + 1), (.slice a96 n97 c98), f72, hn89, ha_, (FrS.step e23.wf (FrS.refl (W := ([b_st_4] ++ ([b_st_7] ++ (fp_st_11 ++ (fp_st_5 ++ (fp_st_6 ++ fp_st_8)))))) e23.wf) e68 (Inn.app Inn.left (Inn.app (Inn.right Inn.left) (Inn.app (Inn.right (Inn.right Inn.left)) (Inn.app (Inn.right (Inn.right (Inn.right Inn.left))) (Inn.app (Inn.right (Inn.right (Inn.right (Inn.right Inn.left)))) (Inn.right (Inn.right (Inn.right (Inn.right (Inn.right Inn.refl'))))))))))), m70, m74, m76, m78, m80, m82, (Inn.trans Inn.refl' (Nat.le_refl _) i83)⟩
  have r174 := ite_f h107 r105
  refine w_exit (th_exit (th_exit (bl_eq ?_)))
  obtain rfl := Option.some.inj r174
  obtain rfl := it_inr hn89
  exact k63 _ _ ⟨(.slice a96 n97 c98), f72, trivial, (FrS.step e23.wf (FrS.refl (W := ([b_st_4] ++ ([b_st_7] ++ (fp_st_11 ++ (fp_st_5 ++ (fp_st_6 ++ fp_st_8)))))) e23.wf) e68 (Inn.app Inn.left (Inn.app (Inn.right Inn.left) (Inn.app (Inn.right (Inn.right Inn.left)) (Inn.app (Inn.right (Inn.right (Inn.right Inn.left))) (Inn.app (Inn.right (Inn.right (Inn.right (Inn.right Inn.left)))) (Inn.right (Inn.right (Inn.right (Inn.right (Inn.right Inn.refl'))))))))))), m74, m70, m76, m78, m80, m82, (Inn.trans Inn.refl' (Nat.le_refl _) i83)⟩
 obtain ⟨s52, f53, hh64, e47, m49, m51, m55, m57, m59, m61, i62⟩ := hM
 obtain ⟨β, rfl⟩ := has_ex hh64
 clear hh64
 obtain ⟨a175, n176, c177, rfl⟩ := m51.form
 refine b_nrm (fn := Try.f118) (vs := []) (rfl) ?_
 have u178 := (hm24.fr e47 (Dj.app dj_b_st_4_fp_st_12 (Dj.app dj_b_st_7_fp_st_12 (Dj.app (Dj.symm dj_fp_st_12_fp_st_11) (Dj.app dj_fp_st_5_fp_st_12 (Dj.app dj_fp_st_6_fp_st_12 dj_fp_st_8_fp_st_12))))))
 obtain rfl := Option.some.inj r45
 exact ⟨(.slice a175 n176 c177), f53, rfl, (FrS.step wf (FrS.step wf (FrS.refl (W := ([b_st_4] ++ ([b_st_7] ++ (fp_st_11 ++ (fp_st_12 ++ (fp_st_5 ++ (fp_st_6 ++ fp_st_8))))))) wf) e23 (Inn.right (Inn.right (Inn.right Inn.left)))) e47 (Inn.app Inn.left (Inn.app (Inn.right Inn.left) (Inn.app (Inn.right (Inn.right Inn.left)) (Inn.app (Inn.right (Inn.right (Inn.right (Inn.right Inn.left)))) (Inn.app (Inn.right (Inn.right (Inn.right (Inn.right (Inn.right Inn.left))))) (Inn.right (Inn.right (Inn.right (Inn.right (Inn.right (Inn.right Inn.refl')))))))))))), m49, m51, m55, m57, m59, m61, u178, (Inn.trans Inn.refl' e23.next i62)⟩
theorem c_search_run {H : AH} {hd_First : Value} {fp_First : Fp} {hd_To : Value} {fp_To : Fp} {hd_Weight : Value} {fp_Weight : Fp} {First : List (Int)} {To : List (Int)} {Weight : List (Int)} {s : Int} {hops : Int} {settles : Int} {most : Int} {r : List (Int × Int) × List (Int) × List (Int × Int) × Int × Int × List (Int) × List (Bool)}
    (wf : WF H) (h_First : Sq (encI .i64) 1 H hd_First First fp_First) (h_To : Sq (encI .i64) 1 H hd_To To fp_To) (h_Weight : Sq (encI .i64) 1 H hd_Weight Weight fp_Weight) (hr : z_search_run First To Weight s hops settles most = some r) :
    ACalls Try.prog 59 #[.agg #[hd_First, hd_To, hd_Weight], i_ s, .agg #[i_ hops, i_ settles, .int .u64 most]] H fun v H' => ∃ (s3 : Value) (f4 : Fp) (s7 : Value) (f8 : Fp) (b11 : Nat) (s14 : Value) (f15 : Fp) (b18 : Nat) (s21 : Value) (f22 : Fp) (s25 : Value) (f26 : Fp) (b29 : Nat), v = pt_ b29 0 ∧ FrS [] H H' ∧ Ow enc_u64_u32 2 H' s3 r.1 f4 ∧ Ow (encI .i64) 1 H' s7 r.2.1 f8 ∧ Row H' b11 [s3, s7] ∧ Ow enc_u64_u32 2 H' s14 r.2.2.1 f15 ∧ Row H' b18 [s14, .int .u32 r.2.2.2.1, i_ r.2.2.2.2.1] ∧ Ow (encI .i64) 1 H' s21 r.2.2.2.2.2.1 f22 ∧ Ow encB 1 H' s25 r.2.2.2.2.2.2 f26 ∧ Row H' b29 [hd_First, hd_To, hd_Weight, pt_ b11 0, pt_ b18 0, s21, s25] ∧ Inn [] H f4 ∧ Inn [] H f8 ∧ Inn [] H [b11] ∧ Inn [] H f15 ∧ Inn [] H [b18] ∧ Inn [] H f22 ∧ Inn [] H f26 ∧ Inn [] H [b29] ∧ Dj f4 f8 ∧ Dj f4 [b11] ∧ Dj f8 [b11] ∧ Dj f4 f15 ∧ Dj f8 f15 ∧ Dj [b11] f15 ∧ Dj f4 [b18] ∧ Dj f8 [b18] ∧ Dj [b11] [b18] ∧ Dj f15 [b18] ∧ Dj f4 f22 ∧ Dj f8 f22 ∧ Dj [b11] f22 ∧ Dj f15 f22 ∧ Dj [b18] f22 ∧ Dj f4 f26 ∧ Dj f8 f26 ∧ Dj [b11] f26 ∧ Dj f15 f26 ∧ Dj [b18] f26 ∧ Dj f22 f26 ∧ Dj f4 [b29] ∧ Dj f8 [b29] ∧ Dj [b11] [b29] ∧ Dj f15 [b29] ∧ Dj [b18] [b29] ∧ Dj f22 [b29] ∧ Dj f26 [b29] := by
 refine acalls_of_body mixed Try.func59 rfl (Nat.le_of_ble_eq_true rfl) ?_
 unfold z_search_run at hr
 refine w_seqk fun _ k66 => g_' ?_
 refine s_rwl wf [hd_First, hd_To, hd_Weight] (one_cons (h_First.one1) (one_cons (h_To.one1) (one_cons (h_Weight.one1) (one_nil)))) (by kernel_rfl) fun b67 H68 e69 hb70 r71 => ?_
 refine s_rwl e69.wf [i_ hops, i_ settles, .int .u64 most] (one_cons (rfl) (one_cons (rfl) (one_cons (rfl) (one_nil)))) (by kernel_rfl) fun b73 H74 e75 hb76 r77 => ?_
 refine q_ (.pointer none) (s_nil (k66 _ _ (w_seqk fun _ k79 => g_' ?_)))
 have u80 := (r71.ext e75)
 refine l_' (.agg #[hd_First, hd_To, hd_Weight]) (aLoad Try.prog 27 (pt_ b67 0) H74) (u80.ld (by kernel_rfl)) ?_
 have u81 := ((h_First.ext e69).ext e75)
 have u82 := ((h_To.ext e69).ext e75)
 have u83 := ((h_Weight.ext e69).ext e75)
 obtain ⟨y84, hy85, r86⟩ := bind_some hr
 refine s_ck 63 #[.agg #[hd_First, hd_To, hd_Weight]] (by kernel_rfl) (c_search_nodes e75.wf u81 u82 u83 hy85) ?_
 rintro _ H87 ⟨rfl, e88⟩
 refine q_ (i_ y84) (s_nil (k79 _ _ (w_seqk fun _ k89 => ?_)))
 refine w_draw [0, 1, 2, 3, 4, 5, 6, 7] (by kernel_rfl) ?_
 have u90 := (u80.frS e88 Dj.nil_l)
 refine m_' (.agg #[hd_First, hd_To, hd_Weight]) (aLoad Try.prog 27 (pt_ b67 0) H87) (u90.ld (by kernel_rfl)) ?_
 refine e_' (i_ y84) ?_
 obtain ⟨g91, r92⟩ := G_some r86
 refine d_mks (t := 22) (m := 8) (l := y84) (c := y84) (enc := (encI .i64)) (sz := 1) e88.wf (0 : Int) (by kernel_rfl) (by decide) g91.1 (Int.le_refl _) (by omega) (by have := g91; omega) (by kernel_rfl) fun s93 f94 H95 e96 hf97 hm98 => ?_
 obtain ⟨a99, n100, c101, rfl⟩ := hm98.form
 have hm98 : Ow (encI .i64) 1 H95 (.slice a99 n100 c101) (List.replicate y84.toNat (0 : Int)) f94 := hm98
 refine e_' (i_ y84) ?_
 obtain ⟨g103, r104⟩ := G_some r92
 refine d_mks (t := 125) (m := 1) (l := y84) (c := y84) (enc := encB) (sz := 1) e96.wf (false : Bool) (by kernel_rfl) (by decide) g103.1 (Int.le_refl _) (by omega) (by have := g103; omega) (by kernel_rfl) fun s105 f106 H107 e108 hf109 hm110 => ?_
 obtain ⟨a111, n112, c113, rfl⟩ := hm110.form
 have hm110 : Ow encB 1 H107 (.slice a111 n112 c113) (List.replicate y84.toNat (false : Bool)) f106 := hm110
 have u115 := (((u81.fr e88 Dj.nil_l).ext e96).ext e108)
 obtain ⟨a116, n117, c118, rfl⟩ := u115.form
 have u119 := (((u82.fr e88 Dj.nil_l).ext e96).ext e108)
 obtain ⟨a120, n121, c122, rfl⟩ := u119.form
 have u123 := (((u83.fr e88 Dj.nil_l).ext e96).ext e108)
 obtain ⟨a124, n125, c126, rfl⟩ := u123.form
 refine e_' (.agg #[.slice a116 n117 c118, .slice a120 n121 c122, .slice a124 n125 c126, .pointer none, .pointer none, .slice a99 n100 c101, .slice a111 n112 c113]) ?_
 have u132 := (hm98.ext e108)
 refine d_rwl e108.wf [.slice a116 n117 c118, .slice a120 n121 c122, .slice a124 n125 c126, .pointer none, .pointer none, .slice a99 n100 c101, .slice a111 n112 c113] (one_cons (u115.one1) (one_cons (u119.one1) (one_cons (u123.one1) (one_cons (rfl) (one_cons (rfl) (one_cons (u132.one1) (one_cons (hm110.one1) (one_nil)))))))) (by kernel_rfl) fun b127 H128 e129 hb130 r131 => ?_
 refine e_' (pt_ b127 0) ?_
 refine d_nil ?_
 refine k89 _ _ (w_seqk fun _ k134 => g_' (q_ (pt_ b127 0) (q_ (i_ y84) ?_)))
 obtain ⟨y135, hy136, r137⟩ := bind_some r104
 rcases y135 with y138 | y139
 ·exact (no_none (elim_l r137)).elim
 have r140 := elim_r r137
 refine s_ck 113 #[i_ y84] (by kernel_rfl) (c_heap_New e129.wf hy136) ?_
 rintro _ H144 ⟨s141, f142, b143, rfl, e145, m146, m147, i148, i149, d150⟩
 obtain ⟨a153, n154, c155, rfl⟩ := m146.form
 refine q_ (.tuple #[pt_ b143 0, .nilIface]) (q_ (pt_ b143 0) (q_ (.nilIface) (q_ (pt_ b127 0) (q_ (pt_ b127 3) ?_))))
 have u160 := (r131.frS e145 Dj.nil_l)
 obtain ⟨H156, q157, e158, r159⟩ := Row.store (P := Try.prog) (t := 123) (p := 3) e145.wf u160 (pt_ b143 0) [pt_ b143 0] (by kernel_rfl) (by kernel_rfl) (one_cons (rfl) (one_nil)) (Nat.le_of_ble_eq_true (by kernel_rfl)) [.slice a116 n117 c118, .slice a120 n121 c122, .slice a124 n125 c126, pt_ b143 0, .pointer none, .slice a99 n100 c101, .slice a111 n112 c113] (by kernel_rfl)
 refine s_ek (undef) (by kernel_rfl) (map_ok q157) ?_
 refine s_nil (k134 _ _ (w_seqk fun _ k161 => g_' (q_ (pt_ b127 0) (q_ (i_ y84) ?_))))
 obtain ⟨y162, hy163, r164⟩ := bind_some r140
 rcases y162 with y165 | y166
 ·exact (no_none (elim_l r164)).elim
 have r167 := elim_r r164
 refine s_ck 114 #[i_ y84, .int .u32 1] (by kernel_rfl) (c_stamp_New e158.wf hy163) ?_
 rintro _ H171 ⟨s168, f169, b170, rfl, e172, m173, m174, i175, i176, d177⟩
 obtain ⟨a180, n181, c182, rfl⟩ := m173.form
 refine q_ (.tuple #[pt_ b170 0, .nilIface]) (q_ (pt_ b170 0) (q_ (.nilIface) (q_ (pt_ b127 0) (q_ (pt_ b127 4) ?_))))
 have u187 := (r159.frS e172 Dj.nil_l)
 obtain ⟨H183, q184, e185, r186⟩ := Row.store (P := Try.prog) (t := 124) (p := 4) e172.wf u187 (pt_ b170 0) [pt_ b170 0] (by kernel_rfl) (by kernel_rfl) (one_cons (rfl) (one_nil)) (Nat.le_of_ble_eq_true (by kernel_rfl)) [.slice a116 n117 c118, .slice a120 n121 c122, .slice a124 n125 c126, pt_ b143 0, pt_ b170 0, .slice a99 n100 c101, .slice a111 n112 c113] (by kernel_rfl)
 refine s_ek (undef) (by kernel_rfl) (map_ok q184) ?_
 refine s_nil (k161 _ _ (w_seqk fun _ k188 => g_' (q_ (pt_ b127 0) (q_ (i_ s) ?_))))
 have u189 := (((((u115.ext e129).fr e145 Dj.nil_l).fr e158 (hb130.djn (h_First.lt.le (ntr (ntr (ntr (ntr e69.next e75.next) e88.next) e96.next) e108.next)))).fr e172 Dj.nil_l).fr e185 (hb130.djn (h_First.lt.le (ntr (ntr (ntr (ntr e69.next e75.next) e88.next) e96.next) e108.next))))
 have u190 := (((((u119.ext e129).fr e145 Dj.nil_l).fr e158 (hb130.djn (h_To.lt.le (ntr (ntr (ntr (ntr e69.next e75.next) e88.next) e96.next) e108.next)))).fr e172 Dj.nil_l).fr e185 (hb130.djn (h_To.lt.le (ntr (ntr (ntr (ntr e69.next e75.next) e88.next) e96.next) e108.next))))
 have u191 := (((((u123.ext e129).fr e145 Dj.nil_l).fr e158 (hb130.djn (h_Weight.lt.le (ntr (ntr (ntr (ntr e69.next e75.next) e88.next) e96.next) e108.next)))).fr e172 Dj.nil_l).fr e185 (hb130.djn (h_Weight.lt.le (ntr (ntr (ntr (ntr e69.next e75.next) e88.next) e96.next) e108.next))))
 have u192 := (((m146.fr e158 (Dj.symm (i148.djn r131.ltF))).fr e172 Dj.nil_l).fr e185 (Dj.symm (i148.djn r131.ltF)))
 have u193 := (((m147.frS e158 (Dj.symm (i149.djn r131.ltF))).frS e172 Dj.nil_l).frS e185 (Dj.symm (i149.djn r131.ltF)))
 have u194 := (m173.fr e185 (Dj.symm (i175.djn (r131.ltF.le (ntr e145.next e158.next)))))
 have u195 := (m174.frS e185 (Dj.symm (i176.djn (r131.ltF.le (ntr e145.next e158.next)))))
 have u196 := (((((u132.ext e129).fr e145 Dj.nil_l).fr e158 (hb130.djn (hm98.lt.le e108.next))).fr e172 Dj.nil_l).fr e185 (hb130.djn (hm98.lt.le e108.next)))
 have u197 := (((((hm110.ext e129).fr e145 Dj.nil_l).fr e158 (hb130.djn hm110.lt)).fr e172 Dj.nil_l).fr e185 (hb130.djn hm110.lt))
 obtain ⟨y198, hy199, r200⟩ := bind_some r167
 refine s_ck 115 #[pt_ b127 0, i_ s, .int .u64 0, i_ 0] (by kernel_rfl) (c_search_state_label e185.wf u189 u190 u191 (Ow.nil (enc := enc_u64_u32) (sz := 2) (by decide)) u192 u193 u194 u195 u196 u197.sq r186 (Dj.symm d177) (i175.djn (r131.ltF.le (ntr e145.next e158.next))) (i176.djn (r131.ltF.le (ntr e145.next e158.next))) (i175.djn (hm98.lt.le (ntr (ntr (ntr e108.next e129.next) e145.next) e158.next))) (i176.djn (hm98.lt.le (ntr (ntr (ntr e108.next e129.next) e145.next) e158.next))) (Dj.symm (hb130.djn (hm98.lt.le e108.next))) Dj.nil_r Dj.nil_r Dj.nil_r (i175.djn (m146.lt.le e158.next)) (i176.djn (m146.lt.le e158.next)) (Dj.symm (i148.djn (hm98.lt.le (ntr e108.next e129.next)))) (i175.djn (m147.ltF.le e158.next)) (i176.djn (m147.ltF.le e158.next)) (Dj.symm (i149.djn (hm98.lt.le (ntr e108.next e129.next)))) Dj.nil_l Dj.nil_l (Dj.symm d150) hy199) ?_
 rintro _ H203 ⟨s201, f202, rfl, e204, m205, m206, m207, m208, m209, m210, i211⟩
 obtain ⟨a213, n214, c215, rfl⟩ := m206.form
 refine s_nil (k188 _ _ (w_seqk fun _ k216 => w_seqk fun _ k217 => g_' (q_ (i_ 0) (s_nil (k217 _ _ ?_)))))
 obtain ⟨o218, hx219, r220⟩ := bind_some r200
 refine w_mid (fun α H221 => ∃ (s225 : Value) (f226 : Fp), Has α [(8, pt_ b127 0)] ∧ FrS ([b143] ++ ([b170] ++ (f106 ++ (f142 ++ (f169 ++ (f202 ++ f94)))))) H203 H221 ∧ Ow enc_u64_u32 2 H221 s225 o218.1 f226 ∧ Ow (encI .i64) 1 H221 (.slice a153 n154 c155) o218.2.1 f142 ∧ Row H221 b143 [s225, .slice a153 n154 c155] ∧ Ow enc_u64_u32 2 H221 (.slice a180 n181 c182) o218.2.2.1 f169 ∧ Row H221 b170 [.slice a180 n181 c182, .int .u32 y166.2, i_ o218.2.2.2.1] ∧ Ow (encI .i64) 1 H221 (.slice a99 n100 c101) o218.2.2.2.2.1 f94 ∧ Ow encB 1 H221 (.slice a111 n112 c113) o218.2.2.2.2.2 f106 ∧ Inn f202 H203 f226) (fun _ k240 => ?_) (fun α H221 hM => ?_)
 ·refine w_block ?_
  obtain ⟨n242, hn243⟩ := loopO_iff.1 hx219
  have u269 := (u197.fr e204 (Dj.app (i149.djn (hm110.lt.le e129.next)) (Dj.app (i176.djn (hm110.lt.le (ntr (ntr e129.next e145.next) e158.next))) (Dj.app (Dj.symm (hf109.djn hm98.lt)) (Dj.app Dj.nil_l (Dj.app (i148.djn (hm110.lt.le e129.next)) (i175.djn (hm110.lt.le (ntr (ntr e129.next e145.next) e158.next)))))))))
  refine w_loopn (fun n α H244 => ∃ (st0 : List (Int × Int)), ∃ (st1 : List (Int)), ∃ (st2 : List (Int × Int)), ∃ (st3 : Int), ∃ (st4 : List (Int)), ∃ (st5 : List (Bool)), ∃ (count6 : Int), ∃ (s248 : Value), ∃ (f249 : Fp), iterO (fun zz_ => z_search_run_l0 First To Weight hops settles most y166 zz_.1 zz_.2.1 zz_.2.2.1 zz_.2.2.2.1 zz_.2.2.2.2.1 zz_.2.2.2.2.2.1 zz_.2.2.2.2.2.2) n (st0, st1, st2, st3, st4, st5, count6) = some o218 ∧ Has α [(5, pt_ b73 0), (8, pt_ b127 0), (9, i_ count6)] ∧ FrS ([b143] ++ ([b170] ++ (f106 ++ (f142 ++ (f169 ++ (f202 ++ f94)))))) H203 H244 ∧ Ow enc_u64_u32 2 H244 s248 st0 f249 ∧ Ow (encI .i64) 1 H244 (.slice a153 n154 c155) st1 f142 ∧ Row H244 b143 [s248, .slice a153 n154 c155] ∧ Ow enc_u64_u32 2 H244 (.slice a180 n181 c182) st2 f169 ∧ Row H244 b170 [.slice a180 n181 c182, .int .u32 y166.2, i_ st3] ∧ Ow (encI .i64) 1 H244 (.slice a99 n100 c101) st4 f94 ∧ Ow encB 1 H244 (.slice a111 n112 c113) st5 f106 ∧ Inn f202 H203 f249) n242 ⟨y198.2.1, y198.1, y198.2.2.1, y198.2.2.2.1, y198.2.2.2.2, (List.replicate y84.toNat (false : Bool)), 0, (.slice a213 n214 c215), f202, hn243, ha_, (FrS.refl (W := ([b143] ++ ([b170] ++ (f106 ++ (f142 ++ (f169 ++ (f202 ++ f94))))))) e204.wf), m206, m205, m207, m208, m209, m210, u269, Inn.refl'⟩ ?_
  rintro n242 α H244 ⟨st0, st1, st2, st3, st4, st5, count6, s248, f249, hi264, hh263, e245, m247, m251, m253, m255, m257, m259, m261, i262⟩ K270 k270
  obtain ⟨n265, z266, rfl, hz267, hn268⟩ := iter_succ hi264
  obtain ⟨β, rfl⟩ := has_ex hh263
  clear hh263
  replace hz267 : z_search_run_l0 First To Weight hops settles most y166 st0 st1 st2 st3 st4 st5 count6 = some z266 := hz267
  unfold z_search_run_l0 at hz267
  obtain ⟨a271, n272, c273, rfl⟩ := m247.form
  refine w_seqk fun _ k274 => w_seqk fun _ k275 => g_' (q_ (i_ count6) (q_ (pt_ b73 1) ?_))
  have u276 := ((((((((((r77.frS e88 Dj.nil_l).ext e96).ext e108).ext e129).frS e145 Dj.nil_l).frS e158 (hb130.djn (r77.ltF.le (ntr (ntr e88.next e96.next) e108.next)))).frS e172 Dj.nil_l).frS e185 (hb130.djn (r77.ltF.le (ntr (ntr e88.next e96.next) e108.next)))).frS e204 (Dj.app (i149.djn (r77.ltF.le (ntr (ntr (ntr e88.next e96.next) e108.next) e129.next))) (Dj.app (i176.djn (r77.ltF.le (ntr (ntr (ntr (ntr (ntr e88.next e96.next) e108.next) e129.next) e145.next) e158.next))) (Dj.app (hf97.djn (r77.ltF.le e88.next)) (Dj.app Dj.nil_l (Dj.app (i148.djn (r77.ltF.le (ntr (ntr (ntr e88.next e96.next) e108.next) e129.next))) (i175.djn (r77.ltF.le (ntr (ntr (ntr (ntr (ntr e88.next e96.next) e108.next) e129.next) e145.next) e158.next))))))))).frS e245 (Dj.app (i149.djn (r77.ltF.le (ntr (ntr (ntr e88.next e96.next) e108.next) e129.next))) (Dj.app (i176.djn (r77.ltF.le (ntr (ntr (ntr (ntr (ntr e88.next e96.next) e108.next) e129.next) e145.next) e158.next))) (Dj.app (hf109.djn (r77.ltF.le (ntr e88.next e96.next))) (Dj.app (i148.djn (r77.ltF.le (ntr (ntr (ntr e88.next e96.next) e108.next) e129.next))) (Dj.app (i175.djn (r77.ltF.le (ntr (ntr (ntr (ntr (ntr e88.next e96.next) e108.next) e129.next) e145.next) e158.next))) (Dj.app (i211.djn (r77.ltF.le (ntr (ntr (ntr (ntr (ntr (ntr (ntr e88.next e96.next) e108.next) e129.next) e145.next) e158.next) e172.next) e185.next))) (hf97.djn (r77.ltF.le e88.next)))))))))
  refine l_' (i_ settles) (aLoad Try.prog 3 (pt_ b73 1) H244) (u276.ld (by kernel_rfl)) ?_
  refine q_ (.bool (decide (count6 < settles))) (s_nil (k275 _ _ ?_))
  refine w_condp (count6 < settles) (by kernel_rfl) rfl (fun h277 => ?_) (fun h277 => ?_)
  ·have r278 := ite_t h277 hz267
   refine w_skip (k274 _ _ (w_seqk fun _ k279 => w_block (w_seqk fun _ k280 => g_' (q_ (pt_ b127 0) (q_ (pt_ b127 0) (q_ (pt_ b127 3) ?_))))))
   have u281 := ((r186.frS e204 (Dj.app (i149.djn r131.ltF) (Dj.app (i176.djn (r131.ltF.le (ntr e145.next e158.next))) (Dj.app (Dj.symm (hb130.djn (hm98.lt.le e108.next))) (Dj.app Dj.nil_l (Dj.app (i148.djn r131.ltF) (i175.djn (r131.ltF.le (ntr e145.next e158.next))))))))).frS e245 (Dj.app (i149.djn r131.ltF) (Dj.app (i176.djn (r131.ltF.le (ntr e145.next e158.next))) (Dj.app (Dj.symm (hb130.djn hm110.lt)) (Dj.app (i148.djn r131.ltF) (Dj.app (i175.djn (r131.ltF.le (ntr e145.next e158.next))) (Dj.app (i211.djn (r131.ltF.le (ntr (ntr (ntr e145.next e158.next) e172.next) e185.next))) (Dj.symm (hb130.djn (hm98.lt.le e108.next))))))))))
   refine l_' (pt_ b143 0) (aLoad Try.prog 123 (pt_ b127 3) H244) (u281.ld (by kernel_rfl)) ?_
   obtain ⟨y282, hy283, r284⟩ := bind_some r278
   refine s_ck 116 #[pt_ b143 0] (by kernel_rfl) (c_heap_Heap_Top e245.wf m247.sq m251.sq m253 hy283) ?_
   rintro _ _ ⟨rfl, rfl⟩
   refine q_ (.tuple #[.int .u32 y282.1, .int .u64 y282.2.1, .bool y282.2.2]) (q_ (.int .u32 y282.1) (q_ (.int .u64 y282.2.1) (q_ (.bool y282.2.2) (q_ (.int .u32 y282.1) (q_ (.int .u64 y282.2.1) (q_ (.bool y282.2.2) (s_nil (k280 _ _ (w_seqk fun _ k287 => w_seqk fun _ k288 => ?_)))))))))
   obtain ⟨o289, hx290, r291⟩ := bind_some r284
   refine w_mid (fun α H292 => Has α [(5, pt_ b73 0), (8, pt_ b127 0), (9, i_ count6), (10, .int .u32 y282.1), (11, .int .u64 y282.2.1), (63, .bool o289)] ∧ H244 = H292) (fun _ k294 => ?_) (fun α H292 hM => ?_)
   ·refine g_' (q_ (.bool y282.2.2) (q_ (.bool (!y282.2.2)) (q_ (.bool (!y282.2.2)) ?_)))
    by_cases h296 : (!y282.2.2) = true
    ·have r297 := ite_t h296 hx290
     rw [h296]
     refine n_' (n_' (n_' (n_' (q_ (.bool true) (s_nil ?_)))))
     obtain rfl := Option.some.inj r297
     exact k294 _ _ ⟨ha_, rfl⟩
    have r298 := ite_f h296 hx290
    rw [nb h296]
    refine q_ (.int .u64 y282.2.1) (q_ (pt_ b73 2) ?_)
    refine l_' (.int .u64 most) (aLoad Try.prog 42 (pt_ b73 2) H244) (u276.ld (by kernel_rfl)) ?_
    refine q_ (.bool (decide (y282.2.1 > most))) (q_ (.bool (decide (y282.2.1 > most))) (s_nil ?_))
    obtain rfl := Option.some.inj r298
    exact k294 _ _ ⟨ha_, rfl⟩
   obtain ⟨hh295, rfl⟩ := hM
   obtain ⟨β, rfl⟩ := has_ex hh295
   clear hh295
   refine k288 _ _ ?_
   refine w_cond (o289) (by kernel_rfl) rfl (fun h299 => ?_) (fun h299 => ?_)
   ·have r300 := ite_t h299 r291
    refine w_exit (th_exit (bl_ne (by decide) (th_exit (th_exit (bl_eq ?_)))))
    obtain rfl := Option.some.inj r300
    obtain rfl := it_inr hn268
    exact k240 _ _ ⟨(.slice a271 n272 c273), f249, ha_, (FrS.step e204.wf (FrS.refl (W := ([b143] ++ ([b170] ++ (f106 ++ (f142 ++ (f169 ++ (f202 ++ f94))))))) e204.wf) e245 (Inn.app Inn.left (Inn.app (Inn.right Inn.left) (Inn.app (Inn.right (Inn.right Inn.left)) (Inn.app (Inn.right (Inn.right (Inn.right Inn.left))) (Inn.app (Inn.right (Inn.right (Inn.right (Inn.right Inn.left)))) (Inn.app (Inn.right (Inn.right (Inn.right (Inn.right (Inn.right Inn.left))))) (Inn.right (Inn.right (Inn.right (Inn.right (Inn.right (Inn.right Inn.refl'))))))))))))), m247, m251, m253, m255, m257, m259, m261, (Inn.trans Inn.refl' (Nat.le_refl _) i262)⟩
   have r301 := ite_bf h299 r291
   refine w_skip (k287 _ _ (w_seqk fun _ k302 => g_' (q_ (pt_ b127 0) (q_ (pt_ b127 0) (q_ (pt_ b127 3) ?_)))))
   refine l_' (pt_ b143 0) (aLoad Try.prog 123 (pt_ b127 3) H244) (u281.ld (by kernel_rfl)) ?_
   obtain ⟨y303, hy304, r305⟩ := bind_some r301
   refine s_ck 117 #[pt_ b143 0] (by kernel_rfl) (c_heap_Heap_Pop e245.wf m247 m251 m253 (Dj.symm d150) (Dj.symm (i262.dj (i211.djn (m147.ltF.le (ntr (ntr e158.next e172.next) e185.next))) (m147.ltF.le (ntr (ntr (ntr e158.next e172.next) e185.next) e204.next)))) (Dj.symm (i262.dj (i211.djn (m146.lt.le (ntr (ntr e158.next e172.next) e185.next))) (m146.lt.le (ntr (ntr (ntr e158.next e172.next) e185.next) e204.next)))) hy304) ?_
   rintro _ H307 ⟨s306, rfl, e308, m309, m310, m311⟩
   obtain ⟨a313, n314, c315, rfl⟩ := m310.form
   refine s_nil (k302 _ _ (g_' (q_ (pt_ b127 0) (q_ (.int .u32 y282.1) ?_))))
   obtain ⟨g316, r317⟩ := G_some r305
   refine w_' y282.1 (wrap64 g316) ?_
   refine q_ (.int .u64 y282.2.1) (q_ (pt_ b73 0) ?_)
   have u318 := (u276.frS e308 (Dj.app (i149.djn (r77.ltF.le (ntr (ntr (ntr e88.next e96.next) e108.next) e129.next))) (Dj.app (i262.dj (i211.djn (r77.ltF.le (ntr (ntr (ntr (ntr (ntr (ntr (ntr e88.next e96.next) e108.next) e129.next) e145.next) e158.next) e172.next) e185.next))) (r77.ltF.le (ntr (ntr (ntr (ntr (ntr (ntr (ntr (ntr e88.next e96.next) e108.next) e129.next) e145.next) e158.next) e172.next) e185.next) e204.next))) (i148.djn (r77.ltF.le (ntr (ntr (ntr e88.next e96.next) e108.next) e129.next))))))
   refine l_' (i_ hops) (aLoad Try.prog 3 (pt_ b73 0) H307) (u318.ld (by kernel_rfl)) ?_
   have u319 := (((u189.fr e204 (Dj.app (i149.djn (h_First.lt.le (ntr (ntr (ntr (ntr (ntr e69.next e75.next) e88.next) e96.next) e108.next) e129.next))) (Dj.app (i176.djn (h_First.lt.le (ntr (ntr (ntr (ntr (ntr (ntr (ntr e69.next e75.next) e88.next) e96.next) e108.next) e129.next) e145.next) e158.next))) (Dj.app (hf97.djn (h_First.lt.le (ntr (ntr e69.next e75.next) e88.next))) (Dj.app Dj.nil_l (Dj.app (i148.djn (h_First.lt.le (ntr (ntr (ntr (ntr (ntr e69.next e75.next) e88.next) e96.next) e108.next) e129.next))) (i175.djn (h_First.lt.le (ntr (ntr (ntr (ntr (ntr (ntr (ntr e69.next e75.next) e88.next) e96.next) e108.next) e129.next) e145.next) e158.next))))))))).fr e245 (Dj.app (i149.djn (h_First.lt.le (ntr (ntr (ntr (ntr (ntr e69.next e75.next) e88.next) e96.next) e108.next) e129.next))) (Dj.app (i176.djn (h_First.lt.le (ntr (ntr (ntr (ntr (ntr (ntr (ntr e69.next e75.next) e88.next) e96.next) e108.next) e129.next) e145.next) e158.next))) (Dj.app (hf109.djn (h_First.lt.le (ntr (ntr (ntr e69.next e75.next) e88.next) e96.next))) (Dj.app (i148.djn (h_First.lt.le (ntr (ntr (ntr (ntr (ntr e69.next e75.next) e88.next) e96.next) e108.next) e129.next))) (Dj.app (i175.djn (h_First.lt.le (ntr (ntr (ntr (ntr (ntr (ntr (ntr e69.next e75.next) e88.next) e96.next) e108.next) e129.next) e145.next) e158.next))) (Dj.app (i211.djn (h_First.lt.le (ntr (ntr (ntr (ntr (ntr (ntr (ntr (ntr (ntr e69.next e75.next) e88.next) e96.next) e108.next) e129.next) e145.next) e158.next) e172.next) e185.next))) (hf97.djn (h_First.lt.le (ntr (ntr e69.next e75.next) e88.next)))))))))).fr e308 (Dj.app (i149.djn (h_First.lt.le (ntr (ntr (ntr (ntr (ntr e69.next e75.next) e88.next) e96.next) e108.next) e129.next))) (Dj.app (i262.dj (i211.djn (h_First.lt.le (ntr (ntr (ntr (ntr (ntr (ntr (ntr (ntr (ntr e69.next e75.next) e88.next) e96.next) e108.next) e129.next) e145.next) e158.next) e172.next) e185.next))) (h_First.lt.le (ntr (ntr (ntr (ntr (ntr (ntr (ntr (ntr (ntr (ntr e69.next e75.next) e88.next) e96.next) e108.next) e129.next) e145.next) e158.next) e172.next) e185.next) e204.next))) (i148.djn (h_First.lt.le (ntr (ntr (ntr (ntr (ntr e69.next e75.next) e88.next) e96.next) e108.next) e129.next))))))
   have u320 := (((u190.fr e204 (Dj.app (i149.djn (h_To.lt.le (ntr (ntr (ntr (ntr (ntr e69.next e75.next) e88.next) e96.next) e108.next) e129.next))) (Dj.app (i176.djn (h_To.lt.le (ntr (ntr (ntr (ntr (ntr (ntr (ntr e69.next e75.next) e88.next) e96.next) e108.next) e129.next) e145.next) e158.next))) (Dj.app (hf97.djn (h_To.lt.le (ntr (ntr e69.next e75.next) e88.next))) (Dj.app Dj.nil_l (Dj.app (i148.djn (h_To.lt.le (ntr (ntr (ntr (ntr (ntr e69.next e75.next) e88.next) e96.next) e108.next) e129.next))) (i175.djn (h_To.lt.le (ntr (ntr (ntr (ntr (ntr (ntr (ntr e69.next e75.next) e88.next) e96.next) e108.next) e129.next) e145.next) e158.next))))))))).fr e245 (Dj.app (i149.djn (h_To.lt.le (ntr (ntr (ntr (ntr (ntr e69.next e75.next) e88.next) e96.next) e108.next) e129.next))) (Dj.app (i176.djn (h_To.lt.le (ntr (ntr (ntr (ntr (ntr (ntr (ntr e69.next e75.next) e88.next) e96.next) e108.next) e129.next) e145.next) e158.next))) (Dj.app (hf109.djn (h_To.lt.le (ntr (ntr (ntr e69.next e75.next) e88.next) e96.next))) (Dj.app (i148.djn (h_To.lt.le (ntr (ntr (ntr (ntr (ntr e69.next e75.next) e88.next) e96.next) e108.next) e129.next))) (Dj.app (i175.djn (h_To.lt.le (ntr (ntr (ntr (ntr (ntr (ntr (ntr e69.next e75.next) e88.next) e96.next) e108.next) e129.next) e145.next) e158.next))) (Dj.app (i211.djn (h_To.lt.le (ntr (ntr (ntr (ntr (ntr (ntr (ntr (ntr (ntr e69.next e75.next) e88.next) e96.next) e108.next) e129.next) e145.next) e158.next) e172.next) e185.next))) (hf97.djn (h_To.lt.le (ntr (ntr e69.next e75.next) e88.next)))))))))).fr e308 (Dj.app (i149.djn (h_To.lt.le (ntr (ntr (ntr (ntr (ntr e69.next e75.next) e88.next) e96.next) e108.next) e129.next))) (Dj.app (i262.dj (i211.djn (h_To.lt.le (ntr (ntr (ntr (ntr (ntr (ntr (ntr (ntr (ntr e69.next e75.next) e88.next) e96.next) e108.next) e129.next) e145.next) e158.next) e172.next) e185.next))) (h_To.lt.le (ntr (ntr (ntr (ntr (ntr (ntr (ntr (ntr (ntr (ntr e69.next e75.next) e88.next) e96.next) e108.next) e129.next) e145.next) e158.next) e172.next) e185.next) e204.next))) (i148.djn (h_To.lt.le (ntr (ntr (ntr (ntr (ntr e69.next e75.next) e88.next) e96.next) e108.next) e129.next))))))
   have u321 := (((u191.fr e204 (Dj.app (i149.djn (h_Weight.lt.le (ntr (ntr (ntr (ntr (ntr e69.next e75.next) e88.next) e96.next) e108.next) e129.next))) (Dj.app (i176.djn (h_Weight.lt.le (ntr (ntr (ntr (ntr (ntr (ntr (ntr e69.next e75.next) e88.next) e96.next) e108.next) e129.next) e145.next) e158.next))) (Dj.app (hf97.djn (h_Weight.lt.le (ntr (ntr e69.next e75.next) e88.next))) (Dj.app Dj.nil_l (Dj.app (i148.djn (h_Weight.lt.le (ntr (ntr (ntr (ntr (ntr e69.next e75.next) e88.next) e96.next) e108.next) e129.next))) (i175.djn (h_Weight.lt.le (ntr (ntr (ntr (ntr (ntr (ntr (ntr e69.next e75.next) e88.next) e96.next) e108.next) e129.next) e145.next) e158.next))))))))).fr e245 (Dj.app (i149.djn (h_Weight.lt.le (ntr (ntr (ntr (ntr (ntr e69.next e75.next) e88.next) e96.next) e108.next) e129.next))) (Dj.app (i176.djn (h_Weight.lt.le (ntr (ntr (ntr (ntr (ntr (ntr (ntr e69.next e75.next) e88.next) e96.next) e108.next) e129.next) e145.next) e158.next))) (Dj.app (hf109.djn (h_Weight.lt.le (ntr (ntr (ntr e69.next e75.next) e88.next) e96.next))) (Dj.app (i148.djn (h_Weight.lt.le (ntr (ntr (ntr (ntr (ntr e69.next e75.next) e88.next) e96.next) e108.next) e129.next))) (Dj.app (i175.djn (h_Weight.lt.le (ntr (ntr (ntr (ntr (ntr (ntr (ntr e69.next e75.next) e88.next) e96.next) e108.next) e129.next) e145.next) e158.next))) (Dj.app (i211.djn (h_Weight.lt.le (ntr (ntr (ntr (ntr (ntr (ntr (ntr (ntr (ntr e69.next e75.next) e88.next) e96.next) e108.next) e129.next) e145.next) e158.next) e172.next) e185.next))) (hf97.djn (h_Weight.lt.le (ntr (ntr e69.next e75.next) e88.next)))))))))).fr e308 (Dj.app (i149.djn (h_Weight.lt.le (ntr (ntr (ntr (ntr (ntr e69.next e75.next) e88.next) e96.next) e108.next) e129.next))) (Dj.app (i262.dj (i211.djn (h_Weight.lt.le (ntr (ntr (ntr (ntr (ntr (ntr (ntr (ntr (ntr e69.next e75.next) e88.next) e96.next) e108.next) e129.next) e145.next) e158.next) e172.next) e185.next))) (h_Weight.lt.le (ntr (ntr (ntr (ntr (ntr (ntr (ntr (ntr (ntr (ntr e69.next e75.next) e88.next) e96.next) e108.next) e129.next) e145.next) e158.next) e172.next) e185.next) e204.next))) (i148.djn (h_Weight.lt.le (ntr (ntr (ntr (ntr (ntr e69.next e75.next) e88.next) e96.next) e108.next) e129.next))))))
   have u322 := (m255.fr e308 (Dj.app (Dj.symm (i175.djn (m147.ltF.le e158.next))) (Dj.app (i262.dj (i211.djn (m173.lt.le e185.next)) (m173.lt.le (ntr e185.next e204.next))) (Dj.symm (i175.djn (m146.lt.le e158.next))))))
   have u323 := (m257.frS e308 (Dj.app (Dj.symm (i176.djn (m147.ltF.le e158.next))) (Dj.app (i262.dj (i211.djn (m174.ltF.le e185.next)) (m174.ltF.le (ntr e185.next e204.next))) (Dj.symm (i176.djn (m146.lt.le e158.next))))))
   have u324 := (m259.fr e308 (Dj.app (i149.djn (hm98.lt.le (ntr e108.next e129.next))) (Dj.app (i262.dj (i211.djn (hm98.lt.le (ntr (ntr (ntr (ntr (ntr e108.next e129.next) e145.next) e158.next) e172.next) e185.next))) (hm98.lt.le (ntr (ntr (ntr (ntr (ntr (ntr e108.next e129.next) e145.next) e158.next) e172.next) e185.next) e204.next))) (i148.djn (hm98.lt.le (ntr e108.next e129.next))))))
   have u325 := (m261.fr e308 (Dj.app (i149.djn (hm110.lt.le e129.next)) (Dj.app (i262.dj (i211.djn (hm110.lt.le (ntr (ntr (ntr (ntr e129.next e145.next) e158.next) e172.next) e185.next))) (hm110.lt.le (ntr (ntr (ntr (ntr (ntr e129.next e145.next) e158.next) e172.next) e185.next) e204.next))) (i148.djn (hm110.lt.le e129.next)))))
   have u326 := (u281.frS e308 (Dj.app (i149.djn r131.ltF) (Dj.app (i262.dj (i211.djn (r131.ltF.le (ntr (ntr (ntr e145.next e158.next) e172.next) e185.next))) (r131.ltF.le (ntr (ntr (ntr (ntr e145.next e158.next) e172.next) e185.next) e204.next))) (i148.djn r131.ltF))))
   obtain ⟨y327, hy328, r329⟩ := bind_some r317
   refine s_ck 118 #[pt_ b127 0, i_ y282.1, .int .u64 y282.2.1, i_ hops] (by kernel_rfl) (c_search_state_settle e308.wf u319 u320 u321 m310 m309 m311 u322 u323 u324 u325 u326 (Dj.symm (hb130.djn hm110.lt)) (hf109.djn hm98.lt) (Dj.symm (i148.djn (hm110.lt.le e129.next))) (Dj.symm (i262.dj (i211.djn (hm110.lt.le (ntr (ntr (ntr (ntr e129.next e145.next) e158.next) e172.next) e185.next))) (hm110.lt.le (ntr (ntr (ntr (ntr (ntr e129.next e145.next) e158.next) e172.next) e185.next) e204.next)))) (Dj.symm (i149.djn (hm110.lt.le e129.next))) (Dj.symm (i175.djn (hm110.lt.le (ntr (ntr e129.next e145.next) e158.next)))) (Dj.symm (i176.djn (hm110.lt.le (ntr (ntr e129.next e145.next) e158.next)))) (hf109.djn (h_First.lt.le (ntr (ntr (ntr e69.next e75.next) e88.next) e96.next))) (hf109.djn (h_To.lt.le (ntr (ntr (ntr e69.next e75.next) e88.next) e96.next))) (hf109.djn (h_Weight.lt.le (ntr (ntr (ntr e69.next e75.next) e88.next) e96.next))) (Dj.symm d177) (i175.djn (r131.ltF.le (ntr e145.next e158.next))) (i176.djn (r131.ltF.le (ntr e145.next e158.next))) (i175.djn (hm98.lt.le (ntr (ntr (ntr e108.next e129.next) e145.next) e158.next))) (i176.djn (hm98.lt.le (ntr (ntr (ntr e108.next e129.next) e145.next) e158.next))) (Dj.symm (hb130.djn (hm98.lt.le e108.next))) (Dj.symm (i262.dj (i211.djn (m173.lt.le e185.next)) (m173.lt.le (ntr e185.next e204.next)))) (Dj.symm (i262.dj (i211.djn (m174.ltF.le e185.next)) (m174.ltF.le (ntr e185.next e204.next)))) (Dj.symm (i262.dj (i211.djn (hm98.lt.le (ntr (ntr (ntr (ntr (ntr e108.next e129.next) e145.next) e158.next) e172.next) e185.next))) (hm98.lt.le (ntr (ntr (ntr (ntr (ntr (ntr e108.next e129.next) e145.next) e158.next) e172.next) e185.next) e204.next)))) (i175.djn (m146.lt.le e158.next)) (i176.djn (m146.lt.le e158.next)) (Dj.symm (i148.djn (hm98.lt.le (ntr e108.next e129.next)))) (i175.djn (m147.ltF.le e158.next)) (i176.djn (m147.ltF.le e158.next)) (Dj.symm (i149.djn (hm98.lt.le (ntr e108.next e129.next)))) (i262.dj (i211.djn (m147.ltF.le (ntr (ntr e158.next e172.next) e185.next))) (m147.ltF.le (ntr (ntr (ntr e158.next e172.next) e185.next) e204.next))) (i262.dj (i211.djn (m146.lt.le (ntr (ntr e158.next e172.next) e185.next))) (m146.lt.le (ntr (ntr (ntr e158.next e172.next) e185.next) e204.next))) (Dj.symm d150) (i148.djn r131.ltF) (i262.dj (i211.djn (r131.ltF.le (ntr (ntr (ntr e145.next e158.next) e172.next) e185.next))) (r131.ltF.le (ntr (ntr (ntr (ntr e145.next e158.next) e172.next) e185.next) e204.next))) (i149.djn r131.ltF) (i175.djn (h_First.lt.le (ntr (ntr (ntr (ntr (ntr (ntr (ntr e69.next e75.next) e88.next) e96.next) e108.next) e129.next) e145.next) e158.next))) (i148.djn (h_First.lt.le (ntr (ntr (ntr (ntr (ntr e69.next e75.next) e88.next) e96.next) e108.next) e129.next))) (i262.dj (i211.djn (h_First.lt.le (ntr (ntr (ntr (ntr (ntr (ntr (ntr (ntr (ntr e69.next e75.next) e88.next) e96.next) e108.next) e129.next) e145.next) e158.next) e172.next) e185.next))) (h_First.lt.le (ntr (ntr (ntr (ntr (ntr (ntr (ntr (ntr (ntr (ntr e69.next e75.next) e88.next) e96.next) e108.next) e129.next) e145.next) e158.next) e172.next) e185.next) e204.next))) (hf97.djn (h_First.lt.le (ntr (ntr e69.next e75.next) e88.next))) (i176.djn (h_First.lt.le (ntr (ntr (ntr (ntr (ntr (ntr (ntr e69.next e75.next) e88.next) e96.next) e108.next) e129.next) e145.next) e158.next))) (i149.djn (h_First.lt.le (ntr (ntr (ntr (ntr (ntr e69.next e75.next) e88.next) e96.next) e108.next) e129.next))) (i175.djn (h_To.lt.le (ntr (ntr (ntr (ntr (ntr (ntr (ntr e69.next e75.next) e88.next) e96.next) e108.next) e129.next) e145.next) e158.next))) (i148.djn (h_To.lt.le (ntr (ntr (ntr (ntr (ntr e69.next e75.next) e88.next) e96.next) e108.next) e129.next))) (i262.dj (i211.djn (h_To.lt.le (ntr (ntr (ntr (ntr (ntr (ntr (ntr (ntr (ntr e69.next e75.next) e88.next) e96.next) e108.next) e129.next) e145.next) e158.next) e172.next) e185.next))) (h_To.lt.le (ntr (ntr (ntr (ntr (ntr (ntr (ntr (ntr (ntr (ntr e69.next e75.next) e88.next) e96.next) e108.next) e129.next) e145.next) e158.next) e172.next) e185.next) e204.next))) (hf97.djn (h_To.lt.le (ntr (ntr e69.next e75.next) e88.next))) (i176.djn (h_To.lt.le (ntr (ntr (ntr (ntr (ntr (ntr (ntr e69.next e75.next) e88.next) e96.next) e108.next) e129.next) e145.next) e158.next))) (i149.djn (h_To.lt.le (ntr (ntr (ntr (ntr (ntr e69.next e75.next) e88.next) e96.next) e108.next) e129.next))) (i175.djn (h_Weight.lt.le (ntr (ntr (ntr (ntr (ntr (ntr (ntr e69.next e75.next) e88.next) e96.next) e108.next) e129.next) e145.next) e158.next))) (i148.djn (h_Weight.lt.le (ntr (ntr (ntr (ntr (ntr e69.next e75.next) e88.next) e96.next) e108.next) e129.next))) (i262.dj (i211.djn (h_Weight.lt.le (ntr (ntr (ntr (ntr (ntr (ntr (ntr (ntr (ntr e69.next e75.next) e88.next) e96.next) e108.next) e129.next) e145.next) e158.next) e172.next) e185.next))) (h_Weight.lt.le (ntr (ntr (ntr (ntr (ntr (ntr (ntr (ntr (ntr (ntr e69.next e75.next) e88.next) e96.next) e108.next) e129.next) e145.next) e158.next) e172.next) e185.next) e204.next))) (hf97.djn (h_Weight.lt.le (ntr (ntr e69.next e75.next) e88.next))) (i176.djn (h_Weight.lt.le (ntr (ntr (ntr (ntr (ntr (ntr (ntr e69.next e75.next) e88.next) e96.next) e108.next) e129.next) e145.next) e158.next))) (i149.djn (h_Weight.lt.le (ntr (ntr (ntr (ntr (ntr e69.next e75.next) e88.next) e96.next) e108.next) e129.next))) (i175.djn (hm110.lt.le (ntr (ntr e129.next e145.next) e158.next))) (i148.djn (hm110.lt.le e129.next)) (i262.dj (i211.djn (hm110.lt.le (ntr (ntr (ntr (ntr e129.next e145.next) e158.next) e172.next) e185.next))) (hm110.lt.le (ntr (ntr (ntr (ntr (ntr e129.next e145.next) e158.next) e172.next) e185.next) e204.next))) (i176.djn (hm110.lt.le (ntr (ntr e129.next e145.next) e158.next))) (i149.djn (hm110.lt.le e129.next)) (i262.dj (i211.djn (m173.lt.le e185.next)) (m173.lt.le (ntr e185.next e204.next))) (i262.dj (i211.djn (m174.ltF.le e185.next)) (m174.ltF.le (ntr e185.next e204.next))) (i262.dj (i211.djn (hm98.lt.le (ntr (ntr (ntr (ntr (ntr e108.next e129.next) e145.next) e158.next) e172.next) e185.next))) (hm98.lt.le (ntr (ntr (ntr (ntr (ntr (ntr e108.next e129.next) e145.next) e158.next) e172.next) e185.next) e204.next))) hy328) ?_
   rintro _ H332 ⟨s330, f331, rfl, e333, m334, m335, m336, m337, m338, m339, m340, i341⟩
   obtain ⟨a343, n344, c345, rfl⟩ := m335.form
   refine s_nil (k279 _ _ (g_' (q_ (i_ count6) ?_)))
   obtain ⟨g346, r347⟩ := G_some r329
   refine w_' (count6 + 1) (wrap64 g346) ?_
   refine q_ (i_ (count6 + 1)) (s_nil ?_)
   obtain rfl := Option.some.inj r347
   exact k270 n265 _ _ (Nat.lt_succ_self _) ⟨y327.2.1, y327.1, y327.2.2.1, y327.2.2.2.1, y327.2.2.2.2.1, y327.2.2.2.2.2, (count6 + 1), (.slice a343 n344 c345), f331, hn268, ha_, (FrS.step e204.wf (FrS.step e204.wf (FrS.step e204.wf (FrS.refl (W := ([b143] ++ ([b170] ++ (f106 ++ (f142 ++ (f169 ++ (f202 ++ f94))))))) e204.wf) e245 (Inn.app Inn.left (Inn.app (Inn.right Inn.left) (Inn.app (Inn.right (Inn.right Inn.left)) (Inn.app (Inn.right (Inn.right (Inn.right Inn.left))) (Inn.app (Inn.right (Inn.right (Inn.right (Inn.right Inn.left)))) (Inn.app (Inn.right (Inn.right (Inn.right (Inn.right (Inn.right Inn.left))))) (Inn.right (Inn.right (Inn.right (Inn.right (Inn.right (Inn.right Inn.refl'))))))))))))) e308 (Inn.app Inn.left (Inn.app (Inn.trans (Inn.right (Inn.right (Inn.right (Inn.right (Inn.right Inn.left))))) (Nat.le_refl _) i262) (Inn.right (Inn.right (Inn.right Inn.left)))))) e333 (Inn.app Inn.left (Inn.app (Inn.right Inn.left) (Inn.app (Inn.right (Inn.right (Inn.right (Inn.right (Inn.right (Inn.right Inn.refl')))))) (Inn.app (Inn.right (Inn.right Inn.left)) (Inn.app (Inn.trans (Inn.right (Inn.right (Inn.right (Inn.right (Inn.right Inn.left))))) (Nat.le_refl _) i262) (Inn.app (Inn.right (Inn.right (Inn.right Inn.left))) (Inn.right (Inn.right (Inn.right (Inn.right Inn.left))))))))))), m335, m334, m336, m337, m338, m339, m340, (Inn.trans (Inn.trans Inn.refl' (Nat.le_refl _) i262) (ntr e245.next e308.next) i341)⟩
  have r348 := ite_f h277 hz267
  refine w_exit (th_exit (th_exit (bl_eq ?_)))
  obtain rfl := Option.some.inj r348
  obtain rfl := it_inr hn268
  exact k240 _ _ ⟨(.slice a271 n272 c273), f249, ha_, (FrS.step e204.wf (FrS.refl (W := ([b143] ++ ([b170] ++ (f106 ++ (f142 ++ (f169 ++ (f202 ++ f94))))))) e204.wf) e245 (Inn.app Inn.left (Inn.app (Inn.right Inn.left) (Inn.app (Inn.right (Inn.right Inn.left)) (Inn.app (Inn.right (Inn.right (Inn.right Inn.left))) (Inn.app (Inn.right (Inn.right (Inn.right (Inn.right Inn.left)))) (Inn.app (Inn.right (Inn.right (Inn.right (Inn.right (Inn.right Inn.left))))) (Inn.right (Inn.right (Inn.right (Inn.right (Inn.right (Inn.right Inn.refl'))))))))))))), m247, m251, m253, m255, m257, m259, m261, (Inn.trans Inn.refl' (Nat.le_refl _) i262)⟩
 obtain ⟨s225, f226, hh241, e222, m224, m228, m230, m232, m234, m236, m238, i239⟩ := hM
 obtain ⟨β, rfl⟩ := has_ex hh241
 clear hh241
 obtain ⟨a349, n350, c351, rfl⟩ := m224.form
 refine k216 _ _ (w_seqk fun _ k352 => g_' (q_ (pt_ b127 0) (q_ (pt_ b127 0) (s_nil (k352 _ _ ?_)))))
 refine w_ret ?_
 refine b_ret (fn := Try.f59) (vs := [pt_ b127 0]) (aRes_tmp (by kernel_rfl) (rfl)) ?_
 have u353 := ((r186.frS e204 (Dj.app (i149.djn r131.ltF) (Dj.app (i176.djn (r131.ltF.le (ntr e145.next e158.next))) (Dj.app (Dj.symm (hb130.djn (hm98.lt.le e108.next))) (Dj.app Dj.nil_l (Dj.app (i148.djn r131.ltF) (i175.djn (r131.ltF.le (ntr e145.next e158.next))))))))).frS e222 (Dj.app (i149.djn r131.ltF) (Dj.app (i176.djn (r131.ltF.le (ntr e145.next e158.next))) (Dj.app (Dj.symm (hb130.djn hm110.lt)) (Dj.app (i148.djn r131.ltF) (Dj.app (i175.djn (r131.ltF.le (ntr e145.next e158.next))) (Dj.app (i211.djn (r131.ltF.le (ntr (ntr (ntr e145.next e158.next) e172.next) e185.next))) (Dj.symm (hb130.djn (hm98.lt.le e108.next))))))))))
 obtain rfl := Option.some.inj r220
 exact ⟨(.slice a349 n350 c351), f226, (.slice a153 n154 c155), f142, b143, (.slice a180 n181 c182), f169, b170, (.slice a99 n100 c101), f94, (.slice a111 n112 c113), f106, b127, rfl, (FrS.step wf (FrS.step wf (FrS.step wf (FrS.step wf (FrS.step wf (FrS.step wf ((((FrS.step wf (((FrS.refl (W := []) wf).extR e69).extR e75) e88 Inn.nil).extR e96).extR e108).extR e129) e145 Inn.nil) e158 (hb130.fresh (ntr (ntr (ntr (ntr e69.next e75.next) e88.next) e96.next) e108.next))) e172 Inn.nil) e185 (hb130.fresh (ntr (ntr (ntr (ntr e69.next e75.next) e88.next) e96.next) e108.next))) e204 (Inn.app (i149.fresh (ntr (ntr (ntr (ntr (ntr e69.next e75.next) e88.next) e96.next) e108.next) e129.next)) (Inn.app (i176.fresh (ntr (ntr (ntr (ntr (ntr (ntr (ntr e69.next e75.next) e88.next) e96.next) e108.next) e129.next) e145.next) e158.next)) (Inn.app (hf97.fresh (ntr (ntr e69.next e75.next) e88.next)) (Inn.app Inn.nil (Inn.app (i148.fresh (ntr (ntr (ntr (ntr (ntr e69.next e75.next) e88.next) e96.next) e108.next) e129.next)) (i175.fresh (ntr (ntr (ntr (ntr (ntr (ntr (ntr e69.next e75.next) e88.next) e96.next) e108.next) e129.next) e145.next) e158.next)))))))) e222 (Inn.app (i149.fresh (ntr (ntr (ntr (ntr (ntr e69.next e75.next) e88.next) e96.next) e108.next) e129.next)) (Inn.app (i176.fresh (ntr (ntr (ntr (ntr (ntr (ntr (ntr e69.next e75.next) e88.next) e96.next) e108.next) e129.next) e145.next) e158.next)) (Inn.app (hf109.fresh (ntr (ntr (ntr e69.next e75.next) e88.next) e96.next)) (Inn.app (i148.fresh (ntr (ntr (ntr (ntr (ntr e69.next e75.next) e88.next) e96.next) e108.next) e129.next)) (Inn.app (i175.fresh (ntr (ntr (ntr (ntr (ntr (ntr (ntr e69.next e75.next) e88.next) e96.next) e108.next) e129.next) e145.next) e158.next)) (Inn.app (i211.fresh (ntr (ntr (ntr (ntr (ntr (ntr (ntr (ntr (ntr e69.next e75.next) e88.next) e96.next) e108.next) e129.next) e145.next) e158.next) e172.next) e185.next)) (hf97.fresh (ntr (ntr e69.next e75.next) e88.next))))))))), m224, m228, m230, m232, m234, m236, m238, u353, (Inn.trans (i211.fresh (ntr (ntr (ntr (ntr (ntr (ntr (ntr (ntr (ntr e69.next e75.next) e88.next) e96.next) e108.next) e129.next) e145.next) e158.next) e172.next) e185.next)) (ntr (ntr (ntr (ntr (ntr (ntr (ntr (ntr (ntr (ntr e69.next e75.next) e88.next) e96.next) e108.next) e129.next) e145.next) e158.next) e172.next) e185.next) e204.next) i239), (i148.fresh (ntr (ntr (ntr (ntr (ntr e69.next e75.next) e88.next) e96.next) e108.next) e129.next)), (i149.fresh (ntr (ntr (ntr (ntr (ntr e69.next e75.next) e88.next) e96.next) e108.next) e129.next)), (i175.fresh (ntr (ntr (ntr (ntr (ntr (ntr (ntr e69.next e75.next) e88.next) e96.next) e108.next) e129.next) e145.next) e158.next)), (i176.fresh (ntr (ntr (ntr (ntr (ntr (ntr (ntr e69.next e75.next) e88.next) e96.next) e108.next) e129.next) e145.next) e158.next)), (hf97.fresh (ntr (ntr e69.next e75.next) e88.next)), (hf109.fresh (ntr (ntr (ntr e69.next e75.next) e88.next) e96.next)), (hb130.fresh (ntr (ntr (ntr (ntr e69.next e75.next) e88.next) e96.next) e108.next)), (i239.dj (i211.djn (m146.lt.le (ntr (ntr e158.next e172.next) e185.next))) (m146.lt.le (ntr (ntr (ntr e158.next e172.next) e185.next) e204.next))), (i239.dj (i211.djn (m147.ltF.le (ntr (ntr e158.next e172.next) e185.next))) (m147.ltF.le (ntr (ntr (ntr e158.next e172.next) e185.next) e204.next))), d150, (i239.dj (i211.djn (m173.lt.le e185.next)) (m173.lt.le (ntr e185.next e204.next))), (Dj.symm (i175.djn (m146.lt.le e158.next))), (Dj.symm (i175.djn (m147.ltF.le e158.next))), (i239.dj (i211.djn (m174.ltF.le e185.next)) (m174.ltF.le (ntr e185.next e204.next))), (Dj.symm (i176.djn (m146.lt.le e158.next))), (Dj.symm (i176.djn (m147.ltF.le e158.next))), d177, (i239.dj (i211.djn (hm98.lt.le (ntr (ntr (ntr (ntr (ntr e108.next e129.next) e145.next) e158.next) e172.next) e185.next))) (hm98.lt.le (ntr (ntr (ntr (ntr (ntr (ntr e108.next e129.next) e145.next) e158.next) e172.next) e185.next) e204.next))), (i148.djn (hm98.lt.le (ntr e108.next e129.next))), (i149.djn (hm98.lt.le (ntr e108.next e129.next))), (i175.djn (hm98.lt.le (ntr (ntr (ntr e108.next e129.next) e145.next) e158.next))), (i176.djn (hm98.lt.le (ntr (ntr (ntr e108.next e129.next) e145.next) e158.next))), (i239.dj (i211.djn (hm110.lt.le (ntr (ntr (ntr (ntr e129.next e145.next) e158.next) e172.next) e185.next))) (hm110.lt.le (ntr (ntr (ntr (ntr (ntr e129.next e145.next) e158.next) e172.next) e185.next) e204.next))), (i148.djn (hm110.lt.le e129.next)), (i149.djn (hm110.lt.le e129.next)), (i175.djn (hm110.lt.le (ntr (ntr e129.next e145.next) e158.next))), (i176.djn (hm110.lt.le (ntr (ntr e129.next e145.next) e158.next))), (Dj.symm (hf109.djn hm98.lt)), (i239.dj (i211.djn (r131.ltF.le (ntr (ntr (ntr e145.next e158.next) e172.next) e185.next))) (r131.ltF.le (ntr (ntr (ntr (ntr e145.next e158.next) e172.next) e185.next) e204.next))), (i148.djn r131.ltF), (i149.djn r131.ltF), (i175.djn (r131.ltF.le (ntr e145.next e158.next))), (i176.djn (r131.ltF.le (ntr e145.next e158.next))), (Dj.symm (hb130.djn (hm98.lt.le e108.next))), (Dj.symm (hb130.djn hm110.lt))⟩
theorem c_search_state_all {H : AH} {b_st : Nat} {hd_st_ : Value} {fp_st_ : Fp} {hd_st_2 : Value} {fp_st_2 : Fp} {hd_st_3 : Value} {fp_st_3 : Fp} {b_st_4 : Nat} {hd_st_5 : Value} {fp_st_5 : Fp} {hd_st_6 : Value} {fp_st_6 : Fp} {b_st_7 : Nat} {hd_st_8 : Value} {fp_st_8 : Fp} {hd_st_11 : Value} {fp_st_11 : Fp} {hd_st_12 : Value} {fp_st_12 : Fp} {st_ : List (Int)} {st_2 : List (Int)} {st_3 : List (Int)} {st_5 : List (Int × Int)} {st_6 : List (Int)} {st_8 : List (Int × Int)} {st_9 : Int} {st_10 : Int} {st_11 : List (Int)} {st_12 : List (Bool)} {r : List (Int)}
    (wf : WF H) (h_st_ : Sq (encI .i64) 1 H hd_st_ st_ fp_st_) (h_st_2 : Sq (encI .i64) 1 H hd_st_2 st_2 fp_st_2) (h_st_3 : Sq (encI .i64) 1 H hd_st_3 st_3 fp_st_3) (h_st_5 : Sq enc_u64_u32 2 H hd_st_5 st_5 fp_st_5) (h_st_6 : Sq (encI .i64) 1 H hd_st_6 st_6 fp_st_6) (h_st_4 : Row H b_st_4 [hd_st_5, hd_st_6]) (h_st_8 : Sq enc_u64_u32 2 H hd_st_8 st_8 fp_st_8) (h_st_7 : Row H b_st_7 [hd_st_8, .int .u32 st_9, i_ st_10]) (h_st_11 : Sq (encI .i64) 1 H hd_st_11 st_11 fp_st_11) (h_st_12 : Sq encB 1 H hd_st_12 st_12 fp_st_12) (h_st : Row H b_st [hd_st_, hd_st_2, hd_st_3, pt_ b_st_4 0, pt_ b_st_7 0, hd_st_11, hd_st_12]) (hr : z_search_state_all st_ st_2 st_3 st_5 st_6 st_8 st_9 st_10 st_11 st_12 = some r) :
    ACalls Try.prog 61 #[pt_ b_st 0] H fun v H' => ∃ (s3 : Value) (f4 : Fp), v = s3 ∧ FrS [] H H' ∧ Ow (encI .u64) 1 H' s3 r f4 ∧ Inn [] H f4 := by
 refine acalls_of_body mixed Try.func61 rfl (Nat.le_of_ble_eq_true rfl) ?_
 unfold z_search_state_all at hr
 refine w_seqk fun _ k6 => g_' (q_ (.slice none 0 0) (s_nil (k6 _ _ (w_seqk fun _ k7 => g_' (q_ (pt_ b_st 0) (q_ (pt_ b_st 0) (q_ (pt_ b_st 0) ?_)))))))
 refine l_' (.agg #[hd_st_, hd_st_2, hd_st_3]) (aLoad Try.prog 27 (pt_ b_st 0) H) (h_st.ld (by kernel_rfl)) ?_
 obtain ⟨y8, hy9, r10⟩ := bind_some hr
 refine s_ck 63 #[.agg #[hd_st_, hd_st_2, hd_st_3]] (by kernel_rfl) (c_search_nodes wf h_st_ h_st_2 h_st_3 hy9) ?_
 rintro _ H11 ⟨rfl, e12⟩
 obtain ⟨g13, r14⟩ := G_some r10
 refine s_mks (t := 29) (m := 8) (l := y8) (c := y8) (enc := (encI .u64)) (sz := 1) e12.wf (0 : Int) (by kernel_rfl) (by decide) g13.1 (Int.le_refl _) (by omega) (by have := g13; omega) (by kernel_rfl) fun s15 f16 H17 e18 hf19 hm20 => ?_
 obtain ⟨a21, n22, c23, rfl⟩ := hm20.form
 have hm20 : Ow (encI .u64) 1 H17 (.slice a21 n22 c23) (List.replicate y8.toNat (0 : Int)) f16 := hm20
 refine q_ (.slice a21 n22 c23) (s_nil (k7 _ _ (w_seqk fun _ k25 => w_seqk fun _ k26 => g_' (q_ (.slice a21 n22 c23) ?_))))
 refine l_' (i_ ((List.replicate y8.toNat (0 : Int)).length : Int)) (aLen Try.prog 29 (.slice a21 n22 c23) H17) (hm20.sq.lenb (by kernel_rfl)) ?_
 refine q_ (i_ 0) (s_nil (k26 _ _ ?_))
 obtain ⟨o27, hx28, r29⟩ := bind_some r14
 refine w_mid (fun α H30 => Has α [(3, .slice a21 n22 c23)] ∧ FrS f16 H17 H30 ∧ Ow (encI .u64) 1 H30 (.slice a21 n22 c23) o27 f16) (fun _ k34 => ?_) (fun α H30 hM => ?_)
 ·refine w_block ?_
  obtain ⟨n36, hn37⟩ := loopO_iff.1 hx28
  refine w_loopn (fun n α H38 => ∃ (i0 : Int), ∃ (l1 : List (Int)), iterO (fun zz_ => z_search_state_all_l0 st_8 st_9 st_10 y8 zz_.1 zz_.2) n (i0, l1) = some o27 ∧ Has α [(0, pt_ b_st 0), (3, .slice a21 n22 c23), (14, i_ ((List.replicate y8.toNat (0 : Int)).length : Int)), (15, i_ i0)] ∧ FrS f16 H17 H38 ∧ Ow (encI .u64) 1 H38 (.slice a21 n22 c23) l1 f16) n36 ⟨0, (List.replicate y8.toNat (0 : Int)), hn37, ha_, (FrS.refl (W := f16) e18.wf), hm20⟩ ?_
  rintro n36 α H38 ⟨i0, l1, hi43, hh42, e39, m41⟩ K48 k48
  obtain ⟨n44, z45, rfl, hz46, hn47⟩ := iter_succ hi43
  obtain ⟨β, rfl⟩ := has_ex hh42
  clear hh42
  replace hz46 : z_search_state_all_l0 st_8 st_9 st_10 y8 i0 l1 = some z45 := hz46
  unfold z_search_state_all_l0 at hz46
  refine w_seqk fun _ k49 => g_' (q_ (.bool (decide (i0 < ((List.replicate y8.toNat (0 : Int)).length : Int)))) (s_nil (k49 _ _ (w_seqk fun _ k50 => ?_))))
  refine w_condp (i0 < ((List.replicate y8.toNat (0 : Int)).length : Int)) (by kernel_rfl) rfl (fun h51 => ?_) (fun h51 => ?_)
  ·have r52 := ite_t h51 hz46
   refine w_skip (k50 _ _ (w_seqk fun _ k53 => w_block (w_seqk fun _ k54 => g_' (q_ (i_ i0) (q_ (i_ i0) (s_nil (k54 _ _ (w_seqk fun _ k55 => g_' (q_ (pt_ b_st 0) (q_ (pt_ b_st 0) (q_ (pt_ b_st 4) ?_)))))))))))
   have u56 := (((h_st.frS e12 Dj.nil_l).ext e18).frS e39 (hf19.djn (h_st.ltF.le e12.next)))
   refine l_' (pt_ b_st_7 0) (aLoad Try.prog 124 (pt_ b_st 4) H38) (u56.ld (by kernel_rfl)) ?_
   refine q_ (i_ i0) ?_
   have u57 := (((h_st_8.fr e12 Dj.nil_l).ext e18).fr e39 (hf19.djn (h_st_8.lt.le e12.next)))
   have u58 := (((h_st_7.frS e12 Dj.nil_l).ext e18).frS e39 (hf19.djn (h_st_7.ltF.le e12.next)))
   obtain ⟨y59, hy60, r61⟩ := bind_some r52
   refine s_ck 67 #[pt_ b_st_7 0, i_ i0] (by kernel_rfl) (c_stamp_Stamp_Get e39.wf u57 u58 hy60) ?_
   rintro _ _ ⟨rfl, rfl⟩
   refine q_ (.tuple #[.int .u64 y59.1, .bool y59.2]) (q_ (.int .u64 y59.1) (q_ (.bool y59.2) (q_ (.int .u64 y59.1) (q_ (.bool y59.2) (s_nil (k55 _ _ (w_seqk fun _ k64 => w_seqk fun _ k65 => g_' (q_ (.bool y59.2) (q_ (.bool (!y59.2)) (s_nil (k65 _ _ ?_)))))))))))
   refine w_cond ((!y59.2)) (by kernel_rfl) rfl (fun h66 => ?_) (fun h66 => ?_)
   ·have r67 := ite_t h66 r61
    refine g_' (q_ (.int .u64 18446744073709551615) (s_nil (k64 _ _ (g_' (q_ (.slice a21 n22 c23) (q_ (i_ i0) (q_ (.int .u64 18446744073709551615) ?_)))))))
    obtain ⟨g68, r69⟩ := G_some r67
    refine l_' (elp (.slice a21 n22 c23) 1 i0.toNat 0) (aIndexAddr Try.prog 29 (.slice a21 n22 c23) (i_ i0)) (m41.sq.idxb (by kernel_rfl) g68.1 g68.2) ?_
    obtain ⟨H70, q71, e72, hm73⟩ := Ow.store (P := Try.prog) (t := 42) (off := 0) e39.wf m41 g68.1 g68.2 (.int .u64 18446744073709551615) [.int .u64 18446744073709551615] (by kernel_rfl) (by kernel_rfl) rfl 18446744073709551615 (Nat.le_of_ble_eq_true rfl) (by kernel_rfl)
    refine s_ek (undef) (by kernel_rfl) (map_ok q71) ?_
    refine s_nil (k53 _ _ (g_' ?_))
    obtain ⟨g74, r75⟩ := G_some r69
    refine w_' (i0 + 1) (wrap64 (by have := g74; omega)) ?_
    refine q_ (i_ (i0 + 1)) (s_nil ?_)
    obtain rfl := Option.some.inj r75
    exact k48 n44 _ _ (Nat.lt_succ_self _) ⟨(i0 + 1), (l1.set i0.toNat 18446744073709551615), hn47, ha_, (FrS.step e18.wf (FrS.step e18.wf (FrS.refl (W := f16) e18.wf) e39 Inn.refl') e72 Inn.refl'), hm73⟩
   have r76 := ite_bf h66 r61
   refine w_skip (k64 _ _ (g_' (q_ (.slice a21 n22 c23) (q_ (i_ i0) (q_ (.int .u64 y59.1) ?_)))))
   obtain ⟨g77, r78⟩ := G_some r76
   refine l_' (elp (.slice a21 n22 c23) 1 i0.toNat 0) (aIndexAddr Try.prog 29 (.slice a21 n22 c23) (i_ i0)) (m41.sq.idxb (by kernel_rfl) g77.1 g77.2) ?_
   obtain ⟨H79, q80, e81, hm82⟩ := Ow.store (P := Try.prog) (t := 42) (off := 0) e39.wf m41 g77.1 g77.2 (.int .u64 y59.1) [.int .u64 y59.1] (by kernel_rfl) (by kernel_rfl) rfl y59.1 (Nat.le_of_ble_eq_true rfl) (by kernel_rfl)
   refine s_ek (undef) (by kernel_rfl) (map_ok q80) ?_
   refine s_nil (k53 _ _ (g_' ?_))
   obtain ⟨g83, r84⟩ := G_some r78
   refine w_' (i0 + 1) (wrap64 (by have := g83; omega)) ?_
   refine q_ (i_ (i0 + 1)) (s_nil ?_)
   obtain rfl := Option.some.inj r84
   exact k48 n44 _ _ (Nat.lt_succ_self _) ⟨(i0 + 1), (l1.set i0.toNat y59.1), hn47, ha_, (FrS.step e18.wf (FrS.step e18.wf (FrS.refl (W := f16) e18.wf) e39 Inn.refl') e81 Inn.refl'), hm82⟩
  have r85 := ite_f h51 hz46
  refine w_exit (th_exit (th_exit (bl_eq ?_)))
  obtain rfl := Option.some.inj r85
  obtain rfl := it_inr hn47
  exact k34 _ _ ⟨ha_, (FrS.step e18.wf (FrS.refl (W := f16) e18.wf) e39 Inn.refl'), m41⟩
 obtain ⟨hh35, e31, m33⟩ := hM
 obtain ⟨β, rfl⟩ := has_ex hh35
 clear hh35
 refine k25 _ _ (w_seqk fun _ k86 => g_' (q_ (.slice a21 n22 c23) (q_ (.slice a21 n22 c23) (s_nil (k86 _ _ ?_)))))
 refine w_ret ?_
 refine b_ret (fn := Try.f61) (vs := [.slice a21 n22 c23]) (aRes_tmp (by kernel_rfl) (rfl)) ?_
 obtain rfl := Option.some.inj r29
 exact ⟨(.slice a21 n22 c23), f16, rfl, (FrS.step wf ((FrS.step wf (FrS.refl (W := []) wf) e12 Inn.nil).extR e18) e31 (hf19.fresh e12.next)), m33, (hf19.fresh e12.next)⟩
end Go.Vd
