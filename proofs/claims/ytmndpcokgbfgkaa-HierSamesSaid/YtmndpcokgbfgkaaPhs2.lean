/- The walks of the functions (printed by a program of ours). -/
import Derived.Test.YtmndpcokgbfgkaaPhs1
import Derived.Test.YtmndpcokgbfgkaaVeC
import Derived.Test.YtmndpcokgbfgkaaIHs
import Derived.Test.YtmndpcokgbfgkaaSoA
import Derived.Test.YtmndpcokgbfgkaaVeT
set_option linter.unusedVariables false
set_option linter.unusedSimpArgs false
set_option linter.unusedSectionVars false
/-! (KHs3) -/

set_option maxRecDepth 100000
set_option maxHeartbeats 4000000
set_option linter.unusedVariables false
namespace Go.Vd
open Go.Proofs
attribute [local irreducible] wpSeq wpOrd aWp
theorem c_viaductref10_SameLinks {H : AH} {hd_a : Value} {fp_a : Fp} {hd_b : Value} {fp_b : Fp} {a : List (Int × Int × Int × Int)} {b : List (Int × Int × Int × Int)} {r : Bool}
  (wf : WF H) (h_a : Sq enc_u32_u64_u32_u32 4 H hd_a a fp_a) (h_b : Sq enc_u32_u64_u32_u32 4 H hd_b b fp_b) (hr : z_viaductref10_SameLinks a b = some r) :
  ACalls Try.prog 29 #[hd_a, hd_b] H fun v H' => v = .bool r ∧ H = H' := by
 refine acalls_of_body mixed Try.func29 rfl (Nat.le_of_ble_eq_true rfl) ?_
 unfold z_viaductref10_SameLinks at hr
 refine w_seqk fun K1 k1 => ?_
 refine w_reg (by kernel_rfl) ?_
 refine s_qk (.bool false) (by kernel_rfl) ?_
 refine s_nil ?_
 refine k1 _ _ ?_
 refine w_seqk fun K2 k2 => ?_
 refine w_seqk fun K3 k3 => ?_
 refine w_reg (by kernel_rfl) ?_
 refine s_qk (hd_a) (by kernel_rfl) ?_
 refine s_ql (.int .i64 (a.length : Int)) (x := aLen Try.prog 23 hd_a H) (by kernel_rfl) (h_a.lenb (by kernel_rfl)) ?_
 refine s_qk (hd_b) (by kernel_rfl) ?_
 refine s_ql (.int .i64 (b.length : Int)) (x := aLen Try.prog 23 hd_b H) (by kernel_rfl) (h_b.lenb (by kernel_rfl)) ?_
 refine s_qk (.bool (!decide ((a.length : Int) = (b.length : Int)))) (by kernel_rfl) ?_
 refine s_nil ?_
 refine k3 _ _ ?_
 refine w_condn ((a.length : Int) = (b.length : Int)) (by kernel_rfl) rfl (fun h4 => ?_) (fun h4 => ?_)
 ·have r5 := ite_f h4 hr
  refine w_seqk fun K6 k6 => ?_
  refine w_reg (by kernel_rfl) ?_
  refine s_qk (.bool false) (by kernel_rfl) ?_
  refine s_nil ?_
  refine k6 _ _ ?_
  refine w_ret (th_ret ?_)
  refine b_ret (fn := Try.f29) (vs := [.bool false]) (aRes_tmp (by kernel_rfl) (rfl)) ?_
  obtain rfl := Option.some.inj r5
  exact ⟨rfl, rfl⟩
 ·have r7 := ite_t h4 hr
  refine w_skip ?_
  refine k2 _ _ ?_
  refine w_seqk fun K8 k8 => ?_
  refine w_seqk fun K9 k9 => ?_
  refine w_reg (by kernel_rfl) ?_
  refine s_qk (hd_a) (by kernel_rfl) ?_
  refine s_ql (.int .i64 (a.length : Int)) (x := aLen Try.prog 23 hd_a H) (by kernel_rfl) (h_a.lenb (by kernel_rfl)) ?_
  refine s_qk (.int .i64 0) (by kernel_rfl) ?_
  refine s_nil ?_
  refine k9 _ _ ?_
  obtain ⟨z13, hx11, r12⟩ := bind_some r7
  refine w_mid (fun α H14 => ∃ o10, z13 = Sum.inr o10 ∧ Has α [] ∧ H = H14) (fun K16 k16 => ?_) (fun α H14 hM => ?_)
  ·refine w_block ?_
   obtain ⟨n18, hn19⟩ := loopO_iff.1 hx11
   refine w_loopn (fun n α H20 => ∃ (i0 : Int), iterO (fun zz_ => z_viaductref10_SameLinks_l0 a b zz_) n i0 = some z13 ∧ Has α [(0, hd_a), (1, hd_b), (12, .int .i64 (a.length : Int)), (13, .int .i64 i0)] ∧ H = H20) n18 ⟨0, hn19, ⟨by kernel_rfl, by kernel_rfl, by kernel_rfl, by kernel_rfl, trivial⟩, rfl⟩ ?_
   rintro n18 α H20 ⟨i0, hi23, hh22, rfl⟩ K28 k28
   obtain ⟨n24, z25, rfl, hz26, hn27⟩ := iter_succ hi23
   obtain ⟨β, rfl⟩ := has_ex hh22
   clear hh22
   replace hz26 : z_viaductref10_SameLinks_l0 a b i0 = some z25 := hz26
   unfold z_viaductref10_SameLinks_l0 at hz26
   refine w_seqk fun K29 k29 => ?_
   refine w_reg (by kernel_rfl) ?_
   refine s_qk (.bool (decide (i0 < (a.length : Int)))) (by kernel_rfl) ?_
   refine s_nil ?_
   refine k29 _ _ ?_
   refine w_seqk fun K30 k30 => ?_
   refine w_condp (i0 < (a.length : Int)) (by kernel_rfl) rfl (fun h31 => ?_) (fun h31 => ?_)
   ·have r32 := ite_t h31 hz26
    refine w_skip ?_
    refine k30 _ _ ?_
    refine w_seqk fun K33 k33 => ?_
    refine w_block ?_
    refine w_seqk fun K34 k34 => ?_
    refine w_reg (by kernel_rfl) ?_
    refine s_qk (.int .i64 i0) (by kernel_rfl) ?_
    refine s_qk (.int .i64 i0) (by kernel_rfl) ?_
    refine s_nil ?_
    refine k34 _ _ ?_
    refine w_seqk fun K35 k35 => ?_
    refine w_draw [0, 1, 2, 3, 4, 5, 6, 7, 8] (by kernel_rfl) ?_
    refine d_qk (hd_a) (by kernel_rfl) ?_
    refine d_qk (.int .i64 i0) (by kernel_rfl) ?_
    obtain ⟨g36, r37⟩ := G_some r32
    refine d_ql (elp hd_a 4 i0.toNat 0) (x := aIndexAddr Try.prog 23 hd_a (.int .i64 i0)) (by kernel_rfl) (h_a.idxb (by kernel_rfl) g36 h31) ?_
    refine d_ql (.agg #[.int .u32 ((gt a i0).1), .int .u64 ((gt a i0).2.1), .int .u32 ((gt a i0).2.2.1), .int .u32 ((gt a i0).2.2.2)]) (x := aLoad Try.prog 37 (elp hd_a 4 i0.toNat 0) H) (by kernel_rfl) (h_a.ld g36 h31 (by kernel_rfl)) ?_
    refine d_qk (hd_b) (by kernel_rfl) ?_
    refine d_qk (.int .i64 i0) (by kernel_rfl) ?_
    obtain ⟨g38, r39⟩ := G_some r37
    refine d_ql (elp hd_b 4 i0.toNat 0) (x := aIndexAddr Try.prog 23 hd_b (.int .i64 i0)) (by kernel_rfl) (h_b.idxb (by kernel_rfl) g36 g38) ?_
    refine d_ql (.agg #[.int .u32 ((gt b i0).1), .int .u64 ((gt b i0).2.1), .int .u32 ((gt b i0).2.2.1), .int .u32 ((gt b i0).2.2.2)]) (x := aLoad Try.prog 37 (elp hd_b 4 i0.toNat 0) H) (by kernel_rfl) (h_b.ld g36 g38 (by kernel_rfl)) ?_
    refine d_ql (.bool (!decide (((gt a i0).1) = ((gt b i0).1) ∧ ((gt a i0).2.1) = ((gt b i0).2.1) ∧ ((gt a i0).2.2.1) = ((gt b i0).2.2.1) ∧ ((gt a i0).2.2.2) = ((gt b i0).2.2.2)))) (x := aBin Try.prog .neq 37 (.tmp 19) (.tmp 23) (.agg #[.int .u32 ((gt a i0).1), .int .u64 ((gt a i0).2.1), .int .u32 ((gt a i0).2.2.1), .int .u32 ((gt a i0).2.2.2)]) (.agg #[.int .u32 ((gt b i0).1), .int .u64 ((gt b i0).2.1), .int .u32 ((gt b i0).2.2.1), .int .u32 ((gt b i0).2.2.2)])) (by kernel_rfl) (aBin_neq37 _ _ ((gt a i0).1) ((gt a i0).2.1) ((gt a i0).2.2.1) ((gt a i0).2.2.2) ((gt b i0).1) ((gt b i0).2.1) ((gt b i0).2.2.1) ((gt b i0).2.2.2)) ?_
    refine d_nil ?_
    refine k35 _ _ ?_
    refine w_condn (((gt a i0).1) = ((gt b i0).1) ∧ ((gt a i0).2.1) = ((gt b i0).2.1) ∧ ((gt a i0).2.2.1) = ((gt b i0).2.2.1) ∧ ((gt a i0).2.2.2) = ((gt b i0).2.2.2)) (by kernel_rfl) rfl (fun h40 => ?_) (fun h40 => ?_)
    ·have r41 := ite_f h40 r39
     refine w_seqk fun K42 k42 => ?_
     refine w_reg (by kernel_rfl) ?_
     refine s_qk (.bool false) (by kernel_rfl) ?_
     refine s_nil ?_
     refine k42 _ _ ?_
     refine w_ret (bl_ret (th_ret (th_ret (bl_ret (th_ret (th_ret ?_))))))
     obtain ⟨v43, hv44, hz45⟩ := map_some r41
     subst hz45
     obtain rfl := it_inr hn27
     have hq46 := elim_inl r12
     rw [hq46] at hv44
     refine b_ret (fn := Try.f29) (vs := [.bool false]) (aRes_tmp (by kernel_rfl) (rfl)) ?_
     obtain rfl := Option.some.inj hv44
     exact ⟨rfl, rfl⟩
    ·have r47 := ite_t h40 r39
     refine w_skip ?_
     refine k33 _ _ ?_
     refine w_reg (by kernel_rfl) ?_
     obtain ⟨g48, r49⟩ := G_some r47
     refine s_w ((i0 + 1)) (k := .i64) (x := (i0 + 1)) (by kernel_rfl) (wrap64 (by have := g48; omega)) ?_
     refine s_qk (.int .i64 (i0 + 1)) (by kernel_rfl) ?_
     refine s_nil ?_
     obtain rfl := Option.some.inj r49
     exact k28 n24 _ _ (Nat.lt_succ_self _) ⟨(i0 + 1), hn27, ⟨by kernel_rfl, by kernel_rfl, by kernel_rfl, by kernel_rfl, trivial⟩, rfl⟩
   ·have r50 := ite_f h31 hz26
    refine w_exit (th_exit (th_exit (bl_eq ?_)))
    obtain rfl := Option.some.inj r50
    obtain rfl := it_inr hn27
    exact k16 _ _ ⟨_, rfl, trivial, rfl⟩
  ·obtain ⟨o10, rfl, hh17, rfl⟩ := hM
   have r51 := elim_inr r12
   obtain ⟨β, rfl⟩ := has_ex hh17
   clear hh17
   refine k8 _ _ ?_
   refine w_seqk fun K52 k52 => ?_
   refine w_reg (by kernel_rfl) ?_
   refine s_qk (.bool true) (by kernel_rfl) ?_
   refine s_nil ?_
   refine k52 _ _ ?_
   refine w_ret ?_
   refine b_ret (fn := Try.f29) (vs := [.bool true]) (aRes_tmp (by kernel_rfl) (rfl)) ?_
   obtain rfl := Option.some.inj r51
   exact ⟨rfl, rfl⟩

theorem c_viaductref10_Same {H : AH} {hd_Node : Value} {fp_Node : Fp} {hd_UpFirst : Value} {fp_UpFirst : Fp} {hd_Up : Value} {fp_Up : Fp} {hd_DownFirst : Value} {fp_DownFirst : Fp} {hd_Down : Value} {fp_Down : Fp} {hd_Node_ : Value} {fp_Node_ : Fp} {hd_UpFirst_ : Value} {fp_UpFirst_ : Fp} {hd_Up_ : Value} {fp_Up_ : Fp} {hd_DownFirst_ : Value} {fp_DownFirst_ : Fp} {hd_Down_ : Value} {fp_Down_ : Fp} {Node : List (Int)} {UpFirst : List (Int)} {Up : List (Int × Int × Int × Int)} {DownFirst : List (Int)} {Down : List (Int × Int × Int × Int)} {Node_ : List (Int)} {UpFirst_ : List (Int)} {Up_ : List (Int × Int × Int × Int)} {DownFirst_ : List (Int)} {Down_ : List (Int × Int × Int × Int)} {r : Bool}
  (wf : WF H) (h_Node : Sq (encI .u32) 1 H hd_Node Node fp_Node) (h_UpFirst : Sq (encI .u32) 1 H hd_UpFirst UpFirst fp_UpFirst) (h_Up : Sq enc_u32_u64_u32_u32 4 H hd_Up Up fp_Up) (h_DownFirst : Sq (encI .u32) 1 H hd_DownFirst DownFirst fp_DownFirst) (h_Down : Sq enc_u32_u64_u32_u32 4 H hd_Down Down fp_Down) (h_Node_ : Sq (encI .u32) 1 H hd_Node_ Node_ fp_Node_) (h_UpFirst_ : Sq (encI .u32) 1 H hd_UpFirst_ UpFirst_ fp_UpFirst_) (h_Up_ : Sq enc_u32_u64_u32_u32 4 H hd_Up_ Up_ fp_Up_) (h_DownFirst_ : Sq (encI .u32) 1 H hd_DownFirst_ DownFirst_ fp_DownFirst_) (h_Down_ : Sq enc_u32_u64_u32_u32 4 H hd_Down_ Down_ fp_Down_) (hr : z_viaductref10_Same Node UpFirst Up DownFirst Down Node_ UpFirst_ Up_ DownFirst_ Down_ = some r) :
  ACalls Try.prog 15 #[.agg #[hd_Node, hd_UpFirst, hd_Up, hd_DownFirst, hd_Down], .agg #[hd_Node_, hd_UpFirst_, hd_Up_, hd_DownFirst_, hd_Down_]] H fun v H' => v = .bool r ∧ FrS [] H H' := by
 refine acalls_of_body mixed Try.func15 rfl (Nat.le_of_ble_eq_true rfl) ?_
 unfold z_viaductref10_Same at hr
 refine w_seqk fun K1 k1 => ?_
 refine w_reg (by kernel_rfl) ?_
 refine s_rwl wf [hd_Node, hd_UpFirst, hd_Up, hd_DownFirst, hd_Down] (one_cons (h_Node.one1) (one_cons (h_UpFirst.one1) (one_cons (h_Up.one1) (one_cons (h_DownFirst.one1) (one_cons (h_Down.one1) (one_nil)))))) (by kernel_rfl) fun b2 H3 e4 hb5 r6 => ?_
 have u13 := (h_Down_.ext e4)
 have u14 := (h_DownFirst_.ext e4)
 have u15 := (h_Up_.ext e4)
 have u16 := (h_UpFirst_.ext e4)
 have u17 := (h_Node_.ext e4)
 refine s_rwl e4.wf [hd_Node_, hd_UpFirst_, hd_Up_, hd_DownFirst_, hd_Down_] (one_cons (u17.one1) (one_cons (u16.one1) (one_cons (u15.one1) (one_cons (u14.one1) (one_cons (u13.one1) (one_nil)))))) (by kernel_rfl) fun b8 H9 e10 hb11 r12 => ?_
 refine s_qk (.bool false) (by kernel_rfl) ?_
 refine s_nil ?_
 refine k1 _ _ ?_
 refine w_seqk fun K19 k19 => ?_
 refine w_reg (by kernel_rfl) ?_
 refine s_qk (.pointer (some ⟨b2, 0, none⟩)) (by kernel_rfl) ?_
 have u20 := (r6.ext e10)
 refine s_ql (hd_Node) (x := aLoad Try.prog 22 (.pointer (some ⟨b2, 0, none⟩)) H9) (by kernel_rfl) (u20.ld (by kernel_rfl)) ?_
 refine s_qk (.pointer (some ⟨b8, 0, none⟩)) (by kernel_rfl) ?_
 refine s_ql (hd_Node_) (x := aLoad Try.prog 22 (.pointer (some ⟨b8, 0, none⟩)) H9) (by kernel_rfl) (r12.ld (by kernel_rfl)) ?_
 have u21 := ((h_Node.ext e4).ext e10)
 have u22 := (u17.ext e10)
 obtain ⟨y23, hy24, r25⟩ := bind_some hr
 refine s_ck 28 #[hd_Node, hd_Node_] (by kernel_rfl) (c_viaductref10_SameWords e10.wf u21 u22 hy24) ?_
 rintro _ _ ⟨rfl, rfl⟩
 by_cases h28 : y23 = true
 ·have r29 := ite_t h28 r25
  rw [h28]
  refine s_qk (.bool true) (by kernel_rfl) ?_
  refine s_qk (.pointer (some ⟨b2, 1, none⟩)) (by kernel_rfl) ?_
  refine s_ql (hd_UpFirst) (x := aLoad Try.prog 22 (.pointer (some ⟨b2, 1, none⟩)) H9) (by kernel_rfl) (u20.ld (by kernel_rfl)) ?_
  refine s_qk (.pointer (some ⟨b8, 1, none⟩)) (by kernel_rfl) ?_
  refine s_ql (hd_UpFirst_) (x := aLoad Try.prog 22 (.pointer (some ⟨b8, 1, none⟩)) H9) (by kernel_rfl) (r12.ld (by kernel_rfl)) ?_
  have u31 := ((h_UpFirst.ext e4).ext e10)
  have u32 := (u16.ext e10)
  obtain ⟨y33, hy34, r35⟩ := bind_some r29
  refine s_ck 28 #[hd_UpFirst, hd_UpFirst_] (by kernel_rfl) (c_viaductref10_SameWords e10.wf u31 u32 hy34) ?_
  rintro _ _ ⟨rfl, rfl⟩
  by_cases h38 : y33 = true
  ·have r39 := ite_t h38 r35
   rw [h38]
   refine s_qk (.bool true) (by kernel_rfl) ?_
   refine s_qk (.bool true) (by kernel_rfl) ?_
   refine s_qk (.pointer (some ⟨b2, 3, none⟩)) (by kernel_rfl) ?_
   refine s_ql (hd_DownFirst) (x := aLoad Try.prog 22 (.pointer (some ⟨b2, 3, none⟩)) H9) (by kernel_rfl) (u20.ld (by kernel_rfl)) ?_
   refine s_qk (.pointer (some ⟨b8, 3, none⟩)) (by kernel_rfl) ?_
   refine s_ql (hd_DownFirst_) (x := aLoad Try.prog 22 (.pointer (some ⟨b8, 3, none⟩)) H9) (by kernel_rfl) (r12.ld (by kernel_rfl)) ?_
   have u41 := ((h_DownFirst.ext e4).ext e10)
   have u42 := (u14.ext e10)
   obtain ⟨y43, hy44, r45⟩ := bind_some r39
   refine s_ck 28 #[hd_DownFirst, hd_DownFirst_] (by kernel_rfl) (c_viaductref10_SameWords e10.wf u41 u42 hy44) ?_
   rintro _ _ ⟨rfl, rfl⟩
   by_cases h48 : y43 = true
   ·have r49 := ite_t h48 r45
    rw [h48]
    refine s_qk (.bool true) (by kernel_rfl) ?_
    refine s_qk (.bool true) (by kernel_rfl) ?_
    refine s_qk (.pointer (some ⟨b2, 2, none⟩)) (by kernel_rfl) ?_
    refine s_ql (hd_Up) (x := aLoad Try.prog 23 (.pointer (some ⟨b2, 2, none⟩)) H9) (by kernel_rfl) (u20.ld (by kernel_rfl)) ?_
    refine s_qk (.pointer (some ⟨b8, 2, none⟩)) (by kernel_rfl) ?_
    refine s_ql (hd_Up_) (x := aLoad Try.prog 23 (.pointer (some ⟨b8, 2, none⟩)) H9) (by kernel_rfl) (r12.ld (by kernel_rfl)) ?_
    have u51 := ((h_Up.ext e4).ext e10)
    have u52 := (u15.ext e10)
    obtain ⟨y53, hy54, r55⟩ := bind_some r49
    refine s_ck 29 #[hd_Up, hd_Up_] (by kernel_rfl) (c_viaductref10_SameLinks e10.wf u51 u52 hy54) ?_
    rintro _ _ ⟨rfl, rfl⟩
    by_cases h58 : y53 = true
    ·have r59 := ite_t h58 r55
     rw [h58]
     refine s_qk (.bool true) (by kernel_rfl) ?_
     refine s_qk (.bool true) (by kernel_rfl) ?_
     refine s_qk (.pointer (some ⟨b2, 4, none⟩)) (by kernel_rfl) ?_
     refine s_ql (hd_Down) (x := aLoad Try.prog 23 (.pointer (some ⟨b2, 4, none⟩)) H9) (by kernel_rfl) (u20.ld (by kernel_rfl)) ?_
     refine s_qk (.pointer (some ⟨b8, 4, none⟩)) (by kernel_rfl) ?_
     refine s_ql (hd_Down_) (x := aLoad Try.prog 23 (.pointer (some ⟨b8, 4, none⟩)) H9) (by kernel_rfl) (r12.ld (by kernel_rfl)) ?_
     have u61 := ((h_Down.ext e4).ext e10)
     have u62 := (u13.ext e10)
     obtain ⟨y63, hy64, r65⟩ := bind_some r59
     refine s_ck 29 #[hd_Down, hd_Down_] (by kernel_rfl) (c_viaductref10_SameLinks e10.wf u61 u62 hy64) ?_
     rintro _ _ ⟨rfl, rfl⟩
     refine s_qk (.bool y63) (by kernel_rfl) ?_
     refine s_qk (.bool y63) (by kernel_rfl) ?_
     refine s_nil ?_
     refine k19 _ _ ?_
     refine w_ret ?_
     refine b_ret (fn := Try.f15) (vs := [.bool y63]) (aRes_tmp (by kernel_rfl) (rfl)) ?_
     obtain rfl := Option.some.inj r65
     exact ⟨rfl, (((FrS.refl (W := []) wf).extR e4).extR e10)⟩
    ·have r68 := ite_f h58 r55
     rw [nb h58]
     refine s_qk (.bool false) (by kernel_rfl) ?_
     refine s_qk (.bool false) (by kernel_rfl) ?_
     refine s_no (by kernel_rfl) ?_
     refine s_no (by kernel_rfl) ?_
     refine s_no (by kernel_rfl) ?_
     refine s_no (by kernel_rfl) ?_
     refine s_no (by kernel_rfl) ?_
     refine s_qk (.bool false) (by kernel_rfl) ?_
     refine s_qk (.bool false) (by kernel_rfl) ?_
     refine s_nil ?_
     refine k19 _ _ ?_
     refine w_ret ?_
     refine b_ret (fn := Try.f15) (vs := [.bool false]) (aRes_tmp (by kernel_rfl) (rfl)) ?_
     obtain rfl := Option.some.inj r68
     exact ⟨rfl, (((FrS.refl (W := []) wf).extR e4).extR e10)⟩
   ·have r70 := ite_f h48 r45
    rw [nb h48]
    refine s_qk (.bool false) (by kernel_rfl) ?_
    refine s_qk (.bool false) (by kernel_rfl) ?_
    refine s_no (by kernel_rfl) ?_
    refine s_no (by kernel_rfl) ?_
    refine s_no (by kernel_rfl) ?_
    refine s_no (by kernel_rfl) ?_
    refine s_no (by kernel_rfl) ?_
    refine s_qk (.bool false) (by kernel_rfl) ?_
    refine s_qk (.bool false) (by kernel_rfl) ?_
    refine s_no (by kernel_rfl) ?_
    refine s_no (by kernel_rfl) ?_
    refine s_no (by kernel_rfl) ?_
    refine s_no (by kernel_rfl) ?_
    refine s_no (by kernel_rfl) ?_
    refine s_qk (.bool false) (by kernel_rfl) ?_
    refine s_qk (.bool false) (by kernel_rfl) ?_
    refine s_nil ?_
    refine k19 _ _ ?_
    refine w_ret ?_
    refine b_ret (fn := Try.f15) (vs := [.bool false]) (aRes_tmp (by kernel_rfl) (rfl)) ?_
    obtain rfl := Option.some.inj r70
    exact ⟨rfl, (((FrS.refl (W := []) wf).extR e4).extR e10)⟩
  ·have r72 := ite_f h38 r35
   rw [nb h38]
   refine s_qk (.bool false) (by kernel_rfl) ?_
   refine s_qk (.bool false) (by kernel_rfl) ?_
   refine s_no (by kernel_rfl) ?_
   refine s_no (by kernel_rfl) ?_
   refine s_no (by kernel_rfl) ?_
   refine s_no (by kernel_rfl) ?_
   refine s_no (by kernel_rfl) ?_
   refine s_qk (.bool false) (by kernel_rfl) ?_
   refine s_qk (.bool false) (by kernel_rfl) ?_
   refine s_no (by kernel_rfl) ?_
   refine s_no (by kernel_rfl) ?_
   refine s_no (by kernel_rfl) ?_
   refine s_no (by kernel_rfl) ?_
   refine s_no (by kernel_rfl) ?_
   refine s_qk (.bool false) (by kernel_rfl) ?_
   refine s_qk (.bool false) (by kernel_rfl) ?_
   refine s_no (by kernel_rfl) ?_
   refine s_no (by kernel_rfl) ?_
   refine s_no (by kernel_rfl) ?_
   refine s_no (by kernel_rfl) ?_
   refine s_no (by kernel_rfl) ?_
   refine s_qk (.bool false) (by kernel_rfl) ?_
   refine s_qk (.bool false) (by kernel_rfl) ?_
   refine s_nil ?_
   refine k19 _ _ ?_
   refine w_ret ?_
   refine b_ret (fn := Try.f15) (vs := [.bool false]) (aRes_tmp (by kernel_rfl) (rfl)) ?_
   obtain rfl := Option.some.inj r72
   exact ⟨rfl, (((FrS.refl (W := []) wf).extR e4).extR e10)⟩
 ·have r74 := ite_f h28 r25
  rw [nb h28]
  refine s_qk (.bool false) (by kernel_rfl) ?_
  refine s_no (by kernel_rfl) ?_
  refine s_no (by kernel_rfl) ?_
  refine s_no (by kernel_rfl) ?_
  refine s_no (by kernel_rfl) ?_
  refine s_no (by kernel_rfl) ?_
  refine s_qk (.bool false) (by kernel_rfl) ?_
  refine s_qk (.bool false) (by kernel_rfl) ?_
  refine s_no (by kernel_rfl) ?_
  refine s_no (by kernel_rfl) ?_
  refine s_no (by kernel_rfl) ?_
  refine s_no (by kernel_rfl) ?_
  refine s_no (by kernel_rfl) ?_
  refine s_qk (.bool false) (by kernel_rfl) ?_
  refine s_qk (.bool false) (by kernel_rfl) ?_
  refine s_no (by kernel_rfl) ?_
  refine s_no (by kernel_rfl) ?_
  refine s_no (by kernel_rfl) ?_
  refine s_no (by kernel_rfl) ?_
  refine s_no (by kernel_rfl) ?_
  refine s_qk (.bool false) (by kernel_rfl) ?_
  refine s_qk (.bool false) (by kernel_rfl) ?_
  refine s_no (by kernel_rfl) ?_
  refine s_no (by kernel_rfl) ?_
  refine s_no (by kernel_rfl) ?_
  refine s_no (by kernel_rfl) ?_
  refine s_no (by kernel_rfl) ?_
  refine s_qk (.bool false) (by kernel_rfl) ?_
  refine s_qk (.bool false) (by kernel_rfl) ?_
  refine s_nil ?_
  refine k19 _ _ ?_
  refine w_ret ?_
  refine b_ret (fn := Try.f15) (vs := [.bool false]) (aRes_tmp (by kernel_rfl) (rfl)) ?_
  obtain rfl := Option.some.inj r74
  exact ⟨rfl, (((FrS.refl (W := []) wf).extR e4).extR e10)⟩

theorem c_viaductref10_Words {H : AH} {hd_l : Value} {fp_l : Fp} {l : List (Int)} {r : List (Int)}
  (wf : WF H) (h_l : Sq (encI .u32) 1 H hd_l l fp_l) (hr : z_viaductref10_Words l = some r) :
  ACalls Try.prog 30 #[hd_l] H fun v H' => ∃ (s3 : Value) (f4 : Fp), v = s3 ∧ FrS [] H H' ∧ Ow (encI .u32) 1 H' s3 r f4 ∧ Inn [] H f4 := by
 refine acalls_of_body mixed Try.func30 rfl (Nat.le_of_ble_eq_true rfl) ?_
 unfold z_viaductref10_Words at hr
 refine w_seqk fun K6 k6 => ?_
 refine w_reg (by kernel_rfl) ?_
 refine s_qk (.slice none 0 0) (by kernel_rfl) ?_
 refine s_nil ?_
 refine k6 _ _ ?_
 refine w_seqk fun K7 k7 => ?_
 refine w_reg (by kernel_rfl) ?_
 refine s_qk (.slice none 0 0) (by kernel_rfl) ?_
 refine s_nil ?_
 refine k7 _ _ ?_
 refine w_seqk fun K8 k8 => ?_
 refine w_seqk fun K9 k9 => ?_
 refine w_reg (by kernel_rfl) ?_
 refine s_qk (hd_l) (by kernel_rfl) ?_
 refine s_ql (.int .i64 (l.length : Int)) (x := aLen Try.prog 22 hd_l H) (by kernel_rfl) (h_l.lenb (by kernel_rfl)) ?_
 refine s_qk (.int .i64 0) (by kernel_rfl) ?_
 refine s_nil ?_
 refine k9 _ _ ?_
 obtain ⟨o10, hx11, r12⟩ := bind_some hr
 refine w_mid (fun α H13 => ∃ (s17 : Value) (f18 : Fp), Has α [(3, s17)] ∧ FrS [] H H13 ∧ Ow (encI .u32) 1 H13 s17 o10 f18 ∧ Inn [] H f18) (fun K20 k20 => ?_) (fun α H13 hM => ?_)
 ·refine w_block ?_
  obtain ⟨n22, hn23⟩ := loopO_iff.1 hx11
  refine w_loopn (fun n α H24 => ∃ (m0 : List (Int)), ∃ (i1 : Int), ∃ (s28 : Value), ∃ (f29 : Fp), iterO (fun zz_ => z_viaductref10_Words_l0 l zz_.1 zz_.2) n (m0, i1) = some o10 ∧ Has α [(3, s28), (6, hd_l), (7, .int .i64 (l.length : Int)), (8, .int .i64 i1)] ∧ FrS [] H H24 ∧ Ow (encI .u32) 1 H24 s28 m0 f29 ∧ Inn [] H f29) n22 ⟨[], 0, (.slice none 0 0), [], hn23, ⟨by kernel_rfl, by kernel_rfl, by kernel_rfl, by kernel_rfl, trivial⟩, (FrS.refl (W := []) wf), (Ow.nil (by decide)), Inn.nil⟩ ?_
  rintro n22 α H24 ⟨m0, i1, s28, f29, hi32, hh31, e25, m27, i30⟩ K37 k37
  obtain ⟨n33, z34, rfl, hz35, hn36⟩ := iter_succ hi32
  obtain ⟨β, rfl⟩ := has_ex hh31
  clear hh31
  replace hz35 : z_viaductref10_Words_l0 l m0 i1 = some z34 := hz35
  unfold z_viaductref10_Words_l0 at hz35
  obtain ⟨a38, n39, c40, rfl⟩ := m27.form
  refine w_seqk fun K41 k41 => ?_
  refine w_reg (by kernel_rfl) ?_
  refine s_qk (.bool (decide (i1 < (l.length : Int)))) (by kernel_rfl) ?_
  refine s_nil ?_
  refine k41 _ _ ?_
  refine w_seqk fun K42 k42 => ?_
  refine w_condp (i1 < (l.length : Int)) (by kernel_rfl) rfl (fun h43 => ?_) (fun h43 => ?_)
  ·have r44 := ite_t h43 hz35
   refine w_skip ?_
   refine k42 _ _ ?_
   refine w_seqk fun K45 k45 => ?_
   refine w_block ?_
   refine w_seqk fun K46 k46 => ?_
   refine w_reg (by kernel_rfl) ?_
   obtain ⟨g47, r48⟩ := G_some r44
   have u49 := (h_l.fr e25 Dj.nil_l)
   refine s_ql (elp hd_l 1 i1.toNat 0) (x := aIndexAddr Try.prog 22 hd_l (.int .i64 i1)) (by kernel_rfl) (u49.idxb (by kernel_rfl) g47 h43) ?_
   refine s_ql (.int .u32 (gt l i1)) (x := aLoad Try.prog 34 (elp hd_l 1 i1.toNat 0) H24) (by kernel_rfl) (u49.ld g47 h43 (by kernel_rfl)) ?_
   refine s_qk (.int .u32 (gt l i1)) (by kernel_rfl) ?_
   refine s_nil ?_
   refine k46 _ _ ?_
   refine w_reg (by kernel_rfl) ?_
   refine s_qk (.slice a38 n39 c40) (by kernel_rfl) ?_
   refine s_qk (.int .u32 (gt l i1)) (by kernel_rfl) ?_
   refine s_owk (enc := (encI .u32)) (sz := 1) e25.wf [(gt l i1)] 1 (by decide) (fun _ _ => rfl) (fun _ _ => rfl) rfl (by kernel_rfl) fun s50 f51 H52 e53 hf54 hm55 => ?_
   obtain ⟨a56, n57, c58, rfl⟩ := hm55.form
   have u60 := (m27.ext e53)
   obtain ⟨g61, r62⟩ := G_some r48
   obtain ⟨s63, H64, f65, q69, e66, hm67, hf68⟩ := Ow.append (P := Try.prog) 4 e53.wf u60 hm55.sq (fun _ _ => rfl) (at_ := #[22, 22]) rfl rfl (by kernel_rfl) (by kernel_rfl) (by decide) (by have := g61; first | omega | (simp only [List.length_cons, List.length_nil] at this ⊢; omega) | (simp at this ⊢; omega))
   obtain ⟨a70, n71, c72, rfl⟩ := hm67.form
   refine s_ek (.slice a70 n71 c72) (by kernel_rfl) (q69) ?_
   refine s_qk (.slice a70 n71 c72) (by kernel_rfl) ?_
   refine s_nil ?_
   refine k45 _ _ ?_
   refine w_reg (by kernel_rfl) ?_
   obtain ⟨g74, r75⟩ := G_some r62
   refine s_w ((i1 + 1)) (k := .i64) (x := (i1 + 1)) (by kernel_rfl) (wrap64 (by have := g74; omega)) ?_
   refine s_qk (.int .i64 (i1 + 1)) (by kernel_rfl) ?_
   refine s_nil ?_
   obtain rfl := Option.some.inj r75
   exact k37 n33 _ _ (Nat.lt_succ_self _) ⟨(m0 ++ [(gt l i1)]), (i1 + 1), (.slice a70 n71 c72), f65, hn36, ⟨by kernel_rfl, by kernel_rfl, by kernel_rfl, by kernel_rfl, trivial⟩, (FrS.step wf ((FrS.step wf (FrS.refl (W := []) wf) e25 Inn.nil).extR e53) e66 (i30.fresh (Nat.le_refl _))), hm67, (Inn.trans (i30.fresh (Nat.le_refl _)) (ntr e25.next e53.next) hf68)⟩
  ·have r76 := ite_f h43 hz35
   refine w_exit (th_exit (th_exit (bl_eq ?_)))
   obtain rfl := Option.some.inj r76
   obtain rfl := it_inr hn36
   exact k20 _ _ ⟨(.slice a38 n39 c40), f29, ⟨by kernel_rfl, trivial⟩, (FrS.step wf (FrS.refl (W := []) wf) e25 Inn.nil), m27, (i30.fresh (Nat.le_refl _))⟩
 ·obtain ⟨s17, f18, hh21, e14, m16, i19⟩ := hM
  obtain ⟨β, rfl⟩ := has_ex hh21
  clear hh21
  obtain ⟨a77, n78, c79, rfl⟩ := m16.form
  refine k8 _ _ ?_
  refine w_seqk fun K80 k80 => ?_
  refine w_reg (by kernel_rfl) ?_
  refine s_qk (.slice a77 n78 c79) (by kernel_rfl) ?_
  refine s_qk (.slice a77 n78 c79) (by kernel_rfl) ?_
  refine s_nil ?_
  refine k80 _ _ ?_
  refine w_ret ?_
  refine b_ret (fn := Try.f30) (vs := [.slice a77 n78 c79]) (aRes_tmp (by kernel_rfl) (rfl)) ?_
  obtain rfl := Option.some.inj r12
  exact ⟨(.slice a77 n78 c79), f18, rfl, (FrS.step wf (FrS.refl (W := []) wf) e14 Inn.nil), m16, (i19.fresh (Nat.le_refl _))⟩

theorem c_viaductref10_Links {H : AH} {hd_l : Value} {fp_l : Fp} {l : List (Int × Int × Int × Int)} {r : List (Int × Int × Int × Int)}
  (wf : WF H) (h_l : Sq enc_u32_u64_u32_u32 4 H hd_l l fp_l) (hr : z_viaductref10_Links l = some r) :
  ACalls Try.prog 31 #[hd_l] H fun v H' => ∃ (s3 : Value) (f4 : Fp), v = s3 ∧ FrS [] H H' ∧ Ow enc_u32_u64_u32_u32 4 H' s3 r f4 ∧ Inn [] H f4 := by
 refine acalls_of_body mixed Try.func31 rfl (Nat.le_of_ble_eq_true rfl) ?_
 unfold z_viaductref10_Links at hr
 refine w_seqk fun K6 k6 => ?_
 refine w_reg (by kernel_rfl) ?_
 refine s_qk (.slice none 0 0) (by kernel_rfl) ?_
 refine s_nil ?_
 refine k6 _ _ ?_
 refine w_seqk fun K7 k7 => ?_
 refine w_reg (by kernel_rfl) ?_
 refine s_qk (.slice none 0 0) (by kernel_rfl) ?_
 refine s_nil ?_
 refine k7 _ _ ?_
 refine w_seqk fun K8 k8 => ?_
 refine w_seqk fun K9 k9 => ?_
 refine w_reg (by kernel_rfl) ?_
 refine s_qk (hd_l) (by kernel_rfl) ?_
 refine s_ql (.int .i64 (l.length : Int)) (x := aLen Try.prog 23 hd_l H) (by kernel_rfl) (h_l.lenb (by kernel_rfl)) ?_
 refine s_qk (.int .i64 0) (by kernel_rfl) ?_
 refine s_nil ?_
 refine k9 _ _ ?_
 obtain ⟨o10, hx11, r12⟩ := bind_some hr
 refine w_mid (fun α H13 => ∃ (s17 : Value) (f18 : Fp), Has α [(3, s17)] ∧ FrS [] H H13 ∧ Ow enc_u32_u64_u32_u32 4 H13 s17 o10 f18 ∧ Inn [] H f18) (fun K20 k20 => ?_) (fun α H13 hM => ?_)
 ·refine w_block ?_
  obtain ⟨n22, hn23⟩ := loopO_iff.1 hx11
  refine w_loopn (fun n α H24 => ∃ (m0 : List (Int × Int × Int × Int)), ∃ (i1 : Int), ∃ (s28 : Value), ∃ (f29 : Fp), iterO (fun zz_ => z_viaductref10_Links_l0 l zz_.1 zz_.2) n (m0, i1) = some o10 ∧ Has α [(3, s28), (6, hd_l), (7, .int .i64 (l.length : Int)), (8, .int .i64 i1)] ∧ FrS [] H H24 ∧ Ow enc_u32_u64_u32_u32 4 H24 s28 m0 f29 ∧ Inn [] H f29) n22 ⟨[], 0, (.slice none 0 0), [], hn23, ⟨by kernel_rfl, by kernel_rfl, by kernel_rfl, by kernel_rfl, trivial⟩, (FrS.refl (W := []) wf), (Ow.nil (by decide)), Inn.nil⟩ ?_
  rintro n22 α H24 ⟨m0, i1, s28, f29, hi32, hh31, e25, m27, i30⟩ K37 k37
  obtain ⟨n33, z34, rfl, hz35, hn36⟩ := iter_succ hi32
  obtain ⟨β, rfl⟩ := has_ex hh31
  clear hh31
  replace hz35 : z_viaductref10_Links_l0 l m0 i1 = some z34 := hz35
  unfold z_viaductref10_Links_l0 at hz35
  obtain ⟨a38, n39, c40, rfl⟩ := m27.form
  refine w_seqk fun K41 k41 => ?_
  refine w_reg (by kernel_rfl) ?_
  refine s_qk (.bool (decide (i1 < (l.length : Int)))) (by kernel_rfl) ?_
  refine s_nil ?_
  refine k41 _ _ ?_
  refine w_seqk fun K42 k42 => ?_
  refine w_condp (i1 < (l.length : Int)) (by kernel_rfl) rfl (fun h43 => ?_) (fun h43 => ?_)
  ·have r44 := ite_t h43 hz35
   refine w_skip ?_
   refine k42 _ _ ?_
   refine w_seqk fun K45 k45 => ?_
   refine w_block ?_
   refine w_seqk fun K46 k46 => ?_
   refine w_reg (by kernel_rfl) ?_
   obtain ⟨g47, r48⟩ := G_some r44
   have u49 := (h_l.fr e25 Dj.nil_l)
   refine s_ql (elp hd_l 4 i1.toNat 0) (x := aIndexAddr Try.prog 23 hd_l (.int .i64 i1)) (by kernel_rfl) (u49.idxb (by kernel_rfl) g47 h43) ?_
   refine s_ql (.agg #[.int .u32 ((gt l i1).1), .int .u64 ((gt l i1).2.1), .int .u32 ((gt l i1).2.2.1), .int .u32 ((gt l i1).2.2.2)]) (x := aLoad Try.prog 37 (elp hd_l 4 i1.toNat 0) H24) (by kernel_rfl) (u49.ld g47 h43 (by kernel_rfl)) ?_
   refine s_rwk e25.wf [.int .u32 0, .int .u64 0, .int .u32 0, .int .u32 0] (by kernel_rfl) fun b50 H51 e52 hb53 r54 => ?_
   obtain ⟨H56, q57, e58, r59⟩ := Row.store (P := Try.prog) (t := 37) (p := 0) e52.wf r54 (.agg #[.int .u32 ((gt l i1).1), .int .u64 ((gt l i1).2.1), .int .u32 ((gt l i1).2.2.1), .int .u32 ((gt l i1).2.2.2)]) [.int .u32 ((gt l i1).1), .int .u64 ((gt l i1).2.1), .int .u32 ((gt l i1).2.2.1), .int .u32 ((gt l i1).2.2.2)] (by kernel_rfl) (by kernel_rfl) (one_cons (rfl) (one_cons (rfl) (one_cons (rfl) (one_cons (rfl) (one_nil))))) (Nat.le_of_ble_eq_true (by kernel_rfl)) [.int .u32 ((gt l i1).1), .int .u64 ((gt l i1).2.1), .int .u32 ((gt l i1).2.2.1), .int .u32 ((gt l i1).2.2.2)] (by kernel_rfl)
   refine s_ek (undef) (by kernel_rfl) (map_ok q57) ?_
   refine s_nil ?_
   refine k46 _ _ ?_
   refine w_reg (by kernel_rfl) ?_
   refine s_qk (.slice a38 n39 c40) (by kernel_rfl) ?_
   refine s_ql (.agg #[.int .u32 ((gt l i1).1), .int .u64 ((gt l i1).2.1), .int .u32 ((gt l i1).2.2.1), .int .u32 ((gt l i1).2.2.2)]) (x := aLoad Try.prog 37 (.pointer (some ⟨b50, 0, none⟩)) H56) (by kernel_rfl) (r59.ld (by kernel_rfl)) ?_
   refine s_owk (enc := enc_u32_u64_u32_u32) (sz := 4) e58.wf [((gt l i1).1, (gt l i1).2.1, (gt l i1).2.2.1, (gt l i1).2.2.2)] 1 (by decide) (fun _ _ => rfl) (fun _ _ => rfl) rfl (by kernel_rfl) fun s60 f61 H62 e63 hf64 hm65 => ?_
   obtain ⟨a66, n67, c68, rfl⟩ := hm65.form
   have u70 := (((m27.ext e52).fr e58 (hb53.djn m27.lt)).ext e63)
   obtain ⟨g71, r72⟩ := G_some r48
   obtain ⟨s73, H74, f75, q79, e76, hm77, hf78⟩ := Ow.append (P := Try.prog) 24 e63.wf u70 hm65.sq (fun _ _ => rfl) (at_ := #[23, 23]) rfl rfl (by kernel_rfl) (by kernel_rfl) (by decide) (by have := g71; first | omega | (simp only [List.length_cons, List.length_nil] at this ⊢; omega) | (simp at this ⊢; omega))
   obtain ⟨a80, n81, c82, rfl⟩ := hm77.form
   refine s_ek (.slice a80 n81 c82) (by kernel_rfl) (q79) ?_
   refine s_qk (.slice a80 n81 c82) (by kernel_rfl) ?_
   refine s_nil ?_
   refine k45 _ _ ?_
   refine w_reg (by kernel_rfl) ?_
   obtain ⟨g84, r85⟩ := G_some r72
   refine s_w ((i1 + 1)) (k := .i64) (x := (i1 + 1)) (by kernel_rfl) (wrap64 (by have := g84; omega)) ?_
   refine s_qk (.int .i64 (i1 + 1)) (by kernel_rfl) ?_
   refine s_nil ?_
   obtain rfl := Option.some.inj r85
   exact k37 n33 _ _ (Nat.lt_succ_self _) ⟨(m0 ++ [((gt l i1).1, (gt l i1).2.1, (gt l i1).2.2.1, (gt l i1).2.2.2)]), (i1 + 1), (.slice a80 n81 c82), f75, hn36, ⟨by kernel_rfl, by kernel_rfl, by kernel_rfl, by kernel_rfl, trivial⟩, (FrS.step wf ((FrS.step wf ((FrS.step wf (FrS.refl (W := []) wf) e25 Inn.nil).extR e52) e58 (hb53.fresh e25.next)).extR e63) e76 (i30.fresh (Nat.le_refl _))), hm77, (Inn.trans (i30.fresh (Nat.le_refl _)) (ntr (ntr (ntr e25.next e52.next) e58.next) e63.next) hf78)⟩
  ·have r86 := ite_f h43 hz35
   refine w_exit (th_exit (th_exit (bl_eq ?_)))
   obtain rfl := Option.some.inj r86
   obtain rfl := it_inr hn36
   exact k20 _ _ ⟨(.slice a38 n39 c40), f29, ⟨by kernel_rfl, trivial⟩, (FrS.step wf (FrS.refl (W := []) wf) e25 Inn.nil), m27, (i30.fresh (Nat.le_refl _))⟩
 ·obtain ⟨s17, f18, hh21, e14, m16, i19⟩ := hM
  obtain ⟨β, rfl⟩ := has_ex hh21
  clear hh21
  obtain ⟨a87, n88, c89, rfl⟩ := m16.form
  refine k8 _ _ ?_
  refine w_seqk fun K90 k90 => ?_
  refine w_reg (by kernel_rfl) ?_
  refine s_qk (.slice a87 n88 c89) (by kernel_rfl) ?_
  refine s_qk (.slice a87 n88 c89) (by kernel_rfl) ?_
  refine s_nil ?_
  refine k90 _ _ ?_
  refine w_ret ?_
  refine b_ret (fn := Try.f31) (vs := [.slice a87 n88 c89]) (aRes_tmp (by kernel_rfl) (rfl)) ?_
  obtain rfl := Option.some.inj r12
  exact ⟨(.slice a87 n88 c89), f18, rfl, (FrS.step wf (FrS.refl (W := []) wf) e14 Inn.nil), m16, (i19.fresh (Nat.le_refl _))⟩

theorem c_viaductref10_Twin {H : AH} {hd_Node : Value} {fp_Node : Fp} {hd_UpFirst : Value} {fp_UpFirst : Fp} {hd_Up : Value} {fp_Up : Fp} {hd_DownFirst : Value} {fp_DownFirst : Fp} {hd_Down : Value} {fp_Down : Fp} {Node : List (Int)} {UpFirst : List (Int)} {Up : List (Int × Int × Int × Int)} {DownFirst : List (Int)} {Down : List (Int × Int × Int × Int)} {r : List (Int) × List (Int) × List (Int × Int × Int × Int) × List (Int) × List (Int × Int × Int × Int)}
  (wf : WF H) (h_Node : Sq (encI .u32) 1 H hd_Node Node fp_Node) (h_UpFirst : Sq (encI .u32) 1 H hd_UpFirst UpFirst fp_UpFirst) (h_Up : Sq enc_u32_u64_u32_u32 4 H hd_Up Up fp_Up) (h_DownFirst : Sq (encI .u32) 1 H hd_DownFirst DownFirst fp_DownFirst) (h_Down : Sq enc_u32_u64_u32_u32 4 H hd_Down Down fp_Down) (hr : z_viaductref10_Twin Node UpFirst Up DownFirst Down = some r) :
  ACalls Try.prog 16 #[.agg #[hd_Node, hd_UpFirst, hd_Up, hd_DownFirst, hd_Down]] H fun v H' => ∃ (s3 : Value) (f4 : Fp) (s7 : Value) (f8 : Fp) (s11 : Value) (f12 : Fp) (s15 : Value) (f16 : Fp) (s19 : Value) (f20 : Fp), v = .agg #[s3, s7, s11, s15, s19] ∧ FrS [] H H' ∧ Ow (encI .u32) 1 H' s3 r.1 f4 ∧ Ow (encI .u32) 1 H' s7 r.2.1 f8 ∧ Ow enc_u32_u64_u32_u32 4 H' s11 r.2.2.1 f12 ∧ Ow (encI .u32) 1 H' s15 r.2.2.2.1 f16 ∧ Ow enc_u32_u64_u32_u32 4 H' s19 r.2.2.2.2 f20 ∧ Inn [] H f4 ∧ Inn [] H f8 ∧ Inn [] H f12 ∧ Inn [] H f16 ∧ Inn [] H f20 ∧ Dj f4 f8 ∧ Dj f4 f12 ∧ Dj f8 f12 ∧ Dj f4 f16 ∧ Dj f8 f16 ∧ Dj f12 f16 ∧ Dj f4 f20 ∧ Dj f8 f20 ∧ Dj f12 f20 ∧ Dj f16 f20 := by
 refine acalls_of_body mixed Try.func16 rfl (Nat.le_of_ble_eq_true rfl) ?_
 unfold z_viaductref10_Twin at hr
 refine w_seqk fun K36 k36 => ?_
 refine w_reg (by kernel_rfl) ?_
 refine s_rwl wf [hd_Node, hd_UpFirst, hd_Up, hd_DownFirst, hd_Down] (one_cons (h_Node.one1) (one_cons (h_UpFirst.one1) (one_cons (h_Up.one1) (one_cons (h_DownFirst.one1) (one_cons (h_Down.one1) (one_nil)))))) (by kernel_rfl) fun b37 H38 e39 hb40 r41 => ?_
 refine s_rwk e39.wf [.slice none 0 0, .slice none 0 0, .slice none 0 0, .slice none 0 0, .slice none 0 0] (by kernel_rfl) fun b43 H44 e45 hb46 r47 => ?_
 refine s_nil ?_
 refine k36 _ _ ?_
 refine w_seqk fun K49 k49 => ?_
 refine w_draw [0, 1, 3, 4, 6, 7, 9, 10, 12, 13, 2, 5, 8, 11, 14, 15, 16] (by kernel_rfl) ?_
 refine d_qk (.pointer (some ⟨b37, 0, none⟩)) (by kernel_rfl) ?_
 have u50 := (r41.ext e45)
 refine d_ql (hd_Node) (x := aLoad Try.prog 22 (.pointer (some ⟨b37, 0, none⟩)) H44) (by kernel_rfl) (u50.ld (by kernel_rfl)) ?_
 refine d_qk (.pointer (some ⟨b37, 1, none⟩)) (by kernel_rfl) ?_
 refine d_fl (hd_UpFirst) (x := aLoad Try.prog 22 (.pointer (some ⟨b37, 1, none⟩)) H44) (by kernel_rfl) (u50.ld (by kernel_rfl)) ?_
 refine d_qk (.pointer (some ⟨b37, 2, none⟩)) (by kernel_rfl) ?_
 refine d_fl (hd_Up) (x := aLoad Try.prog 23 (.pointer (some ⟨b37, 2, none⟩)) H44) (by kernel_rfl) (u50.ld (by kernel_rfl)) ?_
 refine d_qk (.pointer (some ⟨b37, 3, none⟩)) (by kernel_rfl) ?_
 refine d_fl (hd_DownFirst) (x := aLoad Try.prog 22 (.pointer (some ⟨b37, 3, none⟩)) H44) (by kernel_rfl) (u50.ld (by kernel_rfl)) ?_
 refine d_qk (.pointer (some ⟨b37, 4, none⟩)) (by kernel_rfl) ?_
 refine d_fl (hd_Down) (x := aLoad Try.prog 23 (.pointer (some ⟨b37, 4, none⟩)) H44) (by kernel_rfl) (u50.ld (by kernel_rfl)) ?_
 have u51 := ((h_Node.ext e39).ext e45)
 obtain ⟨y52, hy53, r54⟩ := bind_some hr
 refine d_ck 30 #[hd_Node] (by kernel_rfl) (c_viaductref10_Words e45.wf u51 hy53) ?_
 rintro s55 H57 ⟨_, f56, rfl, e58, m59, i60⟩
 obtain ⟨a62, n63, c64, rfl⟩ := m59.form
 have u65 := (u50.frS e58 Dj.nil_l)
 refine ⟨st_ql (y := aLoad Try.prog 23 (.pointer (some ⟨b37, 4, none⟩)) H57) (by kernel_rfl) (u65.ld (by kernel_rfl)) (st_ql (y := aLoad Try.prog 22 (.pointer (some ⟨b37, 3, none⟩)) H57) (by kernel_rfl) (u65.ld (by kernel_rfl)) (st_ql (y := aLoad Try.prog 23 (.pointer (some ⟨b37, 2, none⟩)) H57) (by kernel_rfl) (u65.ld (by kernel_rfl)) (st_ql (y := aLoad Try.prog 22 (.pointer (some ⟨b37, 1, none⟩)) H57) (by kernel_rfl) (u65.ld (by kernel_rfl)) (st_nil)))), ?_⟩
 have u66 := (((h_UpFirst.ext e39).ext e45).fr e58 Dj.nil_l)
 obtain ⟨y67, hy68, r69⟩ := bind_some r54
 refine d_ck 30 #[hd_UpFirst] (by kernel_rfl) (c_viaductref10_Words e58.wf u66 hy68) ?_
 rintro s70 H72 ⟨_, f71, rfl, e73, m74, i75⟩
 obtain ⟨a77, n78, c79, rfl⟩ := m74.form
 have u80 := (u65.frS e73 Dj.nil_l)
 refine ⟨st_ql (y := aLoad Try.prog 23 (.pointer (some ⟨b37, 4, none⟩)) H72) (by kernel_rfl) (u80.ld (by kernel_rfl)) (st_ql (y := aLoad Try.prog 22 (.pointer (some ⟨b37, 3, none⟩)) H72) (by kernel_rfl) (u80.ld (by kernel_rfl)) (st_ql (y := aLoad Try.prog 23 (.pointer (some ⟨b37, 2, none⟩)) H72) (by kernel_rfl) (u80.ld (by kernel_rfl)) (st_anc (by kernel_rfl) (st_nil)))), ?_⟩
 have u81 := ((((h_Up.ext e39).ext e45).fr e58 Dj.nil_l).fr e73 Dj.nil_l)
 obtain ⟨y82, hy83, r84⟩ := bind_some r69
 refine d_ck 31 #[hd_Up] (by kernel_rfl) (c_viaductref10_Links e73.wf u81 hy83) ?_
 rintro s85 H87 ⟨_, f86, rfl, e88, m89, i90⟩
 obtain ⟨a92, n93, c94, rfl⟩ := m89.form
 have u95 := (u80.frS e88 Dj.nil_l)
 refine ⟨st_ql (y := aLoad Try.prog 23 (.pointer (some ⟨b37, 4, none⟩)) H87) (by kernel_rfl) (u95.ld (by kernel_rfl)) (st_ql (y := aLoad Try.prog 22 (.pointer (some ⟨b37, 3, none⟩)) H87) (by kernel_rfl) (u95.ld (by kernel_rfl)) (st_anc (by kernel_rfl) (st_anc (by kernel_rfl) (st_nil)))), ?_⟩
 have u96 := (((((h_DownFirst.ext e39).ext e45).fr e58 Dj.nil_l).fr e73 Dj.nil_l).fr e88 Dj.nil_l)
 obtain ⟨y97, hy98, r99⟩ := bind_some r84
 refine d_ck 30 #[hd_DownFirst] (by kernel_rfl) (c_viaductref10_Words e88.wf u96 hy98) ?_
 rintro s100 H102 ⟨_, f101, rfl, e103, m104, i105⟩
 obtain ⟨a107, n108, c109, rfl⟩ := m104.form
 have u110 := (u95.frS e103 Dj.nil_l)
 refine ⟨st_ql (y := aLoad Try.prog 23 (.pointer (some ⟨b37, 4, none⟩)) H102) (by kernel_rfl) (u110.ld (by kernel_rfl)) (st_anc (by kernel_rfl) (st_anc (by kernel_rfl) (st_anc (by kernel_rfl) (st_nil)))), ?_⟩
 have u111 := ((((((h_Down.ext e39).ext e45).fr e58 Dj.nil_l).fr e73 Dj.nil_l).fr e88 Dj.nil_l).fr e103 Dj.nil_l)
 obtain ⟨y112, hy113, r114⟩ := bind_some r99
 refine d_ck 31 #[hd_Down] (by kernel_rfl) (c_viaductref10_Links e103.wf u111 hy113) ?_
 rintro s115 H117 ⟨_, f116, rfl, e118, m119, i120⟩
 obtain ⟨a122, n123, c124, rfl⟩ := m119.form
 refine ⟨st_anc (by kernel_rfl) (st_anc (by kernel_rfl) (st_anc (by kernel_rfl) (st_anc (by kernel_rfl) (st_nil)))), ?_⟩
 refine d_qk (.agg #[.slice a62 n63 c64, .slice a77 n78 c79, .slice a92 n93 c94, .slice a107 n108 c109, .slice a122 n123 c124]) (by kernel_rfl) ?_
 have u129 := (((((r47.frS e58 Dj.nil_l).frS e73 Dj.nil_l).frS e88 Dj.nil_l).frS e103 Dj.nil_l).frS e118 Dj.nil_l)
 have u130 := (m104.fr e118 Dj.nil_l)
 have u131 := ((m89.fr e103 Dj.nil_l).fr e118 Dj.nil_l)
 have u132 := (((m74.fr e88 Dj.nil_l).fr e103 Dj.nil_l).fr e118 Dj.nil_l)
 have u133 := ((((m59.fr e73 Dj.nil_l).fr e88 Dj.nil_l).fr e103 Dj.nil_l).fr e118 Dj.nil_l)
 obtain ⟨H125, q126, e127, r128⟩ := Row.store (P := Try.prog) (t := 25) (p := 0) e118.wf u129 (.agg #[.slice a62 n63 c64, .slice a77 n78 c79, .slice a92 n93 c94, .slice a107 n108 c109, .slice a122 n123 c124]) [.slice a62 n63 c64, .slice a77 n78 c79, .slice a92 n93 c94, .slice a107 n108 c109, .slice a122 n123 c124] (by kernel_rfl) (by kernel_rfl) (one_cons (u133.one1) (one_cons (u132.one1) (one_cons (u131.one1) (one_cons (u130.one1) (one_cons (m119.one1) (one_nil)))))) (Nat.le_of_ble_eq_true (by kernel_rfl)) [.slice a62 n63 c64, .slice a77 n78 c79, .slice a92 n93 c94, .slice a107 n108 c109, .slice a122 n123 c124] (by kernel_rfl)
 refine d_ek (undef) (by kernel_rfl) (map_ok q126) (st_anc (by kernel_rfl) (st_anc (by kernel_rfl) (st_anc (by kernel_rfl) (st_anc (by kernel_rfl) (st_nil))))) ?_
 refine d_nil ?_
 refine k49 _ _ ?_
 refine w_ret ?_
 refine b_ret (fn := Try.f16) (vs := [.agg #[.slice a62 n63 c64, .slice a77 n78 c79, .slice a92 n93 c94, .slice a107 n108 c109, .slice a122 n123 c124]]) (aRes_cell (Eq.trans (b := aLoad Try.prog 25 (.pointer (some ⟨b43, 0, none⟩)) H125) (by kernel_rfl) (r128.ld (by kernel_rfl))) (rfl)) ?_
 have u134 := (u133.fr e127 (Dj.symm (i60.djn r47.ltF)))
 have u135 := (u132.fr e127 (Dj.symm (i75.djn (r47.ltF.le e58.next))))
 have u136 := (u131.fr e127 (Dj.symm (i90.djn (r47.ltF.le (ntr e58.next e73.next)))))
 have u137 := (u130.fr e127 (Dj.symm (i105.djn (r47.ltF.le (ntr (ntr e58.next e73.next) e88.next)))))
 have u138 := (m119.fr e127 (Dj.symm (i120.djn (r47.ltF.le (ntr (ntr (ntr e58.next e73.next) e88.next) e103.next)))))
 obtain rfl := Option.some.inj r114
 exact ⟨(.slice a62 n63 c64), f56, (.slice a77 n78 c79), f71, (.slice a92 n93 c94), f86, (.slice a107 n108 c109), f101, (.slice a122 n123 c124), f116, rfl, (FrS.step wf (FrS.step wf (FrS.step wf (FrS.step wf (FrS.step wf (FrS.step wf (((FrS.refl (W := []) wf).extR e39).extR e45) e58 Inn.nil) e73 Inn.nil) e88 Inn.nil) e103 Inn.nil) e118 Inn.nil) e127 (hb46.fresh e39.next)), u134, u135, u136, u137, u138, (i60.fresh (ntr e39.next e45.next)), (i75.fresh (ntr (ntr e39.next e45.next) e58.next)), (i90.fresh (ntr (ntr (ntr e39.next e45.next) e58.next) e73.next)), (i105.fresh (ntr (ntr (ntr (ntr e39.next e45.next) e58.next) e73.next) e88.next)), (i120.fresh (ntr (ntr (ntr (ntr (ntr e39.next e45.next) e58.next) e73.next) e88.next) e103.next)), (Dj.symm (i75.djn m59.lt)), (Dj.symm (i90.djn (m59.lt.le e73.next))), (Dj.symm (i90.djn m74.lt)), (Dj.symm (i105.djn (m59.lt.le (ntr e73.next e88.next)))), (Dj.symm (i105.djn (m74.lt.le e88.next))), (Dj.symm (i105.djn m89.lt)), (Dj.symm (i120.djn (m59.lt.le (ntr (ntr e73.next e88.next) e103.next)))), (Dj.symm (i120.djn (m74.lt.le (ntr e88.next e103.next)))), (Dj.symm (i120.djn (m89.lt.le e103.next))), (Dj.symm (i120.djn m104.lt))⟩

theorem c_viaductlaw10_HierSames {H : AH} {hd_Node : Value} {fp_Node : Fp} {hd_UpFirst : Value} {fp_UpFirst : Fp} {hd_Up : Value} {fp_Up : Fp} {hd_DownFirst : Value} {fp_DownFirst : Fp} {hd_Down : Value} {fp_Down : Fp} {hd_Node_ : Value} {fp_Node_ : Fp} {hd_UpFirst_ : Value} {fp_UpFirst_ : Fp} {hd_Up_ : Value} {fp_Up_ : Fp} {hd_DownFirst_ : Value} {fp_DownFirst_ : Fp} {hd_Down_ : Value} {fp_Down_ : Fp} {Node : List (Int)} {UpFirst : List (Int)} {Up : List (Int × Int × Int × Int)} {DownFirst : List (Int)} {Down : List (Int × Int × Int × Int)} {Node_ : List (Int)} {UpFirst_ : List (Int)} {Up_ : List (Int × Int × Int × Int)} {DownFirst_ : List (Int)} {Down_ : List (Int × Int × Int × Int)} {r : Bool}
  (wf : WF H) (h_Node : Sq (encI .u32) 1 H hd_Node Node fp_Node) (h_UpFirst : Sq (encI .u32) 1 H hd_UpFirst UpFirst fp_UpFirst) (h_Up : Sq enc_u32_u64_u32_u32 4 H hd_Up Up fp_Up) (h_DownFirst : Sq (encI .u32) 1 H hd_DownFirst DownFirst fp_DownFirst) (h_Down : Sq enc_u32_u64_u32_u32 4 H hd_Down Down fp_Down) (h_Node_ : Sq (encI .u32) 1 H hd_Node_ Node_ fp_Node_) (h_UpFirst_ : Sq (encI .u32) 1 H hd_UpFirst_ UpFirst_ fp_UpFirst_) (h_Up_ : Sq enc_u32_u64_u32_u32 4 H hd_Up_ Up_ fp_Up_) (h_DownFirst_ : Sq (encI .u32) 1 H hd_DownFirst_ DownFirst_ fp_DownFirst_) (h_Down_ : Sq enc_u32_u64_u32_u32 4 H hd_Down_ Down_ fp_Down_) (hr : z_viaductlaw10_HierSames Node UpFirst Up DownFirst Down Node_ UpFirst_ Up_ DownFirst_ Down_ = some r) :
  ACalls Try.prog 4 #[.agg #[hd_Node, hd_UpFirst, hd_Up, hd_DownFirst, hd_Down], .agg #[hd_Node_, hd_UpFirst_, hd_Up_, hd_DownFirst_, hd_Down_]] H fun v H' => v = .bool r ∧ FrS [] H H' := by
 refine acalls_of_body mixed Try.func4 rfl (Nat.le_of_ble_eq_true rfl) ?_
 unfold z_viaductlaw10_HierSames at hr
 refine w_seqk fun K1 k1 => ?_
 refine w_reg (by kernel_rfl) ?_
 refine s_rwl wf [hd_Node, hd_UpFirst, hd_Up, hd_DownFirst, hd_Down] (one_cons (h_Node.one1) (one_cons (h_UpFirst.one1) (one_cons (h_Up.one1) (one_cons (h_DownFirst.one1) (one_cons (h_Down.one1) (one_nil)))))) (by kernel_rfl) fun b2 H3 e4 hb5 r6 => ?_
 have u13 := (h_Down_.ext e4)
 have u14 := (h_DownFirst_.ext e4)
 have u15 := (h_Up_.ext e4)
 have u16 := (h_UpFirst_.ext e4)
 have u17 := (h_Node_.ext e4)
 refine s_rwl e4.wf [hd_Node_, hd_UpFirst_, hd_Up_, hd_DownFirst_, hd_Down_] (one_cons (u17.one1) (one_cons (u16.one1) (one_cons (u15.one1) (one_cons (u14.one1) (one_cons (u13.one1) (one_nil)))))) (by kernel_rfl) fun b8 H9 e10 hb11 r12 => ?_
 refine s_qk (.bool false) (by kernel_rfl) ?_
 refine s_nil ?_
 refine k1 _ _ ?_
 refine w_seqk fun K19 k19 => ?_
 refine w_seqk fun K20 k20 => ?_
 refine w_reg (by kernel_rfl) ?_
 obtain ⟨y21, hy22, r23⟩ := bind_some hr
 refine s_ck 6 #[] (by kernel_rfl) (c_viaductlaw10_awake e10.wf hy22) ?_
 rintro _ H24 ⟨rfl, e25⟩
 refine s_qk (.bool (!y21)) (by kernel_rfl) ?_
 refine s_nil ?_
 refine k20 _ _ ?_
 refine w_cond ((!y21)) (by kernel_rfl) rfl (fun h26 => ?_) (fun h26 => ?_)
 ·have r27 := ite_t h26 r23
  refine w_seqk fun K28 k28 => ?_
  refine w_reg (by kernel_rfl) ?_
  refine s_qk (.bool false) (by kernel_rfl) ?_
  refine s_nil ?_
  refine k28 _ _ ?_
  refine w_ret (th_ret ?_)
  refine b_ret (fn := Try.f4) (vs := [.bool false]) (aRes_tmp (by kernel_rfl) (rfl)) ?_
  obtain rfl := Option.some.inj r27
  exact ⟨rfl, (FrS.step wf (((FrS.refl (W := []) wf).extR e4).extR e10) e25 Inn.nil)⟩
 ·have r29 := ite_bf h26 r23
  refine w_skip ?_
  refine k19 _ _ ?_
  refine w_seqk fun K30 k30 => ?_
  refine w_draw [0, 1, 3, 4, 2, 5, 6, 7, 8, 9, 11, 12, 10, 13, 14, 15, 16, 17, 18, 19, 20, 21, 22, 24, 23, 25, 26, 27] (by kernel_rfl) ?_
  have u31 := ((r6.ext e10).frS e25 Dj.nil_l)
  refine d_ql (.agg #[hd_Node, hd_UpFirst, hd_Up, hd_DownFirst, hd_Down]) (x := aLoad Try.prog 25 (.pointer (some ⟨b2, 0, none⟩)) H24) (by kernel_rfl) (u31.ld (by kernel_rfl)) ?_
  have u32 := (r12.frS e25 Dj.nil_l)
  refine d_ql (.agg #[hd_Node_, hd_UpFirst_, hd_Up_, hd_DownFirst_, hd_Down_]) (x := aLoad Try.prog 25 (.pointer (some ⟨b8, 0, none⟩)) H24) (by kernel_rfl) (u32.ld (by kernel_rfl)) ?_
  refine d_fl (.agg #[hd_Node, hd_UpFirst, hd_Up, hd_DownFirst, hd_Down]) (x := aLoad Try.prog 25 (.pointer (some ⟨b2, 0, none⟩)) H24) (by kernel_rfl) (u31.ld (by kernel_rfl)) ?_
  refine d_fl (.agg #[hd_Node_, hd_UpFirst_, hd_Up_, hd_DownFirst_, hd_Down_]) (x := aLoad Try.prog 25 (.pointer (some ⟨b8, 0, none⟩)) H24) (by kernel_rfl) (u32.ld (by kernel_rfl)) ?_
  have u33 := (((h_Node.ext e4).ext e10).fr e25 Dj.nil_l)
  have u34 := (((h_UpFirst.ext e4).ext e10).fr e25 Dj.nil_l)
  have u35 := (((h_Up.ext e4).ext e10).fr e25 Dj.nil_l)
  have u36 := (((h_DownFirst.ext e4).ext e10).fr e25 Dj.nil_l)
  have u37 := (((h_Down.ext e4).ext e10).fr e25 Dj.nil_l)
  have u38 := ((u17.ext e10).fr e25 Dj.nil_l)
  have u39 := ((u16.ext e10).fr e25 Dj.nil_l)
  have u40 := ((u15.ext e10).fr e25 Dj.nil_l)
  have u41 := ((u14.ext e10).fr e25 Dj.nil_l)
  have u42 := ((u13.ext e10).fr e25 Dj.nil_l)
  obtain ⟨y43, hy44, r45⟩ := bind_some r29
  refine d_ck 14 #[.agg #[hd_Node, hd_UpFirst, hd_Up, hd_DownFirst, hd_Down], .agg #[hd_Node_, hd_UpFirst_, hd_Up_, hd_DownFirst_, hd_Down_]] (by kernel_rfl) (c_hier_Same e25.wf u33 u34 u35 u36 u37 u38 u39 u40 u41 u42 hy44) ?_
  rintro _ H46 ⟨rfl, e47⟩
  have u48 := (u31.frS e47 Dj.nil_l)
  have u49 := (u32.frS e47 Dj.nil_l)
  refine ⟨st_ql (y := aLoad Try.prog 25 (.pointer (some ⟨b8, 0, none⟩)) H46) (by kernel_rfl) (u49.ld (by kernel_rfl)) (st_ql (y := aLoad Try.prog 25 (.pointer (some ⟨b2, 0, none⟩)) H46) (by kernel_rfl) (u48.ld (by kernel_rfl)) (st_nil)), ?_⟩
  have u50 := (u33.fr e47 Dj.nil_l)
  have u51 := (u34.fr e47 Dj.nil_l)
  have u52 := (u35.fr e47 Dj.nil_l)
  have u53 := (u36.fr e47 Dj.nil_l)
  have u54 := (u37.fr e47 Dj.nil_l)
  have u55 := (u38.fr e47 Dj.nil_l)
  have u56 := (u39.fr e47 Dj.nil_l)
  have u57 := (u40.fr e47 Dj.nil_l)
  have u58 := (u41.fr e47 Dj.nil_l)
  have u59 := (u42.fr e47 Dj.nil_l)
  obtain ⟨y60, hy61, r62⟩ := bind_some r45
  refine d_ck 15 #[.agg #[hd_Node, hd_UpFirst, hd_Up, hd_DownFirst, hd_Down], .agg #[hd_Node_, hd_UpFirst_, hd_Up_, hd_DownFirst_, hd_Down_]] (by kernel_rfl) (c_viaductref10_Same e47.wf u50 u51 u52 u53 u54 u55 u56 u57 u58 u59 hy61) ?_
  rintro _ H63 ⟨rfl, e64⟩
  refine ⟨st_anc (by kernel_rfl) (st_anc (by kernel_rfl) (st_nil)), ?_⟩
  refine d_b (y43 = y60) (by kernel_rfl) (fun h65 => ?_) (fun h65 => ?_)
  ·have r66 := ite_t h65 r62
   refine d_qk (.bool true) (by kernel_rfl) ?_
   have u67 := (u49.frS e64 Dj.nil_l)
   refine d_ql (.agg #[hd_Node_, hd_UpFirst_, hd_Up_, hd_DownFirst_, hd_Down_]) (x := aLoad Try.prog 25 (.pointer (some ⟨b8, 0, none⟩)) H63) (by kernel_rfl) (u67.ld (by kernel_rfl)) ?_
   have u68 := (u48.frS e64 Dj.nil_l)
   refine d_ql (.agg #[hd_Node, hd_UpFirst, hd_Up, hd_DownFirst, hd_Down]) (x := aLoad Try.prog 25 (.pointer (some ⟨b2, 0, none⟩)) H63) (by kernel_rfl) (u68.ld (by kernel_rfl)) ?_
   refine d_fl (.agg #[hd_Node, hd_UpFirst, hd_Up, hd_DownFirst, hd_Down]) (x := aLoad Try.prog 25 (.pointer (some ⟨b2, 0, none⟩)) H63) (by kernel_rfl) (u68.ld (by kernel_rfl)) ?_
   refine d_fl (.agg #[hd_Node_, hd_UpFirst_, hd_Up_, hd_DownFirst_, hd_Down_]) (x := aLoad Try.prog 25 (.pointer (some ⟨b8, 0, none⟩)) H63) (by kernel_rfl) (u67.ld (by kernel_rfl)) ?_
   have u69 := (u55.fr e64 Dj.nil_l)
   have u70 := (u56.fr e64 Dj.nil_l)
   have u71 := (u57.fr e64 Dj.nil_l)
   have u72 := (u58.fr e64 Dj.nil_l)
   have u73 := (u59.fr e64 Dj.nil_l)
   have u74 := (u50.fr e64 Dj.nil_l)
   have u75 := (u51.fr e64 Dj.nil_l)
   have u76 := (u52.fr e64 Dj.nil_l)
   have u77 := (u53.fr e64 Dj.nil_l)
   have u78 := (u54.fr e64 Dj.nil_l)
   obtain ⟨y79, hy80, r81⟩ := bind_some r66
   refine d_ck 14 #[.agg #[hd_Node_, hd_UpFirst_, hd_Up_, hd_DownFirst_, hd_Down_], .agg #[hd_Node, hd_UpFirst, hd_Up, hd_DownFirst, hd_Down]] (by kernel_rfl) (c_hier_Same e64.wf u69 u70 u71 u72 u73 u74 u75 u76 u77 u78 hy80) ?_
   rintro _ H82 ⟨rfl, e83⟩
   have u84 := (u68.frS e83 Dj.nil_l)
   have u85 := (u67.frS e83 Dj.nil_l)
   refine ⟨st_ql (y := aLoad Try.prog 25 (.pointer (some ⟨b8, 0, none⟩)) H82) (by kernel_rfl) (u85.ld (by kernel_rfl)) (st_ql (y := aLoad Try.prog 25 (.pointer (some ⟨b2, 0, none⟩)) H82) (by kernel_rfl) (u84.ld (by kernel_rfl)) (st_anc (by kernel_rfl) (st_anc (by kernel_rfl) (st_nil)))), ?_⟩
   have u86 := (u74.fr e83 Dj.nil_l)
   have u87 := (u75.fr e83 Dj.nil_l)
   have u88 := (u76.fr e83 Dj.nil_l)
   have u89 := (u77.fr e83 Dj.nil_l)
   have u90 := (u78.fr e83 Dj.nil_l)
   have u91 := (u69.fr e83 Dj.nil_l)
   have u92 := (u70.fr e83 Dj.nil_l)
   have u93 := (u71.fr e83 Dj.nil_l)
   have u94 := (u72.fr e83 Dj.nil_l)
   have u95 := (u73.fr e83 Dj.nil_l)
   obtain ⟨y96, hy97, r98⟩ := bind_some r81
   refine d_ck 15 #[.agg #[hd_Node, hd_UpFirst, hd_Up, hd_DownFirst, hd_Down], .agg #[hd_Node_, hd_UpFirst_, hd_Up_, hd_DownFirst_, hd_Down_]] (by kernel_rfl) (c_viaductref10_Same e83.wf u86 u87 u88 u89 u90 u91 u92 u93 u94 u95 hy97) ?_
   rintro _ H99 ⟨rfl, e100⟩
   refine ⟨st_anc (by kernel_rfl) (st_anc (by kernel_rfl) (st_anc (by kernel_rfl) (st_anc (by kernel_rfl) (st_nil)))), ?_⟩
   refine d_b (y79 = y96) (by kernel_rfl) (fun h101 => ?_) (fun h101 => ?_)
   ·have r102 := ite_t h101 r98
    refine d_qk (.bool true) (by kernel_rfl) ?_
    refine d_qk (.bool true) (by kernel_rfl) ?_
    have u103 := (u84.frS e100 Dj.nil_l)
    refine d_ql (.agg #[hd_Node, hd_UpFirst, hd_Up, hd_DownFirst, hd_Down]) (x := aLoad Try.prog 25 (.pointer (some ⟨b2, 0, none⟩)) H99) (by kernel_rfl) (u103.ld (by kernel_rfl)) ?_
    refine d_ql (.agg #[hd_Node, hd_UpFirst, hd_Up, hd_DownFirst, hd_Down]) (x := aLoad Try.prog 25 (.pointer (some ⟨b2, 0, none⟩)) H99) (by kernel_rfl) (u103.ld (by kernel_rfl)) ?_
    have u104 := (u86.fr e100 Dj.nil_l)
    have u105 := (u87.fr e100 Dj.nil_l)
    have u106 := (u88.fr e100 Dj.nil_l)
    have u107 := (u89.fr e100 Dj.nil_l)
    have u108 := (u90.fr e100 Dj.nil_l)
    obtain ⟨y109, hy110, r111⟩ := bind_some r102
    refine d_ck 14 #[.agg #[hd_Node, hd_UpFirst, hd_Up, hd_DownFirst, hd_Down], .agg #[hd_Node, hd_UpFirst, hd_Up, hd_DownFirst, hd_Down]] (by kernel_rfl) (c_hier_Same e100.wf u104 u105 u106 u107 u108 u104 u105 u106 u107 u108 hy110) ?_
    rintro _ H112 ⟨rfl, e113⟩
    refine ⟨st_anc (by kernel_rfl) (st_anc (by kernel_rfl) (st_anc (by kernel_rfl) (st_anc (by kernel_rfl) (st_nil)))), ?_⟩
    by_cases h114 : y109 = true
    ·have r115 := ite_t h114 r111
     rw [h114]
     refine d_qk (.bool true) (by kernel_rfl) ?_
     refine d_qk (.bool true) (by kernel_rfl) ?_
     have u117 := ((u85.frS e100 Dj.nil_l).frS e113 Dj.nil_l)
     refine d_ql (.agg #[hd_Node_, hd_UpFirst_, hd_Up_, hd_DownFirst_, hd_Down_]) (x := aLoad Try.prog 25 (.pointer (some ⟨b8, 0, none⟩)) H112) (by kernel_rfl) (u117.ld (by kernel_rfl)) ?_
     refine d_fl (.agg #[hd_Node_, hd_UpFirst_, hd_Up_, hd_DownFirst_, hd_Down_]) (x := aLoad Try.prog 25 (.pointer (some ⟨b8, 0, none⟩)) H112) (by kernel_rfl) (u117.ld (by kernel_rfl)) ?_
     have u118 := ((u91.fr e100 Dj.nil_l).fr e113 Dj.nil_l)
     have u119 := ((u92.fr e100 Dj.nil_l).fr e113 Dj.nil_l)
     have u120 := ((u93.fr e100 Dj.nil_l).fr e113 Dj.nil_l)
     have u121 := ((u94.fr e100 Dj.nil_l).fr e113 Dj.nil_l)
     have u122 := ((u95.fr e100 Dj.nil_l).fr e113 Dj.nil_l)
     obtain ⟨y123, hy124, r125⟩ := bind_some r115
     refine d_ck 16 #[.agg #[hd_Node_, hd_UpFirst_, hd_Up_, hd_DownFirst_, hd_Down_]] (by kernel_rfl) (c_viaductref10_Twin e113.wf u118 u119 u120 u121 u122 hy124) ?_
     rintro _ H136 ⟨s126, f127, s128, f129, s130, f131, s132, f133, s134, f135, rfl, e137, m138, m139, m140, m141, m142, i143, i144, i145, i146, i147, d148, d149, d150, d151, d152, d153, d154, d155, d156, d157⟩
     obtain ⟨a163, n164, c165, rfl⟩ := m138.form
     obtain ⟨a166, n167, c168, rfl⟩ := m139.form
     obtain ⟨a169, n170, c171, rfl⟩ := m140.form
     obtain ⟨a172, n173, c174, rfl⟩ := m141.form
     obtain ⟨a175, n176, c177, rfl⟩ := m142.form
     have u178 := (u117.frS e137 Dj.nil_l)
     refine ⟨st_ql (y := aLoad Try.prog 25 (.pointer (some ⟨b8, 0, none⟩)) H136) (by kernel_rfl) (u178.ld (by kernel_rfl)) (st_anc (by kernel_rfl) (st_anc (by kernel_rfl) (st_anc (by kernel_rfl) (st_anc (by kernel_rfl) (st_nil))))), ?_⟩
     have u179 := (u118.fr e137 Dj.nil_l)
     have u180 := (u119.fr e137 Dj.nil_l)
     have u181 := (u120.fr e137 Dj.nil_l)
     have u182 := (u121.fr e137 Dj.nil_l)
     have u183 := (u122.fr e137 Dj.nil_l)
     obtain ⟨y184, hy185, r186⟩ := bind_some r125
     refine d_ck 14 #[.agg #[.slice a163 n164 c165, .slice a166 n167 c168, .slice a169 n170 c171, .slice a172 n173 c174, .slice a175 n176 c177], .agg #[hd_Node_, hd_UpFirst_, hd_Up_, hd_DownFirst_, hd_Down_]] (by kernel_rfl) (c_hier_Same e137.wf m138.sq m139.sq m140.sq m141.sq m142.sq u179 u180 u181 u182 u183 hy185) ?_
     rintro _ H187 ⟨rfl, e188⟩
     refine ⟨st_anc (by kernel_rfl) (st_anc (by kernel_rfl) (st_anc (by kernel_rfl) (st_anc (by kernel_rfl) (st_anc (by kernel_rfl) (st_nil))))), ?_⟩
     refine d_qk (.bool y184) (by kernel_rfl) ?_
     refine d_qk (.bool y184) (by kernel_rfl) ?_
     refine d_nil ?_
     refine k30 _ _ ?_
     refine w_ret ?_
     refine b_ret (fn := Try.f4) (vs := [.bool y184]) (aRes_tmp (by kernel_rfl) (rfl)) ?_
     obtain rfl := Option.some.inj r186
     exact ⟨rfl, (FrS.step wf (FrS.step wf (FrS.step wf (FrS.step wf (FrS.step wf (FrS.step wf (FrS.step wf (FrS.step wf (((FrS.refl (W := []) wf).extR e4).extR e10) e25 Inn.nil) e47 Inn.nil) e64 Inn.nil) e83 Inn.nil) e100 Inn.nil) e113 Inn.nil) e137 Inn.nil) e188 Inn.nil)⟩
    ·have r189 := ite_f h114 r111
     rw [nb h114]
     refine d_qk (.bool false) (by kernel_rfl) ?_
     refine d_qk (.bool false) (by kernel_rfl) ?_
     refine d_idle (by kernel_rfl) ?_
     refine d_idle (by kernel_rfl) ?_
     refine d_idle (by kernel_rfl) ?_
     refine d_idle (by kernel_rfl) ?_
     refine d_qk (.bool false) (by kernel_rfl) ?_
     refine d_qk (.bool false) (by kernel_rfl) ?_
     refine d_nil ?_
     refine k30 _ _ ?_
     refine w_ret ?_
     refine b_ret (fn := Try.f4) (vs := [.bool false]) (aRes_tmp (by kernel_rfl) (rfl)) ?_
     obtain rfl := Option.some.inj r189
     exact ⟨rfl, (FrS.step wf (FrS.step wf (FrS.step wf (FrS.step wf (FrS.step wf (FrS.step wf (((FrS.refl (W := []) wf).extR e4).extR e10) e25 Inn.nil) e47 Inn.nil) e64 Inn.nil) e83 Inn.nil) e100 Inn.nil) e113 Inn.nil)⟩
   ·have r191 := ite_f h101 r98
    refine d_qk (.bool false) (by kernel_rfl) ?_
    refine d_qk (.bool false) (by kernel_rfl) ?_
    refine d_idle (by kernel_rfl) ?_
    refine d_idle (by kernel_rfl) ?_
    refine d_idle (by kernel_rfl) ?_
    refine d_qk (.bool false) (by kernel_rfl) ?_
    refine d_qk (.bool false) (by kernel_rfl) ?_
    refine d_idle (by kernel_rfl) ?_
    refine d_idle (by kernel_rfl) ?_
    refine d_idle (by kernel_rfl) ?_
    refine d_idle (by kernel_rfl) ?_
    refine d_qk (.bool false) (by kernel_rfl) ?_
    refine d_qk (.bool false) (by kernel_rfl) ?_
    refine d_nil ?_
    refine k30 _ _ ?_
    refine w_ret ?_
    refine b_ret (fn := Try.f4) (vs := [.bool false]) (aRes_tmp (by kernel_rfl) (rfl)) ?_
    obtain rfl := Option.some.inj r191
    exact ⟨rfl, (FrS.step wf (FrS.step wf (FrS.step wf (FrS.step wf (FrS.step wf (((FrS.refl (W := []) wf).extR e4).extR e10) e25 Inn.nil) e47 Inn.nil) e64 Inn.nil) e83 Inn.nil) e100 Inn.nil)⟩
  ·have r192 := ite_f h65 r62
   refine d_qk (.bool false) (by kernel_rfl) ?_
   refine d_idle (by kernel_rfl) ?_
   refine d_idle (by kernel_rfl) ?_
   refine d_idle (by kernel_rfl) ?_
   refine d_idle (by kernel_rfl) ?_
   refine d_idle (by kernel_rfl) ?_
   refine d_idle (by kernel_rfl) ?_
   refine d_idle (by kernel_rfl) ?_
   refine d_qk (.bool false) (by kernel_rfl) ?_
   refine d_qk (.bool false) (by kernel_rfl) ?_
   refine d_idle (by kernel_rfl) ?_
   refine d_idle (by kernel_rfl) ?_
   refine d_idle (by kernel_rfl) ?_
   refine d_qk (.bool false) (by kernel_rfl) ?_
   refine d_qk (.bool false) (by kernel_rfl) ?_
   refine d_idle (by kernel_rfl) ?_
   refine d_idle (by kernel_rfl) ?_
   refine d_idle (by kernel_rfl) ?_
   refine d_idle (by kernel_rfl) ?_
   refine d_qk (.bool false) (by kernel_rfl) ?_
   refine d_qk (.bool false) (by kernel_rfl) ?_
   refine d_nil ?_
   refine k30 _ _ ?_
   refine w_ret ?_
   refine b_ret (fn := Try.f4) (vs := [.bool false]) (aRes_tmp (by kernel_rfl) (rfl)) ?_
   obtain rfl := Option.some.inj r192
   exact ⟨rfl, (FrS.step wf (FrS.step wf (FrS.step wf (((FrS.refl (W := []) wf).extR e4).extR e10) e25 Inn.nil) e47 Inn.nil) e64 Inn.nil)⟩


end Go.Vd
