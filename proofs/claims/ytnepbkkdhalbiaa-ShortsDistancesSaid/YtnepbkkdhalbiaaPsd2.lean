/- The walks of the functions (printed by a program of ours). -/
import Derived.Test.YtnepbkkdhalbiaaPsd1
import Derived.Test.YtnepbkkdhalbiaaPsdVeC
import Derived.Test.YtnepbkkdhalbiaaPsdISd
import Derived.Test.YtnepbkkdhalbiaaPsdVeN
import Derived.Test.YtnepbkkdhalbiaaPsdSoA
import Derived.Test.YtnepbkkdhalbiaaPsdVeV
set_option linter.unusedVariables false
set_option linter.unusedSimpArgs false
set_option linter.unusedSectionVars false
/-! (KSd4) -/

set_option maxRecDepth 100000
set_option maxHeartbeats 4000000
set_option linter.unusedVariables false
namespace Go.Vd
open Go.Proofs
attribute [local irreducible] wpSeq wpOrd aWp
theorem c_witness_Find {H : AH} {b_o : Nat} {hd_o_ : Value} {fp_o_ : Fp} {hd_goals : Value} {fp_goals : Fp} {o_ : List (Bool × List (Int × Int × Int) × List (Int × Int × Int))} {o_2 : Int} {o_3 : Int} {u : Int} {skip : Int} {goals : List (Int)} {most : Int} {hops : Int} {settles : Int} {r : List (Int) × Er}
    (wf : WF H) (h_o_ : Nd enc_i64_u64_i64 3 H hd_o_ o_ fp_o_ []) (h_o : Row H b_o [hd_o_, i_ o_2, i_ o_3]) (h_goals : Sq (encI .i64) 1 H hd_goals goals fp_goals) (hr : z_witness_Find o_ o_2 o_3 u skip goals most hops settles = some r) :
    ACalls Try.prog 8 #[pt_ b_o 0, i_ u, i_ skip, hd_goals, .int .u64 most, i_ hops, i_ settles] H fun v H' => ∃ (s3 : Value) (f4 : Fp) (v7 : Value) (f8 : Fp), v = .tuple #[s3, v7] /\ FrS [] H H' /\ Ow (encI .u64) 1 H' s3 r.1 f4 /\ Ev 90 129 H' v7 r.2 f8 /\ Inn [] H f4 /\ Inn [] H f8 /\ Dj f4 f8 := by
 refine ab_ Try.func8 ?_
 unfold z_witness_Find at hr
 refine sq_ fun k12 => g_' (q_ (.slice none 0 0) (q_ (.nilIface) (s_nil (k12 _ _ (sq_ fun k13 => sq_ fun k14 => g_' (q_ (pt_ b_o 0) (q_ (.bool false) (s_nil (k14 _ _ ?_)))))))))
 refine wb_ false (fun h => by cases h) fun _ => ?_
 refine w_skip (k13 _ _ (sq_ fun k15 => sq_ fun k16 => g_' (q_ (pt_ b_o 0) (q_ (i_ u) ?_))))
 obtain ⟨y17, hy18, r19⟩ := bs_ hr
 refine ck_ (c_overlay_Overlay_Alive wf h_o_ h_o hy18) ?_
 rintro _ _ ⟨rfl, rfl⟩
 refine q_ (.bool (!y17)) (s_nil (k16 _ _ ?_))
 refine wb_ ((!y17)) (fun h22 => ?_) fun h22 => ?_
 ·have r23 := ite_t h22 r19
  refine sq_ fun k24 => g_' (q_ (.iface 90 (i_ 7)) (q_ (.slice none 0 0) (q_ (.iface 90 (i_ 7)) (s_nil (k24 _ _ ?_)))))
  refine w_ret (th_ret ?_)
  refine br_ [.slice none 0 0, .iface 90 (i_ 7)] ?_
  obtain rfl := oi_ r23
  exact ⟨(.slice none 0 0), [], (.iface 90 (i_ 7)), [], rfl, (f0_ wf), (Ow.nil (by decide)), Ev.no, in_, in_, dn_⟩
 have r25 := ite_bf h22 r19
 refine w_skip (k15 _ _ (sq_ fun k26 => sq_ fun k27 => g_' (q_ (hd_goals) (h_goals.ln_ 26 (q_ (i_ 0) (s_nil (k27 _ _ ?_)))))))
 obtain ⟨z31, hx29, r30⟩ := bs_ r25
 refine w_mid (fun α H32 => ∃ o28, z31 = Sum.inr o28 /\ Has α [(0, pt_ b_o 0), (1, i_ u), (2, i_ skip), (3, hd_goals), (4, .int .u64 most), (5, i_ hops), (6, i_ settles)] /\ H = H32) (fun _ k34 => ?_) (fun α H32 hM => ?_)
 ·refine w_block ?_
  obtain ⟨n36, hn37⟩ := loopO_iff.1 hx29
  refine w_loopn (fun n α H38 => ∃ (i0 : Int), iterO (fun zz_ => z_witness_Find_l0 o_ o_2 o_3 goals zz_) n i0 = some z31 /\ Has α [(0, pt_ b_o 0), (1, i_ u), (2, i_ skip), (3, hd_goals), (4, .int .u64 most), (5, i_ hops), (6, i_ settles), (33, hd_goals), (34, i_ (goals.length : Int)), (35, i_ i0)] /\ H = H38) n36 ⟨0, hn37, ha_, rfl⟩ ?_
  rintro n36 α H38 ⟨i0, hi41, hh40, rfl⟩ K46 k46
  obtain ⟨n42, z43, rfl, hz44, hn45⟩ := iter_succ hi41
  obtain ⟨β, rfl⟩ := has_ex hh40
  clear hh40
  replace hz44 : z_witness_Find_l0 o_ o_2 o_3 goals i0 = some z43 := hz44
  unfold z_witness_Find_l0 at hz44
  refine sq_ fun k47 => g_' (q_ (.bool (decide (i0 < (goals.length : Int)))) (s_nil (k47 _ _ (sq_ fun k48 => ?_))))
  refine wc_ (i0 < (goals.length : Int)) (fun h49 => ?_) fun h49 => ?_
  ·have r50 := ite_t h49 hz44
   refine w_skip (k48 _ _ (sq_ fun k51 => w_block (sq_ fun k52 => g_' (q_ (i_ i0) ?_))))
   obtain ⟨g53, r54⟩ := G_some r50
   refine h_goals.ix_ 26 g53 h49 (le_ 3 0 (i_ (gt goals i0)) h_goals g53 h49 (q_ (i_ i0) (q_ (i_ (gt goals i0)) (s_nil (k52 _ _ (sq_ fun k55 => g_' (q_ (pt_ b_o 0) (q_ (i_ (gt goals i0)) ?_))))))))
   obtain ⟨y56, hy57, r58⟩ := bs_ r54
   refine ck_ (c_overlay_Overlay_Alive wf h_o_ h_o hy57) ?_
   rintro _ _ ⟨rfl, rfl⟩
   refine q_ (.bool (!y56)) (s_nil (k55 _ _ ?_))
   refine wb_ ((!y56)) (fun h61 => ?_) fun h61 => ?_
   ·have r62 := ite_t h61 r58
    refine sq_ fun k63 => g_' (q_ (i_ i0) (q_ (.iface 90 (i_ 7)) ?_))
    obtain ⟨y64, hy65, r66⟩ := bs_ r62
    refine ck_ (c_fault_At wf (Ev.no (tf := 129)) hy65) ?_
    rintro v67 H69 ⟨_, f68, rfl, e70, m71, i72⟩
    refine q_ (.slice none 0 0) (q_ (v67) (s_nil (k63 _ _ ?_)))
    refine w_ret (bl_ret (th_ret (th_ret (bl_ret (th_ret (th_ret ?_))))))
    obtain ⟨v74, hv75, hz76⟩ := map_some r66
    subst hz76
    obtain rfl := it_inr hn45
    have hq77 := elim_inl r30
    rw [hq77] at hv75
    refine br_ [.slice none 0 0, v67] ?_
    obtain rfl := oi_ hv75
    exact ⟨(.slice none 0 0), [], (v67), f68, rfl, (fs_ wf (f0_ wf) e70 in_), (Ow.nil (by decide)), m71, in_, (i72.fresh (Nat.le_refl _)), dn_⟩
   have r78 := ite_bf h61 r58
   refine w_skip (k51 _ _ (g_' ?_))
   obtain ⟨g79, r80⟩ := G_some r78
   refine w_' ((i0 + 1)) (wrap64 (by have := g79; omega)) (q_ (i_ (i0 + 1)) (s_nil ?_))
   obtain rfl := oi_ r80
   exact k46 n42 _ _ lt_ ⟨(i0 + 1), hn45, ha_, rfl⟩
  have r81 := ite_f h49 hz44
  refine w_exit (th_exit (th_exit (bl_eq ?_)))
  obtain rfl := oi_ r81
  obtain rfl := it_inr hn45
  exact k34 _ _ ⟨_, rfl, ha_, rfl⟩
 obtain ⟨o28, rfl, hh35, rfl⟩ := hM
 have r82 := elim_inr r30
 obtain ⟨β, rfl⟩ := has_ex hh35
 clear hh35
 refine k26 _ _ (sq_ fun k83 => g_' (q_ (pt_ b_o 0) (q_ (i_ skip) (q_ (i_ hops) ?_))))
 refine s_ms .i64 enc_u64_i64_i64 wf (by kernel_rfl) fun b84 H85 e86 hb87 mp88 => ?_
 refine q_ (.agg #[pt_ b_o 0, i_ skip, i_ hops, .slice none 0 0, .map (some b84)]) ?_
 refine rl_ e86.wf [pt_ b_o 0, i_ skip, i_ hops, .slice none 0 0, .map (some b84)] fun b90 H91 e92 hb93 r94 => ?_
 refine q_ (pt_ b90 0) (s_nil (k83 _ _ (sq_ fun k96 => g_' (q_ (pt_ b90 0) (q_ (i_ u) (q_ (.int .u64 most) (q_ (i_ settles) ?_)))))))
 have u97 := ((h_o_.ext e86).ext e92)
 have u98 := ((h_o.ext e86).ext e92)
 have u99 := (mp88.ext e92)
 have d100 := (hb93.djn mp88.ltF)
 have d101 := (hb93.djn (h_o_.lt.le e86.n))
 have d102 := (hb93.djn (h_o.ltF.le e86.n))
 obtain ⟨y103, hy104, r105⟩ := bs_ r82
 refine ck_ (c_witness_seek_run e92.wf u97 u98 (Ow.nil (enc := enc_u64_i64) (sz := 2) (by decide)) u99 r94 (hb87.djn h_o_.lt) (hb87.djn h_o.ltF) Dj.nil_r (Dj.symm d100) dn_ dn_ d101 dn_ d102 hy104) ?_
 rintro _ H108 ⟨s106, f107, rfl, e109, m110, m111, m112, i113⟩
 obtain ⟨a115, n116, c117, rfl⟩ := m111.form
 refine s_nil (k96 _ _ (sq_ fun k118 => g_' (q_ (.slice none 0 0) (s_nil (k118 _ _ (sq_ fun k119 => sq_ fun k120 => g_' (q_ (hd_goals) ?_)))))))
 have d121 := (hb93.djn (h_goals.lt.le e86.n))
 have u122 := (((h_goals.ext e86).ext e92).fr e109 (Dj.app d121 (Dj.app (hb87.djn h_goals.lt) dn_)))
 refine u122.ln_ 26 (q_ (i_ 0) (s_nil (k120 _ _ ?_)))
 obtain ⟨o123, hx124, r125⟩ := bs_ r105
 refine w_mid (fun α H126 => ∃ (s130 : Value) (f131 : Fp), Has α [(19, s130)] /\ FrS [] H108 H126 /\ Ow (encI .u64) 1 H126 s130 o123 f131 /\ Inn [] H108 f131) (fun _ k133 => ?_) (fun α H126 hM => ?_)
 ·refine w_block ?_
  obtain ⟨n135, hn136⟩ := loopO_iff.1 hx124
  refine w_loopn (fun n α H137 => ∃ (l1 : List (Int)), ∃ (i2 : Int), ∃ (s141 : Value), ∃ (f142 : Fp), iterO (fun zz_ => z_witness_Find_l1 goals y103 zz_.1 zz_.2) n (l1, i2) = some o123 /\ Has α [(18, pt_ b90 0), (19, s141), (59, hd_goals), (60, i_ (goals.length : Int)), (61, i_ i2)] /\ FrS [] H108 H137 /\ Ow (encI .u64) 1 H137 s141 l1 f142 /\ Inn [] H108 f142) n135 ⟨[], 0, (.slice none 0 0), [], hn136, ha_, (fr_ e109.wf), (Ow.nil (by decide)), in_⟩ ?_
  rintro n135 α H137 ⟨l1, i2, s141, f142, hi145, hh144, e138, m140, i143⟩ K150 k150
  obtain ⟨n146, z147, rfl, hz148, hn149⟩ := iter_succ hi145
  obtain ⟨β, rfl⟩ := has_ex hh144
  clear hh144
  replace hz148 : z_witness_Find_l1 goals y103 l1 i2 = some z147 := hz148
  unfold z_witness_Find_l1 at hz148
  obtain ⟨a151, n152, c153, rfl⟩ := m140.form
  refine sq_ fun k154 => g_' (q_ (.bool (decide (i2 < (goals.length : Int)))) (s_nil (k154 _ _ (sq_ fun k155 => ?_))))
  refine wc_ (i2 < (goals.length : Int)) (fun h156 => ?_) fun h156 => ?_
  ·have r157 := ite_t h156 hz148
   refine w_skip (k155 _ _ (sq_ fun k158 => w_block (sq_ fun k159 => g_' ?_)))
   obtain ⟨g160, r161⟩ := G_some r157
   have u162 := (u122.fr e138 dn_)
   refine u162.ix_ 26 g160 h156 (le_ 3 0 (i_ (gt goals i2)) u162 g160 h156 (q_ (i_ (gt goals i2)) (s_nil (k159 _ _ (sq_ fun k163 => g_' (q_ (.int .u64 18446744073709551615) (s_nil (k163 _ _ (sq_ fun k164 => sq_ fun k165 => g_' (q_ (pt_ b90 0) (q_ (pt_ b90 0) (q_ (pt_ b90 4) ?_))))))))))))
   have u166 := (m112.frS e138 dn_)
   refine lr_ 94 4 (.map (some b84)) u166 (q_ (i_ (gt goals i2)) ?_)
   have u167 := (m110.frS e138 dn_)
   refine l_' (.tuple #[.agg #[.int .u64 (((y103.1 (gt goals i2)).getD ((0, 0, 0) : Int × Int × Int)).1), i_ (((y103.1 (gt goals i2)).getD ((0, 0, 0) : Int × Int × Int)).2.1), i_ (((y103.1 (gt goals i2)).getD ((0, 0, 0) : Int × Int × Int)).2.2)], .bool ((y103.1 (gt goals i2)).isSome)]) (aLookup Try.prog 94 (.map (some b84)) (i_ (gt goals i2)) true H137) (u167.look2 ((0, 0, 0) : Int × Int × Int) (zv := .agg #[.int .u64 0, i_ 0, i_ 0]) rfl (by kernel_rfl) (by kernel_rfl) _ rfl) (q_ (.tuple #[.agg #[.int .u64 (((y103.1 (gt goals i2)).getD ((0, 0, 0) : Int × Int × Int)).1), i_ (((y103.1 (gt goals i2)).getD ((0, 0, 0) : Int × Int × Int)).2.1), i_ (((y103.1 (gt goals i2)).getD ((0, 0, 0) : Int × Int × Int)).2.2)], .bool ((y103.1 (gt goals i2)).isSome)]) (q_ (.agg #[.int .u64 (((y103.1 (gt goals i2)).getD ((0, 0, 0) : Int × Int × Int)).1), i_ (((y103.1 (gt goals i2)).getD ((0, 0, 0) : Int × Int × Int)).2.1), i_ (((y103.1 (gt goals i2)).getD ((0, 0, 0) : Int × Int × Int)).2.2)]) (q_ (.bool ((y103.1 (gt goals i2)).isSome)) ?_)))
   refine rk_ e138.wf [.int .u64 0, i_ 0, i_ 0] fun b168 H169 e170 hb171 r172 => ?_
   obtain ⟨H174, q175, e176, r177⟩ := ra_ 101 0 e170.wf r172 [.int .u64 (((y103.1 (gt goals i2)).getD ((0, 0, 0) : Int × Int × Int)).1), i_ (((y103.1 (gt goals i2)).getD ((0, 0, 0) : Int × Int × Int)).2.1), i_ (((y103.1 (gt goals i2)).getD ((0, 0, 0) : Int × Int × Int)).2.2)] [.int .u64 (((y103.1 (gt goals i2)).getD ((0, 0, 0) : Int × Int × Int)).1), i_ (((y103.1 (gt goals i2)).getD ((0, 0, 0) : Int × Int × Int)).2.1), i_ (((y103.1 (gt goals i2)).getD ((0, 0, 0) : Int × Int × Int)).2.2)]
   refine ek_ q175 (q_ (.bool ((y103.1 (gt goals i2)).isSome)) (s_nil (k165 _ _ (sq_ fun k178 => g_' (q_ (.bool ((y103.1 (gt goals i2)).isSome)) (s_nil (k178 _ _ ?_)))))))
   refine wb_ ((y103.1 (gt goals i2)).isSome) (fun h179 => ?_) fun h179 => ?_
   ·have r180 := ite_t h179 r161
    refine g_' (q_ (pt_ b168 0) (lr_ 27 0 (.int .u64 (((y103.1 (gt goals i2)).getD ((0, 0, 0) : Int × Int × Int)).1)) r177 (q_ (.int .u64 (((y103.1 (gt goals i2)).getD ((0, 0, 0) : Int × Int × Int)).1)) (s_nil (k164 _ _ (g_' (q_ (.slice a151 n152 c153) (q_ (.int .u64 (((y103.1 (gt goals i2)).getD ((0, 0, 0) : Int × Int × Int)).1)) ?_))))))))
    refine s_owk (enc := (encI .u64)) (sz := 1) e176.wf [((y103.1 (gt goals i2)).getD ((0, 0, 0) : Int × Int × Int)).1] 1 (by decide) (fun _ _ => rfl) (fun _ _ => rfl) rfl (by kernel_rfl) fun s181 f182 H183 e184 hf185 hm186 => ?_
    obtain ⟨a187, n188, c189, rfl⟩ := hm186.form
    have u191 := (((m140.ext e170).fr e176 (hb171.djn m140.lt)).ext e184)
    obtain ⟨g192, r193⟩ := G_some r180
    obtain ⟨s194, H195, f196, q200, e197, hm198, hf199⟩ := Ow.append (P := Try.prog) 8 e184.wf u191 hm186.sq (fun _ _ => rfl) (at_ := #[36, 36]) rfl rfl (by kernel_rfl) (by kernel_rfl) (by decide) (by have := g192; first | omega | (simp only [List.length_cons, List.length_nil] at this ⊢; omega) | (simp at this ⊢; omega))
    obtain ⟨a201, n202, c203, rfl⟩ := hm198.form
    refine s_ek (.slice a201 n202 c203) (by kernel_rfl) (q200) ?_
    refine q_ (.slice a201 n202 c203) (s_nil (k158 _ _ (g_' ?_)))
    obtain ⟨g205, r206⟩ := G_some r193
    refine w_' ((i2 + 1)) (wrap64 (by have := g205; omega)) (q_ (i_ (i2 + 1)) (s_nil ?_))
    have n207 := (t_ (t_ (t_ e138.n e170.n) e176.n) e184.n)
    obtain rfl := oi_ r206
    exact k150 n146 _ _ lt_ ⟨(l1 ++ [((y103.1 (gt goals i2)).getD ((0, 0, 0) : Int × Int × Int)).1]), (i2 + 1), (.slice a201 n202 c203), f196, hn149, ha_, (fs_ e109.wf ((fs_ e109.wf ((fs_ e109.wf (fr_ e109.wf) e138 in_).extR e170) e176 (hb171.fresh e138.n)).extR e184) e197 (i143.fresh (Nat.le_refl _))), hm198, (Inn.trans (i143.fresh (Nat.le_refl _)) n207 hf199)⟩
   have r208 := ite_bf h179 r161
   refine w_skip (k164 _ _ (g_' (q_ (.slice a151 n152 c153) (q_ (.int .u64 18446744073709551615) ?_))))
   refine s_owk (enc := (encI .u64)) (sz := 1) e176.wf [18446744073709551615] 1 (by decide) (fun _ _ => rfl) (fun _ _ => rfl) rfl (by kernel_rfl) fun s209 f210 H211 e212 hf213 hm214 => ?_
   obtain ⟨a215, n216, c217, rfl⟩ := hm214.form
   have u219 := (((m140.ext e170).fr e176 (hb171.djn m140.lt)).ext e212)
   obtain ⟨g220, r221⟩ := G_some r208
   obtain ⟨s222, H223, f224, q228, e225, hm226, hf227⟩ := Ow.append (P := Try.prog) 8 e212.wf u219 hm214.sq (fun _ _ => rfl) (at_ := #[36, 36]) rfl rfl (by kernel_rfl) (by kernel_rfl) (by decide) (by have := g220; first | omega | (simp only [List.length_cons, List.length_nil] at this ⊢; omega) | (simp at this ⊢; omega))
   obtain ⟨a229, n230, c231, rfl⟩ := hm226.form
   refine s_ek (.slice a229 n230 c231) (by kernel_rfl) (q228) ?_
   refine q_ (.slice a229 n230 c231) (s_nil (k158 _ _ (g_' ?_)))
   obtain ⟨g233, r234⟩ := G_some r221
   refine w_' ((i2 + 1)) (wrap64 (by have := g233; omega)) (q_ (i_ (i2 + 1)) (s_nil ?_))
   have n235 := (t_ (t_ (t_ e138.n e170.n) e176.n) e212.n)
   obtain rfl := oi_ r234
   exact k150 n146 _ _ lt_ ⟨(l1 ++ [18446744073709551615]), (i2 + 1), (.slice a229 n230 c231), f224, hn149, ha_, (fs_ e109.wf ((fs_ e109.wf ((fs_ e109.wf (fr_ e109.wf) e138 in_).extR e170) e176 (hb171.fresh e138.n)).extR e212) e225 (i143.fresh (Nat.le_refl _))), hm226, (Inn.trans (i143.fresh (Nat.le_refl _)) n235 hf227)⟩
  have r236 := ite_f h156 hz148
  refine w_exit (th_exit (th_exit (bl_eq ?_)))
  obtain rfl := oi_ r236
  obtain rfl := it_inr hn149
  exact k133 _ _ ⟨(.slice a151 n152 c153), f142, ha_, (fs_ e109.wf (fr_ e109.wf) e138 in_), m140, (i143.fresh (Nat.le_refl _))⟩
 obtain ⟨s130, f131, hh134, e127, m129, i132⟩ := hM
 obtain ⟨β, rfl⟩ := has_ex hh134
 clear hh134
 obtain ⟨a237, n238, c239, rfl⟩ := m129.form
 refine k119 _ _ (sq_ fun k240 => g_' (q_ (.slice a237 n238 c239) (q_ (.slice a237 n238 c239) (q_ (.nilIface) (s_nil (k240 _ _ ?_))))))
 refine w_ret ?_
 refine br_ [.slice a237 n238 c239, .nilIface] ?_
 have n241 := (t_ (t_ e86.n e92.n) e109.n)
 obtain rfl := oi_ r125
 exact ⟨(.slice a237 n238 c239), f131, (.nilIface), [], rfl, (fs_ wf (fs_ wf (((f0_ wf).extR e86).extR e92) e109 (Inn.app (hb93.fresh e86.n) (Inn.app (hb87.fresh (Nat.le_refl _)) in_))) e127 in_), m129, Ev.nil, (i132.fresh n241), in_, Dj.nil_r⟩
theorem c_overlay_find_1 {H : AH} {Node : Int} {Weight : Int} {Via : Int} {v_ : Int} {r : Int}
    (wf : WF H) (hr : z_overlay_find_1 Node Weight Via v_ = some r) :
    ACalls Try.prog 76 #[.agg #[i_ Node, .int .u64 Weight, i_ Via], i_ v_] H fun v H' => v = i_ r /\ FrS [] H H' := by
 refine ab_ Try.func76 ?_
 unfold z_overlay_find_1 at hr
 refine sq_ fun k1 => g_' ?_
 refine rl_ wf [i_ Node, .int .u64 Weight, i_ Via] fun b2 H3 e4 hb5 r6 => ?_
 refine q_ (i_ 0) (s_nil (k1 _ _ (sq_ fun k8 => g_' (q_ (pt_ b2 0) (lr_ 3 0 (i_ Node) r6 (q_ (i_ v_) (q_ (i_ (IntKind.i64.wrap (Node - v_))) (q_ (i_ (IntKind.i64.wrap (Node - v_))) (s_nil (k8 _ _ ?_))))))))))
 refine w_ret ?_
 refine br_ [i_ (IntKind.i64.wrap (Node - v_))] ?_
 obtain rfl := oi_ hr
 exact ⟨rfl, ((f0_ wf).extR e4)⟩
theorem c_slices_BinarySearchFunc {H : AH} {hd_x : Value} {fp_x : Fp} {x : List (Int × Int × Int)} {target : Int} {r : Int × Bool}
    (wf : WF H) (h_x : Sq enc_i64_u64_i64 3 H hd_x x fp_x) (hr : z_slices_BinarySearchFunc x target = some r) :
    ACalls Try.prog 75 #[hd_x, i_ target, .func (.func 76) #[] #[]] H fun v H' => v = .tuple #[i_ r.1, .bool r.2] /\ FrS [] H H' := by
 refine ab_ Try.func75 ?_
 unfold z_slices_BinarySearchFunc at hr
 refine sq_ fun k1 => g_' (q_ (i_ 0) (q_ (.bool false) (s_nil (k1 _ _ (sq_ fun k2 => g_' (q_ (hd_x) (h_x.ln_ 69 (q_ (i_ (x.length : Int)) (s_nil (k2 _ _ (sq_ fun k3 => g_' (q_ (i_ (x.length : Int)) (q_ (i_ 0) (q_ (i_ (x.length : Int)) (s_nil (k3 _ _ (sq_ fun k4 => ?_)))))))))))))))))
 obtain ⟨o5, hx6, r7⟩ := bs_ hr
 refine w_mid (fun α H8 => Has α [(0, hd_x), (1, i_ target), (2, .func (.func 76) #[] #[]), (8, i_ (x.length : Int)), (9, i_ o5)] /\ FrS [] H H8) (fun _ k10 => ?_) (fun α H8 hM => ?_)
 ·refine w_block ?_
  obtain ⟨n12, hn13⟩ := loopO_iff.1 hx6
  refine w_loopn (fun n α H14 => ∃ (j0 : Int), ∃ (i1 : Int), iterO (fun zz_ => z_slices_BinarySearchFunc_l0 x target zz_.1 zz_.2) n (j0, i1) = some o5 /\ Has α [(0, hd_x), (1, i_ target), (2, .func (.func 76) #[] #[]), (8, i_ (x.length : Int)), (9, i_ i1), (10, i_ j0)] /\ FrS [] H H14) n12 ⟨(x.length : Int), 0, hn13, ha_, (f0_ wf)⟩ ?_
  rintro n12 α H14 ⟨j0, i1, hi17, hh16, e15⟩ K22 k22
  obtain ⟨n18, z19, rfl, hz20, hn21⟩ := iter_succ hi17
  obtain ⟨β, rfl⟩ := has_ex hh16
  clear hh16
  replace hz20 : z_slices_BinarySearchFunc_l0 x target j0 i1 = some z19 := hz20
  unfold z_slices_BinarySearchFunc_l0 at hz20
  refine sq_ fun k23 => sq_ fun k24 => g_' (q_ (i_ i1) (q_ (i_ j0) (q_ (.bool (decide (i1 < j0))) (s_nil (k24 _ _ ?_)))))
  refine wc_ (i1 < j0) (fun h25 => ?_) fun h25 => ?_
  ·have r26 := ite_t h25 hz20
   refine w_skip (k23 _ _ (w_block (sq_ fun k27 => g_' (q_ (i_ i1) (q_ (i_ j0) ?_)))))
   obtain ⟨g28, r29⟩ := G_some r26
   refine w_' ((i1 + j0)) (wrap64 g28) ?_
   obtain ⟨g30, r31⟩ := G_some r29
   refine s_w ((i1 + j0)) (k := .u64) (x := (i1 + j0)) (by kernel_rfl) (wrapu64 g30) ?_
   refine l_' (.int .u64 ((i1 + j0) / 2)) (some (.int .u64 (Int.fdiv (i1 + j0) 2))) (by rw [Int.fdiv_eq_ediv_of_nonneg _ (by decide)]) ?_
   obtain ⟨g32, r33⟩ := G_some r31
   refine w_' (((i1 + j0) / 2)) (wrap64 g32) (q_ (i_ ((i1 + j0) / 2)) (s_nil (k27 _ _ (sq_ fun k34 => g_' (q_ (.func (.func 76) #[] #[]) (q_ (hd_x) (q_ (i_ ((i1 + j0) / 2)) ?_)))))))
   obtain ⟨g35, r36⟩ := G_some r33
   have u37 := (h_x.fr e15 dn_)
   refine u37.ix_ 69 g35.1 g35.2 (le_ 71 0 (.agg #[i_ ((gt x ((i1 + j0) / 2)).1), .int .u64 ((gt x ((i1 + j0) / 2)).2.1), i_ ((gt x ((i1 + j0) / 2)).2.2)]) u37 g35.1 g35.2 (q_ (i_ target) ?_))
   obtain ⟨y38, hy39, r40⟩ := bs_ r36
   refine ck_ (c_overlay_find_1 e15.wf hy39) ?_
   rintro _ H41 ⟨rfl, e42⟩
   refine q_ (.bool (decide (y38 < 0))) (s_nil (k34 _ _ ?_))
   refine wc_ (y38 < 0) (fun h43 => ?_) fun h43 => ?_
   ·have r44 := ite_t h43 r40
    refine g_' (q_ (i_ ((i1 + j0) / 2)) ?_)
    obtain ⟨g45, r46⟩ := G_some r44
    refine w_' ((((i1 + j0) / 2) + 1)) (wrap64 (by have := g45; omega)) (q_ (i_ (((i1 + j0) / 2) + 1)) (s_nil ?_))
    obtain rfl := oi_ r46
    exact k22 n18 _ _ lt_ ⟨j0, (((i1 + j0) / 2) + 1), hn21, ha_, (fs_ wf (fs_ wf (f0_ wf) e15 in_) e42 in_)⟩
   have r47 := ite_f h43 r40
   refine g_' (q_ (i_ ((i1 + j0) / 2)) (q_ (i_ ((i1 + j0) / 2)) (s_nil ?_)))
   obtain rfl := oi_ r47
   exact k22 n18 _ _ lt_ ⟨((i1 + j0) / 2), i1, hn21, ha_, (fs_ wf (fs_ wf (f0_ wf) e15 in_) e42 in_)⟩
  have r48 := ite_f h25 hz20
  refine w_exit (th_exit (th_exit (bl_eq ?_)))
  obtain rfl := oi_ r48
  obtain rfl := it_inr hn21
  exact k10 _ _ ⟨ha_, (fs_ wf (f0_ wf) e15 in_)⟩
 obtain ⟨hh11, e9⟩ := hM
 obtain ⟨β, rfl⟩ := has_ex hh11
 clear hh11
 refine k4 _ _ (sq_ fun k49 => g_' (q_ (i_ o5) (q_ (i_ o5) (q_ (i_ (x.length : Int)) ?_))))
 refine sb_ (o5 < (x.length : Int)) (fun h50 => ?_) fun h50 => ?_
 ·have r51 := ite_t h50 r7
  refine q_ (.bool true) (q_ (.func (.func 76) #[] #[]) (q_ (hd_x) (q_ (i_ o5) ?_)))
  obtain ⟨g52, r53⟩ := G_some r51
  have u54 := (h_x.fr e9 dn_)
  refine u54.ix_ 69 g52 h50 (le_ 71 0 (.agg #[i_ ((gt x o5).1), .int .u64 ((gt x o5).2.1), i_ ((gt x o5).2.2)]) u54 g52 h50 (q_ (i_ target) ?_))
  obtain ⟨y55, hy56, r57⟩ := bs_ r53
  refine ck_ (c_overlay_find_1 e9.wf hy56) ?_
  rintro _ H58 ⟨rfl, e59⟩
  refine q_ (.bool (decide (y55 = 0))) (q_ (.bool (decide (y55 = 0))) (q_ (i_ o5) (q_ (.bool (decide (y55 = 0))) (s_nil (k49 _ _ ?_)))))
  refine w_ret ?_
  refine br_ [i_ o5, .bool (decide (y55 = 0))] ?_
  obtain rfl := oi_ r57
  exact ⟨rfl, (fs_ wf (fs_ wf (f0_ wf) e9 in_) e59 in_)⟩
 have r60 := ite_f h50 r7
 refine q_ (.bool false) (n_' (n_' (n_' (n_' (n_' (n_' (n_' (n_' (q_ (.bool false) (q_ (i_ o5) (q_ (.bool false) (s_nil (k49 _ _ ?_)))))))))))))
 refine w_ret ?_
 refine br_ [i_ o5, .bool false] ?_
 obtain rfl := oi_ r60
 exact ⟨rfl, (fs_ wf (f0_ wf) e9 in_)⟩
theorem c_overlay_find {H : AH} {hd_l : Value} {fp_l : Fp} {l : List (Int × Int × Int)} {v_ : Int} {r : Int × Bool}
    (wf : WF H) (h_l : Sq enc_i64_u64_i64 3 H hd_l l fp_l) (hr : z_overlay_find l v_ = some r) :
    ACalls Try.prog 64 #[hd_l, i_ v_] H fun v H' => v = .tuple #[i_ r.1, .bool r.2] /\ FrS [] H H' := by
 refine ab_ Try.func64 ?_
 unfold z_overlay_find at hr
 refine sq_ fun k1 => g_' (q_ (i_ 0) (q_ (.bool false) (s_nil (k1 _ _ (sq_ fun k2 => g_' (q_ (hd_l) (q_ (i_ v_) ?_)))))))
 obtain ⟨y3, hy4, r5⟩ := bs_ hr
 refine ck_ (c_slices_BinarySearchFunc wf h_l hy4) ?_
 rintro _ H6 ⟨rfl, e7⟩
 refine q_ (i_ y3.1) (q_ (.bool y3.2) (q_ (i_ y3.1) (q_ (.bool y3.2) (s_nil (k2 _ _ ?_)))))
 refine w_ret ?_
 refine br_ [i_ y3.1, .bool y3.2] ?_
 obtain rfl := oi_ r5
 exact ⟨rfl, (fs_ wf (f0_ wf) e7 in_)⟩
theorem c_overlay_Overlay_Weight {H : AH} {b_o : Nat} {hd_o_ : Value} {fp_o_ : Fp} {o_ : List (Bool × List (Int × Int × Int) × List (Int × Int × Int))} {o_2 : Int} {o_3 : Int} {u : Int} {w : Int} {r : Int × Bool}
    (wf : WF H) (h_o_ : Nd enc_i64_u64_i64 3 H hd_o_ o_ fp_o_ []) (h_o : Row H b_o [hd_o_, i_ o_2, i_ o_3]) (hr : z_overlay_Overlay_Weight o_ o_2 o_3 u w = some r) :
    ACalls Try.prog 49 #[pt_ b_o 0, i_ u, i_ w] H fun v H' => v = .tuple #[.int .u64 r.1, .bool r.2] /\ FrS [] H H' := by
 refine ab_ Try.func49 ?_
 unfold z_overlay_Overlay_Weight at hr
 refine sq_ fun k1 => g_' (q_ (.int .u64 0) (q_ (.bool false) (s_nil (k1 _ _ (sq_ fun k2 => sq_ fun k3 => g_' (q_ (pt_ b_o 0) (q_ (i_ u) ?_)))))))
 obtain ⟨y4, hy5, r6⟩ := bs_ hr
 refine ck_ (c_overlay_Overlay_Alive wf h_o_ h_o hy5) ?_
 rintro _ _ ⟨rfl, rfl⟩
 refine q_ (.bool (!y4)) (s_nil (k3 _ _ ?_))
 refine wb_ ((!y4)) (fun h9 => ?_) fun h9 => ?_
 ·have r10 := ite_t h9 r6
  refine sq_ fun k11 => g_' (q_ (.int .u64 0) (q_ (.bool false) (s_nil (k11 _ _ ?_))))
  refine w_ret (th_ret ?_)
  refine br_ [.int .u64 0, .bool false] ?_
  obtain rfl := oi_ r10
  exact ⟨rfl, (f0_ wf)⟩
 have r12 := ite_bf h9 r6
 refine w_skip (k2 _ _ (sq_ fun k13 => g_' (q_ (pt_ b_o 0) (q_ (pt_ b_o 0) (q_ (pt_ b_o 0) (lr_ 114 0 (hd_o_) h_o (q_ (i_ u) ?_)))))))
 obtain ⟨g14, r15⟩ := G_some r12
 refine h_o_.ix_ 114 g14.1 g14.2 (l_' (elp hd_o_ 3 u.toNat 1) (aFieldAddr Try.prog 120 (elp hd_o_ 3 u.toNat 0) 1) (Nd.fldq (d := 1) h_o_ g14.1 g14.2 (by kernel_rfl)) ?_)
 obtain ⟨u16, u17, hl18, hk19⟩ := Nd.at h_o_ g14.1 g14.2
 have kd20 : KdS enc_i64_u64_i64 3 H u16 ((gt o_ u).2.1) fp_o_ hd_o_ 3 u.toNat 1 := hk19 false (by simp)
 obtain ⟨a21, n22, c23, rfl⟩ := kd20.sq.form
 refine l_' (.slice a21 n22 c23) (aL_ 69 (elp hd_o_ 3 u.toNat 1) H) (hl18 _ _ _ _ (by kernel_rfl)) (q_ (i_ w) ?_)
 obtain ⟨y25, hy26, r27⟩ := bs_ r15
 refine ck_ (c_overlay_find wf kd20.sq hy26) ?_
 rintro _ H28 ⟨rfl, e29⟩
 refine q_ (.tuple #[i_ y25.1, .bool y25.2]) (q_ (i_ y25.1) (q_ (.bool y25.2) (q_ (i_ y25.1) (q_ (.bool y25.2) (s_nil (k13 _ _ (sq_ fun k30 => sq_ fun k31 => g_' (q_ (.bool y25.2) (q_ (.bool (!y25.2)) (s_nil (k31 _ _ ?_)))))))))))
 refine wb_ ((!y25.2)) (fun h32 => ?_) fun h32 => ?_
 ·have r33 := ite_t h32 r27
  refine sq_ fun k34 => g_' (q_ (.int .u64 0) (q_ (.bool false) (s_nil (k34 _ _ ?_))))
  refine w_ret (th_ret ?_)
  refine br_ [.int .u64 0, .bool false] ?_
  obtain rfl := oi_ r33
  exact ⟨rfl, (fs_ wf (f0_ wf) e29 in_)⟩
 have r35 := ite_bf h32 r27
 refine w_skip (k30 _ _ (sq_ fun k36 => g_' (q_ (pt_ b_o 0) (q_ (pt_ b_o 0) (q_ (pt_ b_o 0) ?_)))))
 have u37 := (h_o.frS e29 dn_)
 refine lr_ 114 0 (hd_o_) u37 (q_ (i_ u) ?_)
 have u38 := (h_o_.fr e29 dn_)
 refine u38.ix_ 114 g14.1 g14.2 (l_' (elp hd_o_ 3 u.toNat 1) (aFieldAddr Try.prog 120 (elp hd_o_ 3 u.toNat 0) 1) (Nd.fldq (d := 1) u38 g14.1 g14.2 (by kernel_rfl)) ?_)
 obtain ⟨u39, u40, hl41, hk42⟩ := Nd.at u38 g14.1 g14.2
 have kd43 : KdS enc_i64_u64_i64 3 H28 u39 ((gt o_ u).2.1) fp_o_ hd_o_ 3 u.toNat 1 := hk42 false (by simp)
 obtain ⟨a44, n45, c46, rfl⟩ := kd43.sq.form
 refine l_' (.slice a44 n45 c46) (aL_ 69 (elp hd_o_ 3 u.toNat 1) H28) (hl41 _ _ _ _ (by kernel_rfl)) (q_ (i_ y25.1) ?_)
 obtain ⟨g48, r49⟩ := G_some r35
 refine kd43.sq.ix_ 69 g48.1 g48.2 (l_' (elp (.slice a44 n45 c46) 3 y25.1.toNat 1) (aFieldAddr Try.prog 71 (elp (.slice a44 n45 c46) 3 y25.1.toNat 0) 1) (Sq.fldq (d := 1) kd43.sq g48.1 g48.2 (by kernel_rfl)) (le_ 27 1 (.int .u64 ((gt ((gt o_ u).2.1) y25.1).2.1)) kd43.sq g48.1 g48.2 (q_ (.int .u64 ((gt ((gt o_ u).2.1) y25.1).2.1)) (q_ (.bool true) (s_nil (k36 _ _ ?_))))))
 refine w_ret ?_
 refine br_ [.int .u64 ((gt ((gt o_ u).2.1) y25.1).2.1), .bool true] ?_
 obtain rfl := oi_ r49
 exact ⟨rfl, (fs_ wf (f0_ wf) e29 in_)⟩
theorem c_shorts_from {H : AH} {b_o : Nat} {hd_o_ : Value} {fp_o_ : Fp} {hd_out : Value} {fp_out : Fp} {o_ : List (Bool × List (Int × Int × Int) × List (Int × Int × Int))} {o_2 : Int} {o_3 : Int} {Node : Int} {Weight : Int} {Via : Int} {v_ : Int} {out : List (Int × Int × Int)} {hops : Int} {settles : Int} {r : List (Int × Int × Int)}
    (wf : WF H) (h_o_ : Nd enc_i64_u64_i64 3 H hd_o_ o_ fp_o_ []) (h_o : Row H b_o [hd_o_, i_ o_2, i_ o_3]) (h_out : Sq enc_i64_u64_i64 3 H hd_out out fp_out) (hr : z_shorts_from o_ o_2 o_3 Node Weight Via v_ out hops settles = some r) :
    ACalls Try.prog 42 #[pt_ b_o 0, .agg #[i_ Node, .int .u64 Weight, i_ Via], i_ v_, hd_out, i_ hops, i_ settles] H fun v H' => ∃ (s3 : Value) (f4 : Fp), v = s3 /\ FrS [] H H' /\ Ow enc_i64_i64_u64 3 H' s3 r f4 /\ Inn [] H f4 := by
 refine ab_ Try.func42 ?_
 unfold z_shorts_from at hr
 refine sq_ fun k6 => g_' ?_
 refine rl_ wf [i_ Node, .int .u64 Weight, i_ Via] fun b7 H8 e9 hb10 r11 => ?_
 refine q_ (.slice none 0 0) (s_nil (k6 _ _ (sq_ fun k13 => g_' (q_ (.slice none 0 0) (s_nil (k13 _ _ (sq_ fun k14 => g_' (q_ (.slice none 0 0) (s_nil (k14 _ _ (sq_ fun k15 => g_' (q_ (.int .u64 0) (s_nil (k15 _ _ (sq_ fun k16 => sq_ fun k17 => g_' (q_ (hd_out) ?_))))))))))))))))
 have u18 := (h_out.ext e9)
 refine u18.ln_ 69 (q_ (i_ 0) (s_nil (k17 _ _ ?_)))
 obtain ⟨o19, hx20, r21⟩ := bs_ hr
 refine w_mid (fun α H22 => ∃ (s26 : Value) (f27 : Fp) (s30 : Value) (f31 : Fp), Has α [(0, pt_ b_o 0), (2, i_ v_), (4, i_ hops), (5, i_ settles), (7, pt_ b7 0), (13, s26), (14, s30), (15, .int .u64 o19.2.2)] /\ FrS [] H8 H22 /\ Ow enc_i64_i64_u64 3 H22 s26 o19.1 f27 /\ Ow (encI .i64) 1 H22 s30 o19.2.1 f31 /\ Inn [] H8 f27 /\ Inn [] H8 f31 /\ Dj f27 f31) (fun _ k35 => ?_) (fun α H22 hM => ?_)
 ·refine w_block ?_
  obtain ⟨n37, hn38⟩ := loopO_iff.1 hx20
  refine w_loopn (fun n α H39 => ∃ (open0 : List (Int × Int × Int)), ∃ (goals1 : List (Int)), ∃ (most2 : Int), ∃ (i3 : Int), ∃ (s43 : Value), ∃ (f44 : Fp), ∃ (s47 : Value), ∃ (f48 : Fp), iterO (fun zz_ => z_shorts_from_l0 Node Weight out zz_.1 zz_.2.1 zz_.2.2.1 zz_.2.2.2) n (open0, goals1, most2, i3) = some o19 /\ Has α [(0, pt_ b_o 0), (2, i_ v_), (4, i_ hops), (5, i_ settles), (7, pt_ b7 0), (13, s43), (14, s47), (15, .int .u64 most2), (25, hd_out), (26, i_ (out.length : Int)), (27, i_ i3)] /\ FrS [] H8 H39 /\ Ow enc_i64_i64_u64 3 H39 s43 open0 f44 /\ Ow (encI .i64) 1 H39 s47 goals1 f48 /\ Inn [] H8 f44 /\ Inn [] H8 f48 /\ Dj f44 f48) n37 ⟨[], [], 0, 0, (.slice none 0 0), [], (.slice none 0 0), [], hn38, ha_, (fr_ e9.wf), (Ow.nil (by decide)), (Ow.nil (by decide)), in_, in_, dn_⟩ ?_
  rintro n37 α H39 ⟨open0, goals1, most2, i3, s43, f44, s47, f48, hi53, hh52, e40, m42, m46, i49, i50, d51⟩ K58 k58
  obtain ⟨n54, z55, rfl, hz56, hn57⟩ := iter_succ hi53
  obtain ⟨β, rfl⟩ := has_ex hh52
  clear hh52
  replace hz56 : z_shorts_from_l0 Node Weight out open0 goals1 most2 i3 = some z55 := hz56
  unfold z_shorts_from_l0 at hz56
  obtain ⟨a59, n60, c61, rfl⟩ := m42.form
  obtain ⟨a62, n63, c64, rfl⟩ := m46.form
  refine sq_ fun k65 => g_' (q_ (.bool (decide (i3 < (out.length : Int)))) (s_nil (k65 _ _ (sq_ fun k66 => ?_))))
  refine wc_ (i3 < (out.length : Int)) (fun h67 => ?_) fun h67 => ?_
  ·have r68 := ite_t h67 hz56
   refine w_skip (k66 _ _ (sq_ fun k69 => w_block (sq_ fun k70 => g_' ?_)))
   obtain ⟨g71, r72⟩ := G_some r68
   have u73 := (u18.fr e40 dn_)
   refine u73.ix_ 69 g71 h67 (le_ 71 0 (.agg #[i_ ((gt out i3).1), .int .u64 ((gt out i3).2.1), i_ ((gt out i3).2.2)]) u73 g71 h67 ?_)
   refine rk_ e40.wf [i_ 0, .int .u64 0, i_ 0] fun b74 H75 e76 hb77 r78 => ?_
   obtain ⟨H80, q81, e82, r83⟩ := ra_ 71 0 e76.wf r78 [i_ ((gt out i3).1), .int .u64 ((gt out i3).2.1), i_ ((gt out i3).2.2)] [i_ ((gt out i3).1), .int .u64 ((gt out i3).2.1), i_ ((gt out i3).2.2)]
   refine ek_ q81 (s_nil (k70 _ _ (sq_ fun k84 => sq_ fun k85 => g_' (q_ (pt_ b74 0) (lr_ 3 0 (i_ ((gt out i3).1)) r83 (q_ (pt_ b7 0) ?_))))))
   have d86 := (hb77.djn (r11.ltF.le e40.n))
   have u87 := (((r11.frS e40 dn_).ext e76).frS e82 d86)
   refine lr_ 3 0 (i_ Node) u87 (q_ (.bool (decide (((gt out i3).1) = Node))) (s_nil (k85 _ _ ?_)))
   refine wc_ (((gt out i3).1) = Node) (fun h88 => ?_) fun h88 => ?_
   ·have r89 := ite_t h88 r72
    refine w_exit (th_exit (bl_eq ?_))
    refine k69 _ _ (g_' ?_)
    obtain ⟨g90, r91⟩ := G_some r89
    refine w_' ((i3 + 1)) (wrap64 (by have := g90; omega)) (q_ (i_ (i3 + 1)) (s_nil ?_))
    have u92 := ((m42.ext e76).fr e82 (hb77.djn m42.lt))
    have u93 := ((m46.ext e76).fr e82 (hb77.djn m46.lt))
    obtain rfl := oi_ r91
    exact k58 n54 _ _ lt_ ⟨open0, goals1, most2, (i3 + 1), (.slice a59 n60 c61), f44, (.slice a62 n63 c64), f48, hn57, ha_, (fs_ e9.wf ((fs_ e9.wf (fr_ e9.wf) e40 in_).extR e76) e82 (hb77.fresh e40.n)), u92, u93, (i49.fresh (Nat.le_refl _)), (i50.fresh (Nat.le_refl _)), d51⟩
   have r94 := ite_f h88 r72
   refine w_skip (k84 _ _ (sq_ fun k95 => g_' (q_ (.slice a62 n63 c64) (q_ (pt_ b74 0) (lr_ 3 0 (i_ ((gt out i3).1)) r83 ?_)))))
   refine s_owk (enc := (encI .i64)) (sz := 1) e82.wf [(gt out i3).1] 1 (by decide) (fun _ _ => rfl) (fun _ _ => rfl) rfl (by kernel_rfl) fun s96 f97 H98 e99 hf100 hm101 => ?_
   obtain ⟨a102, n103, c104, rfl⟩ := hm101.form
   have u106 := (((m46.ext e76).fr e82 (hb77.djn m46.lt)).ext e99)
   obtain ⟨g107, r108⟩ := G_some r94
   obtain ⟨s109, H110, f111, q115, e112, hm113, hf114⟩ := Ow.append (P := Try.prog) 8 e99.wf u106 hm101.sq (fun _ _ => rfl) (at_ := #[26, 26]) rfl rfl (by kernel_rfl) (by kernel_rfl) (by decide) (by have := g107; first | omega | (simp only [List.length_cons, List.length_nil] at this ⊢; omega) | (simp at this ⊢; omega))
   obtain ⟨a116, n117, c118, rfl⟩ := hm113.form
   refine s_ek (.slice a116 n117 c118) (by kernel_rfl) (q115) ?_
   refine q_ (.slice a116 n117 c118) (s_nil (k95 _ _ (sq_ fun k120 => g_' (q_ (.int .u64 most2) (q_ (pt_ b7 1) ?_)))))
   have u121 := ((u87.ext e99).frS e112 (i50.djn r11.ltF))
   refine lr_ 27 1 (.int .u64 Weight) u121 (q_ (pt_ b74 1) ?_)
   have d122 := (hb77.djn m46.lt)
   have u123 := ((r83.ext e99).frS e112 (Dj.symm d122))
   refine lr_ 27 1 (.int .u64 ((gt out i3).2.1)) u123 ?_
   obtain ⟨g124, r125⟩ := G_some r108
   refine s_w ((Weight + ((gt out i3).2.1))) (k := .u64) (x := (Weight + ((gt out i3).2.1))) (by kernel_rfl) (wrapu64 g124) ?_
   refine l_' (.int .u64 (max most2 (Weight + ((gt out i3).2.1)))) (aMax Try.prog [.int .u64 most2, .int .u64 (Weight + ((gt out i3).2.1))]) (aMax_two _ _) (q_ (.int .u64 (max most2 (Weight + ((gt out i3).2.1)))) (s_nil (k120 _ _ (g_' (q_ (.slice a59 n60 c61) (q_ (pt_ b7 0) (lr_ 3 0 (i_ Node) u121 (q_ (pt_ b74 0) (lr_ 3 0 (i_ ((gt out i3).1)) u123 (q_ (pt_ b7 1) (lr_ 27 1 (.int .u64 Weight) u121 (q_ (pt_ b74 1) (lr_ 27 1 (.int .u64 ((gt out i3).2.1)) u123 ?_)))))))))))))
   obtain ⟨g126, r127⟩ := G_some r125
   refine s_w ((Weight + ((gt out i3).2.1))) (k := .u64) (x := (Weight + ((gt out i3).2.1))) (by kernel_rfl) (wrapu64 (by have := g126; omega)) ?_
   refine q_ (.agg #[i_ Node, i_ ((gt out i3).1), .int .u64 (Weight + ((gt out i3).2.1))]) ?_
   refine s_owk (enc := enc_i64_i64_u64) (sz := 3) e112.wf [(Node, (gt out i3).1, (Weight + ((gt out i3).2.1)))] 1 (by decide) (fun _ _ => rfl) (fun _ _ => rfl) rfl (by kernel_rfl) fun s128 f129 H130 e131 hf132 hm133 => ?_
   obtain ⟨a134, n135, c136, rfl⟩ := hm133.form
   have u138 := (((((m42.ext e76).fr e82 (hb77.djn m42.lt)).ext e99).fr e112 (Dj.symm d51)).ext e131)
   obtain ⟨g139, r140⟩ := G_some r127
   obtain ⟨s141, H142, f143, q147, e144, hm145, hf146⟩ := Ow.append (P := Try.prog) 24 e131.wf u138 hm133.sq (fun _ _ => rfl) (at_ := #[46, 46]) rfl rfl (by kernel_rfl) (by kernel_rfl) (by decide) (by have := g139; first | omega | (simp only [List.length_cons, List.length_nil] at this ⊢; omega) | (simp at this ⊢; omega))
   obtain ⟨a148, n149, c150, rfl⟩ := hm145.form
   refine s_ek (.slice a148 n149 c150) (by kernel_rfl) (q147) ?_
   refine q_ (.slice a148 n149 c150) (s_nil (k69 _ _ (g_' ?_)))
   obtain ⟨g152, r153⟩ := G_some r140
   refine w_' ((i3 + 1)) (wrap64 (by have := g152; omega)) (q_ (i_ (i3 + 1)) (s_nil ?_))
   have n154 := (t_ (t_ e76.n e82.n) e99.n)
   have d155 := (hf114.dj (Dj.symm d51) (m42.lt.le n154))
   have u156 := ((hm113.ext e131).fr e144 (Dj.symm d155))
   have n157 := (t_ (t_ (t_ (t_ (t_ e40.n e76.n) e82.n) e99.n) e112.n) e131.n)
   have n158 := (t_ (t_ (t_ e40.n e76.n) e82.n) e99.n)
   have d159 := (hf146.dj (Dj.symm d155) (hm113.lt.le e131.n))
   obtain rfl := oi_ r153
   exact k58 n54 _ _ lt_ ⟨(open0 ++ [(Node, (gt out i3).1, (Weight + ((gt out i3).2.1)))]), (goals1 ++ [(gt out i3).1]), (max most2 (Weight + ((gt out i3).2.1))), (i3 + 1), (.slice a148 n149 c150), f143, (.slice a116 n117 c118), f111, hn57, ha_, (fs_ e9.wf ((fs_ e9.wf ((fs_ e9.wf ((fs_ e9.wf (fr_ e9.wf) e40 in_).extR e76) e82 (hb77.fresh e40.n)).extR e99) e112 (i50.fresh (Nat.le_refl _))).extR e131) e144 (i49.fresh (Nat.le_refl _))), hm145, u156, (Inn.trans (i49.fresh (Nat.le_refl _)) n157 hf146), (Inn.trans (i50.fresh (Nat.le_refl _)) n158 hf114), d159⟩
  have r160 := ite_f h67 hz56
  refine w_exit (th_exit (th_exit (bl_eq ?_)))
  obtain rfl := oi_ r160
  obtain rfl := it_inr hn57
  exact k35 _ _ ⟨(.slice a59 n60 c61), f44, (.slice a62 n63 c64), f48, ha_, (fs_ e9.wf (fr_ e9.wf) e40 in_), m42, m46, (i49.fresh (Nat.le_refl _)), (i50.fresh (Nat.le_refl _)), d51⟩
 obtain ⟨s26, f27, s30, f31, hh36, e23, m25, m29, i32, i33, d34⟩ := hM
 obtain ⟨β, rfl⟩ := has_ex hh36
 clear hh36
 obtain ⟨a161, n162, c163, rfl⟩ := m25.form
 obtain ⟨a164, n165, c166, rfl⟩ := m29.form
 refine k16 _ _ (sq_ fun k167 => sq_ fun k168 => g_' (q_ (.slice a164 n165 c166) (m29.sq.ln_ 26 (q_ (.bool (decide ((o19.2.1.length : Int) = 0))) (s_nil (k168 _ _ ?_))))))
 refine wc_ ((o19.2.1.length : Int) = 0) (fun h169 => ?_) fun h169 => ?_
 ·have r170 := ite_t h169 r21
  refine sq_ fun k171 => g_' (q_ (.slice none 0 0) (s_nil (k171 _ _ ?_)))
  refine w_ret (th_ret ?_)
  refine br_ [.slice none 0 0] ?_
  obtain rfl := oi_ r170
  exact ⟨(.slice none 0 0), [], rfl, (fs_ wf ((f0_ wf).extR e9) e23 in_), (Ow.nil (by decide)), in_⟩
 have r172 := ite_f h169 r21
 refine w_skip (k167 _ _ (sq_ fun k173 => g_' (q_ (pt_ b_o 0) (q_ (pt_ b7 0) ?_))))
 have u174 := (r11.frS e23 dn_)
 refine lr_ 3 0 (i_ Node) u174 (q_ (i_ v_) (q_ (.slice a164 n165 c166) (q_ (.int .u64 o19.2.2) (q_ (i_ hops) (q_ (i_ settles) ?_)))))
 have u175 := ((h_o_.ext e9).fr e23 dn_)
 have u176 := ((h_o.ext e9).frS e23 dn_)
 obtain ⟨y177, hy178, r179⟩ := bs_ r172
 refine ck_ (c_witness_Find e23.wf u175 u176 m29.sq hy178) ?_
 rintro _ H184 ⟨s180, f181, v182, f183, rfl, e185, m186, m187, i188, i189, d190⟩
 obtain ⟨a193, n194, c195, rfl⟩ := m186.form
 refine q_ (.tuple #[.slice a193 n194 c195, v182]) (q_ (.slice a193 n194 c195) (q_ (v182) (q_ (.slice a193 n194 c195) (q_ (v182) (s_nil (k173 _ _ (sq_ fun k196 => sq_ fun k197 => g_' (q_ (v182) ?_))))))))
 rcases (m187).cases with ⟨h198, rfl⟩ | ⟨h198, t199, x200, rfl⟩
 ·have r201 := ite_t h198 r179
  refine q_ (.bool false) (s_nil (k197 _ _ ?_))
  refine wb_ false (fun h => by cases h) fun _ => ?_
  refine w_skip (k196 _ _ (sq_ fun k202 => g_' (q_ (.slice none 0 0) (s_nil (k202 _ _ (sq_ fun k203 => sq_ fun k204 => g_' (q_ (.slice a161 n162 c163) ?_)))))))
  have u205 := (m25.fr e185 dn_)
  refine u205.sq.ln_ 46 (q_ (i_ 0) (s_nil (k204 _ _ ?_)))
  obtain ⟨o206, hx207, r208⟩ := bs_ r201
  refine w_mid (fun α H209 => ∃ (s213 : Value) (f214 : Fp), Has α [(20, s213)] /\ FrS [] H184 H209 /\ Ow enc_i64_i64_u64 3 H209 s213 o206 f214 /\ Inn [] H184 f214) (fun _ k216 => ?_) (fun α H209 hM => ?_)
  ·refine w_block ?_
   obtain ⟨n218, hn219⟩ := loopO_iff.1 hx207
   refine w_loopn (fun n α H220 => ∃ (l4 : List (Int × Int × Int)), ∃ (i5 : Int), ∃ (s224 : Value), ∃ (f225 : Fp), iterO (fun zz_ => z_shorts_from_l1 o_ o_2 o_3 o19 y177 zz_.1 zz_.2) n (l4, i5) = some o206 /\ Has α [(0, pt_ b_o 0), (18, .slice a193 n194 c195), (20, s224), (79, .slice a161 n162 c163), (80, i_ (o19.1.length : Int)), (81, i_ i5)] /\ FrS [] H184 H220 /\ Ow enc_i64_i64_u64 3 H220 s224 l4 f225 /\ Inn [] H184 f225) n218 ⟨[], 0, (.slice none 0 0), [], hn219, ha_, (fr_ e185.wf), (Ow.nil (by decide)), in_⟩ ?_
   rintro n218 α H220 ⟨l4, i5, s224, f225, hi228, hh227, e221, m223, i226⟩ K233 k233
   obtain ⟨n229, z230, rfl, hz231, hn232⟩ := iter_succ hi228
   obtain ⟨β, rfl⟩ := has_ex hh227
   clear hh227
   replace hz231 : z_shorts_from_l1 o_ o_2 o_3 o19 y177 l4 i5 = some z230 := hz231
   unfold z_shorts_from_l1 at hz231
   obtain ⟨a234, n235, c236, rfl⟩ := m223.form
   refine sq_ fun k237 => g_' (q_ (.bool (decide (i5 < (o19.1.length : Int)))) (s_nil (k237 _ _ (sq_ fun k238 => ?_))))
   refine wc_ (i5 < (o19.1.length : Int)) (fun h239 => ?_) fun h239 => ?_
   ·have r240 := ite_t h239 hz231
    refine w_skip (k238 _ _ (sq_ fun k241 => w_block (sq_ fun k242 => g_' (q_ (i_ i5) ?_))))
    obtain ⟨g243, r244⟩ := G_some r240
    have u245 := (u205.fr e221 dn_)
    refine u245.sq.ix_ 46 g243 h239 (le_ 110 0 (.agg #[i_ ((gt o19.1 i5).1), i_ ((gt o19.1 i5).2.1), .int .u64 ((gt o19.1 i5).2.2)]) u245.sq g243 h239 ?_)
    refine rk_ e221.wf [i_ 0, i_ 0, .int .u64 0] fun b246 H247 e248 hb249 r250 => ?_
    refine q_ (i_ i5) ?_
    obtain ⟨H252, q253, e254, r255⟩ := ra_ 110 0 e248.wf r250 [i_ ((gt o19.1 i5).1), i_ ((gt o19.1 i5).2.1), .int .u64 ((gt o19.1 i5).2.2)] [i_ ((gt o19.1 i5).1), i_ ((gt o19.1 i5).2.1), .int .u64 ((gt o19.1 i5).2.2)]
    refine ek_ q253 (s_nil (k242 _ _ (sq_ fun k256 => g_' (q_ (pt_ b_o 0) (q_ (pt_ b246 0) (lr_ 3 0 (i_ ((gt o19.1 i5).1)) r255 (q_ (pt_ b246 1) (lr_ 3 1 (i_ ((gt o19.1 i5).2.1)) r255 ?_))))))))
    have n257 := (t_ (t_ (t_ e9.n e23.n) e185.n) e221.n)
    have d258 := (hb249.djn (h_o_.lt.le n257))
    have u259 := ((((u175.fr e185 dn_).fr e221 dn_).ext e248).fr e254 d258)
    have d260 := (hb249.djn (h_o.ltF.le n257))
    have u261 := ((((u176.frS e185 dn_).frS e221 dn_).ext e248).frS e254 d260)
    obtain ⟨y262, hy263, r264⟩ := bs_ r244
    refine ck_ (c_overlay_Overlay_Weight e254.wf u259 u261 hy263) ?_
    rintro _ H265 ⟨rfl, e266⟩
    refine q_ (.tuple #[.int .u64 y262.1, .bool y262.2]) (q_ (.int .u64 y262.1) (q_ (.bool y262.2) (q_ (.int .u64 y262.1) (q_ (.bool y262.2) (s_nil (k256 _ _ (sq_ fun k267 => ?_)))))))
    refine w_draw [0, 1, 2, 3, 4, 5, 6, 7, 8, 9, 10, 11, 12, 13, 14, 15, 16, 17, 18, 19, 20, 21] (by kernel_rfl) ?_
    refine e_' (pt_ b246 2) ?_
    have u268 := (r255.frS e266 dn_)
    refine mr_ 27 2 (.int .u64 ((gt o19.1 i5).2.2)) u268 ?_
    refine db_ (((gt o19.1 i5).2.2) ≤ 140737488355328) (fun h269 => ?_) fun h269 => ?_
    ·have r270 := ite_t h269 r264
     refine e_' (.bool true) (e_' (.slice a193 n194 c195) (e_' (i_ i5) ?_))
     obtain ⟨g271, r272⟩ := G_some r270
     have d273 := (hb249.djn (m186.lt.le e221.n))
     have u274 := ((((m186.fr e221 dn_).ext e248).fr e254 d273).fr e266 dn_)
     refine u274.sq.mx_ 36 g243 g271 (me_ 27 0 (.int .u64 (gt y177.1 i5)) u274.sq g243 g271 (e_' (pt_ b246 2) (mr_ 27 2 (.int .u64 ((gt o19.1 i5).2.2)) u268 ?_)))
     refine db_ ((gt y177.1 i5) > ((gt o19.1 i5).2.2)) (fun h275 => ?_) fun h275 => ?_
     ·have r276 := ite_t h275 r272
      refine e_' (.bool true) (e_' (.bool true) (e_' (.bool y262.2) (e_' (.bool y262.2) ?_)))
      by_cases h277 : y262.2 = true
      ·have r278 := ite_t h277 r276
       rw [h277]
       refine e_' (.int .u64 y262.1) (e_' (pt_ b246 2) (mr_ 27 2 (.int .u64 ((gt o19.1 i5).2.2)) u268 (e_' (.bool (decide (y262.1 ≤ ((gt o19.1 i5).2.2)))) (e_' (.bool (decide (y262.1 ≤ ((gt o19.1 i5).2.2)))) (e_' (.bool (!decide (y262.1 ≤ ((gt o19.1 i5).2.2)))) (e_' (.bool (!decide (y262.1 ≤ ((gt o19.1 i5).2.2)))) ?_))))))
       refine d_nil ?_
       refine k267 _ _ ?_
       refine w_condn (y262.1 ≤ ((gt o19.1 i5).2.2)) (by kernel_rfl) rfl (fun h279 => ?_) (fun h279 => ?_)
       ·have r280 := ite_f h279 r278
        refine g_' (q_ (.slice a234 n235 c236) (lr_ 110 0 (.agg #[i_ ((gt o19.1 i5).1), i_ ((gt o19.1 i5).2.1), .int .u64 ((gt o19.1 i5).2.2)]) u268 ?_))
        refine s_owk (enc := enc_i64_i64_u64) (sz := 3) e266.wf [((gt o19.1 i5).1, (gt o19.1 i5).2.1, (gt o19.1 i5).2.2)] 1 (by decide) (fun _ _ => rfl) (fun _ _ => rfl) rfl (by kernel_rfl) fun s281 f282 H283 e284 hf285 hm286 => ?_
        obtain ⟨a287, n288, c289, rfl⟩ := hm286.form
        have u291 := ((((m223.ext e248).fr e254 (hb249.djn m223.lt)).fr e266 dn_).ext e284)
        obtain ⟨g292, r293⟩ := G_some r280
        obtain ⟨s294, H295, f296, q300, e297, hm298, hf299⟩ := Ow.append (P := Try.prog) 24 e284.wf u291 hm286.sq (fun _ _ => rfl) (at_ := #[46, 46]) rfl rfl (by kernel_rfl) (by kernel_rfl) (by decide) (by have := g292; first | omega | (simp only [List.length_cons, List.length_nil] at this ⊢; omega) | (simp at this ⊢; omega))
        obtain ⟨a301, n302, c303, rfl⟩ := hm298.form
        refine s_ek (.slice a301 n302 c303) (by kernel_rfl) (q300) ?_
        refine q_ (.slice a301 n302 c303) (s_nil (k241 _ _ (g_' ?_)))
        obtain ⟨g305, r306⟩ := G_some r293
        refine w_' ((i5 + 1)) (wrap64 (by have := g305; omega)) (q_ (i_ (i5 + 1)) (s_nil ?_))
        have n307 := (t_ (t_ (t_ (t_ e221.n e248.n) e254.n) e266.n) e284.n)
        obtain rfl := oi_ r306
        exact k233 n229 _ _ lt_ ⟨(l4 ++ [((gt o19.1 i5).1, (gt o19.1 i5).2.1, (gt o19.1 i5).2.2)]), (i5 + 1), (.slice a301 n302 c303), f296, hn232, ha_, (fs_ e185.wf ((fs_ e185.wf (fs_ e185.wf ((fs_ e185.wf (fr_ e185.wf) e221 in_).extR e248) e254 (hb249.fresh e221.n)) e266 in_).extR e284) e297 (i226.fresh (Nat.le_refl _))), hm298, (Inn.trans (i226.fresh (Nat.le_refl _)) n307 hf299)⟩
       have r308 := ite_t h279 r278
       refine w_skip (k241 _ _ (g_' ?_))
       obtain ⟨g309, r310⟩ := G_some r308
       refine w_' ((i5 + 1)) (wrap64 (by have := g309; omega)) (q_ (i_ (i5 + 1)) (s_nil ?_))
       have u311 := (((m223.ext e248).fr e254 (hb249.djn m223.lt)).fr e266 dn_)
       obtain rfl := oi_ r310
       exact k233 n229 _ _ lt_ ⟨l4, (i5 + 1), (.slice a234 n235 c236), f225, hn232, ha_, (fs_ e185.wf (fs_ e185.wf ((fs_ e185.wf (fr_ e185.wf) e221 in_).extR e248) e254 (hb249.fresh e221.n)) e266 in_), u311, (i226.fresh (Nat.le_refl _))⟩
      have r312 := ite_f h277 r276
      rw [nb h277]
      refine j_' (j_' (j_' (j_' (e_' (.bool false) (e_' (.bool true) (e_' (.bool true) ?_))))))
      refine d_nil ?_
      refine k267 _ _ ?_
      refine wb_ true (fun _ => ?_) fun h => by cases h
      refine g_' (q_ (.slice a234 n235 c236) (lr_ 110 0 (.agg #[i_ ((gt o19.1 i5).1), i_ ((gt o19.1 i5).2.1), .int .u64 ((gt o19.1 i5).2.2)]) u268 ?_))
      refine s_owk (enc := enc_i64_i64_u64) (sz := 3) e266.wf [((gt o19.1 i5).1, (gt o19.1 i5).2.1, (gt o19.1 i5).2.2)] 1 (by decide) (fun _ _ => rfl) (fun _ _ => rfl) rfl (by kernel_rfl) fun s313 f314 H315 e316 hf317 hm318 => ?_
      obtain ⟨a319, n320, c321, rfl⟩ := hm318.form
      have u323 := ((((m223.ext e248).fr e254 (hb249.djn m223.lt)).fr e266 dn_).ext e316)
      obtain ⟨g324, r325⟩ := G_some r312
      obtain ⟨s326, H327, f328, q332, e329, hm330, hf331⟩ := Ow.append (P := Try.prog) 24 e316.wf u323 hm318.sq (fun _ _ => rfl) (at_ := #[46, 46]) rfl rfl (by kernel_rfl) (by kernel_rfl) (by decide) (by have := g324; first | omega | (simp only [List.length_cons, List.length_nil] at this ⊢; omega) | (simp at this ⊢; omega))
      obtain ⟨a333, n334, c335, rfl⟩ := hm330.form
      refine s_ek (.slice a333 n334 c335) (by kernel_rfl) (q332) ?_
      refine q_ (.slice a333 n334 c335) (s_nil (k241 _ _ (g_' ?_)))
      obtain ⟨g337, r338⟩ := G_some r325
      refine w_' ((i5 + 1)) (wrap64 (by have := g337; omega)) (q_ (i_ (i5 + 1)) (s_nil ?_))
      have n339 := (t_ (t_ (t_ (t_ e221.n e248.n) e254.n) e266.n) e316.n)
      obtain rfl := oi_ r338
      exact k233 n229 _ _ lt_ ⟨(l4 ++ [((gt o19.1 i5).1, (gt o19.1 i5).2.1, (gt o19.1 i5).2.2)]), (i5 + 1), (.slice a333 n334 c335), f328, hn232, ha_, (fs_ e185.wf ((fs_ e185.wf (fs_ e185.wf ((fs_ e185.wf (fr_ e185.wf) e221 in_).extR e248) e254 (hb249.fresh e221.n)) e266 in_).extR e316) e329 (i226.fresh (Nat.le_refl _))), hm330, (Inn.trans (i226.fresh (Nat.le_refl _)) n339 hf331)⟩
     have r340 := ite_f h275 r272
     refine e_' (.bool false) (e_' (.bool false) (j_' (j_' (j_' (j_' (j_' (j_' (j_' (j_' (e_' (.bool false) ?_))))))))))
     refine d_nil ?_
     refine k267 _ _ ?_
     refine wb_ false (fun h => by cases h) fun _ => ?_
     refine w_skip (k241 _ _ (g_' ?_))
     obtain ⟨g341, r342⟩ := G_some r340
     refine w_' ((i5 + 1)) (wrap64 (by have := g341; omega)) (q_ (i_ (i5 + 1)) (s_nil ?_))
     have u343 := (((m223.ext e248).fr e254 (hb249.djn m223.lt)).fr e266 dn_)
     obtain rfl := oi_ r342
     exact k233 n229 _ _ lt_ ⟨l4, (i5 + 1), (.slice a234 n235 c236), f225, hn232, ha_, (fs_ e185.wf (fs_ e185.wf ((fs_ e185.wf (fr_ e185.wf) e221 in_).extR e248) e254 (hb249.fresh e221.n)) e266 in_), u343, (i226.fresh (Nat.le_refl _))⟩
    have r344 := ite_f h269 r264
    refine e_' (.bool false) (j_' (j_' (j_' (j_' (j_' (j_' (j_' (e_' (.bool false) (e_' (.bool false) (j_' (j_' (j_' (j_' (j_' (j_' (j_' (j_' (e_' (.bool false) ?_))))))))))))))))))
    refine d_nil ?_
    refine k267 _ _ ?_
    refine wb_ false (fun h => by cases h) fun _ => ?_
    refine w_skip (k241 _ _ (g_' ?_))
    obtain ⟨g345, r346⟩ := G_some r344
    refine w_' ((i5 + 1)) (wrap64 (by have := g345; omega)) (q_ (i_ (i5 + 1)) (s_nil ?_))
    have u347 := (((m223.ext e248).fr e254 (hb249.djn m223.lt)).fr e266 dn_)
    obtain rfl := oi_ r346
    exact k233 n229 _ _ lt_ ⟨l4, (i5 + 1), (.slice a234 n235 c236), f225, hn232, ha_, (fs_ e185.wf (fs_ e185.wf ((fs_ e185.wf (fr_ e185.wf) e221 in_).extR e248) e254 (hb249.fresh e221.n)) e266 in_), u347, (i226.fresh (Nat.le_refl _))⟩
   have r348 := ite_f h239 hz231
   refine w_exit (th_exit (th_exit (bl_eq ?_)))
   obtain rfl := oi_ r348
   obtain rfl := it_inr hn232
   exact k216 _ _ ⟨(.slice a234 n235 c236), f225, ha_, (fs_ e185.wf (fr_ e185.wf) e221 in_), m223, (i226.fresh (Nat.le_refl _))⟩
  obtain ⟨s213, f214, hh217, e210, m212, i215⟩ := hM
  obtain ⟨β, rfl⟩ := has_ex hh217
  clear hh217
  obtain ⟨a349, n350, c351, rfl⟩ := m212.form
  refine k203 _ _ (sq_ fun k352 => g_' (q_ (.slice a349 n350 c351) (q_ (.slice a349 n350 c351) (s_nil (k352 _ _ ?_)))))
  refine w_ret ?_
  refine br_ [.slice a349 n350 c351] ?_
  have n353 := (t_ (t_ e9.n e23.n) e185.n)
  obtain rfl := oi_ r208
  exact ⟨(.slice a349 n350 c351), f214, rfl, (fs_ wf (fs_ wf (fs_ wf ((f0_ wf).extR e9) e23 in_) e185 in_) e210 in_), m212, (i215.fresh n353)⟩
 have r354 := ite_f h198 r179
 refine l_' (.bool true) (aBin Try.prog .neq 38 (.tmp 77) (.const .nilIface) (.iface t199 x200) .nilIface) (aBin_nnil (by kernel_rfl)) (s_nil (k197 _ _ ?_))
 refine wb_ true (fun _ => ?_) fun h => by cases h
 refine sq_ fun k355 => g_' (q_ (.slice none 0 0) (s_nil (k355 _ _ ?_)))
 refine w_ret (th_ret ?_)
 refine br_ [.slice none 0 0] ?_
 obtain rfl := oi_ r354
 exact ⟨(.slice none 0 0), [], rfl, (fs_ wf (fs_ wf ((f0_ wf).extR e9) e23 in_) e185 in_), (Ow.nil (by decide)), in_⟩
theorem c_shorts_Needed {H : AH} {b_o : Nat} {hd_o_ : Value} {fp_o_ : Fp} {o_ : List (Bool × List (Int × Int × Int) × List (Int × Int × Int))} {o_2 : Int} {o_3 : Int} {v_ : Int} {Hops : Int} {Settles : Int} {Edge : Int} {Deleted : Int} {Depth : Int} {r : List (Int × Int × Int) × Er}
    (wf : WF H) (h_o_ : Nd enc_i64_u64_i64 3 H hd_o_ o_ fp_o_ []) (h_o : Row H b_o [hd_o_, i_ o_2, i_ o_3]) (hr : z_shorts_Needed o_ o_2 o_3 v_ Hops Settles Edge Deleted Depth = some r) :
    ACalls Try.prog 13 #[pt_ b_o 0, i_ v_, .agg #[i_ Hops, i_ Settles, i_ Edge, i_ Deleted, i_ Depth]] H fun v H' => ∃ (s3 : Value) (f4 : Fp) (v7 : Value) (f8 : Fp), v = .tuple #[s3, v7] /\ FrS [] H H' /\ Ow enc_i64_i64_u64 3 H' s3 r.1 f4 /\ Ev 90 129 H' v7 r.2 f8 /\ Inn [] H f4 /\ Inn [] H f8 /\ Dj f4 f8 := by
 refine ab_ Try.func13 ?_
 unfold z_shorts_Needed at hr
 refine sq_ fun k12 => g_' ?_
 refine rl_ wf [i_ Hops, i_ Settles, i_ Edge, i_ Deleted, i_ Depth] fun b13 H14 e15 hb16 r17 => ?_
 refine q_ (.slice none 0 0) (q_ (.nilIface) (s_nil (k12 _ _ (sq_ fun k19 => sq_ fun k20 => g_' (q_ (pt_ b_o 0) (q_ (i_ v_) ?_))))))
 have u21 := (h_o_.ext e15)
 have u22 := (h_o.ext e15)
 obtain ⟨y23, hy24, r25⟩ := bs_ hr
 refine ck_ (c_shorts_check e15.wf u21 u22 hy24) ?_
 rintro v26 _ ⟨_, f27, rfl, rfl, m30, i31⟩
 refine q_ (v26) (s_nil (k20 _ _ (sq_ fun k33 => g_' (q_ (v26) ?_))))
 rcases (m30).cases with ⟨h34, rfl⟩ | ⟨h34, t35, x36, rfl⟩
 ·have r37 := ite_t h34 r25
  refine q_ (.bool false) (s_nil (k33 _ _ ?_))
  refine wb_ false (fun h => by cases h) fun _ => ?_
  refine w_skip (k19 _ _ (sq_ fun k38 => g_' (lr_ 44 0 (.agg #[i_ Hops, i_ Settles, i_ Edge, i_ Deleted, i_ Depth]) r17 ?_)))
  obtain ⟨y39, hy40, r41⟩ := bs_ r37
  refine ck_ (c_witness_Bounds e15.wf hy40) ?_
  rintro _ H42 ⟨rfl, e43⟩
  refine q_ (.tuple #[i_ y39.1, i_ y39.2]) (q_ (i_ y39.1) (q_ (i_ y39.2) (q_ (i_ y39.1) (q_ (i_ y39.2) (s_nil (k38 _ _ (sq_ fun k44 => g_' (q_ (pt_ b_o 0) (q_ (i_ v_) ?_)))))))))
  have u45 := (u21.fr e43 dn_)
  have u46 := (u22.frS e43 dn_)
  obtain ⟨y47, hy48, r49⟩ := bs_ r41
  refine ck_ (c_overlay_Overlay_Out e43.wf u45 u46 hy48) ?_
  rintro s50 H52 ⟨_, f51, rfl, e53, m54, i55⟩
  obtain ⟨a57, n58, c59, rfl⟩ := m54.form
  refine q_ (.slice a57 n58 c59) (s_nil (k44 _ _ (sq_ fun k60 => g_' (q_ (.slice none 0 0) (s_nil (k60 _ _ (sq_ fun k61 => sq_ fun k62 => g_' (q_ (pt_ b_o 0) (q_ (i_ v_) ?_)))))))))
  have u63 := (u45.fr e53 dn_)
  have u64 := (u46.frS e53 dn_)
  obtain ⟨y65, hy66, r67⟩ := bs_ r49
  refine ck_ (c_overlay_Overlay_In e53.wf u63 u64 hy66) ?_
  rintro s68 H70 ⟨_, f69, rfl, e71, m72, i73⟩
  obtain ⟨a75, n76, c77, rfl⟩ := m72.form
  refine m72.sq.ln_ 69 (q_ (i_ 0) (s_nil (k62 _ _ ?_)))
  obtain ⟨o78, hx79, r80⟩ := bs_ r67
  refine w_mid (fun α H81 => ∃ (s85 : Value) (f86 : Fp), Has α [(12, s85)] /\ FrS [] H70 H81 /\ Ow enc_i64_i64_u64 3 H81 s85 o78 f86 /\ Inn [] H70 f86) (fun _ k88 => ?_) (fun α H81 hM => ?_)
  ·refine w_block ?_
   obtain ⟨n90, hn91⟩ := loopO_iff.1 hx79
   refine w_loopn (fun n α H92 => ∃ (l0 : List (Int × Int × Int)), ∃ (i1 : Int), ∃ (s96 : Value), ∃ (f97 : Fp), iterO (fun zz_ => z_shorts_Needed_l0 o_ o_2 o_3 v_ y39 y47 y65 zz_.1 zz_.2) n (l0, i1) = some o78 /\ Has α [(0, pt_ b_o 0), (1, i_ v_), (9, i_ y39.1), (10, i_ y39.2), (11, .slice a57 n58 c59), (12, s96), (31, .slice a75 n76 c77), (32, i_ (y65.length : Int)), (33, i_ i1)] /\ FrS [] H70 H92 /\ Ow enc_i64_i64_u64 3 H92 s96 l0 f97 /\ Inn [] H70 f97) n90 ⟨[], 0, (.slice none 0 0), [], hn91, ha_, (fr_ e71.wf), (Ow.nil (by decide)), in_⟩ ?_
   rintro n90 α H92 ⟨l0, i1, s96, f97, hi100, hh99, e93, m95, i98⟩ K105 k105
   obtain ⟨n101, z102, rfl, hz103, hn104⟩ := iter_succ hi100
   obtain ⟨β, rfl⟩ := has_ex hh99
   clear hh99
   replace hz103 : z_shorts_Needed_l0 o_ o_2 o_3 v_ y39 y47 y65 l0 i1 = some z102 := hz103
   unfold z_shorts_Needed_l0 at hz103
   obtain ⟨a106, n107, c108, rfl⟩ := m95.form
   refine sq_ fun k109 => g_' (q_ (.bool (decide (i1 < (y65.length : Int)))) (s_nil (k109 _ _ (sq_ fun k110 => ?_))))
   refine wc_ (i1 < (y65.length : Int)) (fun h111 => ?_) fun h111 => ?_
   ·have r112 := ite_t h111 hz103
    refine w_skip (k110 _ _ (sq_ fun k113 => w_block (sq_ fun k114 => g_' ?_)))
    obtain ⟨g115, r116⟩ := G_some r112
    have u117 := (m72.fr e93 dn_)
    refine u117.sq.ix_ 69 g115 h111 (le_ 71 0 (.agg #[i_ ((gt y65 i1).1), .int .u64 ((gt y65 i1).2.1), i_ ((gt y65 i1).2.2)]) u117.sq g115 h111 ?_)
    refine rk_ e93.wf [i_ 0, .int .u64 0, i_ 0] fun b118 H119 e120 hb121 r122 => ?_
    obtain ⟨H124, q125, e126, r127⟩ := ra_ 71 0 e120.wf r122 [i_ ((gt y65 i1).1), .int .u64 ((gt y65 i1).2.1), i_ ((gt y65 i1).2.2)] [i_ ((gt y65 i1).1), .int .u64 ((gt y65 i1).2.1), i_ ((gt y65 i1).2.2)]
    refine ek_ q125 (s_nil (k114 _ _ (g_' (q_ (.slice a106 n107 c108) (q_ (pt_ b_o 0) (lr_ 71 0 (.agg #[i_ ((gt y65 i1).1), .int .u64 ((gt y65 i1).2.1), i_ ((gt y65 i1).2.2)]) r127 (q_ (i_ v_) (q_ (.slice a57 n58 c59) (q_ (i_ y39.1) (q_ (i_ y39.2) ?_))))))))))
    have n128 := (t_ (t_ (t_ (t_ e15.n e43.n) e53.n) e71.n) e93.n)
    have d129 := (hb121.djn (h_o_.lt.le n128))
    have u130 := ((((u63.fr e71 dn_).fr e93 dn_).ext e120).fr e126 d129)
    have d131 := (hb121.djn (h_o.ltF.le n128))
    have u132 := ((((u64.frS e71 dn_).frS e93 dn_).ext e120).frS e126 d131)
    have n133 := (t_ e71.n e93.n)
    have d134 := (hb121.djn (m54.lt.le n133))
    have u135 := ((((m54.fr e71 dn_).fr e93 dn_).ext e120).fr e126 d134)
    obtain ⟨y136, hy137, r138⟩ := bs_ r116
    refine ck_ (c_shorts_from e126.wf u130 u132 u135.sq hy137) ?_
    rintro s139 H141 ⟨_, f140, rfl, e142, m143, i144⟩
    obtain ⟨a146, n147, c148, rfl⟩ := m143.form
    have u149 := (((m95.ext e120).fr e126 (hb121.djn m95.lt)).fr e142 dn_)
    obtain ⟨g150, r151⟩ := G_some r138
    obtain ⟨s152, H153, f154, q158, e155, hm156, hf157⟩ := Ow.append (P := Try.prog) 24 e142.wf u149 m143.sq (fun _ _ => rfl) (at_ := #[46, 46]) rfl rfl (by kernel_rfl) (by kernel_rfl) (by decide) (by have := g150; first | omega | (simp only [List.length_cons, List.length_nil] at this ⊢; omega) | (simp at this ⊢; omega))
    obtain ⟨a159, n160, c161, rfl⟩ := hm156.form
    refine s_ek (.slice a159 n160 c161) (by kernel_rfl) (q158) ?_
    refine q_ (.slice a159 n160 c161) (s_nil (k113 _ _ (g_' ?_)))
    obtain ⟨g163, r164⟩ := G_some r151
    refine w_' ((i1 + 1)) (wrap64 (by have := g163; omega)) (q_ (i_ (i1 + 1)) (s_nil ?_))
    have n165 := (t_ (t_ (t_ e93.n e120.n) e126.n) e142.n)
    obtain rfl := oi_ r164
    exact k105 n101 _ _ lt_ ⟨(l0 ++ y136), (i1 + 1), (.slice a159 n160 c161), f154, hn104, ha_, (fs_ e71.wf (fs_ e71.wf (fs_ e71.wf ((fs_ e71.wf (fr_ e71.wf) e93 in_).extR e120) e126 (hb121.fresh e93.n)) e142 in_) e155 (i98.fresh (Nat.le_refl _))), hm156, (Inn.trans (i98.fresh (Nat.le_refl _)) n165 hf157)⟩
   have r166 := ite_f h111 hz103
   refine w_exit (th_exit (th_exit (bl_eq ?_)))
   obtain rfl := oi_ r166
   obtain rfl := it_inr hn104
   exact k88 _ _ ⟨(.slice a106 n107 c108), f97, ha_, (fs_ e71.wf (fr_ e71.wf) e93 in_), m95, (i98.fresh (Nat.le_refl _))⟩
  obtain ⟨s85, f86, hh89, e82, m84, i87⟩ := hM
  obtain ⟨β, rfl⟩ := has_ex hh89
  clear hh89
  obtain ⟨a167, n168, c169, rfl⟩ := m84.form
  refine k61 _ _ (sq_ fun k170 => g_' (q_ (.slice a167 n168 c169) (q_ (.slice a167 n168 c169) (q_ (.nilIface) (s_nil (k170 _ _ ?_))))))
  refine w_ret ?_
  refine br_ [.slice a167 n168 c169, .nilIface] ?_
  have n171 := (t_ (t_ (t_ e15.n e43.n) e53.n) e71.n)
  obtain rfl := oi_ r80
  exact ⟨(.slice a167 n168 c169), f86, (.nilIface), [], rfl, (fs_ wf (fs_ wf (fs_ wf (fs_ wf ((f0_ wf).extR e15) e43 in_) e53 in_) e71 in_) e82 in_), m84, Ev.nil, (i87.fresh n171), in_, Dj.nil_r⟩
 have r172 := ite_f h34 r25
 refine l_' (.bool true) (aBin Try.prog .neq 38 (.tmp 18) (.const .nilIface) (.iface t35 x36) .nilIface) (aBin_nnil (by kernel_rfl)) (s_nil (k33 _ _ ?_))
 refine wb_ true (fun _ => ?_) fun h => by cases h
 refine sq_ fun k173 => g_' (q_ (.iface t35 x36) (q_ (.slice none 0 0) (q_ (.iface t35 x36) (s_nil (k173 _ _ ?_)))))
 refine w_ret (th_ret ?_)
 refine br_ [.slice none 0 0, .iface t35 x36] ?_
 obtain rfl := oi_ r172
 exact ⟨(.slice none 0 0), [], (.iface t35 x36), f27, rfl, ((f0_ wf).extR e15), (Ow.nil (by decide)), m30, in_, (i31.fresh e15.n), dn_⟩
end Go.Vd

/-! (KSd5) -/

set_option maxRecDepth 100000
set_option maxHeartbeats 4000000
set_option linter.unusedVariables false
namespace Go.Vd
open Go.Proofs
attribute [local irreducible] wpSeq wpOrd aWp
theorem c_overlay_without {H : AH} {hd_l : Value} {fp_l : Fp} {l : List (Int × Int × Int)} {v_ : Int} {r : List (Int × Int × Int)}
    (wf : WF H) (h_l : Ow enc_i64_u64_i64 3 H hd_l l fp_l) (hr : z_overlay_without l v_ = some r) :
    ACalls Try.prog 52 #[hd_l, i_ v_] H fun v H' => ∃ (s3 : Value) (f4 : Fp), v = s3 /\ FrS fp_l H H' /\ Ow enc_i64_u64_i64 3 H' s3 r f4 /\ Inn fp_l H f4 := by
 refine ab_ Try.func52 ?_
 unfold z_overlay_without at hr
 refine sq_ fun k6 => g_' (q_ (.slice none 0 0) (s_nil (k6 _ _ (sq_ fun k7 => g_' (q_ (hd_l) (q_ (i_ v_) ?_))))))
 obtain ⟨y8, hy9, r10⟩ := bs_ hr
 refine ck_ (c_overlay_find wf h_l.sq hy9) ?_
 rintro _ H11 ⟨rfl, e12⟩
 refine q_ (.tuple #[i_ y8.1, .bool y8.2]) (q_ (i_ y8.1) (q_ (.bool y8.2) (q_ (i_ y8.1) (q_ (.bool y8.2) (s_nil (k7 _ _ (sq_ fun k13 => sq_ fun k14 => g_' (q_ (.bool y8.2) (q_ (.bool (!y8.2)) (s_nil (k14 _ _ ?_)))))))))))
 refine wb_ ((!y8.2)) (fun h15 => ?_) fun h15 => ?_
 ·have r16 := ite_t h15 r10
  refine sq_ fun k17 => g_' (q_ (hd_l) (q_ (hd_l) (s_nil (k17 _ _ ?_))))
  refine w_ret (th_ret ?_)
  refine br_ [hd_l] ?_
  have u18 := (h_l.fr e12 dn_)
  obtain rfl := oi_ r16
  exact ⟨(hd_l), fp_l, rfl, (fs_ wf (fr_ wf) e12 in_), u18, ir_⟩
 have r19 := ite_bf h15 r10
 refine w_skip (k13 _ _ (sq_ fun k20 => g_' (q_ (hd_l) (q_ (i_ y8.1) (q_ (i_ y8.1) ?_)))))
 obtain ⟨g21, r22⟩ := G_some r19
 refine w_' ((y8.1 + 1)) (wrap64 g21) ?_
 have u23 := (h_l.fr e12 dn_)
 obtain ⟨g24, r25⟩ := G_some r22
 refine s_ck 66 #[hd_l, i_ y8.1, i_ (y8.1 + 1)] (by kernel_rfl) (a_Delete e12.wf u23 g24) ?_
 rintro s26 H27 ⟨f28, e29, hm30, hf31⟩
 obtain ⟨a32, n33, c34, rfl⟩ := hm30.form
 refine q_ (.slice a32 n33 c34) (s_nil (k20 _ _ ?_))
 refine w_ret ?_
 refine br_ [.slice a32 n33 c34] ?_
 obtain rfl := oi_ r25
 exact ⟨(.slice a32 n33 c34), f28, rfl, (fs_ wf (fs_ wf (fr_ wf) e12 in_) e29 ir_), hm30, (Inn.trans ir_ e12.n hf31)⟩
theorem c_overlay_Overlay_Remove {H : AH} {b_o : Nat} {hd_o_ : Value} {fp_o_ : Fp} {o_ : List (Bool × List (Int × Int × Int) × List (Int × Int × Int))} {o_2 : Int} {o_3 : Int} {v_ : Int} {r : Er × List (Bool × List (Int × Int × Int) × List (Int × Int × Int)) × Int × Int}
    (wf : WF H) (h_o_ : Nd enc_i64_u64_i64 3 H hd_o_ o_ fp_o_ []) (h_o : Row H b_o [hd_o_, i_ o_2, i_ o_3]) (dj_fp_o__b_o : Dj fp_o_ [b_o]) (hr : z_overlay_Overlay_Remove o_ o_2 o_3 v_ = some r) :
    ACalls Try.prog 34 #[pt_ b_o 0, i_ v_] H fun v H' => ∃ (v3 : Value) (f4 : Fp) (f7 : Fp), v = v3 /\ FrS ([b_o] ++ fp_o_) H H' /\ Ev 90 129 H' v3 r.1 f4 /\ Nd enc_i64_u64_i64 3 H' hd_o_ r.2.1 f7 [] /\ Row H' b_o [hd_o_, i_ r.2.2.1, i_ r.2.2.2] /\ Inn [] H f4 /\ Inn fp_o_ H f7 /\ Dj f4 f7 := by
 refine ab_ Try.func34 ?_
 unfold z_overlay_Overlay_Remove at hr
 refine sq_ fun k13 => g_' (q_ (.nilIface) (s_nil (k13 _ _ (sq_ fun k14 => sq_ fun k15 => g_' (q_ (pt_ b_o 0) (q_ (.bool false) (s_nil (k15 _ _ ?_))))))))
 refine wb_ false (fun h => by cases h) fun _ => ?_
 refine w_skip (k14 _ _ (sq_ fun k16 => sq_ fun k17 => g_' (q_ (pt_ b_o 0) (q_ (i_ v_) ?_))))
 obtain ⟨y18, hy19, r20⟩ := bs_ hr
 refine ck_ (c_overlay_Overlay_Alive wf h_o_ h_o hy19) ?_
 rintro _ _ ⟨rfl, rfl⟩
 refine q_ (.bool (!y18)) (s_nil (k17 _ _ ?_))
 refine wb_ ((!y18)) (fun h23 => ?_) fun h23 => ?_
 ·have r24 := ite_t h23 r20
  refine sq_ fun k25 => g_' (q_ (.iface 90 (i_ 7)) (q_ (.iface 90 (i_ 7)) (s_nil (k25 _ _ ?_))))
  refine w_ret (th_ret ?_)
  refine br_ [.iface 90 (i_ 7)] ?_
  obtain rfl := oi_ r24
  exact ⟨(.iface 90 (i_ 7)), [], fp_o_, rfl, (fr_ wf), Ev.no, h_o_, h_o, in_, ir_, dn_⟩
 have r26 := ite_bf h23 r20
 refine w_skip (k16 _ _ (sq_ fun k27 => g_' (q_ (pt_ b_o 0) (q_ (pt_ b_o 0) (q_ (pt_ b_o 0) (lr_ 114 0 (hd_o_) h_o (q_ (i_ v_) ?_)))))))
 obtain ⟨g28, r29⟩ := G_some r26
 refine h_o_.ix_ 114 g28.1 g28.2 ?_
 obtain ⟨u30, u31, f32, g33, g34, hl35, hm36, ho37, ho38, d39, d40, d41, hs42, hs43, hs44⟩ := Nd.open2 h_o_ g28.1 g28.2
 have w45 := Inn.sub' (H := H) hs42
 have w46 := Inn.sub' (H := H) hs43
 have w47 := Inn.sub' (H := H) hs44
 obtain ⟨a48, n49, c50, rfl⟩ := ho37.form
 obtain ⟨a51, n52, c53, rfl⟩ := ho38.form
 refine l_' (.agg #[.bool ((gt o_ v_).1), .slice a48 n49 c50, .slice a51 n52 c53]) (aL_ 120 (elp hd_o_ 3 v_.toNat 0) H) (hl35 _ _ _ (by kernel_rfl)) ?_
 refine rk_ wf [.bool false, .slice none 0 0, .slice none 0 0] fun b56 H57 e58 hb59 r60 => ?_
 have u66 := (ho38.ext e58)
 have u67 := (ho37.ext e58)
 obtain ⟨H62, q63, e64, r65⟩ := ra_ 120 0 e58.wf r60 [.bool ((gt o_ v_).1), .slice a48 n49 c50, .slice a51 n52 c53] [.bool ((gt o_ v_).1), .slice a48 n49 c50, .slice a51 n52 c53]
 refine ek_ q63 (s_nil (k27 _ _ (sq_ fun k68 => sq_ fun k69 => g_' (q_ (pt_ b56 1) (lr_ 69 1 (.slice a48 n49 c50) r65 ?_)))))
 have u70 := (u67.fr e64 (hb59.djn ho37.lt))
 refine u70.sq.ln_ 69 (q_ (i_ 0) (s_nil (k69 _ _ ?_)))
 obtain ⟨o71, hx72, r73⟩ := bs_ r29
 refine w_mid (fun α H74 => ∃ (f78 : Fp), Has α [(0, pt_ b_o 0), (1, i_ v_), (5, pt_ b56 0)] /\ FrS f32 H62 H74 /\ Nd enc_i64_u64_i64 3 H74 hd_o_ o71 f78 [(v_.toNat, true), (v_.toNat, false)] /\ Inn f32 H62 f78) (fun _ k80 => ?_) (fun α H74 hM => ?_)
 ·refine w_block ?_
  obtain ⟨n82, hn83⟩ := loopO_iff.1 hx72
  have u96 := ((hm36.ext e58).fr e64 (hb59.djn hm36.lt))
  refine w_loopn (fun n α H84 => ∃ (o0 : List (Bool × List (Int × Int × Int) × List (Int × Int × Int))), ∃ (i1 : Int), ∃ (f88 : Fp), iterO (fun zz_ => z_overlay_Overlay_Remove_l0 o_ v_ zz_.1 zz_.2) n (o0, i1) = some o71 /\ Has α [(0, pt_ b_o 0), (1, i_ v_), (5, pt_ b56 0), (26, .slice a48 n49 c50), (27, i_ (((gt o_ v_).2.1).length : Int)), (28, i_ i1)] /\ FrS f32 H62 H84 /\ Nd enc_i64_u64_i64 3 H84 hd_o_ o0 f88 [(v_.toNat, true), (v_.toNat, false)] /\ Inn f32 H62 f88) n82 ⟨o_, 0, f32, hn83, ha_, (fr_ e64.wf), u96, ir_⟩ ?_
  rintro n82 α H84 ⟨o0, i1, f88, hi91, hh90, e85, m87, i89⟩ K97 k97
  obtain ⟨n92, z93, rfl, hz94, hn95⟩ := iter_succ hi91
  obtain ⟨β, rfl⟩ := has_ex hh90
  clear hh90
  replace hz94 : z_overlay_Overlay_Remove_l0 o_ v_ o0 i1 = some z93 := hz94
  unfold z_overlay_Overlay_Remove_l0 at hz94
  refine sq_ fun k98 => g_' (q_ (.bool (decide (i1 < (((gt o_ v_).2.1).length : Int)))) (s_nil (k98 _ _ (sq_ fun k99 => ?_))))
  refine wc_ (i1 < (((gt o_ v_).2.1).length : Int)) (fun h100 => ?_) fun h100 => ?_
  ·have r101 := ite_t h100 hz94
   refine w_skip (k99 _ _ (sq_ fun k102 => w_block (sq_ fun k103 => g_' ?_)))
   obtain ⟨g104, r105⟩ := G_some r101
   have u106 := (u70.fr e85 d39)
   refine u106.sq.ix_ 69 g104 h100 (le_ 71 0 (.agg #[i_ ((gt ((gt o_ v_).2.1) i1).1), .int .u64 ((gt ((gt o_ v_).2.1) i1).2.1), i_ ((gt ((gt o_ v_).2.1) i1).2.2)]) u106.sq g104 h100 ?_)
   refine rk_ e85.wf [i_ 0, .int .u64 0, i_ 0] fun b107 H108 e109 hb110 r111 => ?_
   obtain ⟨H113, q114, e115, r116⟩ := ra_ 71 0 e109.wf r111 [i_ ((gt ((gt o_ v_).2.1) i1).1), .int .u64 ((gt ((gt o_ v_).2.1) i1).2.1), i_ ((gt ((gt o_ v_).2.1) i1).2.2)] [i_ ((gt ((gt o_ v_).2.1) i1).1), .int .u64 ((gt ((gt o_ v_).2.1) i1).2.1), i_ ((gt ((gt o_ v_).2.1) i1).2.2)]
   refine ek_ q114 (s_nil (k103 _ _ ?_))
   refine w_draw [0, 1, 2, 3, 4, 5, 6, 7, 8, 9, 10, 11, 12, 13, 14, 15, 16, 17, 18, 19] (by kernel_rfl) ?_
   refine e_' (pt_ b_o 0) (e_' (pt_ b_o 0) (e_' (pt_ b_o 0) ?_))
   have d117 := (w45.dj dj_fp_o__b_o h_o.ltF)
   have n118 := (t_ (t_ e58.n e64.n) e85.n)
   have d119 := (hb110.djn (h_o.ltF.le n118))
   have u120 := (((((h_o.ext e58).frS e64 (hb59.djn h_o.ltF)).frS e85 d117).ext e109).frS e115 d119)
   refine d_fl (hd_o_) (x := aL_ 114 (pt_ b_o 0) H113) (by kernel_rfl) (u120.l_) ?_
   refine e_' (pt_ b107 0) ?_
   refine d_fl (i_ ((gt ((gt o_ v_).2.1) i1).1)) (x := aL_ 3 (pt_ b107 0) H113) (by kernel_rfl) (r116.l_) ?_
   refine e_' (pt_ b_o 0) (e_' (pt_ b_o 0) (e_' (pt_ b_o 0) (mr_ 114 0 (hd_o_) u120 (e_' (pt_ b107 0) (mr_ 3 0 (i_ ((gt ((gt o_ v_).2.1) i1).1)) r116 ?_)))))
   obtain ⟨g121, r122⟩ := G_some r105
   have u123 := ((m87.ext e109).fr e115 (hb110.djn m87.lt))
   refine u123.mx_ 114 g121.1 g121.2 (m_' (elp hd_o_ 3 ((gt ((gt o_ v_).2.1) i1).1).toNat 2) (aFieldAddr Try.prog 120 (elp hd_o_ 3 ((gt ((gt o_ v_).2.1) i1).1).toNat 0) 2) (Nd.fldq (d := 2) u123 g121.1 g121.2 (by kernel_rfl)) ?_)
   obtain ⟨g128, r129⟩ := G_some r122
   obtain ⟨u124, u125, hl126, hk127⟩ := Nd.at u123 g121.1 g121.2
   have kd130 : KdS enc_i64_u64_i64 3 H113 u125 ((gt o0 ((gt ((gt o_ v_).2.1) i1).1)).2.2) f88 hd_o_ 3 ((gt ((gt o_ v_).2.1) i1).1).toNat 2 := hk127 true (by have := g128; have := g121.1; have := g28.1; simp; omega)
   obtain ⟨a131, n132, c133, rfl⟩ := kd130.sq.form
   refine m_' (.slice a131 n132 c133) (aL_ 69 (elp hd_o_ 3 ((gt ((gt o_ v_).2.1) i1).1).toNat 2) H113) (hl126 _ _ _ _ (by kernel_rfl)) (e_' (i_ v_) ?_)
   obtain ⟨f135, f136, hh137, ho138, d139, hs140, hs141⟩ := Nd.borrow true u123 g121.1 g121.2 (by have := g128; have := g121.1; have := g28.1; simp; omega) kd130 rfl
   have w142 := Inn.sub' (H := H113) hs140
   have w143 := Inn.sub' (H := H113) hs141
   have hh137 : Nd enc_i64_u64_i64 3 H113 hd_o_ o0 f135 [(((gt ((gt o_ v_).2.1) i1).1).toNat, true), (v_.toNat, true), (v_.toNat, false)] := hh137
   obtain ⟨y144, hy145, r146⟩ := bs_ r129
   refine dk_ (c_overlay_without e115.wf ho138 hy145) ?_
   rintro s147 H149 ⟨_, f148, rfl, e150, m151, i152⟩
   obtain ⟨a154, n155, c156, rfl⟩ := m151.form
   have n157 := (t_ e58.n e64.n)
   have d158 := (i89.dj d117 (h_o.ltF.le n157))
   have n159 := (t_ (t_ (t_ (t_ e58.n e64.n) e85.n) e109.n) e115.n)
   have d160 := (w143.dj d158 (h_o.ltF.le n159))
   have u161 := (u120.frS e150 d160)
   have d162 := (hb110.djn m87.lt)
   have d163 := (w143.dj (Dj.symm d162) (r111.ltF.le e115.n))
   have u164 := (r116.frS e150 d163)
   refine ⟨st_ql (y := aL_ 3 (pt_ b107 0) H149) (by kernel_rfl) (u164.l_) (st_ql (y := aL_ 114 (pt_ b_o 0) H149) (by kernel_rfl) (u161.l_) (st_nil)), ?_⟩
   have u165 := (hh137.fr e150 (Dj.symm d139))
   refine u165.mx_ 114 g121.1 g121.2 (m_' (elp hd_o_ 3 ((gt ((gt o_ v_).2.1) i1).1).toNat 2) (aFieldAddr Try.prog 120 (elp hd_o_ 3 ((gt ((gt o_ v_).2.1) i1).1).toNat 0) 2) (Nd.fldq (d := 2) u165 g121.1 g121.2 (by kernel_rfl)) ?_)
   have d166 := (i152.dj (Dj.symm d139) hh137.lt)
   obtain ⟨H167, f168, q169, e170, hm171, hf172⟩ := Nd.close (P := Try.prog) (t := 69) true e150.wf u165 m151 (Dj.symm d166) g121.1 g121.2 (by kernel_rfl) (by kernel_rfl) (by kernel_rfl)
   have hm171 : Nd enc_i64_u64_i64 3 H167 hd_o_ (o0.set ((gt ((gt o_ v_).2.1) i1).1).toNat ((gt o0 ((gt ((gt o_ v_).2.1) i1).1)).1, (gt o0 ((gt ((gt o_ v_).2.1) i1).1)).2.1, y144)) f168 [(v_.toNat, true), (v_.toNat, false)] := hm171
   have w173 := hf172.grow3 (Inn.trans ir_ (Nat.le_refl _) w142) (Inn.trans (Inn.trans ir_ (Nat.le_refl _) w143) (Nat.le_refl _) i152) e150.n
   refine fk_ q169 (st_anc (by kernel_rfl) (st_anc (by kernel_rfl) (st_nil))) ?_
   refine d_nil ?_
   refine k102 _ _ (g_' ?_)
   obtain ⟨g174, r175⟩ := G_some r146
   refine w_' ((i1 + 1)) (wrap64 (by have := g174; omega)) (q_ (i_ (i1 + 1)) (s_nil ?_))
   have n176 := (t_ (t_ e85.n e109.n) e115.n)
   obtain rfl := oi_ r175
   exact k97 n92 _ _ lt_ ⟨(o0.set ((gt ((gt o_ v_).2.1) i1).1).toNat ((gt o0 ((gt ((gt o_ v_).2.1) i1).1)).1, (gt o0 ((gt ((gt o_ v_).2.1) i1).1)).2.1, y144)), (i1 + 1), f168, hn95, ha_, (fs_ e64.wf (fs_ e64.wf (fs_ e64.wf ((fs_ e64.wf (fr_ e64.wf) e85 ir_).extR e109) e115 (hb110.fresh e85.n)) e150 (Inn.trans (Inn.trans ir_ (Nat.le_refl _) i89) n176 w143)) e170 (Inn.trans (Inn.trans ir_ (Nat.le_refl _) i89) n176 w142)), hm171, (Inn.trans (Inn.trans ir_ (Nat.le_refl _) i89) n176 w173)⟩
  have r177 := ite_f h100 hz94
  refine w_exit (th_exit (th_exit (bl_eq ?_)))
  obtain rfl := oi_ r177
  obtain rfl := it_inr hn95
  exact k80 _ _ ⟨f88, ha_, (fs_ e64.wf (fr_ e64.wf) e85 ir_), m87, (Inn.trans ir_ (Nat.le_refl _) i89)⟩
 obtain ⟨f78, hh81, e75, m77, i79⟩ := hM
 obtain ⟨β, rfl⟩ := has_ex hh81
 clear hh81
 refine k68 _ _ (sq_ fun k178 => sq_ fun k179 => g_' (q_ (pt_ b56 2) ?_))
 have d180 := (hb59.djn hm36.lt)
 have u181 := (r65.frS e75 (Dj.symm d180))
 refine lr_ 69 2 (.slice a51 n52 c53) u181 ?_
 have u182 := ((u66.fr e64 (hb59.djn ho38.lt)).fr e75 d40)
 refine u182.sq.ln_ 69 (q_ (i_ 0) (s_nil (k179 _ _ ?_)))
 obtain ⟨o183, hx184, r185⟩ := bs_ r73
 refine w_mid (fun α H186 => ∃ (f190 : Fp), Has α [(0, pt_ b_o 0), (1, i_ v_), (5, pt_ b56 0)] /\ FrS f78 H74 H186 /\ Nd enc_i64_u64_i64 3 H186 hd_o_ o183 f190 [(v_.toNat, true), (v_.toNat, false)] /\ Inn f78 H74 f190) (fun _ k192 => ?_) (fun α H186 hM => ?_)
 ·refine w_block ?_
  obtain ⟨n194, hn195⟩ := loopO_iff.1 hx184
  refine w_loopn (fun n α H196 => ∃ (o2 : List (Bool × List (Int × Int × Int) × List (Int × Int × Int))), ∃ (i3 : Int), ∃ (f200 : Fp), iterO (fun zz_ => z_overlay_Overlay_Remove_l1 o_ v_ zz_.1 zz_.2) n (o2, i3) = some o183 /\ Has α [(0, pt_ b_o 0), (1, i_ v_), (5, pt_ b56 0), (53, .slice a51 n52 c53), (54, i_ (((gt o_ v_).2.2).length : Int)), (55, i_ i3)] /\ FrS f78 H74 H196 /\ Nd enc_i64_u64_i64 3 H196 hd_o_ o2 f200 [(v_.toNat, true), (v_.toNat, false)] /\ Inn f78 H74 f200) n194 ⟨o71, 0, f78, hn195, ha_, (fr_ e75.wf), m77, ir_⟩ ?_
  rintro n194 α H196 ⟨o2, i3, f200, hi203, hh202, e197, m199, i201⟩ K208 k208
  obtain ⟨n204, z205, rfl, hz206, hn207⟩ := iter_succ hi203
  obtain ⟨β, rfl⟩ := has_ex hh202
  clear hh202
  replace hz206 : z_overlay_Overlay_Remove_l1 o_ v_ o2 i3 = some z205 := hz206
  unfold z_overlay_Overlay_Remove_l1 at hz206
  refine sq_ fun k209 => g_' (q_ (.bool (decide (i3 < (((gt o_ v_).2.2).length : Int)))) (s_nil (k209 _ _ (sq_ fun k210 => ?_))))
  refine wc_ (i3 < (((gt o_ v_).2.2).length : Int)) (fun h211 => ?_) fun h211 => ?_
  ·have r212 := ite_t h211 hz206
   refine w_skip (k210 _ _ (sq_ fun k213 => w_block (sq_ fun k214 => g_' ?_)))
   obtain ⟨g215, r216⟩ := G_some r212
   have n217 := (t_ e58.n e64.n)
   have d218 := (i79.dj d40 (ho38.lt.le n217))
   have u219 := (u182.fr e197 d218)
   refine u219.sq.ix_ 69 g215 h211 (le_ 71 0 (.agg #[i_ ((gt ((gt o_ v_).2.2) i3).1), .int .u64 ((gt ((gt o_ v_).2.2) i3).2.1), i_ ((gt ((gt o_ v_).2.2) i3).2.2)]) u219.sq g215 h211 ?_)
   refine rk_ e197.wf [i_ 0, .int .u64 0, i_ 0] fun b220 H221 e222 hb223 r224 => ?_
   obtain ⟨H226, q227, e228, r229⟩ := ra_ 71 0 e222.wf r224 [i_ ((gt ((gt o_ v_).2.2) i3).1), .int .u64 ((gt ((gt o_ v_).2.2) i3).2.1), i_ ((gt ((gt o_ v_).2.2) i3).2.2)] [i_ ((gt ((gt o_ v_).2.2) i3).1), .int .u64 ((gt ((gt o_ v_).2.2) i3).2.1), i_ ((gt ((gt o_ v_).2.2) i3).2.2)]
   refine ek_ q227 (s_nil (k214 _ _ ?_))
   refine w_draw [0, 1, 2, 3, 4, 5, 6, 7, 8, 9, 10, 11, 12, 13, 14, 15, 16, 17, 18, 19] (by kernel_rfl) ?_
   refine e_' (pt_ b_o 0) (e_' (pt_ b_o 0) (e_' (pt_ b_o 0) ?_))
   have d230 := (w45.dj dj_fp_o__b_o h_o.ltF)
   have d231 := (i79.dj d230 (h_o.ltF.le n217))
   have n232 := (t_ (t_ (t_ e58.n e64.n) e75.n) e197.n)
   have d233 := (hb223.djn (h_o.ltF.le n232))
   have u234 := ((((((h_o.ext e58).frS e64 (hb59.djn h_o.ltF)).frS e75 d230).frS e197 d231).ext e222).frS e228 d233)
   refine d_fl (hd_o_) (x := aL_ 114 (pt_ b_o 0) H226) (by kernel_rfl) (u234.l_) ?_
   refine e_' (pt_ b220 0) ?_
   refine d_fl (i_ ((gt ((gt o_ v_).2.2) i3).1)) (x := aL_ 3 (pt_ b220 0) H226) (by kernel_rfl) (r229.l_) ?_
   refine e_' (pt_ b_o 0) (e_' (pt_ b_o 0) (e_' (pt_ b_o 0) (mr_ 114 0 (hd_o_) u234 (e_' (pt_ b220 0) (mr_ 3 0 (i_ ((gt ((gt o_ v_).2.2) i3).1)) r229 ?_)))))
   obtain ⟨g235, r236⟩ := G_some r216
   have u237 := ((m199.ext e222).fr e228 (hb223.djn m199.lt))
   refine u237.mx_ 114 g235.1 g235.2 (m_' (elp hd_o_ 3 ((gt ((gt o_ v_).2.2) i3).1).toNat 1) (aFieldAddr Try.prog 120 (elp hd_o_ 3 ((gt ((gt o_ v_).2.2) i3).1).toNat 0) 1) (Nd.fldq (d := 1) u237 g235.1 g235.2 (by kernel_rfl)) ?_)
   obtain ⟨g242, r243⟩ := G_some r236
   obtain ⟨u238, u239, hl240, hk241⟩ := Nd.at u237 g235.1 g235.2
   have kd244 : KdS enc_i64_u64_i64 3 H226 u238 ((gt o2 ((gt ((gt o_ v_).2.2) i3).1)).2.1) f200 hd_o_ 3 ((gt ((gt o_ v_).2.2) i3).1).toNat 1 := hk241 false (by have := g242; have := g235.1; have := g28.1; simp; omega)
   obtain ⟨a245, n246, c247, rfl⟩ := kd244.sq.form
   refine m_' (.slice a245 n246 c247) (aL_ 69 (elp hd_o_ 3 ((gt ((gt o_ v_).2.2) i3).1).toNat 1) H226) (hl240 _ _ _ _ (by kernel_rfl)) (e_' (i_ v_) ?_)
   obtain ⟨f249, f250, hh251, ho252, d253, hs254, hs255⟩ := Nd.borrow false u237 g235.1 g235.2 (by have := g242; have := g235.1; have := g28.1; simp; omega) kd244 rfl
   have w256 := Inn.sub' (H := H226) hs254
   have w257 := Inn.sub' (H := H226) hs255
   have hh251 : Nd enc_i64_u64_i64 3 H226 hd_o_ o2 f249 [(((gt ((gt o_ v_).2.2) i3).1).toNat, false), (v_.toNat, true), (v_.toNat, false)] := hh251
   obtain ⟨y258, hy259, r260⟩ := bs_ r243
   refine dk_ (c_overlay_without e228.wf ho252 hy259) ?_
   rintro s261 H263 ⟨_, f262, rfl, e264, m265, i266⟩
   obtain ⟨a268, n269, c270, rfl⟩ := m265.form
   have n271 := (t_ (t_ e58.n e64.n) e75.n)
   have d272 := (i201.dj d231 (h_o.ltF.le n271))
   have n273 := (t_ (t_ (t_ (t_ (t_ e58.n e64.n) e75.n) e197.n) e222.n) e228.n)
   have d274 := (w257.dj d272 (h_o.ltF.le n273))
   have u275 := (u234.frS e264 d274)
   have d276 := (hb223.djn m199.lt)
   have d277 := (w257.dj (Dj.symm d276) (r224.ltF.le e228.n))
   have u278 := (r229.frS e264 d277)
   refine ⟨st_ql (y := aL_ 3 (pt_ b220 0) H263) (by kernel_rfl) (u278.l_) (st_ql (y := aL_ 114 (pt_ b_o 0) H263) (by kernel_rfl) (u275.l_) (st_nil)), ?_⟩
   have u279 := (hh251.fr e264 (Dj.symm d253))
   refine u279.mx_ 114 g235.1 g235.2 (m_' (elp hd_o_ 3 ((gt ((gt o_ v_).2.2) i3).1).toNat 1) (aFieldAddr Try.prog 120 (elp hd_o_ 3 ((gt ((gt o_ v_).2.2) i3).1).toNat 0) 1) (Nd.fldq (d := 1) u279 g235.1 g235.2 (by kernel_rfl)) ?_)
   have d280 := (i266.dj (Dj.symm d253) hh251.lt)
   obtain ⟨H281, f282, q283, e284, hm285, hf286⟩ := Nd.close (P := Try.prog) (t := 69) false e264.wf u279 m265 (Dj.symm d280) g235.1 g235.2 (by kernel_rfl) (by kernel_rfl) (by kernel_rfl)
   have hm285 : Nd enc_i64_u64_i64 3 H281 hd_o_ (o2.set ((gt ((gt o_ v_).2.2) i3).1).toNat ((gt o2 ((gt ((gt o_ v_).2.2) i3).1)).1, y258, (gt o2 ((gt ((gt o_ v_).2.2) i3).1)).2.2)) f282 [(v_.toNat, true), (v_.toNat, false)] := hm285
   have w287 := hf286.grow3 (Inn.trans ir_ (Nat.le_refl _) w256) (Inn.trans (Inn.trans ir_ (Nat.le_refl _) w257) (Nat.le_refl _) i266) e264.n
   refine fk_ q283 (st_anc (by kernel_rfl) (st_anc (by kernel_rfl) (st_nil))) ?_
   refine d_nil ?_
   refine k213 _ _ (g_' ?_)
   obtain ⟨g288, r289⟩ := G_some r260
   refine w_' ((i3 + 1)) (wrap64 (by have := g288; omega)) (q_ (i_ (i3 + 1)) (s_nil ?_))
   have n290 := (t_ (t_ e197.n e222.n) e228.n)
   obtain rfl := oi_ r289
   exact k208 n204 _ _ lt_ ⟨(o2.set ((gt ((gt o_ v_).2.2) i3).1).toNat ((gt o2 ((gt ((gt o_ v_).2.2) i3).1)).1, y258, (gt o2 ((gt ((gt o_ v_).2.2) i3).1)).2.2)), (i3 + 1), f282, hn207, ha_, (fs_ e75.wf (fs_ e75.wf (fs_ e75.wf ((fs_ e75.wf (fr_ e75.wf) e197 ir_).extR e222) e228 (hb223.fresh e197.n)) e264 (Inn.trans (Inn.trans ir_ (Nat.le_refl _) i201) n290 w257)) e284 (Inn.trans (Inn.trans ir_ (Nat.le_refl _) i201) n290 w256)), hm285, (Inn.trans (Inn.trans ir_ (Nat.le_refl _) i201) n290 w287)⟩
  have r291 := ite_f h211 hz206
  refine w_exit (th_exit (th_exit (bl_eq ?_)))
  obtain rfl := oi_ r291
  obtain rfl := it_inr hn207
  exact k192 _ _ ⟨f200, ha_, (fs_ e75.wf (fr_ e75.wf) e197 ir_), m199, (Inn.trans ir_ (Nat.le_refl _) i201)⟩
 obtain ⟨f190, hh193, e187, m189, i191⟩ := hM
 obtain ⟨β, rfl⟩ := has_ex hh193
 clear hh193
 refine k178 _ _ (sq_ fun k292 => ?_)
 refine w_draw [0, 1, 2, 3, 4, 5, 6, 7, 8, 9, 10, 11, 12, 13, 14] (by kernel_rfl) ?_
 refine e_' (pt_ b_o 0) (e_' (pt_ b_o 0) (e_' (pt_ b_o 2) ?_))
 have d293 := (w45.dj dj_fp_o__b_o h_o.ltF)
 have n294 := (t_ e58.n e64.n)
 have d295 := (i79.dj d293 (h_o.ltF.le n294))
 have u296 := ((((h_o.ext e58).frS e64 (hb59.djn h_o.ltF)).frS e75 d293).frS e187 d295)
 refine mr_ 3 2 (i_ o_3) u296 (e_' (pt_ b56 1) ?_)
 have d297 := (i79.dj (Dj.symm d180) (r60.ltF.le e64.n))
 have u298 := (u181.frS e187 d297)
 refine mr_ 69 1 (.slice a48 n49 c50) u298 ?_
 have d299 := (i79.dj d39 (ho37.lt.le n294))
 have u300 := ((u70.fr e75 d39).fr e187 d299)
 refine u300.sq.mn_ 69 (e_' (pt_ b56 2) (mr_ 69 2 (.slice a51 n52 c53) u298 ?_))
 have d301 := (i79.dj d40 (ho38.lt.le n294))
 have u302 := (u182.fr e187 d301)
 refine u302.sq.mn_ 69 ?_
 obtain ⟨g303, r304⟩ := G_some r185
 refine d_w (((((gt o_ v_).2.1).length : Int) + (((gt o_ v_).2.2).length : Int))) (k := .i64) (x := ((((gt o_ v_).2.1).length : Int) + (((gt o_ v_).2.2).length : Int))) (by kernel_rfl) (wrap64 g303) ?_
 obtain ⟨g305, r306⟩ := G_some r304
 refine d_w ((o_3 - ((((gt o_ v_).2.1).length : Int) + (((gt o_ v_).2.2).length : Int)))) (k := .i64) (x := (o_3 - ((((gt o_ v_).2.1).length : Int) + (((gt o_ v_).2.2).length : Int)))) (by kernel_rfl) (wrap64 g305) ?_
 refine e_' (pt_ b_o 0) (e_' (pt_ b_o 2) ?_)
 obtain ⟨H307, q308, e309, r310⟩ := rb_ 3 2 e187.wf u296 (i_ (o_3 - ((((gt o_ v_).2.1).length : Int) + (((gt o_ v_).2.2).length : Int)))) [hd_o_, i_ o_2, i_ (o_3 - ((((gt o_ v_).2.1).length : Int) + (((gt o_ v_).2.2).length : Int)))]
 refine fk_ q308 (st_nil) ?_
 refine d_nil ?_
 refine k292 _ _ (sq_ fun k311 => g_' (q_ (pt_ b_o 0) (q_ (pt_ b_o 0) (q_ (pt_ b_o 1) (lr_ 3 1 (i_ o_2) r310 ?_)))))
 obtain ⟨g312, r313⟩ := G_some r306
 refine w_' ((o_2 - 1)) (wrap64 g312) (q_ (pt_ b_o 0) (q_ (pt_ b_o 1) ?_))
 obtain ⟨H314, q315, e316, r317⟩ := rb_ 3 1 e309.wf r310 (i_ (o_2 - 1)) [hd_o_, i_ (o_2 - 1), i_ (o_3 - ((((gt o_ v_).2.1).length : Int) + (((gt o_ v_).2.2).length : Int)))]
 refine ek_ q315 (s_nil (k311 _ _ (sq_ fun k318 => g_' (q_ (pt_ b_o 0) (q_ (pt_ b_o 0) (q_ (pt_ b_o 0) (lr_ 114 0 (hd_o_) r317 (q_ (i_ v_) (q_ (.agg #[.bool true, .slice none 0 0, .slice none 0 0]) ?_)))))))))
 obtain ⟨g319, r320⟩ := G_some r313
 have n321 := (t_ (t_ e58.n e64.n) e75.n)
 have d322 := (i191.dj d295 (h_o.ltF.le n321))
 have u323 := ((m189.fr e309 (Dj.symm d322)).fr e316 (Dj.symm d322))
 refine u323.ix_ 114 g28.1 g319 ?_
 obtain ⟨H324, q325, e326, hm327⟩ := Nd.clearAt (P := Try.prog) (t := 120) (v := .agg #[.bool true, .slice none 0 0, .slice none 0 0]) (b0 := true) (hol' := []) e316.wf u323 (by decide) g28.1 g319 (by kernel_rfl) (by kernel_rfl) (by simp)
 refine ek_ q325 (s_nil (k318 _ _ (sq_ fun k328 => g_' (q_ (.nilIface) (s_nil (k328 _ _ ?_))))))
 refine w_ret ?_
 refine br_ [.nilIface] ?_
 have u329 := (r317.frS e326 d322)
 obtain rfl := oi_ r320
 exact ⟨(.nilIface), [], f190, rfl, (fs_ wf (fs_ wf (fs_ wf (fs_ wf (fs_ wf (fs_ wf ((fr_ wf).extR e58) e64 (hb59.fresh (Nat.le_refl _))) e75 (Inn.trans (Inn.right ir_) (Nat.le_refl _) w45)) e187 (Inn.trans (Inn.trans (Inn.right ir_) (Nat.le_refl _) w45) n294 i79)) e309 Inn.left) e316 Inn.left) e326 (Inn.trans (Inn.trans (Inn.trans (Inn.right ir_) (Nat.le_refl _) w45) n294 i79) n321 i191)), Ev.nil, hm327, u329, in_, (Inn.trans (Inn.trans (Inn.trans ir_ (Nat.le_refl _) w45) n294 i79) n321 i191), dn_⟩
theorem c_overlay_laid {H : AH} {hd_l : Value} {fp_l : Fp} {l : List (Int × Int × Int)} {Node : Int} {Weight : Int} {Via : Int} {r : List (Int × Int × Int)}
    (wf : WF H) (h_l : Ow enc_i64_u64_i64 3 H hd_l l fp_l) (hr : z_overlay_laid l Node Weight Via = some r) :
    ACalls Try.prog 50 #[hd_l, .agg #[i_ Node, .int .u64 Weight, i_ Via]] H fun v H' => ∃ (s3 : Value) (f4 : Fp), v = s3 /\ FrS fp_l H H' /\ Ow enc_i64_u64_i64 3 H' s3 r f4 /\ Inn fp_l H f4 := by
 refine ab_ Try.func50 ?_
 unfold z_overlay_laid at hr
 refine sq_ fun k6 => g_' ?_
 refine rl_ wf [i_ Node, .int .u64 Weight, i_ Via] fun b7 H8 e9 hb10 r11 => ?_
 refine q_ (.slice none 0 0) (s_nil (k6 _ _ (sq_ fun k13 => g_' (q_ (hd_l) (q_ (pt_ b7 0) (lr_ 3 0 (i_ Node) r11 ?_))))))
 have u14 := (h_l.ext e9)
 obtain ⟨y15, hy16, r17⟩ := bs_ hr
 refine ck_ (c_overlay_find e9.wf u14.sq hy16) ?_
 rintro _ H18 ⟨rfl, e19⟩
 refine q_ (.tuple #[i_ y15.1, .bool y15.2]) (q_ (i_ y15.1) (q_ (.bool y15.2) (q_ (i_ y15.1) (q_ (.bool y15.2) (s_nil (k13 _ _ (sq_ fun k20 => sq_ fun k21 => g_' (q_ (.bool y15.2) (s_nil (k21 _ _ ?_))))))))))
 refine wb_ (y15.2) (fun h22 => ?_) fun h22 => ?_
 ·have r23 := ite_t h22 r17
  refine sq_ fun k24 => g_' (q_ (hd_l) (q_ (i_ y15.1) ?_))
  have u25 := (r11.frS e19 dn_)
  refine lr_ 71 0 (.agg #[i_ Node, .int .u64 Weight, i_ Via]) u25 ?_
  obtain ⟨g26, r27⟩ := G_some r23
  have u28 := (u14.fr e19 dn_)
  refine u28.sq.ix_ 69 g26.1 g26.2 ?_
  obtain ⟨H29, q30, e31, hm32⟩ := Ow.store (P := Try.prog) (t := 71) (off := 0) e19.wf u28 g26.1 g26.2 (.agg #[i_ Node, .int .u64 Weight, i_ Via]) [i_ Node, .int .u64 Weight, i_ Via] (by kernel_rfl) (by kernel_rfl) rfl (Node, Weight, Via) (Nat.le_of_ble_eq_true rfl) (by kernel_rfl)
  refine ek_ q30 (s_nil (k24 _ _ (sq_ fun k33 => g_' (q_ (hd_l) (q_ (hd_l) (s_nil (k33 _ _ ?_)))))))
  refine w_ret (th_ret ?_)
  refine br_ [hd_l] ?_
  obtain rfl := oi_ r27
  exact ⟨(hd_l), fp_l, rfl, (fs_ wf (fs_ wf ((fr_ wf).extR e9) e19 in_) e31 ir_), hm32, ir_⟩
 have r34 := ite_bf h22 r17
 refine w_skip (k20 _ _ (sq_ fun k35 => g_' (q_ (hd_l) (q_ (i_ y15.1) ?_))))
 have u36 := (r11.frS e19 dn_)
 refine lr_ 71 0 (.agg #[i_ Node, .int .u64 Weight, i_ Via]) u36 ?_
 refine s_owk (enc := enc_i64_u64_i64) (sz := 3) e19.wf [(Node, Weight, Via)] 1 (by decide) (fun _ _ => rfl) (fun _ _ => rfl) rfl (by kernel_rfl) fun s37 f38 H39 e40 hf41 hm42 => ?_
 obtain ⟨a43, n44, c45, rfl⟩ := hm42.form
 have u47 := ((u14.fr e19 dn_).ext e40)
 obtain ⟨g48, r49⟩ := G_some r34
 have n50 := (t_ e9.n e19.n)
 have d51 := (hf41.djn (h_l.lt.le n50))
 refine s_ck 65 #[hd_l, i_ y15.1, .slice a43 n44 c45] (by kernel_rfl) (a_Insert e40.wf u47 hm42 (Dj.symm d51) g48) ?_
 rintro s52 H53 ⟨f54, e55, hm56, hf57⟩
 obtain ⟨a58, n59, c60, rfl⟩ := hm56.form
 refine q_ (.slice a58 n59 c60) (s_nil (k35 _ _ ?_))
 refine w_ret ?_
 refine br_ [.slice a58 n59 c60] ?_
 have n62 := (t_ (t_ e9.n e19.n) e40.n)
 obtain rfl := oi_ r49
 exact ⟨(.slice a58 n59 c60), f54, rfl, (fs_ wf ((fs_ wf ((fr_ wf).extR e9) e19 in_).extR e40) e55 ir_), hm56, (Inn.trans ir_ n62 hf57)⟩
theorem c_overlay_Overlay_Put {H : AH} {b_o : Nat} {hd_o_ : Value} {fp_o_ : Fp} {o_ : List (Bool × List (Int × Int × Int) × List (Int × Int × Int))} {o_2 : Int} {o_3 : Int} {u : Int} {w : Int} {weight : Int} {via : Int} {r : Bool × Er × List (Bool × List (Int × Int × Int) × List (Int × Int × Int)) × Int}
    (wf : WF H) (h_o_ : Nd enc_i64_u64_i64 3 H hd_o_ o_ fp_o_ []) (h_o : Row H b_o [hd_o_, i_ o_2, i_ o_3]) (dj_b_o_fp_o_ : Dj [b_o] fp_o_) (hr : z_overlay_Overlay_Put o_ o_2 o_3 u w weight via = some r) :
    ACalls Try.prog 30 #[pt_ b_o 0, i_ u, i_ w, .int .u64 weight, i_ via] H fun v H' => ∃ (v3 : Value) (f4 : Fp) (f7 : Fp), v = .tuple #[.bool r.1, v3] /\ FrS ([b_o] ++ fp_o_) H H' /\ Ev 90 129 H' v3 r.2.1 f4 /\ Nd enc_i64_u64_i64 3 H' hd_o_ r.2.2.1 f7 [] /\ Row H' b_o [hd_o_, i_ o_2, i_ r.2.2.2] /\ Inn [] H f4 /\ Inn fp_o_ H f7 /\ Dj f4 f7 := by
 refine ab_ Try.func30 ?_
 unfold z_overlay_Overlay_Put at hr
 refine sq_ fun k13 => g_' (q_ (.bool false) (q_ (.nilIface) (s_nil (k13 _ _ (sq_ fun k14 => w_block (sq_ fun k15 => g_' (q_ (pt_ b_o 0) (q_ (.bool false) (q_ (.bool false) (s_nil (k15 _ _ ?_)))))))))))
 refine wb_ false (fun h => by cases h) fun _ => ?_
 refine sq_ fun k16 => ?_
 obtain ⟨o17, hx18, r19⟩ := bs_ hr
 refine w_mid (fun α H20 => Has α [(0, pt_ b_o 0), (1, i_ u), (2, i_ w), (3, .int .u64 weight), (4, i_ via), (18, .bool o17)] /\ H = H20) (fun _ k22 => ?_) (fun α H20 hM => ?_)
 ·refine g_' (q_ (pt_ b_o 0) (q_ (i_ u) ?_))
  obtain ⟨y24, hy25, r26⟩ := bs_ hx18
  refine ck_ (c_overlay_Overlay_Alive wf h_o_ h_o hy25) ?_
  rintro _ _ ⟨rfl, rfl⟩
  by_cases h29 : y24 = true
  ·have r30 := ite_t h29 r26
   rw [h29]
   refine q_ (.bool false) (q_ (.bool false) (q_ (pt_ b_o 0) (q_ (i_ w) ?_)))
   obtain ⟨y32, hy33, r34⟩ := bs_ r30
   refine ck_ (c_overlay_Overlay_Alive wf h_o_ h_o hy33) ?_
   rintro _ _ ⟨rfl, rfl⟩
   refine q_ (.bool (!y32)) (q_ (.bool (!y32)) (q_ (.bool (!y32)) (s_nil ?_)))
   obtain rfl := oi_ r34
   exact k22 _ _ ⟨ha_, rfl⟩
  have r37 := ite_f h29 r26
  rw [nb h29]
  refine q_ (.bool true) (q_ (.bool true) (n_' (n_' (n_' (n_' (q_ (.bool true) (q_ (.bool true) (s_nil ?_))))))))
  obtain rfl := oi_ r37
  exact k22 _ _ ⟨ha_, rfl⟩
 obtain ⟨hh23, rfl⟩ := hM
 obtain ⟨β, rfl⟩ := has_ex hh23
 clear hh23
 refine k16 _ _ ?_
 refine wb_ (o17) (fun h39 => ?_) fun h39 => ?_
 ·have r40 := ite_t h39 r19
  refine sq_ fun k41 => g_' (q_ (.iface 90 (i_ 7)) (q_ (.bool false) (q_ (.iface 90 (i_ 7)) (s_nil (k41 _ _ ?_)))))
  refine w_ret (bl_ret (th_ret ?_))
  refine br_ [.bool false, .iface 90 (i_ 7)] ?_
  obtain rfl := oi_ r40
  exact ⟨(.iface 90 (i_ 7)), [], fp_o_, rfl, (fr_ wf), Ev.no, h_o_, h_o, in_, ir_, dn_⟩
 have r42 := ite_bf h39 r19
 refine sq_ fun k43 => g_' (q_ (i_ u) (q_ (i_ w) (q_ (.bool (decide (u = w))) (q_ (.bool (decide (u = w))) (s_nil (k43 _ _ ?_))))))
 refine wc_ (u = w) (fun h44 => ?_) fun h44 => ?_
 ·have r45 := ite_t h44 r42
  refine sq_ fun k46 => g_' (q_ (.iface 90 (i_ 1)) (q_ (.bool false) (q_ (.iface 90 (i_ 1)) (s_nil (k46 _ _ ?_)))))
  refine w_ret (bl_ret (th_ret ?_))
  refine br_ [.bool false, .iface 90 (i_ 1)] ?_
  obtain rfl := oi_ r45
  exact ⟨(.iface 90 (i_ 1)), [], fp_o_, rfl, (fr_ wf), Ev.no, h_o_, h_o, in_, ir_, dn_⟩
 have r47 := ite_f h44 r42
 refine sq_ fun k48 => g_' (q_ (.int .u64 weight) (q_ (.bool (decide (weight > 140737488355328))) (q_ (.bool (decide (weight > 140737488355328))) (s_nil (k48 _ _ ?_)))))
 refine wc_ (weight > 140737488355328) (fun h49 => ?_) fun h49 => ?_
 ·have r50 := ite_t h49 r47
  refine sq_ fun k51 => g_' (q_ (.iface 90 (i_ 8)) (q_ (.bool false) (q_ (.iface 90 (i_ 8)) (s_nil (k51 _ _ ?_)))))
  refine w_ret (bl_ret (th_ret ?_))
  refine br_ [.bool false, .iface 90 (i_ 8)] ?_
  obtain rfl := oi_ r50
  exact ⟨(.iface 90 (i_ 8)), [], fp_o_, rfl, (fr_ wf), Ev.no, h_o_, h_o, in_, ir_, dn_⟩
 have r52 := ite_f h49 r47
 refine sq_ fun k53 => ?_
 obtain ⟨o54, hx55, r56⟩ := bs_ r52
 refine w_mid (fun α H57 => Has α [(0, pt_ b_o 0), (1, i_ u), (2, i_ w), (3, .int .u64 weight), (4, i_ via), (39, .bool o54)] /\ H = H57) (fun _ k59 => ?_) (fun α H57 hM => ?_)
 ·refine g_' (q_ (i_ via) ?_)
  refine sb_ (via < (-1)) (fun h61 => ?_) fun h61 => ?_
  ·have r62 := ite_t h61 hx55
   refine q_ (.bool true) (n_' (n_' (n_' (n_' (n_' (n_' (n_' (q_ (.bool true) (q_ (.bool true) (n_' (n_' (n_' (n_' (n_' (n_' (n_' (n_' (n_' (n_' (n_' (n_' (n_' (q_ (.bool true) (q_ (.bool true) (s_nil ?_)))))))))))))))))))))))))
   obtain rfl := oi_ r62
   exact k59 _ _ ⟨ha_, rfl⟩
  have r63 := ite_f h61 hx55
  refine q_ (.bool false) (q_ (i_ via) (q_ (pt_ b_o 0) (q_ (pt_ b_o 0) (q_ (pt_ b_o 0) (lr_ 114 0 (hd_o_) h_o (h_o_.ln_ 114 ?_))))))
  refine sb_ (via ≥ (o_.length : Int)) (fun h64 => ?_) fun h64 => ?_
  ·have r65 := ite_t h64 r63
   refine q_ (.bool true) (q_ (.bool true) (n_' (n_' (n_' (n_' (n_' (n_' (n_' (n_' (n_' (n_' (n_' (n_' (n_' (q_ (.bool true) (q_ (.bool true) (s_nil ?_)))))))))))))))))
   obtain rfl := oi_ r65
   exact k59 _ _ ⟨ha_, rfl⟩
  have r66 := ite_f h64 r63
  refine q_ (.bool false) (q_ (.bool false) (q_ (i_ via) ?_))
  refine sb_ (via ≥ 0) (fun h67 => ?_) fun h67 => ?_
  ·have r68 := ite_t h67 r66
   refine q_ (.bool true) (q_ (pt_ b_o 0) (q_ (pt_ b_o 0) (q_ (pt_ b_o 0) (lr_ 114 0 (hd_o_) h_o (q_ (i_ via) ?_)))))
   obtain ⟨g69, r70⟩ := G_some r68
   refine h_o_.ix_ 114 g69.1 g69.2 (l_' (elp hd_o_ 3 via.toNat 0) (aFieldAddr Try.prog 120 (elp hd_o_ 3 via.toNat 0) 0) (Nd.fldq (d := 0) h_o_ g69.1 g69.2 (by kernel_rfl)) ?_)
   obtain ⟨u71, u72, hl73, hk74⟩ := Nd.at h_o_ g69.1 g69.2
   refine l_' (.bool ((gt o_ via).1)) (aL_ 4 (elp hd_o_ 3 via.toNat 0) H) (hl73 _ _ _ _ (by kernel_rfl)) (q_ (.bool (!(gt o_ via).1)) (q_ (.bool (!(gt o_ via).1)) (q_ (.bool (!(gt o_ via).1)) (q_ (.bool (!(gt o_ via).1)) (s_nil ?_)))))
   obtain rfl := oi_ r70
   exact k59 _ _ ⟨ha_, rfl⟩
  have r75 := ite_f h67 r66
  refine q_ (.bool false) (n_' (n_' (n_' (n_' (n_' (n_' (n_' (n_' (n_' (q_ (.bool false) (q_ (.bool false) (q_ (.bool false) (s_nil ?_)))))))))))))
  obtain rfl := oi_ r75
  exact k59 _ _ ⟨ha_, rfl⟩
 obtain ⟨hh60, rfl⟩ := hM
 obtain ⟨β, rfl⟩ := has_ex hh60
 clear hh60
 refine k53 _ _ ?_
 refine wb_ (o54) (fun h76 => ?_) fun h76 => ?_
 ·have r77 := ite_t h76 r56
  refine sq_ fun k78 => g_' (q_ (.iface 90 (i_ 1)) (q_ (.bool false) (q_ (.iface 90 (i_ 1)) (s_nil (k78 _ _ ?_)))))
  refine w_ret (bl_ret (th_ret ?_))
  refine br_ [.bool false, .iface 90 (i_ 1)] ?_
  obtain rfl := oi_ r77
  exact ⟨(.iface 90 (i_ 1)), [], fp_o_, rfl, (fr_ wf), Ev.no, h_o_, h_o, in_, ir_, dn_⟩
 have r79 := ite_bf h76 r56
 refine w_skip (k14 _ _ (sq_ fun k80 => g_' (q_ (pt_ b_o 0) (q_ (i_ u) (q_ (i_ w) ?_)))))
 obtain ⟨y81, hy82, r83⟩ := bs_ r79
 refine ck_ (c_overlay_Overlay_Weight wf h_o_ h_o hy82) ?_
 rintro _ H84 ⟨rfl, e85⟩
 refine q_ (.tuple #[.int .u64 y81.1, .bool y81.2]) (q_ (.int .u64 y81.1) (q_ (.bool y81.2) (q_ (.int .u64 y81.1) (q_ (.bool y81.2) (s_nil (k80 _ _ (sq_ fun k86 => sq_ fun k87 => ?_)))))))
 obtain ⟨o88, hx89, r90⟩ := bs_ r83
 refine w_mid (fun α H91 => Has α [(0, pt_ b_o 0), (1, i_ u), (2, i_ w), (3, .int .u64 weight), (4, i_ via), (13, .bool o88.1), (79, .bool o88.2)] /\ H84 = H91) (fun _ k93 => ?_) (fun α H91 hM => ?_)
 ·refine g_' (q_ (.bool y81.2) (q_ (.bool y81.2) ?_))
  by_cases h95 : y81.2 = true
  ·have r96 := ite_t h95 hx89
   rw [h95]
   refine q_ (.int .u64 y81.1) (q_ (.int .u64 weight) (q_ (.bool (decide (y81.1 ≤ weight))) (q_ (.bool (decide (y81.1 ≤ weight))) (s_nil ?_))))
   obtain rfl := oi_ r96
   exact k93 _ _ ⟨ha_, rfl⟩
  have r97 := ite_f h95 hx89
  rw [nb h95]
  refine n_' (n_' (n_' (q_ (.bool false) (s_nil ?_))))
  obtain rfl := oi_ r97
  exact k93 _ _ ⟨ha_, rfl⟩
 obtain ⟨hh94, rfl⟩ := hM
 obtain ⟨β, rfl⟩ := has_ex hh94
 clear hh94
 refine k87 _ _ ?_
 refine wb_ (o88.2) (fun h98 => ?_) fun h98 => ?_
 ·have r99 := ite_t h98 r90
  refine sq_ fun k100 => g_' (q_ (.bool false) (q_ (.nilIface) (s_nil (k100 _ _ ?_))))
  refine w_ret (th_ret ?_)
  refine br_ [.bool false, .nilIface] ?_
  have u101 := (h_o_.fr e85 dn_)
  have u102 := (h_o.frS e85 dn_)
  obtain rfl := oi_ r99
  exact ⟨(.nilIface), [], fp_o_, rfl, (fs_ wf (fr_ wf) e85 in_), Ev.nil, u101, u102, in_, ir_, dn_⟩
 have r103 := ite_bf h98 r90
 refine w_skip (k86 _ _ (sq_ fun k104 => sq_ fun k105 => g_' (q_ (.bool o88.1) (q_ (.bool (!o88.1)) (s_nil (k105 _ _ ?_))))))
 obtain ⟨o106, hx107, r108⟩ := bs_ r103
 refine w_mid (fun α H109 => Has α [(0, pt_ b_o 0), (1, i_ u), (2, i_ w), (3, .int .u64 weight), (4, i_ via)] /\ FrS [b_o] H84 H109 /\ Row H109 b_o [hd_o_, i_ o_2, i_ o106]) (fun _ k113 => ?_) (fun α H109 hM => ?_)
 ·refine wb_ ((!o88.1)) (fun h115 => ?_) fun h115 => ?_
  ·have r116 := ite_t h115 hx107
   refine g_' (q_ (pt_ b_o 0) (q_ (pt_ b_o 0) (q_ (pt_ b_o 2) ?_)))
   have u117 := (h_o.frS e85 dn_)
   refine lr_ 3 2 (i_ o_3) u117 ?_
   obtain ⟨g118, r119⟩ := G_some r116
   refine w_' ((o_3 + 1)) (wrap64 g118) (q_ (pt_ b_o 0) (q_ (pt_ b_o 2) ?_))
   obtain ⟨H120, q121, e122, r123⟩ := rb_ 3 2 e85.wf u117 (i_ (o_3 + 1)) [hd_o_, i_ o_2, i_ (o_3 + 1)]
   refine ek_ q121 (s_nil ?_)
   obtain rfl := oi_ r119
   exact k113 _ _ ⟨ha_, (fs_ e85.wf (fr_ e85.wf) e122 ir_), r123⟩
  have r124 := ite_bf h115 hx107
  refine w_skip ?_
  have u125 := (h_o.frS e85 dn_)
  obtain rfl := oi_ r124
  exact k113 _ _ ⟨ha_, (fr_ e85.wf), u125⟩
 obtain ⟨hh114, e110, m112⟩ := hM
 obtain ⟨β, rfl⟩ := has_ex hh114
 clear hh114
 refine k104 _ _ (sq_ fun k126 => ?_)
 refine w_draw [0, 1, 2, 3, 4, 5, 6, 7, 8, 9, 10, 11, 12, 13, 14, 15, 16, 17, 18, 19, 20] (by kernel_rfl) ?_
 refine e_' (pt_ b_o 0) (e_' (pt_ b_o 0) (e_' (pt_ b_o 0) ?_))
 refine d_fl (hd_o_) (x := aL_ 114 (pt_ b_o 0) H109) (by kernel_rfl) (m112.l_) ?_
 refine e_' (i_ u) (e_' (pt_ b_o 0) (e_' (pt_ b_o 0) (e_' (pt_ b_o 0) (mr_ 114 0 (hd_o_) m112 (e_' (i_ u) ?_)))))
 obtain ⟨g127, r128⟩ := G_some r108
 have u129 := ((h_o_.fr e85 dn_).fr e110 dj_b_o_fp_o_)
 refine u129.mx_ 114 g127.1 g127.2 (m_' (elp hd_o_ 3 u.toNat 1) (aFieldAddr Try.prog 120 (elp hd_o_ 3 u.toNat 0) 1) (Nd.fldq (d := 1) u129 g127.1 g127.2 (by kernel_rfl)) ?_)
 obtain ⟨u130, u131, hl132, hk133⟩ := Nd.at u129 g127.1 g127.2
 have kd134 : KdS enc_i64_u64_i64 3 H109 u130 ((gt o_ u).2.1) fp_o_ hd_o_ 3 u.toNat 1 := hk133 false (by simp)
 obtain ⟨a135, n136, c137, rfl⟩ := kd134.sq.form
 refine m_' (.slice a135 n136 c137) (aL_ 69 (elp hd_o_ 3 u.toNat 1) H109) (hl132 _ _ _ _ (by kernel_rfl)) (e_' (i_ w) (e_' (.int .u64 weight) (e_' (i_ via) (e_' (.agg #[i_ w, .int .u64 weight, i_ via]) ?_))))
 obtain ⟨f139, f140, hh141, ho142, d143, hs144, hs145⟩ := Nd.borrow false u129 g127.1 g127.2 (by simp) kd134 rfl
 have w146 := Inn.sub' (H := H109) hs144
 have w147 := Inn.sub' (H := H109) hs145
 have hh141 : Nd enc_i64_u64_i64 3 H109 hd_o_ o_ f139 [(u.toNat, false)] := hh141
 obtain ⟨y148, hy149, r150⟩ := bs_ r128
 refine dk_ (c_overlay_laid e110.wf ho142 hy149) ?_
 rintro s151 H153 ⟨_, f152, rfl, e154, m155, i156⟩
 obtain ⟨a158, n159, c160, rfl⟩ := m155.form
 have n161 := (t_ e85.n e110.n)
 have d162 := (w147.dj (Dj.symm dj_b_o_fp_o_) (h_o.ltF.le n161))
 have u163 := (m112.frS e154 d162)
 refine ⟨st_ql (y := aL_ 114 (pt_ b_o 0) H153) (by kernel_rfl) (u163.l_) (st_nil), ?_⟩
 have u164 := (hh141.fr e154 (Dj.symm d143))
 refine u164.mx_ 114 g127.1 g127.2 (m_' (elp hd_o_ 3 u.toNat 1) (aFieldAddr Try.prog 120 (elp hd_o_ 3 u.toNat 0) 1) (Nd.fldq (d := 1) u164 g127.1 g127.2 (by kernel_rfl)) ?_)
 have d165 := (i156.dj (Dj.symm d143) hh141.lt)
 obtain ⟨H166, f167, q168, e169, hm170, hf171⟩ := Nd.close (P := Try.prog) (t := 69) false e154.wf u164 m155 (Dj.symm d165) g127.1 g127.2 (by kernel_rfl) (by kernel_rfl) (by kernel_rfl)
 have hm170 : Nd enc_i64_u64_i64 3 H166 hd_o_ (o_.set u.toNat ((gt o_ u).1, y148, (gt o_ u).2.2)) f167 [] := hm170
 have w172 := hf171.grow3 (Inn.trans ir_ (Nat.le_refl _) w146) (Inn.trans (Inn.trans ir_ (Nat.le_refl _) w147) (Nat.le_refl _) i156) e154.n
 refine fk_ q168 (st_anc (by kernel_rfl) (st_nil)) ?_
 refine d_nil ?_
 refine k126 _ _ (sq_ fun k173 => ?_)
 refine w_draw [0, 1, 2, 3, 4, 5, 6, 7, 8, 9, 10, 11, 12, 13, 14, 15, 16, 17, 18, 19, 20] (by kernel_rfl) ?_
 refine e_' (pt_ b_o 0) (e_' (pt_ b_o 0) (e_' (pt_ b_o 0) ?_))
 have d174 := (w146.dj (Dj.symm dj_b_o_fp_o_) (h_o.ltF.le n161))
 have u175 := (u163.frS e169 d174)
 refine d_fl (hd_o_) (x := aL_ 114 (pt_ b_o 0) H166) (by kernel_rfl) (u175.l_) ?_
 refine e_' (i_ w) (e_' (pt_ b_o 0) (e_' (pt_ b_o 0) (e_' (pt_ b_o 0) (mr_ 114 0 (hd_o_) u175 (e_' (i_ w) ?_)))))
 obtain ⟨g176, r177⟩ := G_some r150
 refine hm170.mx_ 114 g176.1 g176.2 (m_' (elp hd_o_ 3 w.toNat 2) (aFieldAddr Try.prog 120 (elp hd_o_ 3 w.toNat 0) 2) (Nd.fldq (d := 2) hm170 g176.1 g176.2 (by kernel_rfl)) ?_)
 obtain ⟨u178, u179, hl180, hk181⟩ := Nd.at hm170 g176.1 g176.2
 have kd182 : KdS enc_i64_u64_i64 3 H166 u179 ((gt (o_.set u.toNat ((gt o_ u).1, y148, (gt o_ u).2.2)) w).2.2) f167 hd_o_ 3 w.toNat 2 := hk181 true (by simp)
 obtain ⟨a183, n184, c185, rfl⟩ := kd182.sq.form
 refine m_' (.slice a183 n184 c185) (aL_ 69 (elp hd_o_ 3 w.toNat 2) H166) (hl180 _ _ _ _ (by kernel_rfl)) (e_' (i_ u) (e_' (.int .u64 weight) (e_' (i_ via) (e_' (.agg #[i_ u, .int .u64 weight, i_ via]) ?_))))
 obtain ⟨f187, f188, hh189, ho190, d191, hs192, hs193⟩ := Nd.borrow true hm170 g176.1 g176.2 (by simp) kd182 rfl
 have w194 := Inn.sub' (H := H166) hs192
 have w195 := Inn.sub' (H := H166) hs193
 have hh189 : Nd enc_i64_u64_i64 3 H166 hd_o_ (o_.set u.toNat ((gt o_ u).1, y148, (gt o_ u).2.2)) f187 [(w.toNat, true)] := hh189
 obtain ⟨y196, hy197, r198⟩ := bs_ r177
 refine dk_ (c_overlay_laid e169.wf ho190 hy197) ?_
 rintro s199 H201 ⟨_, f200, rfl, e202, m203, i204⟩
 obtain ⟨a206, n207, c208, rfl⟩ := m203.form
 have d209 := (w172.dj (Dj.symm dj_b_o_fp_o_) (h_o.ltF.le n161))
 have n210 := (t_ (t_ (t_ e85.n e110.n) e154.n) e169.n)
 have d211 := (w195.dj d209 (h_o.ltF.le n210))
 have u212 := (u175.frS e202 d211)
 refine ⟨st_ql (y := aL_ 114 (pt_ b_o 0) H201) (by kernel_rfl) (u212.l_) (st_nil), ?_⟩
 have u213 := (hh189.fr e202 (Dj.symm d191))
 refine u213.mx_ 114 g176.1 g176.2 (m_' (elp hd_o_ 3 w.toNat 2) (aFieldAddr Try.prog 120 (elp hd_o_ 3 w.toNat 0) 2) (Nd.fldq (d := 2) u213 g176.1 g176.2 (by kernel_rfl)) ?_)
 have d214 := (i204.dj (Dj.symm d191) hh189.lt)
 obtain ⟨H215, f216, q217, e218, hm219, hf220⟩ := Nd.close (P := Try.prog) (t := 69) true e202.wf u213 m203 (Dj.symm d214) g176.1 g176.2 (by kernel_rfl) (by kernel_rfl) (by kernel_rfl)
 have hm219 : Nd enc_i64_u64_i64 3 H215 hd_o_ ((o_.set u.toNat ((gt o_ u).1, y148, (gt o_ u).2.2)).set w.toNat ((gt (o_.set u.toNat ((gt o_ u).1, y148, (gt o_ u).2.2)) w).1, (gt (o_.set u.toNat ((gt o_ u).1, y148, (gt o_ u).2.2)) w).2.1, y196)) f216 [] := hm219
 have w221 := hf220.grow3 (Inn.trans ir_ (Nat.le_refl _) w194) (Inn.trans (Inn.trans ir_ (Nat.le_refl _) w195) (Nat.le_refl _) i204) e202.n
 refine fk_ q217 (st_anc (by kernel_rfl) (st_nil)) ?_
 refine d_nil ?_
 refine k173 _ _ (sq_ fun k222 => g_' (q_ (.bool true) (q_ (.nilIface) (s_nil (k222 _ _ ?_)))))
 refine w_ret ?_
 refine br_ [.bool true, .nilIface] ?_
 have d223 := (w194.dj d209 (h_o.ltF.le n210))
 have u224 := (u212.frS e218 d223)
 obtain rfl := oi_ r198
 exact ⟨(.nilIface), [], f216, rfl, (fs_ wf (fs_ wf (fs_ wf (fs_ wf (fs_ wf (fs_ wf (fr_ wf) e85 in_) e110 Inn.left) e154 (Inn.trans (Inn.right ir_) n161 w147)) e169 (Inn.trans (Inn.right ir_) n161 w146)) e202 (Inn.trans (Inn.trans (Inn.right ir_) n161 w172) n210 w195)) e218 (Inn.trans (Inn.trans (Inn.right ir_) n161 w172) n210 w194)), Ev.nil, hm219, u224, in_, (Inn.trans (Inn.trans ir_ n161 w172) n210 w221), dn_⟩
theorem c_shorts_Contract {H : AH} {b_o : Nat} {hd_o_ : Value} {fp_o_ : Fp} {o_ : List (Bool × List (Int × Int × Int) × List (Int × Int × Int))} {o_2 : Int} {o_3 : Int} {v_ : Int} {Hops : Int} {Settles : Int} {Edge : Int} {Deleted : Int} {Depth : Int} {r : List (Int × Int × Int) × Er × List (Bool × List (Int × Int × Int) × List (Int × Int × Int)) × Int × Int}
    (wf : WF H) (h_o_ : Nd enc_i64_u64_i64 3 H hd_o_ o_ fp_o_ []) (h_o : Row H b_o [hd_o_, i_ o_2, i_ o_3]) (dj_fp_o__b_o : Dj fp_o_ [b_o]) (hr : z_shorts_Contract o_ o_2 o_3 v_ Hops Settles Edge Deleted Depth = some r) :
    ACalls Try.prog 25 #[pt_ b_o 0, i_ v_, .agg #[i_ Hops, i_ Settles, i_ Edge, i_ Deleted, i_ Depth]] H fun v H' => ∃ (s3 : Value) (f4 : Fp) (v7 : Value) (f8 : Fp) (f11 : Fp), v = .tuple #[s3, v7] /\ FrS ([b_o] ++ fp_o_) H H' /\ Ow enc_i64_i64_u64 3 H' s3 r.1 f4 /\ Ev 90 129 H' v7 r.2.1 f8 /\ Nd enc_i64_u64_i64 3 H' hd_o_ r.2.2.1 f11 [] /\ Row H' b_o [hd_o_, i_ r.2.2.2.1, i_ r.2.2.2.2] /\ Inn [] H f4 /\ Inn [] H f8 /\ Inn fp_o_ H f11 /\ Dj f4 f8 /\ Dj f4 f11 /\ Dj f8 f11 := by
 refine ab_ Try.func25 ?_
 unfold z_shorts_Contract at hr
 refine sq_ fun k20 => g_' ?_
 refine rl_ wf [i_ Hops, i_ Settles, i_ Edge, i_ Deleted, i_ Depth] fun b21 H22 e23 hb24 r25 => ?_
 refine q_ (.slice none 0 0) (q_ (.nilIface) (s_nil (k20 _ _ (sq_ fun k27 => g_' (q_ (pt_ b_o 0) (q_ (i_ v_) (lr_ 44 0 (.agg #[i_ Hops, i_ Settles, i_ Edge, i_ Deleted, i_ Depth]) r25 ?_)))))))
 have u28 := (h_o_.ext e23)
 have u29 := (h_o.ext e23)
 obtain ⟨y30, hy31, r32⟩ := bs_ hr
 refine ck_ (c_shorts_Needed e23.wf u28 u29 hy31) ?_
 rintro _ H37 ⟨s33, f34, v35, f36, rfl, e38, m39, m40, i41, i42, d43⟩
 obtain ⟨a46, n47, c48, rfl⟩ := m39.form
 refine q_ (.tuple #[.slice a46 n47 c48, v35]) (q_ (.slice a46 n47 c48) (q_ (v35) (q_ (.slice a46 n47 c48) (q_ (v35) (s_nil (k27 _ _ (sq_ fun k49 => sq_ fun k50 => g_' (q_ (v35) ?_))))))))
 rcases (m40).cases with ⟨h51, rfl⟩ | ⟨h51, t52, x53, rfl⟩
 ·have r54 := ite_t h51 r32
  refine q_ (.bool false) (s_nil (k50 _ _ ?_))
  refine wb_ false (fun h => by cases h) fun _ => ?_
  refine w_skip (k49 _ _ (sq_ fun k55 => sq_ fun k56 => g_' (q_ (pt_ b_o 0) (q_ (i_ v_) ?_))))
  have u57 := (u28.fr e38 dn_)
  have u58 := (u29.frS e38 dn_)
  obtain ⟨y59, hy60, r61⟩ := bs_ r54
  refine ck_ (c_overlay_Overlay_Remove e38.wf u57 u58 dj_fp_o__b_o hy60) ?_
  rintro v62 H65 ⟨_, f63, f64, rfl, e66, m67, m68, m69, i70, i71, d72⟩
  refine q_ (v62) (s_nil (k56 _ _ (sq_ fun k74 => g_' (q_ (v62) ?_))))
  rcases (m67).cases with ⟨h75, rfl⟩ | ⟨h75, t76, x77, rfl⟩
  ·have r78 := ite_t h75 r61
   refine q_ (.bool false) (s_nil (k74 _ _ ?_))
   refine wb_ false (fun h => by cases h) fun _ => ?_
   refine w_skip (k55 _ _ (sq_ fun k79 => sq_ fun k80 => g_' (q_ (.slice a46 n47 c48) ?_)))
   have d81 := (i41.djn (h_o_.lt.le e23.n))
   have d82 := (i41.djn (h_o.ltF.le e23.n))
   have u83 := (m39.fr e66 (Dj.app (Dj.symm d82) (Dj.symm d81)))
   refine u83.sq.ln_ 46 (q_ (i_ 0) (s_nil (k80 _ _ ?_)))
   obtain ⟨z87, hx85, r86⟩ := bs_ r78
   refine w_mid (fun α H88 => ∃ o84, z87 = Sum.inr o84 /\ ∃ (f92 : Fp), Has α [(8, .slice a46 n47 c48)] /\ FrS ([b_o] ++ f64) H65 H88 /\ Nd enc_i64_u64_i64 3 H88 hd_o_ o84.1 f92 [] /\ Row H88 b_o [hd_o_, i_ y59.2.2.1, i_ o84.2] /\ Inn f64 H65 f92) (fun _ k96 => ?_) (fun α H88 hM => ?_)
   ·refine w_block ?_
    obtain ⟨n98, hn99⟩ := loopO_iff.1 hx85
    refine w_loopn (fun n α H100 => ∃ (o0 : List (Bool × List (Int × Int × Int) × List (Int × Int × Int))), ∃ (o1 : Int), ∃ (i2 : Int), ∃ (f104 : Fp), iterO (fun zz_ => z_shorts_Contract_l0 v_ y30 y59 zz_.1 zz_.2.1 zz_.2.2) n (o0, o1, i2) = some z87 /\ Has α [(0, pt_ b_o 0), (1, i_ v_), (8, .slice a46 n47 c48), (31, .slice a46 n47 c48), (32, i_ (y30.1.length : Int)), (33, i_ i2)] /\ FrS ([b_o] ++ f64) H65 H100 /\ Nd enc_i64_u64_i64 3 H100 hd_o_ o0 f104 [] /\ Row H100 b_o [hd_o_, i_ y59.2.2.1, i_ o1] /\ Inn f64 H65 f104) n98 ⟨y59.2.1, y59.2.2.2, 0, f64, hn99, ha_, (fr_ e66.wf), m68, m69, ir_⟩ ?_
    rintro n98 α H100 ⟨o0, o1, i2, f104, hi109, hh108, e101, m103, m106, i107⟩ K114 k114
    obtain ⟨n110, z111, rfl, hz112, hn113⟩ := iter_succ hi109
    obtain ⟨β, rfl⟩ := has_ex hh108
    clear hh108
    replace hz112 : z_shorts_Contract_l0 v_ y30 y59 o0 o1 i2 = some z111 := hz112
    unfold z_shorts_Contract_l0 at hz112
    refine sq_ fun k115 => g_' (q_ (.bool (decide (i2 < (y30.1.length : Int)))) (s_nil (k115 _ _ (sq_ fun k116 => ?_))))
    refine wc_ (i2 < (y30.1.length : Int)) (fun h117 => ?_) fun h117 => ?_
    ·have r118 := ite_t h117 hz112
     refine w_skip (k116 _ _ (sq_ fun k119 => w_block (sq_ fun k120 => g_' ?_)))
     obtain ⟨g121, r122⟩ := G_some r118
     have d123 := (i71.dj (Dj.symm d81) m39.lt)
     have u124 := (u83.fr e101 (Dj.app (Dj.symm d82) d123))
     refine u124.sq.ix_ 46 g121 h117 (le_ 110 0 (.agg #[i_ ((gt y30.1 i2).1), i_ ((gt y30.1 i2).2.1), .int .u64 ((gt y30.1 i2).2.2)]) u124.sq g121 h117 ?_)
     refine rk_ e101.wf [i_ 0, i_ 0, .int .u64 0] fun b125 H126 e127 hb128 r129 => ?_
     obtain ⟨H131, q132, e133, r134⟩ := ra_ 110 0 e127.wf r129 [i_ ((gt y30.1 i2).1), i_ ((gt y30.1 i2).2.1), .int .u64 ((gt y30.1 i2).2.2)] [i_ ((gt y30.1 i2).1), i_ ((gt y30.1 i2).2.1), .int .u64 ((gt y30.1 i2).2.2)]
     refine ek_ q132 (s_nil (k120 _ _ (sq_ fun k135 => g_' (q_ (pt_ b_o 0) (q_ (pt_ b125 0) (lr_ 3 0 (i_ ((gt y30.1 i2).1)) r134 (q_ (pt_ b125 1) (lr_ 3 1 (i_ ((gt y30.1 i2).2.1)) r134 (q_ (pt_ b125 2) (lr_ 27 2 (.int .u64 ((gt y30.1 i2).2.2)) r134 (q_ (i_ v_) ?_)))))))))))
     have u136 := ((m103.ext e127).fr e133 (hb128.djn m103.lt))
     have n137 := (t_ (t_ (t_ e23.n e38.n) e66.n) e101.n)
     have d138 := (hb128.djn (h_o.ltF.le n137))
     have u139 := ((m106.ext e127).frS e133 d138)
     have n140 := (t_ e23.n e38.n)
     have d141 := (i71.dj dj_fp_o__b_o (h_o.ltF.le n140))
     have n142 := (t_ (t_ e23.n e38.n) e66.n)
     have d143 := (i107.dj d141 (h_o.ltF.le n142))
     obtain ⟨y144, hy145, r146⟩ := bs_ r122
     refine ck_ (c_overlay_Overlay_Put e133.wf u136 u139 (Dj.symm d143) hy145) ?_
     rintro _ H150 ⟨v147, f148, f149, rfl, e151, m152, m153, m154, i155, i156, d157⟩
     refine q_ (.tuple #[.bool y144.1, v147]) (q_ (.bool y144.1) (q_ (v147) (q_ (.bool y144.1) (q_ (v147) (s_nil (k135 _ _ (sq_ fun k159 => g_' (q_ (v147) ?_))))))))
     rcases (m152).cases with ⟨h160, rfl⟩ | ⟨h160, t161, x162, rfl⟩
     ·have r163 := ite_t h160 r146
      refine q_ (.bool false) (s_nil (k159 _ _ ?_))
      refine wb_ false (fun h => by cases h) fun _ => ?_
      refine w_skip (k119 _ _ (g_' ?_))
      obtain ⟨g164, r165⟩ := G_some r163
      refine w_' ((i2 + 1)) (wrap64 (by have := g164; omega)) (q_ (i_ (i2 + 1)) (s_nil ?_))
      have n166 := (t_ (t_ e101.n e127.n) e133.n)
      obtain rfl := oi_ r165
      exact k114 n110 _ _ lt_ ⟨y144.2.2.1, y144.2.2.2, (i2 + 1), f149, hn113, ha_, (fs_ e66.wf (fs_ e66.wf ((fs_ e66.wf (fr_ e66.wf) e101 ir_).extR e127) e133 (hb128.fresh e101.n)) e151 (Inn.app Inn.left (Inn.trans (Inn.right ir_) (Nat.le_refl _) i107))), m153, m154, (Inn.trans (Inn.trans ir_ (Nat.le_refl _) i107) n166 i156)⟩
     have r167 := ite_f h160 r146
     refine l_' (.bool true) (aBin Try.prog .neq 38 (.tmp 49) (.const .nilIface) (.iface t161 x162) .nilIface) (aBin_nnil (by kernel_rfl)) (s_nil (k159 _ _ ?_))
     refine wb_ true (fun _ => ?_) fun h => by cases h
     refine sq_ fun k168 => g_' (q_ (.iface t161 x162) (q_ (.slice none 0 0) (q_ (.iface t161 x162) (s_nil (k168 _ _ ?_)))))
     refine w_ret (bl_ret (th_ret (th_ret (bl_ret (th_ret (th_ret ?_))))))
     obtain ⟨v169, hv170, hz171⟩ := map_some r167
     subst hz171
     obtain rfl := it_inr hn113
     have hq172 := elim_inl r86
     rw [hq172] at hv170
     refine br_ [.slice none 0 0, .iface t161 x162] ?_
     have n173 := (t_ (t_ (t_ (t_ (t_ e23.n e38.n) e66.n) e101.n) e127.n) e133.n)
     obtain rfl := oi_ hv170
     exact ⟨(.slice none 0 0), [], (.iface t161 x162), f148, f149, rfl, (fs_ wf (fs_ wf ((fs_ wf (fs_ wf (fs_ wf ((fr_ wf).extR e23) e38 in_) e66 ir_) e101 (Inn.app Inn.left (Inn.trans (Inn.right ir_) n140 i71))).extR e127) e133 (hb128.fresh n137)) e151 (Inn.app Inn.left (Inn.trans (Inn.trans (Inn.right ir_) n140 i71) n142 i107))), (Ow.nil (by decide)), m152, m153, m154, in_, (i155.fresh n173), (Inn.trans (Inn.trans (Inn.trans ir_ n140 i71) n142 i107) n173 i156), dn_, dn_, d157⟩
    have r174 := ite_f h117 hz112
    refine w_exit (th_exit (th_exit (bl_eq ?_)))
    obtain rfl := oi_ r174
    obtain rfl := it_inr hn113
    exact k96 _ _ ⟨_, rfl, f104, ha_, (fs_ e66.wf (fr_ e66.wf) e101 ir_), m103, m106, (Inn.trans ir_ (Nat.le_refl _) i107)⟩
   obtain ⟨o84, rfl, f92, hh97, e89, m91, m94, i95⟩ := hM
   have r175 := elim_inr r86
   obtain ⟨β, rfl⟩ := has_ex hh97
   clear hh97
   refine k79 _ _ (sq_ fun k176 => g_' (q_ (.slice a46 n47 c48) (q_ (.slice a46 n47 c48) (q_ (.nilIface) (s_nil (k176 _ _ ?_))))))
   refine w_ret ?_
   refine br_ [.slice a46 n47 c48, .nilIface] ?_
   have n177 := (t_ e23.n e38.n)
   have d178 := (i71.dj (Dj.symm d81) m39.lt)
   have u179 := (u83.fr e89 (Dj.app (Dj.symm d82) d178))
   have n180 := (t_ (t_ e23.n e38.n) e66.n)
   have d181 := (i95.dj d178 (m39.lt.le e66.n))
   obtain rfl := oi_ r175
   exact ⟨(.slice a46 n47 c48), f34, (.nilIface), [], f92, rfl, (fs_ wf (fs_ wf (fs_ wf ((fr_ wf).extR e23) e38 in_) e66 ir_) e89 (Inn.app Inn.left (Inn.trans (Inn.right ir_) n177 i71))), u179, Ev.nil, m91, m94, (i41.fresh e23.n), in_, (Inn.trans (Inn.trans ir_ n177 i71) n180 i95), Dj.nil_r, (Dj.symm d181), dn_⟩
  have r182 := ite_f h75 r61
  refine l_' (.bool true) (aBin Try.prog .neq 38 (.tmp 28) (.const .nilIface) (.iface t76 x77) .nilIface) (aBin_nnil (by kernel_rfl)) (s_nil (k74 _ _ ?_))
  refine wb_ true (fun _ => ?_) fun h => by cases h
  refine sq_ fun k183 => g_' (q_ (.iface t76 x77) (q_ (.slice none 0 0) (q_ (.iface t76 x77) (s_nil (k183 _ _ ?_)))))
  refine w_ret (th_ret ?_)
  refine br_ [.slice none 0 0, .iface t76 x77] ?_
  have n184 := (t_ e23.n e38.n)
  obtain rfl := oi_ r182
  exact ⟨(.slice none 0 0), [], (.iface t76 x77), f63, f64, rfl, (fs_ wf (fs_ wf ((fr_ wf).extR e23) e38 in_) e66 ir_), (Ow.nil (by decide)), m67, m68, m69, in_, (i70.fresh n184), (Inn.trans ir_ n184 i71), dn_, dn_, d72⟩
 have r185 := ite_f h51 r32
 refine l_' (.bool true) (aBin Try.prog .neq 38 (.tmp 22) (.const .nilIface) (.iface t52 x53) .nilIface) (aBin_nnil (by kernel_rfl)) (s_nil (k50 _ _ ?_))
 refine wb_ true (fun _ => ?_) fun h => by cases h
 refine sq_ fun k186 => g_' (q_ (.iface t52 x53) (q_ (.slice none 0 0) (q_ (.iface t52 x53) (s_nil (k186 _ _ ?_)))))
 refine w_ret (th_ret ?_)
 refine br_ [.slice none 0 0, .iface t52 x53] ?_
 have u187 := (u28.fr e38 dn_)
 have u188 := (u29.frS e38 dn_)
 have d189 := (i42.djn (h_o_.lt.le e23.n))
 obtain rfl := oi_ r185
 exact ⟨(.slice none 0 0), [], (.iface t52 x53), f36, fp_o_, rfl, (fs_ wf ((fr_ wf).extR e23) e38 in_), (Ow.nil (by decide)), m40, u187, u188, in_, (i42.fresh e23.n), ir_, dn_, dn_, d189⟩
end Go.Vd

/-! (KSd6) -/

set_option maxRecDepth 100000
set_option maxHeartbeats 4000000
set_option linter.unusedVariables false
namespace Go.Vd
open Go.Proofs
attribute [local irreducible] wpSeq wpOrd aWp
theorem c_viaductref11_Distances {H : AH} {hd_Alive : Value} {fp_Alive : Fp} {hd_Arcs : Value} {fp_Arcs : Fp} {Alive : List (Bool)} {Arcs : List (Int × Int × Int × Int)} {r : List (List (Int))}
    (wf : WF H) (h_Alive : Sq encB 1 H hd_Alive Alive fp_Alive) (h_Arcs : Sq enc_i64_i64_u64_i64 4 H hd_Arcs Arcs fp_Arcs) (hr : z_viaductref11_Distances Alive Arcs = some r) :
    ACalls Try.prog 14 #[.agg #[hd_Alive, hd_Arcs]] H fun v H' => ∃ (s3 : Value) (f4 : Fp), v = s3 /\ FrS [] H H' /\ Nst (CR.sl (encI .u64) 1) H' s3 r f4 /\ Inn [] H f4 := by
 refine ab_ Try.func14 ?_
 unfold z_viaductref11_Distances at hr
 refine sq_ fun k6 => g_' ?_
 refine s_rwl wf [hd_Alive, hd_Arcs] (one_cons (h_Alive.one1) (one_cons (h_Arcs.one1) (one_nil))) (by kernel_rfl) fun b7 H8 e9 hb10 r11 => ?_
 refine q_ (.slice none 0 0) (s_nil (k6 _ _ (sq_ fun k13 => g_' (q_ (pt_ b7 0) (lr_ 30 0 (hd_Alive) r11 ?_)))))
 have u14 := (h_Alive.ext e9)
 refine u14.ln_ 30 (q_ (i_ (Alive.length : Int)) (s_nil (k13 _ _ (sq_ fun k15 => g_' (q_ (i_ (Alive.length : Int)) ?_)))))
 obtain ⟨g16, r17⟩ := G_some hr
 refine s_mks (t := 49) (m := 24) (l := (Alive.length : Int)) (c := (Alive.length : Int)) (enc := id) (sz := 1) e9.wf [.slice none 0 0] (by kernel_rfl) (by decide) g16.1 (Int.le_refl _) (by omega) (by have := g16; omega) (by kernel_rfl) fun s18 f19 H20 e21 hf22 hm23 => ?_
 replace hm23 := Nst.zeros (C := (CR.sl (encI .u64) 1)) (x0 := ([] : List (Int))) hm23 (fun _ => cr_sl_mk (Ow.nil (by decide)))
 obtain ⟨a24, n25, c26, rfl⟩ := hm23.form
 have hm23 : Nst (CR.sl (encI .u64) 1) H20 (.slice a24 n25 c26) (List.replicate Alive.length ([] : List (Int))) f19 := hm23
 refine q_ (.slice a24 n25 c26) (s_nil (k15 _ _ (sq_ fun k28 => sq_ fun k29 => g_' (q_ (.slice a24 n25 c26) (hm23.ln_ 49 (q_ (i_ 0) (s_nil (k29 _ _ ?_))))))))
 obtain ⟨o30, hx31, r32⟩ := bs_ r17
 refine w_mid (fun α H33 => ∃ (f37 : Fp), Has α [(1, pt_ b7 0), (4, .slice a24 n25 c26)] /\ FrS f19 H20 H33 /\ Nst (CR.sl (encI .u64) 1) H33 (.slice a24 n25 c26) o30 f37 /\ Inn f19 H20 f37) (fun _ k39 => ?_) (fun α H33 hM => ?_)
 ·refine w_block ?_
  obtain ⟨n41, hn42⟩ := loopO_iff.1 hx31
  refine w_loopn (fun n α H43 => ∃ (i2 : Int), ∃ (d3 : List (List (Int))), ∃ (f47 : Fp), iterO (fun zz_ => z_viaductref11_Distances_l1 Alive zz_.1 zz_.2) n (i2, d3) = some o30 /\ Has α [(1, pt_ b7 0), (3, i_ (Alive.length : Int)), (4, .slice a24 n25 c26), (18, i_ ((List.replicate Alive.length ([] : List (Int))).length : Int)), (19, i_ i2)] /\ FrS f19 H20 H43 /\ Nst (CR.sl (encI .u64) 1) H43 (.slice a24 n25 c26) d3 f47 /\ Inn f19 H20 f47) n41 ⟨0, (List.replicate Alive.length ([] : List (Int))), f19, hn42, ha_, (fr_ e21.wf), hm23, ir_⟩ ?_
  rintro n41 α H43 ⟨i2, d3, f47, hi50, hh49, e44, m46, i48⟩ K55 k55
  obtain ⟨n51, z52, rfl, hz53, hn54⟩ := iter_succ hi50
  obtain ⟨β, rfl⟩ := has_ex hh49
  clear hh49
  replace hz53 : z_viaductref11_Distances_l1 Alive i2 d3 = some z52 := hz53
  unfold z_viaductref11_Distances_l1 at hz53
  refine sq_ fun k56 => g_' (q_ (.bool (decide (i2 < ((List.replicate Alive.length ([] : List (Int))).length : Int)))) (s_nil (k56 _ _ (sq_ fun k57 => ?_))))
  refine wc_ (i2 < ((List.replicate Alive.length ([] : List (Int))).length : Int)) (fun h58 => ?_) fun h58 => ?_
  ·have r59 := ite_t h58 hz53
   refine w_skip (k57 _ _ (sq_ fun k60 => w_block (sq_ fun k61 => g_' (q_ (i_ i2) (q_ (i_ i2) (s_nil (k61 _ _ (sq_ fun k62 => g_' (q_ (.slice a24 n25 c26) (q_ (i_ i2) (q_ (i_ (Alive.length : Int)) ?_)))))))))))
   obtain ⟨g63, r64⟩ := G_some r59
   refine s_mks (t := 36) (m := 8) (l := (Alive.length : Int)) (c := (Alive.length : Int)) (enc := (encI .u64)) (sz := 1) e44.wf (0 : Int) (by kernel_rfl) (by decide) g63.1 (Int.le_refl _) (by omega) (by have := g63; omega) (by kernel_rfl) fun s65 f66 H67 e68 hf69 hm70 => ?_
   obtain ⟨a71, n72, c73, rfl⟩ := hm70.form
   have hm70 : Ow (encI .u64) 1 H67 (.slice a71 n72 c73) (List.replicate Alive.length (0 : Int)) f66 := hm70
   obtain ⟨g75, r76⟩ := G_some r64
   have u77 := (m46.ext e68)
   refine u77.ix_ 49 g75.1 g75.2 ?_
   have d84 := (hf69.djn m46.lt)
   obtain ⟨H78, f82, q79, e80, hm81, hf83⟩ := Nst.store (P := Try.prog) (t := 36) (off := 0) e68.wf u77 g75.1 g75.2 (.slice a71 n72 c73) [.slice a71 n72 c73] (by kernel_rfl) (by kernel_rfl) rfl (List.replicate Alive.length (0 : Int)) (Nat.le_of_ble_eq_true rfl) (Dj.symm d84) hm70.lt (fun cs_ f_ hr_ _ => by obtain ⟨_, rfl, _⟩ := cr_sl_open hr_; exact ⟨_, cr_sl_mk hm70, fun _ h => .inr h⟩)
   have w85 := hf83.grow2 (hf69.fresh (Nat.le_refl _)) e68.n
   refine ek_ q79 (s_nil (k62 _ _ (sq_ fun k86 => g_' (q_ (.slice a24 n25 c26) (q_ (i_ i2) ?_)))))
   obtain ⟨g87, r88⟩ := G_some r76
   refine hm81.ix_ 49 g75.1 g87 ?_
   obtain ⟨cs89, f90, hk91, hs92, hl93, hq94⟩ := hm81.kid g75.1 g87
   obtain ⟨s95, rfl, ho97⟩ := cr_sl_open hk91
   have kd98 : KdS (encI .u64) 1 H78 s95 (gt (d3.set i2.toNat (List.replicate Alive.length (0 : Int))) i2) f82 (.slice a24 n25 c26) 1 i2.toNat 0 := ⟨ho97.sq.up hs92 hm81.lt, hq94 0 _ rfl (by decide)⟩
   obtain ⟨a99, n100, c101, rfl⟩ := kd98.sq.form
   refine l_' (.slice a99 n100 c101) (aL_ 36 (elp (.slice a24 n25 c26) 1 i2.toNat 0) H78) (hl93 _ _ _ _ (by kernel_rfl)) (kd98.sq.ln_ 36 (q_ (i_ 0) (s_nil (k86 _ _ ?_))))
   obtain ⟨o103, hx104, r105⟩ := bs_ r88
   refine w_mid (fun α H106 => Has α [(1, pt_ b7 0), (3, i_ (Alive.length : Int)), (4, .slice a24 n25 c26), (18, i_ ((List.replicate Alive.length ([] : List (Int))).length : Int)), (19, i_ i2)] /\ FrS f82 H78 H106 /\ Nst (CR.sl (encI .u64) 1) H106 (.slice a24 n25 c26) o103 f82) (fun _ k110 => ?_) (fun α H106 hM => ?_)
   ·refine w_block ?_
    obtain ⟨n112, hn113⟩ := loopO_iff.1 hx104
    refine w_loopn (fun n α H114 => ∃ (i0 : Int), ∃ (d1 : List (List (Int))), iterO (fun zz_ => z_viaductref11_Distances_l0 Alive i2 d3 zz_.1 zz_.2) n (i0, d1) = some o103 /\ Has α [(1, pt_ b7 0), (3, i_ (Alive.length : Int)), (4, .slice a24 n25 c26), (5, i_ i2), (18, i_ ((List.replicate Alive.length ([] : List (Int))).length : Int)), (19, i_ i2), (31, i_ ((gt (d3.set i2.toNat (List.replicate Alive.length (0 : Int))) i2).length : Int)), (32, i_ i0)] /\ FrS f82 H78 H114 /\ Nst (CR.sl (encI .u64) 1) H114 (.slice a24 n25 c26) d1 f82) n112 ⟨0, (d3.set i2.toNat (List.replicate Alive.length (0 : Int))), hn113, ha_, (fr_ e80.wf), hm81⟩ ?_
    rintro n112 α H114 ⟨i0, d1, hi119, hh118, e115, m117⟩ K124 k124
    obtain ⟨n120, z121, rfl, hz122, hn123⟩ := iter_succ hi119
    obtain ⟨β, rfl⟩ := has_ex hh118
    clear hh118
    replace hz122 : z_viaductref11_Distances_l0 Alive i2 d3 i0 d1 = some z121 := hz122
    unfold z_viaductref11_Distances_l0 at hz122
    refine sq_ fun k125 => g_' (q_ (.bool (decide (i0 < ((gt (d3.set i2.toNat (List.replicate Alive.length (0 : Int))) i2).length : Int)))) (s_nil (k125 _ _ (sq_ fun k126 => ?_))))
    refine wc_ (i0 < ((gt (d3.set i2.toNat (List.replicate Alive.length (0 : Int))) i2).length : Int)) (fun h127 => ?_) fun h127 => ?_
    ·have r128 := ite_t h127 hz122
     refine w_skip (k126 _ _ (sq_ fun k129 => w_block (sq_ fun k130 => g_' (q_ (i_ i0) (q_ (i_ i0) (s_nil (k130 _ _ (sq_ fun k131 => ?_))))))))
     obtain ⟨o132, hx133, r134⟩ := bs_ r128
     refine w_mid (fun α H135 => Has α [(1, pt_ b7 0), (3, i_ (Alive.length : Int)), (4, .slice a24 n25 c26), (5, i_ i2), (6, i_ i0), (18, i_ ((List.replicate Alive.length ([] : List (Int))).length : Int)), (19, i_ i2), (31, i_ ((gt (d3.set i2.toNat (List.replicate Alive.length (0 : Int))) i2).length : Int)), (32, i_ i0), (45, .bool o132)] /\ H114 = H135) (fun _ k137 => ?_) (fun α H135 hM => ?_)
     ·refine g_' (q_ (i_ i2) (q_ (i_ i0) ?_))
      refine s_bn (i2 = i0) (by kernel_rfl) (fun h139 => ?_) (fun h139 => ?_)
      ·have r140 := ite_t h139 hx133
       refine q_ (.bool false) (q_ (pt_ b7 0) ?_)
       have d141 := (i48.dj (hf22.djn r11.ltF) (r11.ltF.le e21.n))
       have n142 := (t_ e21.n e44.n)
       have d143 := (w85.dj d141 (r11.ltF.le n142))
       have u144 := (((((r11.ext e21).frS e44 (hf22.djn r11.ltF)).ext e68).frS e80 d141).frS e115 d143)
       refine lr_ 30 0 (hd_Alive) u144 (q_ (i_ i2) ?_)
       obtain ⟨g145, r146⟩ := G_some r140
       have d147 := (hf22.djn (h_Alive.lt.le e9.n))
       have n148 := (t_ e9.n e21.n)
       have d149 := (i48.dj d147 (h_Alive.lt.le n148))
       have n150 := (t_ (t_ e9.n e21.n) e44.n)
       have d151 := (w85.dj d149 (h_Alive.lt.le n150))
       have u152 := (((((u14.ext e21).fr e44 d147).ext e68).fr e80 d149).fr e115 d151)
       refine u152.ix_ 30 g75.1 g145 (le_ 4 0 (.bool (gt Alive i2)) u152 g75.1 g145 (q_ (.bool (!(gt Alive i2))) (q_ (.bool (!(gt Alive i2))) (s_nil ?_))))
       obtain rfl := oi_ r146
       exact k137 _ _ ⟨ha_, rfl⟩
      have r153 := ite_f h139 hx133
      refine q_ (.bool true) (n_' (n_' (n_' (n_' (n_' (n_' (q_ (.bool true) (s_nil ?_))))))))
      obtain rfl := oi_ r153
      exact k137 _ _ ⟨ha_, rfl⟩
     obtain ⟨hh138, rfl⟩ := hM
     obtain ⟨β, rfl⟩ := has_ex hh138
     clear hh138
     refine k131 _ _ ?_
     refine wb_ (o132) (fun h154 => ?_) fun h154 => ?_
     ·have r155 := ite_t h154 r134
      refine g_' (q_ (.slice a24 n25 c26) (q_ (i_ i2) ?_))
      obtain ⟨g156, r157⟩ := G_some r155
      refine m117.ix_ 49 g75.1 g156 ?_
      obtain ⟨cs158, f159, hk160, hs161, hl162, hq163⟩ := m117.kid g75.1 g156
      obtain ⟨s164, rfl, ho166⟩ := cr_sl_open hk160
      have kd167 : KdS (encI .u64) 1 H114 s164 (gt d1 i2) f82 (.slice a24 n25 c26) 1 i2.toNat 0 := ⟨ho166.sq.up hs161 m117.lt, hq163 0 _ rfl (by decide)⟩
      obtain ⟨a168, n169, c170, rfl⟩ := kd167.sq.form
      refine l_' (.slice a168 n169 c170) (aL_ 36 (elp (.slice a24 n25 c26) 1 i2.toNat 0) H114) (hl162 _ _ _ _ (by kernel_rfl)) (q_ (i_ i0) ?_)
      obtain ⟨g172, r173⟩ := G_some r157
      refine kd167.sq.ix_ 36 g172.1 g172.2 ?_
      obtain ⟨H174, q175, e176, hm177, kd178⟩ := Nst.inner cr_sl_lens (P := Try.prog) (t := 27) (o2 := 0) e115.wf m117 g75.1 g156 kd167 rfl g172.1 g172.2 (.int .u64 18446744073709551615) [.int .u64 18446744073709551615] (by kernel_rfl) (by kernel_rfl) rfl 18446744073709551615 (Nat.le_of_ble_eq_true rfl) (by kernel_rfl)
      have h1179 : i2 < ((d1.set i2.toNat ((gt d1 i2).set i0.toNat 18446744073709551615)).length : Int) := by rw [List.length_set]; exact g156
      have eq180 : ((gt d1 i2).set i0.toNat 18446744073709551615) = (gt (d1.set i2.toNat ((gt d1 i2).set i0.toNat 18446744073709551615)) i2) := (gt_set_self g75.1 g156 _).symm
      refine ek_ q175 (s_nil (k129 _ _ (g_' ?_)))
      obtain ⟨g181, r182⟩ := G_some r173
      refine w_' ((i0 + 1)) (wrap64 (by have := g181; omega)) (q_ (i_ (i0 + 1)) (s_nil ?_))
      obtain rfl := oi_ r182
      exact k124 n120 _ _ lt_ ⟨(i0 + 1), (d1.set i2.toNat ((gt d1 i2).set i0.toNat 18446744073709551615)), hn123, ha_, (fs_ e80.wf (fs_ e80.wf (fr_ e80.wf) e115 ir_) e176 ir_), hm177⟩
     have r183 := ite_bf h154 r134
     refine w_skip (k129 _ _ (g_' ?_))
     obtain ⟨g184, r185⟩ := G_some r183
     refine w_' ((i0 + 1)) (wrap64 g184) (q_ (i_ (i0 + 1)) (s_nil ?_))
     obtain rfl := oi_ r185
     exact k124 n120 _ _ lt_ ⟨(i0 + 1), d1, hn123, ha_, (fs_ e80.wf (fr_ e80.wf) e115 ir_), m117⟩
    have r186 := ite_f h127 hz122
    refine w_exit (th_exit (th_exit (bl_eq ?_)))
    obtain rfl := oi_ r186
    obtain rfl := it_inr hn123
    exact k110 _ _ ⟨ha_, (fs_ e80.wf (fr_ e80.wf) e115 ir_), m117⟩
   obtain ⟨hh111, e107, m109⟩ := hM
   obtain ⟨β, rfl⟩ := has_ex hh111
   clear hh111
   refine k60 _ _ (g_' ?_)
   obtain ⟨g187, r188⟩ := G_some r105
   refine w_' ((i2 + 1)) (wrap64 (by have := g187; omega)) (q_ (i_ (i2 + 1)) (s_nil ?_))
   obtain rfl := oi_ r188
   exact k55 n51 _ _ lt_ ⟨(i2 + 1), o103, f82, hn54, ha_, (fs_ e21.wf (fs_ e21.wf ((fs_ e21.wf (fr_ e21.wf) e44 ir_).extR e68) e80 (Inn.trans ir_ (Nat.le_refl _) i48)) e107 (Inn.trans (Inn.trans ir_ (Nat.le_refl _) i48) e44.n w85)), m109, (Inn.trans (Inn.trans ir_ (Nat.le_refl _) i48) e44.n w85)⟩
  have r189 := ite_f h58 hz53
  refine w_exit (th_exit (th_exit (bl_eq ?_)))
  obtain rfl := oi_ r189
  obtain rfl := it_inr hn54
  exact k39 _ _ ⟨f47, ha_, (fs_ e21.wf (fr_ e21.wf) e44 ir_), m46, (Inn.trans ir_ (Nat.le_refl _) i48)⟩
 obtain ⟨f37, hh40, e34, m36, i38⟩ := hM
 obtain ⟨β, rfl⟩ := has_ex hh40
 clear hh40
 refine k28 _ _ (sq_ fun k190 => sq_ fun k191 => g_' (q_ (pt_ b7 1) ?_))
 have u192 := ((r11.ext e21).frS e34 (hf22.djn r11.ltF))
 refine lr_ 31 1 (hd_Arcs) u192 ?_
 have d193 := (hf22.djn (h_Arcs.lt.le e9.n))
 have u194 := (((h_Arcs.ext e9).ext e21).fr e34 d193)
 refine u194.ln_ 31 (q_ (i_ 0) (s_nil (k191 _ _ ?_)))
 obtain ⟨o195, hx196, r197⟩ := bs_ r32
 refine w_mid (fun α H198 => Has α [(4, .slice a24 n25 c26)] /\ FrS f37 H33 H198 /\ Nst (CR.sl (encI .u64) 1) H198 (.slice a24 n25 c26) o195 f37) (fun _ k202 => ?_) (fun α H198 hM => ?_)
 ·refine w_block ?_
  obtain ⟨n204, hn205⟩ := loopO_iff.1 hx196
  refine w_loopn (fun n α H206 => ∃ (d4 : List (List (Int))), ∃ (i5 : Int), iterO (fun zz_ => z_viaductref11_Distances_l2 Arcs zz_.1 zz_.2) n (d4, i5) = some o195 /\ Has α [(4, .slice a24 n25 c26), (55, hd_Arcs), (56, i_ (Arcs.length : Int)), (57, i_ i5)] /\ FrS f37 H33 H206 /\ Nst (CR.sl (encI .u64) 1) H206 (.slice a24 n25 c26) d4 f37) n204 ⟨o30, 0, hn205, ha_, (fr_ e34.wf), m36⟩ ?_
  rintro n204 α H206 ⟨d4, i5, hi211, hh210, e207, m209⟩ K216 k216
  obtain ⟨n212, z213, rfl, hz214, hn215⟩ := iter_succ hi211
  obtain ⟨β, rfl⟩ := has_ex hh210
  clear hh210
  replace hz214 : z_viaductref11_Distances_l2 Arcs d4 i5 = some z213 := hz214
  unfold z_viaductref11_Distances_l2 at hz214
  refine sq_ fun k217 => g_' (q_ (.bool (decide (i5 < (Arcs.length : Int)))) (s_nil (k217 _ _ (sq_ fun k218 => ?_))))
  refine wc_ (i5 < (Arcs.length : Int)) (fun h219 => ?_) fun h219 => ?_
  ·have r220 := ite_t h219 hz214
   refine w_skip (k218 _ _ (sq_ fun k221 => w_block (sq_ fun k222 => g_' ?_)))
   obtain ⟨g223, r224⟩ := G_some r220
   have n225 := (t_ e9.n e21.n)
   have d226 := (i38.dj d193 (h_Arcs.lt.le n225))
   have u227 := (u194.fr e207 d226)
   refine u227.ix_ 31 g223 h219 (le_ 73 0 (.agg #[i_ ((gt Arcs i5).1), i_ ((gt Arcs i5).2.1), .int .u64 ((gt Arcs i5).2.2.1), i_ ((gt Arcs i5).2.2.2)]) u227 g223 h219 ?_)
   refine rk_ e207.wf [i_ 0, i_ 0, .int .u64 0, i_ 0] fun b228 H229 e230 hb231 r232 => ?_
   obtain ⟨H234, q235, e236, r237⟩ := ra_ 73 0 e230.wf r232 [i_ ((gt Arcs i5).1), i_ ((gt Arcs i5).2.1), .int .u64 ((gt Arcs i5).2.2.1), i_ ((gt Arcs i5).2.2.2)] [i_ ((gt Arcs i5).1), i_ ((gt Arcs i5).2.1), .int .u64 ((gt Arcs i5).2.2.1), i_ ((gt Arcs i5).2.2.2)]
   refine ek_ q235 (s_nil (k222 _ _ ?_))
   refine w_draw [0, 1, 2, 3, 4, 5, 6, 7, 8, 9, 10, 11, 12, 13, 14, 15, 16, 17, 18, 19, 20] (by kernel_rfl) ?_
   refine e_' (.slice a24 n25 c26) (e_' (pt_ b228 0) (mr_ 3 0 (i_ ((gt Arcs i5).1)) r237 ?_))
   obtain ⟨g238, r239⟩ := G_some r224
   have d240 := (hb231.djn (m36.lt.le e207.n))
   have u241 := ((m209.ext e230).fr e236 d240)
   refine u241.mx_ 49 g238.1 g238.2 ?_
   obtain ⟨cs242, f243, hk244, hs245, hl246, hq247⟩ := u241.kid g238.1 g238.2
   obtain ⟨s248, rfl, ho250⟩ := cr_sl_open hk244
   have kd251 : KdS (encI .u64) 1 H234 s248 (gt d4 ((gt Arcs i5).1)) f37 (.slice a24 n25 c26) 1 ((gt Arcs i5).1).toNat 0 := ⟨ho250.sq.up hs245 u241.lt, hq247 0 _ rfl (by decide)⟩
   obtain ⟨a252, n253, c254, rfl⟩ := kd251.sq.form
   refine m_' (.slice a252 n253 c254) (aL_ 36 (elp (.slice a24 n25 c26) 1 ((gt Arcs i5).1).toNat 0) H234) (hl246 _ _ _ _ (by kernel_rfl)) (e_' (pt_ b228 1) (mr_ 3 1 (i_ ((gt Arcs i5).2.1)) r237 (e_' (.slice a24 n25 c26) (e_' (pt_ b228 0) (mr_ 3 0 (i_ ((gt Arcs i5).1)) r237 (u241.mx_ 49 g238.1 g238.2 ?_))))))
   obtain ⟨cs256, f257, hk258, hs259, hl260, hq261⟩ := u241.kid g238.1 g238.2
   obtain ⟨s262, rfl, ho264⟩ := cr_sl_open hk258
   have kd265 : KdS (encI .u64) 1 H234 s262 (gt d4 ((gt Arcs i5).1)) f37 (.slice a24 n25 c26) 1 ((gt Arcs i5).1).toNat 0 := ⟨ho264.sq.up hs259 u241.lt, hq261 0 _ rfl (by decide)⟩
   obtain ⟨a266, n267, c268, rfl⟩ := kd265.sq.form
   refine m_' (.slice a266 n267 c268) (aL_ 36 (elp (.slice a24 n25 c26) 1 ((gt Arcs i5).1).toNat 0) H234) (hl260 _ _ _ _ (by kernel_rfl)) (e_' (pt_ b228 1) (mr_ 3 1 (i_ ((gt Arcs i5).2.1)) r237 ?_))
   obtain ⟨g270, r271⟩ := G_some r239
   refine kd265.sq.mx_ 36 g270.1 g270.2 (me_ 27 0 (.int .u64 (gt (gt d4 ((gt Arcs i5).1)) ((gt Arcs i5).2.1))) kd265.sq g270.1 g270.2 (e_' (pt_ b228 2) (mr_ 27 2 (.int .u64 ((gt Arcs i5).2.2.1)) r237 (m_' (.int .u64 (min (gt (gt d4 ((gt Arcs i5).1)) ((gt Arcs i5).2.1)) ((gt Arcs i5).2.2.1))) (aMin Try.prog [.int .u64 (gt (gt d4 ((gt Arcs i5).1)) ((gt Arcs i5).2.1)), .int .u64 ((gt Arcs i5).2.2.1)]) (aMin_two _ _) (kd251.sq.mx_ 36 g270.1 g270.2 ?_)))))
   obtain ⟨H272, q273, e274, hm275, kd276⟩ := Nst.inner cr_sl_lens (P := Try.prog) (t := 27) (o2 := 0) e236.wf u241 g238.1 g238.2 kd251 rfl g270.1 g270.2 (.int .u64 (min (gt (gt d4 ((gt Arcs i5).1)) ((gt Arcs i5).2.1)) ((gt Arcs i5).2.2.1))) [.int .u64 (min (gt (gt d4 ((gt Arcs i5).1)) ((gt Arcs i5).2.1)) ((gt Arcs i5).2.2.1))] (by kernel_rfl) (by kernel_rfl) rfl (min (gt (gt d4 ((gt Arcs i5).1)) ((gt Arcs i5).2.1)) ((gt Arcs i5).2.2.1)) (Nat.le_of_ble_eq_true rfl) (by kernel_rfl)
   have h1277 : (gt Arcs i5).1 < ((d4.set ((gt Arcs i5).1).toNat ((gt d4 ((gt Arcs i5).1)).set ((gt Arcs i5).2.1).toNat (min (gt (gt d4 ((gt Arcs i5).1)) ((gt Arcs i5).2.1)) ((gt Arcs i5).2.2.1)))).length : Int) := by rw [List.length_set]; exact g238.2
   have eq278 : ((gt d4 ((gt Arcs i5).1)).set ((gt Arcs i5).2.1).toNat (min (gt (gt d4 ((gt Arcs i5).1)) ((gt Arcs i5).2.1)) ((gt Arcs i5).2.2.1))) = (gt (d4.set ((gt Arcs i5).1).toNat ((gt d4 ((gt Arcs i5).1)).set ((gt Arcs i5).2.1).toNat (min (gt (gt d4 ((gt Arcs i5).1)) ((gt Arcs i5).2.1)) ((gt Arcs i5).2.2.1)))) ((gt Arcs i5).1)) := (gt_set_self g238.1 g238.2 _).symm
   refine fk_ q273 (st_nil) ?_
   refine d_nil ?_
   refine k221 _ _ (g_' ?_)
   obtain ⟨g279, r280⟩ := G_some r271
   refine w_' ((i5 + 1)) (wrap64 (by have := g279; omega)) (q_ (i_ (i5 + 1)) (s_nil ?_))
   obtain rfl := oi_ r280
   exact k216 n212 _ _ lt_ ⟨(d4.set ((gt Arcs i5).1).toNat ((gt d4 ((gt Arcs i5).1)).set ((gt Arcs i5).2.1).toNat (min (gt (gt d4 ((gt Arcs i5).1)) ((gt Arcs i5).2.1)) ((gt Arcs i5).2.2.1)))), (i5 + 1), hn215, ha_, (fs_ e34.wf (fs_ e34.wf ((fs_ e34.wf (fr_ e34.wf) e207 ir_).extR e230) e236 (hb231.fresh e207.n)) e274 ir_), hm275⟩
  have r281 := ite_f h219 hz214
  refine w_exit (th_exit (th_exit (bl_eq ?_)))
  obtain rfl := oi_ r281
  obtain rfl := it_inr hn215
  exact k202 _ _ ⟨ha_, (fs_ e34.wf (fr_ e34.wf) e207 ir_), m209⟩
 obtain ⟨hh203, e199, m201⟩ := hM
 obtain ⟨β, rfl⟩ := has_ex hh203
 clear hh203
 refine k190 _ _ (sq_ fun k282 => sq_ fun k283 => g_' (q_ (.slice a24 n25 c26) (m201.ln_ 49 (q_ (i_ 0) (s_nil (k283 _ _ ?_))))))
 obtain ⟨o284, hx285, r286⟩ := bs_ r197
 refine w_mid (fun α H287 => Has α [(4, .slice a24 n25 c26)] /\ FrS f37 H198 H287 /\ Nst (CR.sl (encI .u64) 1) H287 (.slice a24 n25 c26) o284 f37) (fun _ k291 => ?_) (fun α H287 hM => ?_)
 ·refine w_block ?_
  obtain ⟨n293, hn294⟩ := loopO_iff.1 hx285
  refine w_loopn (fun n α H295 => ∃ (d10 : List (List (Int))), ∃ (i11 : Int), iterO (fun zz_ => z_viaductref11_Distances_l5 o195 zz_.1 zz_.2) n (d10, i11) = some o284 /\ Has α [(4, .slice a24 n25 c26), (83, i_ (o195.length : Int)), (84, i_ i11)] /\ FrS f37 H198 H295 /\ Nst (CR.sl (encI .u64) 1) H295 (.slice a24 n25 c26) d10 f37) n293 ⟨o195, 0, hn294, ha_, (fr_ e199.wf), m201⟩ ?_
  rintro n293 α H295 ⟨d10, i11, hi300, hh299, e296, m298⟩ K305 k305
  obtain ⟨n301, z302, rfl, hz303, hn304⟩ := iter_succ hi300
  obtain ⟨β, rfl⟩ := has_ex hh299
  clear hh299
  replace hz303 : z_viaductref11_Distances_l5 o195 d10 i11 = some z302 := hz303
  unfold z_viaductref11_Distances_l5 at hz303
  refine sq_ fun k306 => g_' (q_ (.bool (decide (i11 < (o195.length : Int)))) (s_nil (k306 _ _ (sq_ fun k307 => ?_))))
  refine wc_ (i11 < (o195.length : Int)) (fun h308 => ?_) fun h308 => ?_
  ·have r309 := ite_t h308 hz303
   refine w_skip (k307 _ _ (sq_ fun k310 => w_block (sq_ fun k311 => g_' (q_ (i_ i11) (q_ (i_ i11) (s_nil (k311 _ _ (sq_ fun k312 => g_' (q_ (.slice a24 n25 c26) (m298.ln_ 49 (q_ (i_ 0) (s_nil (k312 _ _ ?_)))))))))))))
   obtain ⟨o313, hx314, r315⟩ := bs_ r309
   refine w_mid (fun α H316 => Has α [(4, .slice a24 n25 c26), (83, i_ (o195.length : Int)), (84, i_ i11)] /\ FrS f37 H295 H316 /\ Nst (CR.sl (encI .u64) 1) H316 (.slice a24 n25 c26) o313 f37) (fun _ k320 => ?_) (fun α H316 hM => ?_)
   ·refine w_block ?_
    obtain ⟨n322, hn323⟩ := loopO_iff.1 hx314
    refine w_loopn (fun n α H324 => ∃ (d8 : List (List (Int))), ∃ (i9 : Int), iterO (fun zz_ => z_viaductref11_Distances_l4 d10 i11 zz_.1 zz_.2) n (d8, i9) = some o313 /\ Has α [(4, .slice a24 n25 c26), (9, i_ i11), (83, i_ (o195.length : Int)), (84, i_ i11), (88, i_ (d10.length : Int)), (89, i_ i9)] /\ FrS f37 H295 H324 /\ Nst (CR.sl (encI .u64) 1) H324 (.slice a24 n25 c26) d8 f37) n322 ⟨d10, 0, hn323, ha_, (fr_ e296.wf), m298⟩ ?_
    rintro n322 α H324 ⟨d8, i9, hi329, hh328, e325, m327⟩ K334 k334
    obtain ⟨n330, z331, rfl, hz332, hn333⟩ := iter_succ hi329
    obtain ⟨β, rfl⟩ := has_ex hh328
    clear hh328
    replace hz332 : z_viaductref11_Distances_l4 d10 i11 d8 i9 = some z331 := hz332
    unfold z_viaductref11_Distances_l4 at hz332
    refine sq_ fun k335 => g_' (q_ (.bool (decide (i9 < (d10.length : Int)))) (s_nil (k335 _ _ (sq_ fun k336 => ?_))))
    refine wc_ (i9 < (d10.length : Int)) (fun h337 => ?_) fun h337 => ?_
    ·have r338 := ite_t h337 hz332
     refine w_skip (k336 _ _ (sq_ fun k339 => w_block (sq_ fun k340 => g_' (q_ (i_ i9) (q_ (i_ i9) (s_nil (k340 _ _ (sq_ fun k341 => g_' (q_ (.slice a24 n25 c26) (m327.ln_ 49 (q_ (i_ 0) (s_nil (k341 _ _ ?_)))))))))))))
     obtain ⟨o342, hx343, r344⟩ := bs_ r338
     refine w_mid (fun α H345 => Has α [(4, .slice a24 n25 c26), (9, i_ i11), (83, i_ (o195.length : Int)), (84, i_ i11), (88, i_ (d10.length : Int)), (89, i_ i9)] /\ FrS f37 H324 H345 /\ Nst (CR.sl (encI .u64) 1) H345 (.slice a24 n25 c26) o342 f37) (fun _ k349 => ?_) (fun α H345 hM => ?_)
     ·refine w_block ?_
      obtain ⟨n351, hn352⟩ := loopO_iff.1 hx343
      refine w_loopn (fun n α H353 => ∃ (d6 : List (List (Int))), ∃ (i7 : Int), iterO (fun zz_ => z_viaductref11_Distances_l3 i11 d8 i9 zz_.1 zz_.2) n (d6, i7) = some o342 /\ Has α [(4, .slice a24 n25 c26), (9, i_ i11), (10, i_ i9), (83, i_ (o195.length : Int)), (84, i_ i11), (88, i_ (d10.length : Int)), (89, i_ i9), (93, i_ (d8.length : Int)), (94, i_ i7)] /\ FrS f37 H324 H353 /\ Nst (CR.sl (encI .u64) 1) H353 (.slice a24 n25 c26) d6 f37) n351 ⟨d8, 0, hn352, ha_, (fr_ e325.wf), m327⟩ ?_
      rintro n351 α H353 ⟨d6, i7, hi358, hh357, e354, m356⟩ K363 k363
      obtain ⟨n359, z360, rfl, hz361, hn362⟩ := iter_succ hi358
      obtain ⟨β, rfl⟩ := has_ex hh357
      clear hh357
      replace hz361 : z_viaductref11_Distances_l3 i11 d8 i9 d6 i7 = some z360 := hz361
      unfold z_viaductref11_Distances_l3 at hz361
      refine sq_ fun k364 => g_' (q_ (.bool (decide (i7 < (d8.length : Int)))) (s_nil (k364 _ _ (sq_ fun k365 => ?_))))
      refine wc_ (i7 < (d8.length : Int)) (fun h366 => ?_) fun h366 => ?_
      ·have r367 := ite_t h366 hz361
       refine w_skip (k365 _ _ (sq_ fun k368 => w_block (sq_ fun k369 => g_' (q_ (i_ i7) (q_ (i_ i7) (s_nil (k369 _ _ (sq_ fun k370 => ?_))))))))
       obtain ⟨o371, hx372, r373⟩ := bs_ r367
       refine w_mid (fun α H374 => Has α [(4, .slice a24 n25 c26), (9, i_ i11), (10, i_ i9), (11, i_ i7), (83, i_ (o195.length : Int)), (84, i_ i11), (88, i_ (d10.length : Int)), (89, i_ i9), (93, i_ (d8.length : Int)), (94, i_ i7), (114, .bool o371)] /\ H353 = H374) (fun _ k376 => ?_) (fun α H374 hM => ?_)
       ·refine g_' (q_ (.slice a24 n25 c26) (q_ (i_ i9) ?_))
        obtain ⟨g378, r379⟩ := G_some hx372
        refine m356.ix_ 49 g378.1 g378.2 ?_
        obtain ⟨cs380, f381, hk382, hs383, hl384, hq385⟩ := m356.kid g378.1 g378.2
        obtain ⟨s386, rfl, ho388⟩ := cr_sl_open hk382
        have kd389 : KdS (encI .u64) 1 H353 s386 (gt d6 i9) f37 (.slice a24 n25 c26) 1 i9.toNat 0 := ⟨ho388.sq.up hs383 m356.lt, hq385 0 _ rfl (by decide)⟩
        obtain ⟨a390, n391, c392, rfl⟩ := kd389.sq.form
        refine l_' (.slice a390 n391 c392) (aL_ 36 (elp (.slice a24 n25 c26) 1 i9.toNat 0) H353) (hl384 _ _ _ _ (by kernel_rfl)) (q_ (i_ i11) ?_)
        obtain ⟨g394, r395⟩ := G_some r379
        refine kd389.sq.ix_ 36 g394.1 g394.2 (le_ 27 0 (.int .u64 (gt (gt d6 i9) i11)) kd389.sq g394.1 g394.2 ?_)
        refine s_bn ((gt (gt d6 i9) i11) = 18446744073709551615) (by kernel_rfl) (fun h396 => ?_) (fun h396 => ?_)
        ·have r397 := ite_t h396 r395
         refine q_ (.bool false) (n_' (n_' (n_' (n_' (n_' (n_' (n_' (n_' (q_ (.bool false) (s_nil ?_))))))))))
         obtain rfl := oi_ r397
         exact k376 _ _ ⟨ha_, rfl⟩
        have r398 := ite_f h396 r395
        refine q_ (.bool true) (q_ (.slice a24 n25 c26) (q_ (i_ i11) ?_))
        obtain ⟨g399, r400⟩ := G_some r398
        refine m356.ix_ 49 g394.1 g399 ?_
        obtain ⟨cs401, f402, hk403, hs404, hl405, hq406⟩ := m356.kid g394.1 g399
        obtain ⟨s407, rfl, ho409⟩ := cr_sl_open hk403
        have kd410 : KdS (encI .u64) 1 H353 s407 (gt d6 i11) f37 (.slice a24 n25 c26) 1 i11.toNat 0 := ⟨ho409.sq.up hs404 m356.lt, hq406 0 _ rfl (by decide)⟩
        obtain ⟨a411, n412, c413, rfl⟩ := kd410.sq.form
        refine l_' (.slice a411 n412 c413) (aL_ 36 (elp (.slice a24 n25 c26) 1 i11.toNat 0) H353) (hl405 _ _ _ _ (by kernel_rfl)) (q_ (i_ i7) ?_)
        obtain ⟨g415, r416⟩ := G_some r400
        refine kd410.sq.ix_ 36 g415.1 g415.2 (le_ 27 0 (.int .u64 (gt (gt d6 i11) i7)) kd410.sq g415.1 g415.2 (q_ (.bool (!decide ((gt (gt d6 i11) i7) = 18446744073709551615))) (q_ (.bool (!decide ((gt (gt d6 i11) i7) = 18446744073709551615))) (s_nil ?_))))
        obtain rfl := oi_ r416
        exact k376 _ _ ⟨ha_, rfl⟩
       obtain ⟨hh377, rfl⟩ := hM
       obtain ⟨β, rfl⟩ := has_ex hh377
       clear hh377
       refine k370 _ _ ?_
       refine wb_ (o371) (fun h417 => ?_) fun h417 => ?_
       ·have r418 := ite_t h417 r373
        refine w_draw [0, 1, 2, 3, 4, 5, 6, 7, 8, 9, 10, 11, 12, 13, 14, 15, 16, 17, 18, 19, 20, 21, 22, 23, 24, 25, 26, 27, 28, 29] (by kernel_rfl) ?_
        refine e_' (.slice a24 n25 c26) (e_' (i_ i9) ?_)
        obtain ⟨g419, r420⟩ := G_some r418
        refine m356.mx_ 49 g419.1 g419.2 ?_
        obtain ⟨cs421, f422, hk423, hs424, hl425, hq426⟩ := m356.kid g419.1 g419.2
        obtain ⟨s427, rfl, ho429⟩ := cr_sl_open hk423
        have kd430 : KdS (encI .u64) 1 H353 s427 (gt d6 i9) f37 (.slice a24 n25 c26) 1 i9.toNat 0 := ⟨ho429.sq.up hs424 m356.lt, hq426 0 _ rfl (by decide)⟩
        obtain ⟨a431, n432, c433, rfl⟩ := kd430.sq.form
        refine m_' (.slice a431 n432 c433) (aL_ 36 (elp (.slice a24 n25 c26) 1 i9.toNat 0) H353) (hl425 _ _ _ _ (by kernel_rfl)) (e_' (i_ i7) (e_' (.slice a24 n25 c26) (e_' (i_ i9) (m356.mx_ 49 g419.1 g419.2 ?_))))
        obtain ⟨cs435, f436, hk437, hs438, hl439, hq440⟩ := m356.kid g419.1 g419.2
        obtain ⟨s441, rfl, ho443⟩ := cr_sl_open hk437
        have kd444 : KdS (encI .u64) 1 H353 s441 (gt d6 i9) f37 (.slice a24 n25 c26) 1 i9.toNat 0 := ⟨ho443.sq.up hs438 m356.lt, hq440 0 _ rfl (by decide)⟩
        obtain ⟨a445, n446, c447, rfl⟩ := kd444.sq.form
        refine m_' (.slice a445 n446 c447) (aL_ 36 (elp (.slice a24 n25 c26) 1 i9.toNat 0) H353) (hl439 _ _ _ _ (by kernel_rfl)) (e_' (i_ i7) ?_)
        obtain ⟨g449, r450⟩ := G_some r420
        refine kd444.sq.mx_ 36 g449.1 g449.2 (me_ 27 0 (.int .u64 (gt (gt d6 i9) i7)) kd444.sq g449.1 g449.2 (e_' (.slice a24 n25 c26) (e_' (i_ i9) (m356.mx_ 49 g419.1 g419.2 ?_))))
        obtain ⟨cs451, f452, hk453, hs454, hl455, hq456⟩ := m356.kid g419.1 g419.2
        obtain ⟨s457, rfl, ho459⟩ := cr_sl_open hk453
        have kd460 : KdS (encI .u64) 1 H353 s457 (gt d6 i9) f37 (.slice a24 n25 c26) 1 i9.toNat 0 := ⟨ho459.sq.up hs454 m356.lt, hq456 0 _ rfl (by decide)⟩
        obtain ⟨a461, n462, c463, rfl⟩ := kd460.sq.form
        refine m_' (.slice a461 n462 c463) (aL_ 36 (elp (.slice a24 n25 c26) 1 i9.toNat 0) H353) (hl455 _ _ _ _ (by kernel_rfl)) (e_' (i_ i11) ?_)
        obtain ⟨g465, r466⟩ := G_some r450
        refine kd460.sq.mx_ 36 g465.1 g465.2 (me_ 27 0 (.int .u64 (gt (gt d6 i9) i11)) kd460.sq g465.1 g465.2 (e_' (.slice a24 n25 c26) (e_' (i_ i11) ?_)))
        obtain ⟨g467, r468⟩ := G_some r466
        refine m356.mx_ 49 g465.1 g467 ?_
        obtain ⟨cs469, f470, hk471, hs472, hl473, hq474⟩ := m356.kid g465.1 g467
        obtain ⟨s475, rfl, ho477⟩ := cr_sl_open hk471
        have kd478 : KdS (encI .u64) 1 H353 s475 (gt d6 i11) f37 (.slice a24 n25 c26) 1 i11.toNat 0 := ⟨ho477.sq.up hs472 m356.lt, hq474 0 _ rfl (by decide)⟩
        obtain ⟨a479, n480, c481, rfl⟩ := kd478.sq.form
        refine m_' (.slice a479 n480 c481) (aL_ 36 (elp (.slice a24 n25 c26) 1 i11.toNat 0) H353) (hl473 _ _ _ _ (by kernel_rfl)) (e_' (i_ i7) ?_)
        obtain ⟨g483, r484⟩ := G_some r468
        refine kd478.sq.mx_ 36 g449.1 g483 (me_ 27 0 (.int .u64 (gt (gt d6 i11) i7)) kd478.sq g449.1 g483 ?_)
        obtain ⟨g485, r486⟩ := G_some r484
        refine d_w (((gt (gt d6 i9) i11) + (gt (gt d6 i11) i7))) (k := .u64) (x := ((gt (gt d6 i9) i11) + (gt (gt d6 i11) i7))) (by kernel_rfl) (wrapu64 g485) ?_
        refine m_' (.int .u64 (min (gt (gt d6 i9) i7) ((gt (gt d6 i9) i11) + (gt (gt d6 i11) i7)))) (aMin Try.prog [.int .u64 (gt (gt d6 i9) i7), .int .u64 ((gt (gt d6 i9) i11) + (gt (gt d6 i11) i7))]) (aMin_two _ _) (kd430.sq.mx_ 36 g449.1 g449.2 ?_)
        obtain ⟨H487, q488, e489, hm490, kd491⟩ := Nst.inner cr_sl_lens (P := Try.prog) (t := 27) (o2 := 0) e354.wf m356 g419.1 g419.2 kd430 rfl g449.1 g449.2 (.int .u64 (min (gt (gt d6 i9) i7) ((gt (gt d6 i9) i11) + (gt (gt d6 i11) i7)))) [.int .u64 (min (gt (gt d6 i9) i7) ((gt (gt d6 i9) i11) + (gt (gt d6 i11) i7)))] (by kernel_rfl) (by kernel_rfl) rfl (min (gt (gt d6 i9) i7) ((gt (gt d6 i9) i11) + (gt (gt d6 i11) i7))) (Nat.le_of_ble_eq_true rfl) (by kernel_rfl)
        have h1492 : i9 < ((d6.set i9.toNat ((gt d6 i9).set i7.toNat (min (gt (gt d6 i9) i7) ((gt (gt d6 i9) i11) + (gt (gt d6 i11) i7))))).length : Int) := by rw [List.length_set]; exact g419.2
        have eq493 : ((gt d6 i9).set i7.toNat (min (gt (gt d6 i9) i7) ((gt (gt d6 i9) i11) + (gt (gt d6 i11) i7)))) = (gt (d6.set i9.toNat ((gt d6 i9).set i7.toNat (min (gt (gt d6 i9) i7) ((gt (gt d6 i9) i11) + (gt (gt d6 i11) i7))))) i9) := (gt_set_self g419.1 g419.2 _).symm
        refine fk_ q488 (st_nil) ?_
        refine d_nil ?_
        refine k368 _ _ (g_' ?_)
        obtain ⟨g494, r495⟩ := G_some r486
        refine w_' ((i7 + 1)) (wrap64 (by have := g494; omega)) (q_ (i_ (i7 + 1)) (s_nil ?_))
        obtain rfl := oi_ r495
        exact k363 n359 _ _ lt_ ⟨(d6.set i9.toNat ((gt d6 i9).set i7.toNat (min (gt (gt d6 i9) i7) ((gt (gt d6 i9) i11) + (gt (gt d6 i11) i7))))), (i7 + 1), hn362, ha_, (fs_ e325.wf (fs_ e325.wf (fr_ e325.wf) e354 ir_) e489 ir_), hm490⟩
       have r496 := ite_bf h417 r373
       refine w_skip (k368 _ _ (g_' ?_))
       obtain ⟨g497, r498⟩ := G_some r496
       refine w_' ((i7 + 1)) (wrap64 g497) (q_ (i_ (i7 + 1)) (s_nil ?_))
       obtain rfl := oi_ r498
       exact k363 n359 _ _ lt_ ⟨d6, (i7 + 1), hn362, ha_, (fs_ e325.wf (fr_ e325.wf) e354 ir_), m356⟩
      have r499 := ite_f h366 hz361
      refine w_exit (th_exit (th_exit (bl_eq ?_)))
      obtain rfl := oi_ r499
      obtain rfl := it_inr hn362
      exact k349 _ _ ⟨ha_, (fs_ e325.wf (fr_ e325.wf) e354 ir_), m356⟩
     obtain ⟨hh350, e346, m348⟩ := hM
     obtain ⟨β, rfl⟩ := has_ex hh350
     clear hh350
     refine k339 _ _ (g_' ?_)
     obtain ⟨g500, r501⟩ := G_some r344
     refine w_' ((i9 + 1)) (wrap64 g500) (q_ (i_ (i9 + 1)) (s_nil ?_))
     obtain rfl := oi_ r501
     exact k334 n330 _ _ lt_ ⟨o342, (i9 + 1), hn333, ha_, (fs_ e296.wf (fs_ e296.wf (fr_ e296.wf) e325 ir_) e346 ir_), m348⟩
    have r502 := ite_f h337 hz332
    refine w_exit (th_exit (th_exit (bl_eq ?_)))
    obtain rfl := oi_ r502
    obtain rfl := it_inr hn333
    exact k320 _ _ ⟨ha_, (fs_ e296.wf (fr_ e296.wf) e325 ir_), m327⟩
   obtain ⟨hh321, e317, m319⟩ := hM
   obtain ⟨β, rfl⟩ := has_ex hh321
   clear hh321
   refine k310 _ _ (g_' ?_)
   obtain ⟨g503, r504⟩ := G_some r315
   refine w_' ((i11 + 1)) (wrap64 g503) (q_ (i_ (i11 + 1)) (s_nil ?_))
   obtain rfl := oi_ r504
   exact k305 n301 _ _ lt_ ⟨o313, (i11 + 1), hn304, ha_, (fs_ e199.wf (fs_ e199.wf (fr_ e199.wf) e296 ir_) e317 ir_), m319⟩
  have r505 := ite_f h308 hz303
  refine w_exit (th_exit (th_exit (bl_eq ?_)))
  obtain rfl := oi_ r505
  obtain rfl := it_inr hn304
  exact k291 _ _ ⟨ha_, (fs_ e199.wf (fr_ e199.wf) e296 ir_), m298⟩
 obtain ⟨hh292, e288, m290⟩ := hM
 obtain ⟨β, rfl⟩ := has_ex hh292
 clear hh292
 refine k282 _ _ (sq_ fun k506 => g_' (q_ (.slice a24 n25 c26) (q_ (.slice a24 n25 c26) (s_nil (k506 _ _ ?_)))))
 refine w_ret ?_
 refine br_ [.slice a24 n25 c26] ?_
 have n507 := (t_ e9.n e21.n)
 obtain rfl := oi_ r286
 exact ⟨(.slice a24 n25 c26), f37, rfl, (fs_ wf (fs_ wf (fs_ wf (((f0_ wf).extR e9).extR e21) e34 (hf22.fresh e9.n)) e199 (Inn.trans (hf22.fresh e9.n) n507 i38)) e288 (Inn.trans (hf22.fresh e9.n) n507 i38)), m290, (Inn.trans (hf22.fresh e9.n) n507 i38)⟩
end Go.Vd

/-! (KSd7) -/

set_option maxRecDepth 100000
set_option maxHeartbeats 4000000
set_option linter.unusedVariables false
namespace Go.Vd
open Go.Proofs
attribute [local irreducible] wpSeq wpOrd aWp
theorem c_viaductlaw13_ShortsDistances {H : AH} {hd_Arcs : Value} {fp_Arcs : Fp} {hd_list : Value} {fp_list : Fp} {N_ : Int} {Arcs : List (Int × Int × Int)} {list : List (Int)} {Hops : Int} {Settles : Int} {Edge : Int} {Deleted : Int} {Depth : Int} {r : Bool}
    (wf : WF H) (h_Arcs : Sq enc_i64_i64_i64 3 H hd_Arcs Arcs fp_Arcs) (h_list : Sq (encI .i64) 1 H hd_list list fp_list) (hr : z_viaductlaw13_ShortsDistances N_ Arcs list Hops Settles Edge Deleted Depth = some r) :
    ACalls Try.prog 5 #[.agg #[i_ N_, hd_Arcs], hd_list, .agg #[i_ Hops, i_ Settles, i_ Edge, i_ Deleted, i_ Depth]] H fun v H' => v = .bool r /\ FrS [] H H' := by
 refine ab_ Try.func5 ?_
 unfold z_viaductlaw13_ShortsDistances at hr
 refine sq_ fun k1 => g_' ?_
 refine s_rwl wf [i_ N_, hd_Arcs] (one_cons (rfl) (one_cons (h_Arcs.one1) (one_nil))) (by kernel_rfl) fun b2 H3 e4 hb5 r6 => ?_
 refine rl_ e4.wf [i_ Hops, i_ Settles, i_ Edge, i_ Deleted, i_ Depth] fun b8 H9 e10 hb11 r12 => ?_
 refine q_ (.bool false) (s_nil (k1 _ _ (sq_ fun k14 => sq_ fun k15 => g_' ?_)))
 refine s_ck 10 #[] (by kernel_rfl) c_viaductlaw13_awake ?_
 rintro _ _ ⟨rfl, rfl⟩
 refine q_ (.bool false) (s_nil (k15 _ _ ?_))
 refine wb_ false (fun h => by cases h) fun _ => ?_
 refine w_skip (k14 _ _ (sq_ fun k16 => sq_ fun k17 => ?_))
 obtain ⟨o18, hx19, r20⟩ := bs_ hr
 refine w_mid (fun α H21 => Has α [(1, hd_list), (3, pt_ b2 0), (5, pt_ b8 0), (31, .bool o18)] /\ FrS [] H9 H21) (fun _ k23 => ?_) (fun α H21 hM => ?_)
 ·refine g_' ?_
  have u25 := (r6.ext e10)
  refine lr_ 24 0 (.agg #[i_ N_, hd_Arcs]) u25 ?_
  have u26 := ((h_Arcs.ext e4).ext e10)
  obtain ⟨y27, hy28, r29⟩ := bs_ hx19
  refine ck_ (c_viaductref04_Few e10.wf u26 hy28) ?_
  rintro _ H30 ⟨rfl, e31⟩
  by_cases h32 : y27 = true
  ·have r33 := ite_t h32 r29
   rw [h32]
   refine q_ (.bool false) (q_ (.bool false) (q_ (hd_list) ?_))
   have u35 := (((h_list.ext e4).ext e10).fr e31 dn_)
   refine u35.ln_ 26 (q_ (.bool (decide ((list.length : Int) > 40))) (q_ (.bool (decide ((list.length : Int) > 40))) (s_nil ?_)))
   obtain rfl := oi_ r33
   exact k23 _ _ ⟨ha_, (fs_ e10.wf (fr_ e10.wf) e31 in_)⟩
  have r36 := ite_f h32 r29
  rw [nb h32]
  refine q_ (.bool true) (q_ (.bool true) (n_' (n_' (n_' (q_ (.bool true) (s_nil ?_))))))
  obtain rfl := oi_ r36
  exact k23 _ _ ⟨ha_, (fs_ e10.wf (fr_ e10.wf) e31 in_)⟩
 obtain ⟨hh24, e22⟩ := hM
 obtain ⟨β, rfl⟩ := has_ex hh24
 clear hh24
 refine k17 _ _ ?_
 refine wb_ (o18) (fun h38 => ?_) fun h38 => ?_
 ·have r39 := ite_t h38 r20
  refine sq_ fun k40 => g_' (q_ (.bool true) (s_nil (k40 _ _ ?_)))
  refine w_ret (th_ret ?_)
  refine br_ [.bool true] ?_
  obtain rfl := oi_ r39
  exact ⟨rfl, (fs_ wf (((f0_ wf).extR e4).extR e10) e22 in_)⟩
 have r41 := ite_bf h38 r20
 refine w_skip (k16 _ _ (sq_ fun k42 => g_' ?_))
 have u43 := ((r6.ext e10).frS e22 dn_)
 refine lr_ 24 0 (.agg #[i_ N_, hd_Arcs]) u43 ?_
 have u44 := (((h_Arcs.ext e4).ext e10).fr e22 dn_)
 obtain ⟨y45, hy46, r47⟩ := bs_ r41
 rcases y45 with y48 | y49
 ·exact (no_none (elim_l r47)).elim
 have r50 := elim_r r47
 refine ck_ (c_overlay_New e22.wf u44 hy46) ?_
 rintro _ H54 ⟨s51, f52, b53, rfl, e55, m56, m57, i58, i59, d60⟩
 obtain ⟨a63, n64, c65, rfl⟩ := m56.form
 refine q_ (.tuple #[pt_ b53 0, .nilIface]) (q_ (pt_ b53 0) (q_ (.nilIface) (q_ (pt_ b53 0) (q_ (.nilIface) (s_nil (k42 _ _ (sq_ fun k66 => sq_ fun k67 => g_' (q_ (.nilIface) (q_ (.bool false) (s_nil (k67 _ _ ?_)))))))))))
 refine wb_ false (fun h => by cases h) fun _ => ?_
 refine w_skip (k66 _ _ (sq_ fun k68 => g_' ?_))
 have u69 := (u43.frS e55 dn_)
 refine lr_ 24 0 (.agg #[i_ N_, hd_Arcs]) u69 ?_
 have u70 := (u44.fr e55 dn_)
 obtain ⟨y71, hy72, r73⟩ := bs_ r50
 refine ck_ (c_viaductref04_Distances e55.wf u70 hy72) ?_
 rintro s74 H76 ⟨_, f75, rfl, e77, m78, i79⟩
 obtain ⟨a81, n82, c83, rfl⟩ := m78.form
 refine q_ (.slice a81 n82 c83) (s_nil (k68 _ _ (sq_ fun k84 => sq_ fun k85 => g_' (q_ (hd_list) ?_))))
 have u86 := (((((h_list.ext e4).ext e10).fr e22 dn_).fr e55 dn_).fr e77 dn_)
 refine u86.ln_ 26 (q_ (i_ 0) (s_nil (k85 _ _ ?_)))
 obtain ⟨z90, hx88, r89⟩ := bs_ r73
 refine w_mid (fun α H91 => ∃ o87, z90 = Sum.inr o87 /\ Has α [] /\ FrS ([b53] ++ f52) H76 H91) (fun _ k93 => ?_) (fun α H91 hM => ?_)
 ·refine w_block ?_
  obtain ⟨n95, hn96⟩ := loopO_iff.1 hx88
  have u111 := (m56.fr e77 dn_)
  have u112 := (m57.frS e77 dn_)
  refine w_loopn (fun n α H97 => ∃ (i7 : Int), ∃ (o8 : List (Bool × List (Int × Int × Int) × List (Int × Int × Int))), ∃ (o9 : Int), ∃ (o10 : Int), ∃ (f101 : Fp), iterO (fun zz_ => z_viaductlaw13_ShortsDistances_l4 N_ list Hops Settles Edge Deleted Depth y71 zz_.1 zz_.2.1 zz_.2.2.1 zz_.2.2.2) n (i7, o8, o9, o10) = some z90 /\ Has α [(3, pt_ b2 0), (5, pt_ b8 0), (7, pt_ b53 0), (9, .slice a81 n82 c83), (41, hd_list), (42, i_ (list.length : Int)), (43, i_ i7)] /\ FrS ([b53] ++ f52) H76 H97 /\ Nd enc_i64_u64_i64 3 H97 (.slice a63 n64 c65) o8 f101 [] /\ Row H97 b53 [.slice a63 n64 c65, i_ o9, i_ o10] /\ Inn f52 H76 f101) n95 ⟨0, y49.1, y49.2.1, y49.2.2, f52, hn96, ha_, (fr_ e77.wf), u111, u112, ir_⟩ ?_
  rintro n95 α H97 ⟨i7, o8, o9, o10, f101, hi106, hh105, e98, m100, m103, i104⟩ K113 k113
  obtain ⟨n107, z108, rfl, hz109, hn110⟩ := iter_succ hi106
  obtain ⟨β, rfl⟩ := has_ex hh105
  clear hh105
  replace hz109 : z_viaductlaw13_ShortsDistances_l4 N_ list Hops Settles Edge Deleted Depth y71 i7 o8 o9 o10 = some z108 := hz109
  unfold z_viaductlaw13_ShortsDistances_l4 at hz109
  refine sq_ fun k114 => g_' (q_ (.bool (decide (i7 < (list.length : Int)))) (s_nil (k114 _ _ (sq_ fun k115 => ?_))))
  refine wc_ (i7 < (list.length : Int)) (fun h116 => ?_) fun h116 => ?_
  ·have r117 := ite_t h116 hz109
   refine w_skip (k115 _ _ (sq_ fun k118 => w_block (sq_ fun k119 => g_' ?_)))
   obtain ⟨g120, r121⟩ := G_some r117
   have n122 := (t_ (t_ e4.n e10.n) e22.n)
   have d123 := (i58.djn (h_list.lt.le n122))
   have d124 := (i59.djn (h_list.lt.le n122))
   have u125 := (u86.fr e98 (Dj.app d124 d123))
   refine u125.ix_ 26 g120 h116 (le_ 3 0 (i_ (gt list i7)) u125 g120 h116 (q_ (i_ (gt list i7)) (s_nil (k119 _ _ (sq_ fun k126 => g_' (q_ (pt_ b53 0) (q_ (i_ (gt list i7)) ?_)))))))
   obtain ⟨y127, hy128, r129⟩ := bs_ r121
   refine ck_ (c_overlay_Overlay_Alive e98.wf m100 m103 hy128) ?_
   rintro _ _ ⟨rfl, rfl⟩
   refine q_ (.bool y127) (s_nil (k126 _ _ (sq_ fun k132 => sq_ fun k133 => g_' (q_ (pt_ b53 0) (q_ (i_ (gt list i7)) ?_)))))
   have d134 := (i58.djn (r12.ltF.le e22.n))
   have d135 := (i59.djn (r12.ltF.le e22.n))
   have u136 := ((((r12.frS e22 dn_).frS e55 dn_).frS e77 dn_).frS e98 (Dj.app d135 d134))
   refine lr_ 44 0 (.agg #[i_ Hops, i_ Settles, i_ Edge, i_ Deleted, i_ Depth]) u136 ?_
   have d137 := (i104.dj d60 (m57.ltF.le e77.n))
   obtain ⟨y138, hy139, r140⟩ := bs_ r129
   refine ck_ (c_shorts_Contract e98.wf m100 m103 d137 hy139) ?_
   rintro _ H146 ⟨s141, f142, v143, f144, f145, rfl, e147, m148, m149, m150, m151, i152, i153, i154, d155, d156, d157⟩
   obtain ⟨a160, n161, c162, rfl⟩ := m148.form
   refine q_ (.tuple #[.slice a160 n161 c162, v143]) (q_ (.slice a160 n161 c162) (q_ (v143) (q_ (.slice a160 n161 c162) (q_ (v143) (s_nil (k133 _ _ (sq_ fun k163 => ?_)))))))
   obtain ⟨o164, hx165, r166⟩ := bs_ r140
   refine w_mid (fun α H167 => Has α [(3, pt_ b2 0), (5, pt_ b8 0), (7, pt_ b53 0), (9, .slice a81 n82 c83), (41, hd_list), (42, i_ (list.length : Int)), (43, i_ i7), (65, .bool o164)] /\ H146 = H167) (fun _ k169 => ?_) (fun α H167 hM => ?_)
   ·refine g_' (q_ (v143) ?_)
    rcases (m149).cases with ⟨h171, rfl⟩ | ⟨h171, t172, x173, rfl⟩
    ·have r174 := ite_t h171 hx165
     refine q_ (.bool true) (q_ (.bool y127) ?_)
     refine s_bn (true = y127) (by kernel_rfl) (fun h175 => ?_) (fun h175 => ?_)
     ·have r176 := ite_t h175 r174
      refine q_ (.bool false) (q_ (pt_ b53 0) (q_ (i_ (gt list i7)) ?_))
      obtain ⟨y177, hy178, r179⟩ := bs_ r176
      refine ck_ (c_overlay_Overlay_Alive e147.wf m150 m151 hy178) ?_
      rintro _ _ ⟨rfl, rfl⟩
      refine q_ (.bool y177) (s_nil ?_)
      obtain rfl := oi_ r179
      exact k169 _ _ ⟨ha_, rfl⟩
     have r182 := ite_f h175 r174
     refine q_ (.bool true) (n_' (n_' (n_' (q_ (.bool true) (s_nil ?_)))))
     obtain rfl := oi_ r182
     exact k169 _ _ ⟨ha_, rfl⟩
    have r183 := ite_f h171 hx165
    refine l_' (.bool false) (aBin Try.prog .eql 38 (.tmp 57) (.const .nilIface) (.iface t172 x173) .nilIface) (aBin_nil (by kernel_rfl)) (q_ (.bool y127) ?_)
    refine s_bn (false = y127) (by kernel_rfl) (fun h184 => ?_) (fun h184 => ?_)
    ·have r185 := ite_t h184 r183
     refine q_ (.bool false) (q_ (pt_ b53 0) (q_ (i_ (gt list i7)) ?_))
     obtain ⟨y186, hy187, r188⟩ := bs_ r185
     refine ck_ (c_overlay_Overlay_Alive e147.wf m150 m151 hy187) ?_
     rintro _ _ ⟨rfl, rfl⟩
     refine q_ (.bool y186) (s_nil ?_)
     obtain rfl := oi_ r188
     exact k169 _ _ ⟨ha_, rfl⟩
    have r191 := ite_f h184 r183
    refine q_ (.bool true) (n_' (n_' (n_' (q_ (.bool true) (s_nil ?_)))))
    obtain rfl := oi_ r191
    exact k169 _ _ ⟨ha_, rfl⟩
   obtain ⟨hh170, rfl⟩ := hM
   obtain ⟨β, rfl⟩ := has_ex hh170
   clear hh170
   refine k163 _ _ ?_
   refine wb_ (o164) (fun h192 => ?_) fun h192 => ?_
   ·have r193 := ite_t h192 r166
    refine sq_ fun k194 => g_' (q_ (.bool false) (s_nil (k194 _ _ ?_)))
    refine w_ret (th_ret (bl_ret (th_ret (th_ret (bl_ret (th_ret (th_ret ?_)))))))
    obtain ⟨v195, hv196, hz197⟩ := map_some r193
    subst hz197
    obtain rfl := it_inr hn110
    have hq198 := elim_inl r89
    rw [hq198] at hv196
    refine br_ [.bool false] ?_
    have n199 := (t_ (t_ (t_ (t_ e4.n e10.n) e22.n) e55.n) e77.n)
    obtain rfl := oi_ hv196
    exact ⟨rfl, (fs_ wf (fs_ wf (fs_ wf (fs_ wf (fs_ wf (((f0_ wf).extR e4).extR e10) e22 in_) e55 in_) e77 in_) e98 (Inn.app (i59.fresh n122) (i58.fresh n122))) e147 (Inn.app (i59.fresh n122) (Inn.trans (i58.fresh n122) n199 i104)))⟩
   have r200 := ite_bf h192 r166
   refine w_skip (k132 _ _ (sq_ fun k201 => g_' (q_ (pt_ b2 0) ?_)))
   have n202 := (t_ e10.n e22.n)
   have d203 := (i58.djn (r6.ltF.le n202))
   have d204 := (i59.djn (r6.ltF.le n202))
   have n205 := (t_ (t_ (t_ e10.n e22.n) e55.n) e77.n)
   have d206 := (i104.dj d203 (r6.ltF.le n205))
   have u207 := (((u69.frS e77 dn_).frS e98 (Dj.app d204 d203)).frS e147 (Dj.app d204 d206))
   refine lr_ 3 0 (i_ N_) u207 ?_
   obtain ⟨g208, r209⟩ := G_some r200
   refine s_mks (t := 30) (m := 1) (l := N_) (c := N_) (enc := encB) (sz := 1) e147.wf (false : Bool) (by kernel_rfl) (by decide) g208.1 (Int.le_refl _) (by omega) (by have := g208; omega) (by kernel_rfl) fun s210 f211 H212 e213 hf214 hm215 => ?_
   obtain ⟨a216, n217, c218, rfl⟩ := hm215.form
   have hm215 : Ow encB 1 H212 (.slice a216 n217 c218) (List.replicate N_.toNat (false : Bool)) f211 := hm215
   refine q_ (.agg #[.slice a216 n217 c218, .slice none 0 0]) ?_
   refine rk_ e213.wf [.slice none 0 0, .slice none 0 0] fun b220 H221 e222 hb223 r224 => ?_
   have u230 := (hm215.ext e222)
   obtain ⟨H226, q227, e228, r229⟩ := ra_ 33 0 e222.wf r224 [.slice a216 n217 c218, .slice none 0 0] [.slice a216 n217 c218, .slice none 0 0]
   refine ek_ q227 (s_nil (k201 _ _ (sq_ fun k231 => sq_ fun k232 => g_' (q_ (pt_ b2 0) ?_))))
   have n233 := (t_ (t_ (t_ (t_ (t_ (t_ e10.n e22.n) e55.n) e77.n) e98.n) e147.n) e213.n)
   have d234 := (hb223.djn (r6.ltF.le n233))
   have u235 := (((u207.ext e213).ext e222).frS e228 d234)
   refine lr_ 3 0 (i_ N_) u235 (q_ (i_ 0) (s_nil (k232 _ _ ?_)))
   obtain ⟨z239, hx237, r238⟩ := bs_ r209
   refine w_mid (fun α H240 => ∃ o236, z239 = Sum.inr o236 /\ ∃ (s246 : Value) (f247 : Fp), Has α [(3, pt_ b2 0), (5, pt_ b8 0), (7, pt_ b53 0), (9, .slice a81 n82 c83), (15, pt_ b220 0), (41, hd_list), (42, i_ (list.length : Int)), (43, i_ i7)] /\ FrS ([b220] ++ f211) H226 H240 /\ Ow encB 1 H240 (.slice a216 n217 c218) o236.1 f211 /\ Ow enc_i64_i64_u64_i64 4 H240 s246 o236.2 f247 /\ Row H240 b220 [.slice a216 n217 c218, s246] /\ Inn [] H226 f247) (fun _ k251 => ?_) (fun α H240 hM => ?_)
   ·refine w_block ?_
    obtain ⟨n253, hn254⟩ := loopO_iff.1 hx237
    have u272 := (u230.fr e228 (hb223.djn hm215.lt))
    refine w_loopn (fun n α H255 => ∃ (now2 : List (Bool)), ∃ (now3 : List (Int × Int × Int × Int)), ∃ (i4 : Int), ∃ (s261 : Value), ∃ (f262 : Fp), iterO (fun zz_ => z_viaductlaw13_ShortsDistances_l1 N_ y138 zz_.1 zz_.2.1 zz_.2.2) n (now2, now3, i4) = some z239 /\ Has α [(3, pt_ b2 0), (5, pt_ b8 0), (7, pt_ b53 0), (9, .slice a81 n82 c83), (15, pt_ b220 0), (41, hd_list), (42, i_ (list.length : Int)), (43, i_ i7), (71, i_ N_), (72, i_ i4)] /\ FrS ([b220] ++ f211) H226 H255 /\ Ow encB 1 H255 (.slice a216 n217 c218) now2 f211 /\ Ow enc_i64_i64_u64_i64 4 H255 s261 now3 f262 /\ Row H255 b220 [.slice a216 n217 c218, s261] /\ Inn [] H226 f262) n253 ⟨(List.replicate N_.toNat (false : Bool)), [], 0, (.slice none 0 0), [], hn254, ha_, (fr_ e228.wf), u272, (Ow.nil (by decide)), r229, in_⟩ ?_
    rintro n253 α H255 ⟨now2, now3, i4, s261, f262, hi267, hh266, e256, m258, m260, m264, i265⟩ K273 k273
    obtain ⟨n268, z269, rfl, hz270, hn271⟩ := iter_succ hi267
    obtain ⟨β, rfl⟩ := has_ex hh266
    clear hh266
    replace hz270 : z_viaductlaw13_ShortsDistances_l1 N_ y138 now2 now3 i4 = some z269 := hz270
    unfold z_viaductlaw13_ShortsDistances_l1 at hz270
    obtain ⟨a274, n275, c276, rfl⟩ := m260.form
    refine sq_ fun k277 => g_' (q_ (.bool (decide (i4 < N_))) (s_nil (k277 _ _ (sq_ fun k278 => ?_))))
    refine wc_ (i4 < N_) (fun h279 => ?_) fun h279 => ?_
    ·have r280 := ite_t h279 hz270
     refine w_skip (k278 _ _ (sq_ fun k281 => w_block (sq_ fun k282 => g_' (q_ (i_ i4) (q_ (i_ i4) (s_nil (k282 _ _ (sq_ fun k283 => ?_))))))))
     refine w_draw [0, 1, 2, 3, 4, 5, 6, 7] (by kernel_rfl) ?_
     refine e_' (pt_ b220 0) ?_
     refine d_fl (.slice a216 n217 c218) (x := aL_ 30 (pt_ b220 0) H255) (by kernel_rfl) (m264.l_) ?_
     refine e_' (i_ i4) (e_' (pt_ b53 0) (e_' (i_ i4) ?_))
     have d284 := (hb223.djn (m150.lt.le e213.n))
     have u285 := ((((m150.ext e213).ext e222).fr e228 d284).fr e256 (Dj.app d284 (hf214.djn m150.lt)))
     have n286 := (t_ (t_ (t_ e77.n e98.n) e147.n) e213.n)
     have d287 := (hb223.djn (m57.ltF.le n286))
     have n288 := (t_ (t_ e77.n e98.n) e147.n)
     have d289 := (hf214.djn (m57.ltF.le n288))
     have u290 := ((((m151.ext e213).ext e222).frS e228 d287).frS e256 (Dj.app d287 d289))
     obtain ⟨y291, hy292, r293⟩ := bs_ r280
     refine dk_ (c_overlay_Overlay_Alive e256.wf u285 u290 hy292) ?_
     rintro _ _ ⟨rfl, rfl⟩
     refine ⟨st_ql (y := aL_ 30 (pt_ b220 0) H255) (by kernel_rfl) (m264.l_) (st_nil), ?_⟩
     obtain ⟨g296, r297⟩ := G_some r293
     refine m258.sq.mx_ 30 g296.1 g296.2 ?_
     obtain ⟨H298, q299, e300, hm301⟩ := Ow.store (P := Try.prog) (t := 4) (off := 0) e256.wf m258 g296.1 g296.2 (.bool y291) [.bool y291] (by kernel_rfl) (by kernel_rfl) rfl y291 (Nat.le_of_ble_eq_true rfl) (by kernel_rfl)
     refine fk_ q299 (st_anc (by kernel_rfl) (st_nil)) ?_
     refine d_nil ?_
     refine k283 _ _ (sq_ fun k302 => g_' (q_ (pt_ b53 0) (q_ (i_ i4) ?_)))
     have u303 := (u285.fr e300 (hf214.djn m150.lt))
     have u304 := (u290.frS e300 d289)
     obtain ⟨y305, hy306, r307⟩ := bs_ r297
     refine ck_ (c_overlay_Overlay_Out e300.wf u303 u304 hy306) ?_
     rintro s308 H310 ⟨_, f309, rfl, e311, m312, i313⟩
     obtain ⟨a315, n316, c317, rfl⟩ := m312.form
     refine m312.sq.ln_ 69 (q_ (i_ 0) (s_nil (k302 _ _ ?_)))
     obtain ⟨z321, hx319, r320⟩ := bs_ r307
     refine w_mid (fun α H322 => ∃ o318, z321 = Sum.inr o318 /\ ∃ (s326 : Value) (f327 : Fp), Has α [(3, pt_ b2 0), (5, pt_ b8 0), (7, pt_ b53 0), (9, .slice a81 n82 c83), (15, pt_ b220 0), (41, hd_list), (42, i_ (list.length : Int)), (43, i_ i7), (71, i_ N_), (72, i_ i4)] /\ FrS ([b220] ++ f262) H310 H322 /\ Ow enc_i64_i64_u64_i64 4 H322 s326 o318 f327 /\ Row H322 b220 [.slice a216 n217 c218, s326] /\ Inn f262 H310 f327) (fun _ k331 => ?_) (fun α H322 hM => ?_)
     ·refine w_block ?_
      obtain ⟨n333, hn334⟩ := loopO_iff.1 hx319
      have n350 := (t_ e222.n e228.n)
      have d351 := (i265.djn (hm215.lt.le n350))
      have u352 := ((m260.fr e300 (Dj.symm d351)).fr e311 dn_)
      have d353 := (hb223.djn hm215.lt)
      have u354 := ((m264.frS e300 (Dj.symm d353)).frS e311 dn_)
      refine w_loopn (fun n α H335 => ∃ (now0 : List (Int × Int × Int × Int)), ∃ (i1 : Int), ∃ (s339 : Value), ∃ (f340 : Fp), iterO (fun zz_ => z_viaductlaw13_ShortsDistances_l0 N_ i4 y305 zz_.1 zz_.2) n (now0, i1) = some z321 /\ Has α [(3, pt_ b2 0), (5, pt_ b8 0), (7, pt_ b53 0), (9, .slice a81 n82 c83), (15, pt_ b220 0), (16, i_ i4), (41, hd_list), (42, i_ (list.length : Int)), (43, i_ i7), (71, i_ N_), (72, i_ i4), (84, .slice a315 n316 c317), (85, i_ (y305.length : Int)), (86, i_ i1)] /\ FrS ([b220] ++ f262) H310 H335 /\ Ow enc_i64_i64_u64_i64 4 H335 s339 now0 f340 /\ Row H335 b220 [.slice a216 n217 c218, s339] /\ Inn f262 H310 f340) n333 ⟨now3, 0, (.slice a274 n275 c276), f262, hn334, ha_, (fr_ e311.wf), u352, u354, ir_⟩ ?_
      rintro n333 α H335 ⟨now0, i1, s339, f340, hi345, hh344, e336, m338, m342, i343⟩ K355 k355
      obtain ⟨n346, z347, rfl, hz348, hn349⟩ := iter_succ hi345
      obtain ⟨β, rfl⟩ := has_ex hh344
      clear hh344
      replace hz348 : z_viaductlaw13_ShortsDistances_l0 N_ i4 y305 now0 i1 = some z347 := hz348
      unfold z_viaductlaw13_ShortsDistances_l0 at hz348
      obtain ⟨a356, n357, c358, rfl⟩ := m338.form
      refine sq_ fun k359 => g_' (q_ (.bool (decide (i1 < (y305.length : Int)))) (s_nil (k359 _ _ (sq_ fun k360 => ?_))))
      refine wc_ (i1 < (y305.length : Int)) (fun h361 => ?_) fun h361 => ?_
      ·have r362 := ite_t h361 hz348
       refine w_skip (k360 _ _ (sq_ fun k363 => w_block (sq_ fun k364 => g_' ?_)))
       obtain ⟨g365, r366⟩ := G_some r362
       have d367 := (i313.djn (m260.lt.le e300.n))
       have n368 := (t_ (t_ e228.n e256.n) e300.n)
       have d369 := (i313.djn (r224.ltF.le n368))
       have u370 := (m312.fr e336 (Dj.app (Dj.symm d369) (Dj.symm d367)))
       refine u370.sq.ix_ 69 g365 h361 (le_ 71 0 (.agg #[i_ ((gt y305 i1).1), .int .u64 ((gt y305 i1).2.1), i_ ((gt y305 i1).2.2)]) u370.sq g365 h361 ?_)
       refine rk_ e336.wf [i_ 0, .int .u64 0, i_ 0] fun b371 H372 e373 hb374 r375 => ?_
       obtain ⟨H377, q378, e379, r380⟩ := ra_ 71 0 e373.wf r375 [i_ ((gt y305 i1).1), .int .u64 ((gt y305 i1).2.1), i_ ((gt y305 i1).2.2)] [i_ ((gt y305 i1).1), .int .u64 ((gt y305 i1).2.1), i_ ((gt y305 i1).2.2)]
       refine ek_ q378 (s_nil (k364 _ _ (sq_ fun k381 => sq_ fun k382 => ?_)))
       obtain ⟨o383, hx384, r385⟩ := bs_ r366
       refine w_mid (fun α H386 => Has α [(3, pt_ b2 0), (5, pt_ b8 0), (7, pt_ b53 0), (9, .slice a81 n82 c83), (15, pt_ b220 0), (16, i_ i4), (18, pt_ b371 0), (41, hd_list), (42, i_ (list.length : Int)), (43, i_ i7), (71, i_ N_), (72, i_ i4), (84, .slice a315 n316 c317), (85, i_ (y305.length : Int)), (86, i_ i1), (99, .bool o383)] /\ H377 = H386) (fun _ k388 => ?_) (fun α H386 hM => ?_)
       ·refine g_' (q_ (pt_ b371 0) (lr_ 3 0 (i_ ((gt y305 i1).1)) r380 ?_))
        refine sb_ (((gt y305 i1).1) < 0) (fun h390 => ?_) fun h390 => ?_
        ·have r391 := ite_t h390 hx384
         refine q_ (.bool true) (n_' (n_' (n_' (n_' (n_' (q_ (.bool true) (s_nil ?_)))))))
         obtain rfl := oi_ r391
         exact k388 _ _ ⟨ha_, rfl⟩
        have r392 := ite_f h390 hx384
        refine q_ (.bool false) (q_ (pt_ b371 0) (lr_ 3 0 (i_ ((gt y305 i1).1)) r380 (q_ (pt_ b2 0) ?_)))
        have n393 := (t_ (t_ (t_ (t_ (t_ e10.n e22.n) e55.n) e77.n) e98.n) e147.n)
        have d394 := (hf214.djn (r6.ltF.le n393))
        have n395 := (t_ (t_ (t_ (t_ (t_ (t_ (t_ (t_ e10.n e22.n) e55.n) e77.n) e98.n) e147.n) e213.n) e222.n) e228.n)
        have d396 := (i265.djn (r6.ltF.le n395))
        have n397 := (t_ (t_ (t_ (t_ (t_ (t_ (t_ (t_ (t_ (t_ (t_ (t_ e10.n e22.n) e55.n) e77.n) e98.n) e147.n) e213.n) e222.n) e228.n) e256.n) e300.n) e311.n) e336.n)
        have d398 := (hb374.djn (r6.ltF.le n397))
        have u399 := ((((((u235.frS e256 (Dj.app d234 d394)).frS e300 d394).frS e311 dn_).frS e336 (Dj.app d234 d396)).ext e373).frS e379 d398)
        refine lr_ 3 0 (i_ N_) u399 (q_ (.bool (decide (((gt y305 i1).1) ≥ N_))) (q_ (.bool (decide (((gt y305 i1).1) ≥ N_))) (s_nil ?_)))
        obtain rfl := oi_ r392
        exact k388 _ _ ⟨ha_, rfl⟩
       obtain ⟨hh389, rfl⟩ := hM
       obtain ⟨β, rfl⟩ := has_ex hh389
       clear hh389
       refine k382 _ _ ?_
       refine wb_ (o383) (fun h400 => ?_) fun h400 => ?_
       ·have r401 := ite_t h400 r385
        refine sq_ fun k402 => g_' (q_ (.bool false) (s_nil (k402 _ _ ?_)))
        refine w_ret (th_ret (bl_ret (th_ret (th_ret (bl_ret (th_ret (bl_ret (th_ret (th_ret (bl_ret (th_ret (th_ret (bl_ret (th_ret (th_ret (bl_ret (th_ret (th_ret ?_))))))))))))))))))
        obtain ⟨v403, hv404, hz405⟩ := map_some r401
        subst hz405
        obtain rfl := it_inr hn349
        have hq406 := elim_inl r320
        rw [hq406] at hv404
        obtain ⟨v407, hv408, hz409⟩ := map_some hv404
        subst hz409
        obtain rfl := it_inr hn271
        have hq410 := elim_inl r238
        rw [hq410] at hv408
        obtain ⟨v411, hv412, hz413⟩ := map_some hv408
        subst hz413
        obtain rfl := it_inr hn110
        have hq414 := elim_inl r89
        rw [hq414] at hv412
        refine br_ [.bool false] ?_
        have n415 := (t_ (t_ (t_ (t_ e4.n e10.n) e22.n) e55.n) e77.n)
        have n416 := (t_ (t_ (t_ (t_ (t_ (t_ (t_ e4.n e10.n) e22.n) e55.n) e77.n) e98.n) e147.n) e213.n)
        have n417 := (t_ (t_ (t_ (t_ (t_ (t_ e4.n e10.n) e22.n) e55.n) e77.n) e98.n) e147.n)
        have n418 := (t_ (t_ (t_ (t_ (t_ (t_ (t_ (t_ (t_ e4.n e10.n) e22.n) e55.n) e77.n) e98.n) e147.n) e213.n) e222.n) e228.n)
        have n419 := (t_ (t_ (t_ (t_ (t_ (t_ (t_ (t_ (t_ (t_ (t_ (t_ (t_ e4.n e10.n) e22.n) e55.n) e77.n) e98.n) e147.n) e213.n) e222.n) e228.n) e256.n) e300.n) e311.n) e336.n)
        obtain rfl := oi_ hv412
        exact ⟨rfl, (fs_ wf ((fs_ wf (fs_ wf (fs_ wf (fs_ wf (fs_ wf (((fs_ wf (fs_ wf (fs_ wf (fs_ wf (fs_ wf (((f0_ wf).extR e4).extR e10) e22 in_) e55 in_) e77 in_) e98 (Inn.app (i59.fresh n122) (i58.fresh n122))) e147 (Inn.app (i59.fresh n122) (Inn.trans (i58.fresh n122) n415 i104))).extR e213).extR e222) e228 (hb223.fresh n416)) e256 (Inn.app (hb223.fresh n416) (hf214.fresh n417))) e300 (hf214.fresh n417)) e311 in_) e336 (Inn.app (hb223.fresh n416) (i265.fresh n418))).extR e373) e379 (hb374.fresh n419))⟩
       have r420 := ite_bf h400 r385
       refine w_skip (k381 _ _ (g_' (q_ (pt_ b220 1) ?_)))
       have n421 := (t_ (t_ (t_ (t_ e228.n e256.n) e300.n) e311.n) e336.n)
       have d422 := (hb374.djn (r224.ltF.le n421))
       have u423 := ((m342.ext e373).frS e379 d422)
       refine lr_ 31 1 (.slice a356 n357 c358) u423 (q_ (i_ i4) (q_ (pt_ b371 0) (lr_ 3 0 (i_ ((gt y305 i1).1)) r380 (q_ (pt_ b371 1) (lr_ 27 1 (.int .u64 ((gt y305 i1).2.1)) r380 (q_ (.agg #[i_ i4, i_ ((gt y305 i1).1), .int .u64 ((gt y305 i1).2.1), i_ 0]) ?_))))))
       refine s_owk (enc := enc_i64_i64_u64_i64) (sz := 4) e379.wf [(i4, (gt y305 i1).1, (gt y305 i1).2.1, 0)] 1 (by decide) (fun _ _ => rfl) (fun _ _ => rfl) rfl (by kernel_rfl) fun s424 f425 H426 e427 hf428 hm429 => ?_
       obtain ⟨a430, n431, c432, rfl⟩ := hm429.form
       have u434 := (((m338.ext e373).fr e379 (hb374.djn m338.lt)).ext e427)
       obtain ⟨g435, r436⟩ := G_some r420
       obtain ⟨s437, H438, f439, q443, e440, hm441, hf442⟩ := Ow.append (P := Try.prog) 32 e427.wf u434 hm429.sq (fun _ _ => rfl) (at_ := #[31, 31]) rfl rfl (by kernel_rfl) (by kernel_rfl) (by decide) (by have := g435; first | omega | (simp only [List.length_cons, List.length_nil] at this ⊢; omega) | (simp at this ⊢; omega))
       obtain ⟨a444, n445, c446, rfl⟩ := hm441.form
       refine s_ek (.slice a444 n445 c446) (by kernel_rfl) (q443) ?_
       refine q_ (pt_ b220 1) ?_
       have d452 := (i265.djn (r224.ltF.le e228.n))
       have n453 := (t_ (t_ (t_ e228.n e256.n) e300.n) e311.n)
       have d454 := (i343.dj d452 (r224.ltF.le n453))
       have u455 := ((u423.ext e427).frS e440 d454)
       obtain ⟨H448, q449, e450, r451⟩ := rb_ 31 1 e440.wf u455 (.slice a444 n445 c446) [.slice a216 n217 c218, .slice a444 n445 c446]
       refine ek_ q449 (s_nil (k363 _ _ (g_' ?_)))
       obtain ⟨g456, r457⟩ := G_some r436
       refine w_' ((i1 + 1)) (wrap64 (by have := g456; omega)) (q_ (i_ (i1 + 1)) (s_nil ?_))
       have n458 := (t_ (t_ (t_ (t_ (t_ (t_ (t_ e228.n e256.n) e300.n) e311.n) e336.n) e373.n) e379.n) e427.n)
       have d459 := (hf442.dj d454 (r224.ltF.le n458))
       have u460 := (hm441.fr e450 (Dj.symm d459))
       have n461 := (t_ (t_ (t_ e336.n e373.n) e379.n) e427.n)
       obtain rfl := oi_ r457
       exact k355 n346 _ _ lt_ ⟨(now0 ++ [(i4, (gt y305 i1).1, (gt y305 i1).2.1, 0)]), (i1 + 1), (.slice a444 n445 c446), f439, hn349, ha_, (fs_ e311.wf (fs_ e311.wf ((fs_ e311.wf ((fs_ e311.wf (fr_ e311.wf) e336 ir_).extR e373) e379 (hb374.fresh e336.n)).extR e427) e440 (Inn.trans (Inn.right ir_) (Nat.le_refl _) i343)) e450 Inn.left), u460, r451, (Inn.trans (Inn.trans ir_ (Nat.le_refl _) i343) n461 hf442)⟩
      have r462 := ite_f h361 hz348
      refine w_exit (th_exit (th_exit (bl_eq ?_)))
      obtain rfl := oi_ r462
      obtain rfl := it_inr hn349
      exact k331 _ _ ⟨_, rfl, (.slice a356 n357 c358), f340, ha_, (fs_ e311.wf (fr_ e311.wf) e336 ir_), m338, m342, (Inn.trans ir_ (Nat.le_refl _) i343)⟩
     obtain ⟨o318, rfl, s326, f327, hh332, e323, m325, m329, i330⟩ := hM
     have r463 := elim_inr r320
     obtain ⟨β, rfl⟩ := has_ex hh332
     clear hh332
     obtain ⟨a464, n465, c466, rfl⟩ := m325.form
     refine k281 _ _ (g_' ?_)
     obtain ⟨g467, r468⟩ := G_some r463
     refine w_' ((i4 + 1)) (wrap64 (by have := g467; omega)) (q_ (i_ (i4 + 1)) (s_nil ?_))
     have n469 := (t_ e222.n e228.n)
     have d470 := (i265.djn (hm215.lt.le n469))
     have u471 := ((hm301.fr e311 dn_).fr e323 (Dj.app (hb223.djn hm215.lt) d470))
     have n472 := (t_ (t_ e256.n e300.n) e311.n)
     obtain rfl := oi_ r468
     exact k273 n268 _ _ lt_ ⟨(now2.set i4.toNat y291), o318, (i4 + 1), (.slice a464 n465 c466), f327, hn271, ha_, (fs_ e228.wf (fs_ e228.wf (fs_ e228.wf (fs_ e228.wf (fr_ e228.wf) e256 ir_) e300 (Inn.right ir_)) e311 in_) e323 (Inn.app Inn.left (i265.fresh (Nat.le_refl _)))), u471, m325, m329, (Inn.trans (i265.fresh (Nat.le_refl _)) n472 i330)⟩
    have r473 := ite_f h279 hz270
    refine w_exit (th_exit (th_exit (bl_eq ?_)))
    obtain rfl := oi_ r473
    obtain rfl := it_inr hn271
    exact k251 _ _ ⟨_, rfl, (.slice a274 n275 c276), f262, ha_, (fs_ e228.wf (fr_ e228.wf) e256 ir_), m258, m260, m264, (i265.fresh (Nat.le_refl _))⟩
   obtain ⟨o236, rfl, s246, f247, hh252, e241, m243, m245, m249, i250⟩ := hM
   have r474 := elim_inr r238
   obtain ⟨β, rfl⟩ := has_ex hh252
   clear hh252
   obtain ⟨a475, n476, c477, rfl⟩ := m245.form
   refine k231 _ _ (sq_ fun k478 => g_' (lr_ 33 0 (.agg #[.slice a216 n217 c218, .slice a475 n476 c477]) m249 ?_))
   obtain ⟨y479, hy480, r481⟩ := bs_ r474
   refine ck_ (c_viaductref11_Distances e241.wf m243.sq m245.sq hy480) ?_
   rintro s482 H484 ⟨_, f483, rfl, e485, m486, i487⟩
   obtain ⟨a489, n490, c491, rfl⟩ := m486.form
   refine q_ (.slice a489 n490 c491) (s_nil (k478 _ _ (sq_ fun k492 => g_' (q_ (.slice a489 n490 c491) (m486.ln_ 49 (q_ (i_ 0) (s_nil (k492 _ _ ?_))))))))
   obtain ⟨z496, hx494, r495⟩ := bs_ r481
   refine w_mid (fun α H497 => ∃ o493, z496 = Sum.inr o493 /\ Has α [(3, pt_ b2 0), (5, pt_ b8 0), (7, pt_ b53 0), (9, .slice a81 n82 c83), (41, hd_list), (42, i_ (list.length : Int)), (43, i_ i7)] /\ H484 = H497) (fun _ k499 => ?_) (fun α H497 hM => ?_)
   ·refine w_block ?_
    obtain ⟨n501, hn502⟩ := loopO_iff.1 hx494
    refine w_loopn (fun n α H503 => ∃ (i6 : Int), iterO (fun zz_ => z_viaductlaw13_ShortsDistances_l3 y71 o236 y479 zz_) n i6 = some z496 /\ Has α [(3, pt_ b2 0), (5, pt_ b8 0), (7, pt_ b53 0), (9, .slice a81 n82 c83), (15, pt_ b220 0), (19, .slice a489 n490 c491), (41, hd_list), (42, i_ (list.length : Int)), (43, i_ i7), (116, i_ (y479.length : Int)), (117, i_ i6)] /\ H484 = H503) n501 ⟨0, hn502, ha_, rfl⟩ ?_
    rintro n501 α H503 ⟨i6, hi506, hh505, rfl⟩ K511 k511
    obtain ⟨n507, z508, rfl, hz509, hn510⟩ := iter_succ hi506
    obtain ⟨β, rfl⟩ := has_ex hh505
    clear hh505
    replace hz509 : z_viaductlaw13_ShortsDistances_l3 y71 o236 y479 i6 = some z508 := hz509
    unfold z_viaductlaw13_ShortsDistances_l3 at hz509
    refine sq_ fun k512 => g_' (q_ (.bool (decide (i6 < (y479.length : Int)))) (s_nil (k512 _ _ (sq_ fun k513 => ?_))))
    refine wc_ (i6 < (y479.length : Int)) (fun h514 => ?_) fun h514 => ?_
    ·have r515 := ite_t h514 hz509
     refine w_skip (k513 _ _ (sq_ fun k516 => w_block (sq_ fun k517 => g_' (q_ (i_ i6) (q_ (i_ i6) (s_nil (k517 _ _ (sq_ fun k518 => g_' (q_ (.slice a489 n490 c491) (m486.ln_ 49 (q_ (i_ 0) (s_nil (k518 _ _ ?_)))))))))))))
     obtain ⟨z522, hx520, r521⟩ := bs_ r515
     refine w_mid (fun α H523 => ∃ o519, z522 = Sum.inr o519 /\ Has α [(3, pt_ b2 0), (5, pt_ b8 0), (7, pt_ b53 0), (9, .slice a81 n82 c83), (15, pt_ b220 0), (19, .slice a489 n490 c491), (41, hd_list), (42, i_ (list.length : Int)), (43, i_ i7), (116, i_ (y479.length : Int)), (117, i_ i6)] /\ H484 = H523) (fun _ k525 => ?_) (fun α H523 hM => ?_)
     ·refine w_block ?_
      obtain ⟨n527, hn528⟩ := loopO_iff.1 hx520
      refine w_loopn (fun n α H529 => ∃ (i5 : Int), iterO (fun zz_ => z_viaductlaw13_ShortsDistances_l2 y71 o236 y479 i6 zz_) n i5 = some z522 /\ Has α [(3, pt_ b2 0), (5, pt_ b8 0), (7, pt_ b53 0), (9, .slice a81 n82 c83), (15, pt_ b220 0), (19, .slice a489 n490 c491), (20, i_ i6), (41, hd_list), (42, i_ (list.length : Int)), (43, i_ i7), (116, i_ (y479.length : Int)), (117, i_ i6), (121, i_ (y479.length : Int)), (122, i_ i5)] /\ H484 = H529) n527 ⟨0, hn528, ha_, rfl⟩ ?_
      rintro n527 α H529 ⟨i5, hi532, hh531, rfl⟩ K537 k537
      obtain ⟨n533, z534, rfl, hz535, hn536⟩ := iter_succ hi532
      obtain ⟨β, rfl⟩ := has_ex hh531
      clear hh531
      replace hz535 : z_viaductlaw13_ShortsDistances_l2 y71 o236 y479 i6 i5 = some z534 := hz535
      unfold z_viaductlaw13_ShortsDistances_l2 at hz535
      refine sq_ fun k538 => g_' (q_ (.bool (decide (i5 < (y479.length : Int)))) (s_nil (k538 _ _ (sq_ fun k539 => ?_))))
      refine wc_ (i5 < (y479.length : Int)) (fun h540 => ?_) fun h540 => ?_
      ·have r541 := ite_t h540 hz535
       refine w_skip (k539 _ _ (sq_ fun k542 => w_block (sq_ fun k543 => g_' (q_ (i_ i5) (q_ (i_ i5) (s_nil (k543 _ _ (sq_ fun k544 => ?_))))))))
       refine w_draw [0, 1, 2, 3, 4, 5, 6, 7, 8, 9, 10, 11, 12, 13, 14, 15, 16, 17, 18, 19, 20, 21, 22, 23, 24, 25, 26, 27, 28] (by kernel_rfl) ?_
       refine e_' (pt_ b220 0) ?_
       have u545 := (m249.frS e485 dn_)
       refine mr_ 30 0 (.slice a216 n217 c218) u545 (e_' (i_ i6) ?_)
       obtain ⟨g546, r547⟩ := G_some r541
       have u548 := (m243.fr e485 dn_)
       refine u548.sq.mx_ 30 g546.1 g546.2 (me_ 4 0 (.bool (gt o236.1 i6)) u548.sq g546.1 g546.2 (e_' (.bool (gt o236.1 i6)) ?_))
       by_cases h549 : (gt o236.1 i6) = true
       ·have r550 := ite_t h549 r547
        rw [h549]
        refine e_' (pt_ b220 0) (mr_ 30 0 (.slice a216 n217 c218) u545 (e_' (i_ i5) ?_))
        obtain ⟨g551, r552⟩ := G_some r550
        refine u548.sq.mx_ 30 g551.1 g551.2 (me_ 4 0 (.bool (gt o236.1 i5)) u548.sq g551.1 g551.2 (e_' (.bool (gt o236.1 i5)) (e_' (.bool (gt o236.1 i5)) ?_)))
        by_cases h553 : (gt o236.1 i5) = true
        ·have r554 := ite_t h553 r552
         rw [h553]
         refine e_' (.slice a489 n490 c491) (e_' (i_ i6) (m486.mx_ 49 g546.1 h514 ?_))
         obtain ⟨cs555, f556, hk557, hs558, hl559, hq560⟩ := m486.kid g546.1 h514
         obtain ⟨s561, rfl, ho563⟩ := cr_sl_open hk557
         have kd564 : KdS (encI .u64) 1 H484 s561 (gt y479 i6) f483 (.slice a489 n490 c491) 1 i6.toNat 0 := ⟨ho563.sq.up hs558 m486.lt, hq560 0 _ rfl (by decide)⟩
         obtain ⟨a565, n566, c567, rfl⟩ := kd564.sq.form
         refine m_' (.slice a565 n566 c567) (aL_ 36 (elp (.slice a489 n490 c491) 1 i6.toNat 0) H484) (hl559 _ _ _ _ (by kernel_rfl)) (e_' (i_ i5) ?_)
         obtain ⟨g569, r570⟩ := G_some r554
         refine kd564.sq.mx_ 36 g551.1 g569 (me_ 27 0 (.int .u64 (gt (gt y479 i6) i5)) kd564.sq g551.1 g569 (e_' (.slice a81 n82 c83) (e_' (i_ i6) ?_)))
         obtain ⟨g571, r572⟩ := G_some r570
         have d573 := (i79.djn m56.lt)
         have d574 := (i79.djn m57.ltF)
         have d575 := (i104.dj (Dj.symm d573) m78.lt)
         have n576 := (t_ (t_ e98.n e147.n) e213.n)
         have d577 := (hb223.djn (m78.lt.le n576))
         have n578 := (t_ e98.n e147.n)
         have d579 := (hf214.djn (m78.lt.le n578))
         have u580 := (((((((m78.fr e98 (Dj.app (Dj.symm d574) (Dj.symm d573))).fr e147 (Dj.app (Dj.symm d574) d575)).ext e213).ext e222).fr e228 d577).fr e241 (Dj.app d577 d579)).fr e485 dn_)
         refine u580.mx_ 49 g546.1 g571 ?_
         obtain ⟨cs581, f582, hk583, hs584, hl585, hq586⟩ := u580.kid g546.1 g571
         obtain ⟨s587, rfl, ho589⟩ := cr_sl_open hk583
         have kd590 : KdS (encI .u64) 1 H484 s587 (gt y71 i6) f75 (.slice a81 n82 c83) 1 i6.toNat 0 := ⟨ho589.sq.up hs584 u580.lt, hq586 0 _ rfl (by decide)⟩
         obtain ⟨a591, n592, c593, rfl⟩ := kd590.sq.form
         refine m_' (.slice a591 n592 c593) (aL_ 36 (elp (.slice a81 n82 c83) 1 i6.toNat 0) H484) (hl585 _ _ _ _ (by kernel_rfl)) (e_' (i_ i5) ?_)
         obtain ⟨g595, r596⟩ := G_some r572
         refine kd590.sq.mx_ 36 g551.1 g595 (me_ 27 0 (.int .u64 (gt (gt y71 i6) i5)) kd590.sq g551.1 g595 (e_' (.bool (!decide ((gt (gt y479 i6) i5) = (gt (gt y71 i6) i5)))) (e_' (.bool (!decide ((gt (gt y479 i6) i5) = (gt (gt y71 i6) i5)))) ?_)))
         refine d_nil ?_
         refine k544 _ _ ?_
         refine w_condn ((gt (gt y479 i6) i5) = (gt (gt y71 i6) i5)) (by kernel_rfl) rfl (fun h597 => ?_) (fun h597 => ?_)
         ·have r598 := ite_f h597 r596
          refine sq_ fun k599 => g_' (q_ (.bool false) (s_nil (k599 _ _ ?_)))
          refine w_ret (bl_ret (th_ret (th_ret (bl_ret (th_ret (bl_ret (th_ret (th_ret (bl_ret (th_ret (bl_ret (th_ret (th_ret (bl_ret (th_ret (th_ret ?_))))))))))))))))
          obtain ⟨v600, hv601, hz602⟩ := map_some r598
          subst hz602
          obtain rfl := it_inr hn536
          have hq603 := elim_inl r521
          rw [hq603] at hv601
          obtain ⟨v604, hv605, hz606⟩ := map_some hv601
          subst hz606
          obtain rfl := it_inr hn510
          have hq607 := elim_inl r495
          rw [hq607] at hv605
          obtain ⟨v608, hv609, hz610⟩ := map_some hv605
          subst hz610
          obtain rfl := it_inr hn110
          have hq611 := elim_inl r89
          rw [hq611] at hv609
          refine br_ [.bool false] ?_
          have n612 := (t_ (t_ (t_ (t_ e4.n e10.n) e22.n) e55.n) e77.n)
          have n613 := (t_ (t_ (t_ (t_ (t_ (t_ (t_ e4.n e10.n) e22.n) e55.n) e77.n) e98.n) e147.n) e213.n)
          have n614 := (t_ (t_ (t_ (t_ (t_ (t_ e4.n e10.n) e22.n) e55.n) e77.n) e98.n) e147.n)
          obtain rfl := oi_ hv609
          exact ⟨rfl, (fs_ wf (fs_ wf (fs_ wf (((fs_ wf (fs_ wf (fs_ wf (fs_ wf (fs_ wf (((f0_ wf).extR e4).extR e10) e22 in_) e55 in_) e77 in_) e98 (Inn.app (i59.fresh n122) (i58.fresh n122))) e147 (Inn.app (i59.fresh n122) (Inn.trans (i58.fresh n122) n612 i104))).extR e213).extR e222) e228 (hb223.fresh n613)) e241 (Inn.app (hb223.fresh n613) (hf214.fresh n614))) e485 in_)⟩
         have r615 := ite_t h597 r596
         refine w_skip (k542 _ _ (g_' ?_))
         obtain ⟨g616, r617⟩ := G_some r615
         refine w_' ((i5 + 1)) (wrap64 (by have := g616; omega)) (q_ (i_ (i5 + 1)) (s_nil ?_))
         obtain rfl := oi_ r617
         exact k537 n533 _ _ lt_ ⟨(i5 + 1), hn536, ha_, rfl⟩
        have r618 := ite_f h553 r552
        rw [nb h553]
        refine j_' (j_' (j_' (j_' (j_' (j_' (j_' (j_' (j_' (j_' (j_' (j_' (j_' (j_' (j_' (e_' (.bool false) ?_)))))))))))))))
        refine d_nil ?_
        refine k544 _ _ ?_
        refine wb_ false (fun h => by cases h) fun _ => ?_
        refine w_skip (k542 _ _ (g_' ?_))
        obtain ⟨g619, r620⟩ := G_some r618
        refine w_' ((i5 + 1)) (wrap64 (by have := g619; omega)) (q_ (i_ (i5 + 1)) (s_nil ?_))
        obtain rfl := oi_ r620
        exact k537 n533 _ _ lt_ ⟨(i5 + 1), hn536, ha_, rfl⟩
       have r621 := ite_f h549 r547
       rw [nb h549]
       refine j_' (j_' (j_' (j_' (j_' (e_' (.bool false) (e_' (.bool false) (j_' (j_' (j_' (j_' (j_' (j_' (j_' (j_' (j_' (j_' (j_' (j_' (j_' (j_' (j_' (e_' (.bool false) ?_))))))))))))))))))))))
       refine d_nil ?_
       refine k544 _ _ ?_
       refine wb_ false (fun h => by cases h) fun _ => ?_
       refine w_skip (k542 _ _ (g_' ?_))
       obtain ⟨g622, r623⟩ := G_some r621
       refine w_' ((i5 + 1)) (wrap64 g622) (q_ (i_ (i5 + 1)) (s_nil ?_))
       obtain rfl := oi_ r623
       exact k537 n533 _ _ lt_ ⟨(i5 + 1), hn536, ha_, rfl⟩
      have r624 := ite_f h540 hz535
      refine w_exit (th_exit (th_exit (bl_eq ?_)))
      obtain rfl := oi_ r624
      obtain rfl := it_inr hn536
      exact k525 _ _ ⟨_, rfl, ha_, rfl⟩
     obtain ⟨o519, rfl, hh526, rfl⟩ := hM
     have r625 := elim_inr r521
     obtain ⟨β, rfl⟩ := has_ex hh526
     clear hh526
     refine k516 _ _ (g_' ?_)
     obtain ⟨g626, r627⟩ := G_some r625
     refine w_' ((i6 + 1)) (wrap64 g626) (q_ (i_ (i6 + 1)) (s_nil ?_))
     obtain rfl := oi_ r627
     exact k511 n507 _ _ lt_ ⟨(i6 + 1), hn510, ha_, rfl⟩
    have r628 := ite_f h514 hz509
    refine w_exit (th_exit (th_exit (bl_eq ?_)))
    obtain rfl := oi_ r628
    obtain rfl := it_inr hn510
    exact k499 _ _ ⟨_, rfl, ha_, rfl⟩
   obtain ⟨o493, rfl, hh500, rfl⟩ := hM
   have r629 := elim_inr r495
   obtain ⟨β, rfl⟩ := has_ex hh500
   clear hh500
   refine k118 _ _ (g_' ?_)
   obtain ⟨g630, r631⟩ := G_some r629
   refine w_' ((i7 + 1)) (wrap64 (by have := g630; omega)) (q_ (i_ (i7 + 1)) (s_nil ?_))
   have n632 := (t_ (t_ e98.n e147.n) e213.n)
   have n633 := (t_ e98.n e147.n)
   have d634 := (hb223.djn (m150.lt.le e213.n))
   have u635 := (((((m150.ext e213).ext e222).fr e228 d634).fr e241 (Dj.app d634 (hf214.djn m150.lt))).fr e485 dn_)
   have n636 := (t_ (t_ (t_ e77.n e98.n) e147.n) e213.n)
   have d637 := (hb223.djn (m57.ltF.le n636))
   have n638 := (t_ (t_ e77.n e98.n) e147.n)
   have d639 := (hf214.djn (m57.ltF.le n638))
   have u640 := (((((m151.ext e213).ext e222).frS e228 d637).frS e241 (Dj.app d637 d639)).frS e485 dn_)
   obtain rfl := oi_ r631
   exact k113 n107 _ _ lt_ ⟨(i7 + 1), y138.2.2.1, y138.2.2.2.1, y138.2.2.2.2, f145, hn110, ha_, (fs_ e77.wf (fs_ e77.wf (fs_ e77.wf (((fs_ e77.wf (fs_ e77.wf (fr_ e77.wf) e98 ir_) e147 (Inn.app Inn.left (Inn.trans (Inn.right ir_) (Nat.le_refl _) i104))).extR e213).extR e222) e228 (hb223.fresh n632)) e241 (Inn.app (hb223.fresh n632) (hf214.fresh n633))) e485 in_), u635, u640, (Inn.trans (Inn.trans ir_ (Nat.le_refl _) i104) e98.n i154)⟩
  have r641 := ite_f h116 hz109
  refine w_exit (th_exit (th_exit (bl_eq ?_)))
  obtain rfl := oi_ r641
  obtain rfl := it_inr hn110
  exact k93 _ _ ⟨_, rfl, trivial, (fs_ e77.wf (fr_ e77.wf) e98 ir_)⟩
 obtain ⟨o87, rfl, hh94, e92⟩ := hM
 have r642 := elim_inr r89
 obtain ⟨β, rfl⟩ := has_ex hh94
 clear hh94
 refine k84 _ _ (sq_ fun k643 => g_' (q_ (.bool true) (s_nil (k643 _ _ ?_))))
 refine w_ret ?_
 refine br_ [.bool true] ?_
 have n644 := (t_ (t_ e4.n e10.n) e22.n)
 obtain rfl := oi_ r642
 exact ⟨rfl, (fs_ wf (fs_ wf (fs_ wf (fs_ wf (((f0_ wf).extR e4).extR e10) e22 in_) e55 in_) e77 in_) e92 (Inn.app (i59.fresh n644) (i58.fresh n644)))⟩
end Go.Vd
