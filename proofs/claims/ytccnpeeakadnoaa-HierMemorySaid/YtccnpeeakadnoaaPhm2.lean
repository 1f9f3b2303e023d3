/- The walks of the functions (printed by a program of ours). -/
import Derived.Test.YtccnpeeakadnoaaPhm1
import Derived.Test.YtccnpeeakadnoaaPhmVeC
import Derived.Test.YtccnpeeakadnoaaPhmIHm
import Derived.Test.YtccnpeeakadnoaaPhmVeN
import Derived.Test.YtccnpeeakadnoaaPhmVeM
import Derived.Test.YtccnpeeakadnoaaPhmSoA
import Derived.Test.YtccnpeeakadnoaaPhmVeT
set_option linter.unusedVariables false
set_option linter.unusedSimpArgs false
set_option linter.unusedSectionVars false
/-! (KHm3) -/

set_option maxRecDepth 100000
set_option maxHeartbeats 4000000
set_option linter.unusedVariables false
namespace Go.Vd
open Go.Proofs
attribute [local irreducible] wpSeq wpOrd aWp
theorem c_hier_Turn_2 {H : AH} {hd_l : Value} {fp_l : Fp} {b_p : Nat} {b_p_ : Nat} {b_p_2 : Nat} {l : List (Int × Int × Int × Int)} {x : Int} {x_ : Int} {r : List (Int × Int × Int × Int)}
    (wf : WF H) (h_l : Sq enc_u32_u64_u32_u32 4 H hd_l l fp_l) (h_p_ : Row H b_p_ [.int .u32 x]) (h_p_2 : Row H b_p_2 [.int .u32 x_]) (h_p : Row H b_p [.func (.func 92) #[] #[pt_ b_p_ 0, pt_ b_p_2 0]]) (hr : z_hier_Turn_2 l x x_ = some r) :
    ACalls Try.prog 93 #[hd_l, pt_ b_p 0] H fun v H' => ∃ (s3 : Value) (f4 : Fp), v = s3 ∧ FrS [] H H' ∧ Ow enc_u32_u64_u32_u32 4 H' s3 r f4 ∧ Inn [] H f4 := by
 refine acalls_of_body mixed Try.func93 rfl (Nat.le_of_ble_eq_true rfl) ?_
 unfold z_hier_Turn_2 at hr
 refine w_seqk fun _ k6 => g_' (q_ (.slice none 0 0) (s_nil (k6 _ _ (w_seqk fun _ k7 => g_' (q_ (.slice none 0 0) (s_nil (k7 _ _ (w_seqk fun _ k8 => w_seqk fun _ k9 => g_' (q_ (hd_l) ?_)))))))))
 refine l_' (i_ (l.length : Int)) (aLen Try.prog 79 hd_l H) (h_l.lenb (by kernel_rfl)) ?_
 refine q_ (i_ 0) (s_nil (k9 _ _ ?_))
 obtain ⟨o10, hx11, r12⟩ := bind_some hr
 refine w_mid (fun α H13 => ∃ (s17 : Value) (f18 : Fp), Has α [(4, s17)] ∧ FrS [] H H13 ∧ Ow enc_u32_u64_u32_u32 4 H13 s17 o10 f18 ∧ Inn [] H f18) (fun _ k20 => ?_) (fun α H13 hM => ?_)
 ·refine w_block ?_
  obtain ⟨n22, hn23⟩ := loopO_iff.1 hx11
  refine w_loopn (fun n α H24 => ∃ (m0 : List (Int × Int × Int × Int)), ∃ (i1 : Int), ∃ (s28 : Value), ∃ (f29 : Fp), iterO (fun zz_ => z_hier_Turn_2_l0 l x x_ zz_.1 zz_.2) n (m0, i1) = some o10 ∧ Has α [(1, pt_ b_p 0), (4, s28), (7, hd_l), (8, i_ (l.length : Int)), (9, i_ i1)] ∧ FrS [] H H24 ∧ Ow enc_u32_u64_u32_u32 4 H24 s28 m0 f29 ∧ Inn [] H f29) n22 ⟨[], 0, (.slice none 0 0), [], hn23, ha_, (f0_ wf), (Ow.nil (by decide)), Inn.nil⟩ ?_
  rintro n22 α H24 ⟨m0, i1, s28, f29, hi32, hh31, e25, m27, i30⟩ K37 k37
  obtain ⟨n33, z34, rfl, hz35, hn36⟩ := iter_succ hi32
  obtain ⟨β, rfl⟩ := has_ex hh31
  clear hh31
  replace hz35 : z_hier_Turn_2_l0 l x x_ m0 i1 = some z34 := hz35
  unfold z_hier_Turn_2_l0 at hz35
  obtain ⟨a38, n39, c40, rfl⟩ := m27.form
  refine w_seqk fun _ k41 => g_' (q_ (.bool (decide (i1 < (l.length : Int)))) (s_nil (k41 _ _ (w_seqk fun _ k42 => ?_))))
  refine w_condp (i1 < (l.length : Int)) (by kernel_rfl) rfl (fun h43 => ?_) (fun h43 => ?_)
  ·have r44 := ite_t h43 hz35
   refine w_skip (k42 _ _ (w_seqk fun _ k45 => w_block (w_seqk fun _ k46 => g_' ?_)))
   obtain ⟨g47, r48⟩ := G_some r44
   have u49 := (h_l.fr e25 Dj.nil_l)
   refine l_' (elp hd_l 4 i1.toNat 0) (aIndexAddr Try.prog 79 hd_l (i_ i1)) (u49.idxb (by kernel_rfl) g47 h43) ?_
   refine l_' (.agg #[.int .u32 ((gt l i1).1), .int .u64 ((gt l i1).2.1), .int .u32 ((gt l i1).2.2.1), .int .u32 ((gt l i1).2.2.2)]) (aL_ 93 (elp hd_l 4 i1.toNat 0) H24) (u49.ld g47 h43 (by kernel_rfl)) ?_
   refine s_rwk e25.wf [.int .u32 0, .int .u64 0, .int .u32 0, .int .u32 0] (by kernel_rfl) fun b50 H51 e52 hb53 r54 => ?_
   obtain ⟨H56, q57, e58, r59⟩ := Row.store (P := Try.prog) (t := 93) (p := 0) e52.wf r54 (.agg #[.int .u32 ((gt l i1).1), .int .u64 ((gt l i1).2.1), .int .u32 ((gt l i1).2.2.1), .int .u32 ((gt l i1).2.2.2)]) [.int .u32 ((gt l i1).1), .int .u64 ((gt l i1).2.1), .int .u32 ((gt l i1).2.2.1), .int .u32 ((gt l i1).2.2.2)] (by kernel_rfl) (by kernel_rfl) (one_cons (rfl) (one_cons (rfl) (one_cons (rfl) (one_cons (rfl) (one_nil))))) (Nat.le_of_ble_eq_true (by kernel_rfl)) [.int .u32 ((gt l i1).1), .int .u64 ((gt l i1).2.1), .int .u32 ((gt l i1).2.2.1), .int .u32 ((gt l i1).2.2.2)] (by kernel_rfl)
   refine s_ek (undef) (by kernel_rfl) (map_ok q57) ?_
   refine s_nil (k46 _ _ (w_seqk fun _ k60 => ?_))
   refine w_draw [0, 1, 2, 4, 5, 6, 3, 8, 7, 9, 10, 11] (by kernel_rfl) ?_
   have u61 := (((h_p.frS e25 Dj.nil_l).ext e52).frS e58 (hb53.djn (h_p.ltF.le e25.n)))
   refine m_' (.func (.func 92) #[] #[pt_ b_p_ 0, pt_ b_p_2 0]) (aL_ 159 (pt_ b_p 0) H56) (u61.l_) ?_
   refine e_' (pt_ b50 3) ?_
   refine m_' (.int .u32 ((gt l i1).2.2.2)) (aL_ 90 (pt_ b50 3) H56) (r59.l_) ?_
   refine d_fl (.func (.func 92) #[] #[pt_ b_p_ 0, pt_ b_p_2 0]) (x := aL_ 159 (pt_ b_p 0) H56) (by kernel_rfl) (u61.l_) ?_
   refine e_' (pt_ b50 2) ?_
   refine d_fl (.int .u32 ((gt l i1).2.2.1)) (x := aL_ 90 (pt_ b50 2) H56) (by kernel_rfl) (r59.l_) ?_
   have u62 := (((h_p_.frS e25 Dj.nil_l).ext e52).frS e58 (hb53.djn (h_p_.ltF.le e25.n)))
   have u63 := (((h_p_2.frS e25 Dj.nil_l).ext e52).frS e58 (hb53.djn (h_p_2.ltF.le e25.n)))
   obtain ⟨y64, hy65, r66⟩ := bind_some r48
   refine d_ck 92 #[.int .u32 ((gt l i1).2.2.2), pt_ b_p_ 0, pt_ b_p_2 0] (by kernel_rfl) (c_hier_Turn_1 e58.wf u62 u63 hy65) ?_
   rintro _ _ ⟨rfl, rfl⟩
   refine ⟨st_ql (y := aL_ 90 (pt_ b50 2) H56) (by kernel_rfl) (r59.l_) (st_ql (y := aL_ 159 (pt_ b_p 0) H56) (by kernel_rfl) (u61.l_) (st_nil)), ?_⟩
   refine e_' (pt_ b50 2) ?_
   obtain ⟨y69, hy70, r71⟩ := bind_some r66
   refine d_ck 92 #[.int .u32 ((gt l i1).2.2.1), pt_ b_p_ 0, pt_ b_p_2 0] (by kernel_rfl) (c_hier_Turn_1 e58.wf u62 u63 hy70) ?_
   rintro _ _ ⟨rfl, rfl⟩
   refine ⟨st_anc (by kernel_rfl) (st_anc (by kernel_rfl) (st_nil)), ?_⟩
   obtain ⟨H74, q75, e76, r77⟩ := Row.store (P := Try.prog) (t := 90) (p := 2) e58.wf r59 (.int .u32 y64) [.int .u32 y64] (by kernel_rfl) (by kernel_rfl) (one_cons (rfl) (one_nil)) (Nat.le_of_ble_eq_true (by kernel_rfl)) [.int .u32 ((gt l i1).1), .int .u64 ((gt l i1).2.1), .int .u32 y64, .int .u32 ((gt l i1).2.2.2)] (by kernel_rfl)
   refine d_ek (undef) (by kernel_rfl) (map_ok q75) (st_anc (by kernel_rfl) (st_anc (by kernel_rfl) (st_nil))) ?_
   refine e_' (pt_ b50 3) ?_
   obtain ⟨H78, q79, e80, r81⟩ := Row.store (P := Try.prog) (t := 90) (p := 3) e76.wf r77 (.int .u32 y69) [.int .u32 y69] (by kernel_rfl) (by kernel_rfl) (one_cons (rfl) (one_nil)) (Nat.le_of_ble_eq_true (by kernel_rfl)) [.int .u32 ((gt l i1).1), .int .u64 ((gt l i1).2.1), .int .u32 y64, .int .u32 y69] (by kernel_rfl)
   refine d_ek (undef) (by kernel_rfl) (map_ok q79) (st_anc (by kernel_rfl) (st_anc (by kernel_rfl) (st_nil))) ?_
   refine d_nil ?_
   refine k60 _ _ (g_' (q_ (.slice a38 n39 c40) ?_))
   refine l_' (.agg #[.int .u32 ((gt l i1).1), .int .u64 ((gt l i1).2.1), .int .u32 y64, .int .u32 y69]) (aL_ 93 (pt_ b50 0) H78) (r81.l_) ?_
   refine s_owk (enc := enc_u32_u64_u32_u32) (sz := 4) e80.wf [((gt l i1).1, (gt l i1).2.1, y64, y69)] 1 (by decide) (fun _ _ => rfl) (fun _ _ => rfl) rfl (by kernel_rfl) fun s82 f83 H84 e85 hf86 hm87 => ?_
   obtain ⟨a88, n89, c90, rfl⟩ := hm87.form
   have u92 := (((((m27.ext e52).fr e58 (hb53.djn m27.lt)).fr e76 (hb53.djn m27.lt)).fr e80 (hb53.djn m27.lt)).ext e85)
   obtain ⟨g93, r94⟩ := G_some r71
   obtain ⟨s95, H96, f97, q101, e98, hm99, hf100⟩ := Ow.append (P := Try.prog) 24 e85.wf u92 hm87.sq (fun _ _ => rfl) (at_ := #[79, 79]) rfl rfl (by kernel_rfl) (by kernel_rfl) (by decide) (by have := g93; first | omega | (simp only [List.length_cons, List.length_nil] at this ⊢; omega) | (simp at this ⊢; omega))
   obtain ⟨a102, n103, c104, rfl⟩ := hm99.form
   refine s_ek (.slice a102 n103 c104) (by kernel_rfl) (q101) ?_
   refine q_ (.slice a102 n103 c104) (s_nil (k45 _ _ (g_' ?_)))
   obtain ⟨g106, r107⟩ := G_some r94
   refine w_' (i1 + 1) (wrap64 (by have := g106; omega)) ?_
   refine q_ (i_ (i1 + 1)) (s_nil ?_)
   obtain rfl := oi_ r107
   exact k37 n33 _ _ (Nat.lt_succ_self _) ⟨(m0 ++ [((gt l i1).1, (gt l i1).2.1, y64, y69)]), (i1 + 1), (.slice a102 n103 c104), f97, hn36, ha_, (FrS.step wf ((FrS.step wf (FrS.step wf (FrS.step wf ((FrS.step wf (f0_ wf) e25 Inn.nil).extR e52) e58 (hb53.fresh e25.n)) e76 (hb53.fresh e25.n)) e80 (hb53.fresh e25.n)).extR e85) e98 (i30.fresh (Nat.le_refl _))), hm99, (Inn.trans (i30.fresh (Nat.le_refl _)) (t_ (t_ (t_ (t_ (t_ e25.n e52.n) e58.n) e76.n) e80.n) e85.n) hf100)⟩
  have r108 := ite_f h43 hz35
  refine w_exit (th_exit (th_exit (bl_eq ?_)))
  obtain rfl := oi_ r108
  obtain rfl := it_inr hn36
  exact k20 _ _ ⟨(.slice a38 n39 c40), f29, ha_, (FrS.step wf (f0_ wf) e25 Inn.nil), m27, (i30.fresh (Nat.le_refl _))⟩
 obtain ⟨s17, f18, hh21, e14, m16, i19⟩ := hM
 obtain ⟨β, rfl⟩ := has_ex hh21
 clear hh21
 obtain ⟨a109, n110, c111, rfl⟩ := m16.form
 refine k8 _ _ (w_seqk fun _ k112 => g_' (q_ (.slice a109 n110 c111) (q_ (.slice a109 n110 c111) (s_nil (k112 _ _ ?_)))))
 refine w_ret ?_
 refine b_ret (fn := Try.f93) (vs := [.slice a109 n110 c111]) (rt_ (rfl)) ?_
 obtain rfl := oi_ r12
 exact ⟨(.slice a109 n110 c111), f18, rfl, (FrS.step wf (f0_ wf) e14 Inn.nil), m16, (i19.fresh (Nat.le_refl _))⟩
theorem c_hier_Turn {H : AH} {hd_Node : Value} {fp_Node : Fp} {hd_UpFirst : Value} {fp_UpFirst : Fp} {hd_Up : Value} {fp_Up : Fp} {hd_DownFirst : Value} {fp_DownFirst : Fp} {hd_Down : Value} {fp_Down : Fp} {Node : List (Int)} {UpFirst : List (Int)} {Up : List (Int × Int × Int × Int)} {DownFirst : List (Int)} {Down : List (Int × Int × Int × Int)} {r : List (Int) × List (Int) × List (Int × Int × Int × Int) × List (Int) × List (Int × Int × Int × Int) × Er}
    (wf : WF H) (h_Node : Sq (encI .u32) 1 H hd_Node Node fp_Node) (h_UpFirst : Sq (encI .u32) 1 H hd_UpFirst UpFirst fp_UpFirst) (h_Up : Sq enc_u32_u64_u32_u32 4 H hd_Up Up fp_Up) (h_DownFirst : Sq (encI .u32) 1 H hd_DownFirst DownFirst fp_DownFirst) (h_Down : Sq enc_u32_u64_u32_u32 4 H hd_Down Down fp_Down) (hr : z_hier_Turn Node UpFirst Up DownFirst Down = some r) :
    ACalls Try.prog 37 #[.agg #[hd_Node, hd_UpFirst, hd_Up, hd_DownFirst, hd_Down]] H fun v H' => ∃ (s3 : Value) (f4 : Fp) (s7 : Value) (f8 : Fp) (s11 : Value) (f12 : Fp) (s15 : Value) (f16 : Fp) (s19 : Value) (f20 : Fp) (v23 : Value) (f24 : Fp), v = .tuple #[.agg #[s3, s7, s11, s15, s19], v23] ∧ FrS [] H H' ∧ Ow (encI .u32) 1 H' s3 r.1 f4 ∧ Ow (encI .u32) 1 H' s7 r.2.1 f8 ∧ Ow enc_u32_u64_u32_u32 4 H' s11 r.2.2.1 f12 ∧ Ow (encI .u32) 1 H' s15 r.2.2.2.1 f16 ∧ Ow enc_u32_u64_u32_u32 4 H' s19 r.2.2.2.2.1 f20 ∧ Ev 122 235 H' v23 r.2.2.2.2.2 f24 ∧ Inn [] H f4 ∧ Inn [] H f8 ∧ Inn [] H f12 ∧ Inn [] H f16 ∧ Inn [] H f20 ∧ Inn [] H f24 ∧ Dj f4 f8 ∧ Dj f4 f12 ∧ Dj f8 f12 ∧ Dj f4 f16 ∧ Dj f8 f16 ∧ Dj f12 f16 ∧ Dj f4 f20 ∧ Dj f8 f20 ∧ Dj f12 f20 ∧ Dj f16 f20 ∧ Dj f4 f24 ∧ Dj f8 f24 ∧ Dj f12 f24 ∧ Dj f16 f24 ∧ Dj f20 f24 := by
 refine acalls_of_body mixed Try.func37 rfl (Nat.le_of_ble_eq_true rfl) ?_
 unfold z_hier_Turn at hr
 refine w_seqk fun _ k46 => g_' ?_
 refine s_rwl wf [hd_Node, hd_UpFirst, hd_Up, hd_DownFirst, hd_Down] (one_cons (h_Node.one1) (one_cons (h_UpFirst.one1) (one_cons (h_Up.one1) (one_cons (h_DownFirst.one1) (one_cons (h_Down.one1) (one_nil)))))) (by kernel_rfl) fun b47 H48 e49 hb50 r51 => ?_
 refine s_rwk e49.wf [.slice none 0 0, .slice none 0 0, .slice none 0 0, .slice none 0 0, .slice none 0 0] (by kernel_rfl) fun b53 H54 e55 hb56 r57 => ?_
 refine q_ (.nilIface) (s_nil (k46 _ _ (w_seqk fun _ k59 => w_seqk fun _ k60 => g_' ?_)))
 have u61 := (r51.ext e55)
 refine l_' (.agg #[hd_Node, hd_UpFirst, hd_Up, hd_DownFirst, hd_Down]) (aL_ 81 (pt_ b47 0) H54) (u61.l_) ?_
 have u62 := ((h_Node.ext e49).ext e55)
 have u63 := ((h_UpFirst.ext e49).ext e55)
 have u64 := ((h_Up.ext e49).ext e55)
 have u65 := ((h_DownFirst.ext e49).ext e55)
 have u66 := ((h_Down.ext e49).ext e55)
 obtain ⟨y67, hy68, r69⟩ := bind_some hr
 refine s_ck 88 #[.agg #[hd_Node, hd_UpFirst, hd_Up, hd_DownFirst, hd_Down]] (by kernel_rfl) (c_hier_Check e55.wf u62 u63 u64 u65 u66 hy68) ?_
 rintro v70 H72 ⟨_, f71, rfl, e73, m74, i75⟩
 refine q_ (v70) (s_nil (k60 _ _ (w_seqk fun _ k77 => g_' (q_ (v70) ?_))))
 rcases (m74).cases with ⟨h78, rfl⟩ | ⟨h78, t79, x80, rfl⟩
 ·have r81 := ite_t h78 r69
  refine q_ (.bool false) (s_nil (k77 _ _ ?_))
  refine w_cond false (by kernel_rfl) rfl (fun h => by cases h) (fun _ => ?_)
  refine w_skip (k59 _ _ (w_seqk fun _ k82 => ?_))
  refine w_draw [0, 1, 2, 3, 4, 5, 6, 7, 8, 9, 10, 11] (by kernel_rfl) ?_
  refine e_' (pt_ b47 2) ?_
  have u83 := (u61.frS e73 Dj.nil_l)
  refine m_' (hd_Up) (aL_ 79 (pt_ b47 2) H72) (u83.l_) ?_
  have u84 := (u64.fr e73 Dj.nil_l)
  refine m_' (i_ (Up.length : Int)) (aLen Try.prog 79 hd_Up H72) (u84.lenb (by kernel_rfl)) ?_
  obtain ⟨g85, r86⟩ := G_some r81
  refine d_w ((Up.length : Int)) (k := .u32) (x := (Up.length : Int)) (by kernel_rfl) (wrapu32 (by have := g85; omega)) ?_
  refine e_' (pt_ b47 4) ?_
  refine d_fl (hd_Down) (x := aL_ 79 (pt_ b47 4) H72) (by kernel_rfl) (u83.l_) ?_
  have u87 := (u66.fr e73 Dj.nil_l)
  refine m_' (i_ (Down.length : Int)) (aLen Try.prog 79 hd_Down H72) (u87.lenb (by kernel_rfl)) ?_
  obtain ⟨g88, r89⟩ := G_some r86
  refine d_w ((Down.length : Int)) (k := .u32) (x := (Down.length : Int)) (by kernel_rfl) (wrapu32 (by have := g88; omega)) ?_
  refine d_rwk e73.wf [.int .u32 0] (by kernel_rfl) fun b90 H91 e92 hb93 r94 => ?_
  refine d_rwk e92.wf [.int .u32 0] (by kernel_rfl) fun b96 H97 e98 hb99 r100 => ?_
  have u106 := (r94.ext e98)
  obtain ⟨H102, q103, e104, r105⟩ := Row.store (P := Try.prog) (t := 90) (p := 0) e98.wf u106 (.int .u32 (Up.length : Int)) [.int .u32 (Up.length : Int)] (by kernel_rfl) (by kernel_rfl) (one_cons (rfl) (one_nil)) (Nat.le_of_ble_eq_true (by kernel_rfl)) [.int .u32 (Up.length : Int)] (by kernel_rfl)
  have u107 := (((u83.ext e92).ext e98).frS e104 (hb93.djn (r51.ltF.le (t_ e55.n e73.n))))
  refine d_ek (undef) (by kernel_rfl) (map_ok q103) (st_ql (y := aL_ 79 (pt_ b47 4) H102) (by kernel_rfl) (u107.l_) (st_nil)) ?_
  have u112 := (r100.frS e104 (Dj.symm (hb99.djn r94.ltF)))
  obtain ⟨H108, q109, e110, r111⟩ := Row.store (P := Try.prog) (t := 90) (p := 0) e104.wf u112 (.int .u32 (Down.length : Int)) [.int .u32 (Down.length : Int)] (by kernel_rfl) (by kernel_rfl) (one_cons (rfl) (one_nil)) (Nat.le_of_ble_eq_true (by kernel_rfl)) [.int .u32 (Down.length : Int)] (by kernel_rfl)
  refine d_ek (undef) (by kernel_rfl) (map_ok q109) (st_anc (by kernel_rfl) (st_nil)) ?_
  refine d_nil ?_
  refine k82 _ _ (w_seqk fun _ k113 => g_' (q_ (.func (.func 92) #[] #[pt_ b90 0, pt_ b96 0]) ?_))
  refine s_rwk e110.wf [.nilFunc] (by kernel_rfl) fun b114 H115 e116 hb117 r118 => ?_
  obtain ⟨H120, q121, e122, r123⟩ := Row.store (P := Try.prog) (t := 159) (p := 0) e116.wf r118 (.func (.func 92) #[] #[pt_ b90 0, pt_ b96 0]) [.func (.func 92) #[] #[pt_ b90 0, pt_ b96 0]] (by kernel_rfl) (by kernel_rfl) (one_cons (rfl) (one_nil)) (Nat.le_of_ble_eq_true (by kernel_rfl)) [.func (.func 92) #[] #[pt_ b90 0, pt_ b96 0]] (by kernel_rfl)
  refine s_ek (undef) (by kernel_rfl) (map_ok q121) ?_
  refine s_nil (k113 _ _ (w_seqk fun _ k124 => g_' (q_ (.func (.func 93) #[] #[pt_ b114 0]) (q_ (.func (.func 93) #[] #[pt_ b114 0]) (s_nil (k124 _ _ (w_seqk fun _ k125 => ?_)))))))
  refine w_draw [0, 1, 3, 4, 6, 7, 8, 10, 11, 13, 14, 15, 2, 5, 9, 12, 16, 17, 18, 19] (by kernel_rfl) ?_
  refine e_' (pt_ b47 0) ?_
  have u126 := (((u107.frS e110 (hb99.djn (r51.ltF.le (t_ (t_ e55.n e73.n) e92.n)))).ext e116).frS e122 (hb117.djn (r51.ltF.le (t_ (t_ (t_ (t_ (t_ e55.n e73.n) e92.n) e98.n) e104.n) e110.n))))
  refine m_' (hd_Node) (aL_ 78 (pt_ b47 0) H120) (u126.l_) ?_
  refine e_' (pt_ b47 3) ?_
  refine d_fl (hd_DownFirst) (x := aL_ 78 (pt_ b47 3) H120) (by kernel_rfl) (u126.l_) ?_
  refine e_' (.func (.func 93) #[] #[pt_ b114 0]) (e_' (pt_ b47 4) ?_)
  refine d_fl (hd_Down) (x := aL_ 79 (pt_ b47 4) H120) (by kernel_rfl) (u126.l_) ?_
  refine e_' (pt_ b47 1) ?_
  refine d_fl (hd_UpFirst) (x := aL_ 78 (pt_ b47 1) H120) (by kernel_rfl) (u126.l_) ?_
  refine e_' (.func (.func 93) #[] #[pt_ b114 0]) (e_' (pt_ b47 2) ?_)
  refine d_fl (hd_Up) (x := aL_ 79 (pt_ b47 2) H120) (by kernel_rfl) (u126.l_) ?_
  have u127 := (((((((u62.fr e73 Dj.nil_l).ext e92).ext e98).fr e104 (hb93.djn (h_Node.lt.le (t_ (t_ e49.n e55.n) e73.n)))).fr e110 (hb99.djn (h_Node.lt.le (t_ (t_ (t_ e49.n e55.n) e73.n) e92.n)))).ext e116).fr e122 (hb117.djn (h_Node.lt.le (t_ (t_ (t_ (t_ (t_ (t_ e49.n e55.n) e73.n) e92.n) e98.n) e104.n) e110.n))))
  obtain ⟨y128, hy129, r130⟩ := bind_some r89
  refine d_ck 94 #[hd_Node] (by kernel_rfl) (c_slices_Clone e122.wf u127 hy129) ?_
  rintro s131 H133 ⟨_, f132, rfl, e134, m135, i136⟩
  obtain ⟨a138, n139, c140, rfl⟩ := m135.form
  have u141 := (u126.frS e134 Dj.nil_l)
  refine ⟨st_ql (y := aL_ 79 (pt_ b47 2) H133) (by kernel_rfl) (u141.l_) (st_ql (y := aL_ 78 (pt_ b47 1) H133) (by kernel_rfl) (u141.l_) (st_ql (y := aL_ 79 (pt_ b47 4) H133) (by kernel_rfl) (u141.l_) (st_ql (y := aL_ 78 (pt_ b47 3) H133) (by kernel_rfl) (u141.l_) (st_nil)))), ?_⟩
  have u142 := ((((((((u65.fr e73 Dj.nil_l).ext e92).ext e98).fr e104 (hb93.djn (h_DownFirst.lt.le (t_ (t_ e49.n e55.n) e73.n)))).fr e110 (hb99.djn (h_DownFirst.lt.le (t_ (t_ (t_ e49.n e55.n) e73.n) e92.n)))).ext e116).fr e122 (hb117.djn (h_DownFirst.lt.le (t_ (t_ (t_ (t_ (t_ (t_ e49.n e55.n) e73.n) e92.n) e98.n) e104.n) e110.n)))).fr e134 Dj.nil_l)
  obtain ⟨y143, hy144, r145⟩ := bind_some r130
  refine d_ck 94 #[hd_DownFirst] (by kernel_rfl) (c_slices_Clone e134.wf u142 hy144) ?_
  rintro s146 H148 ⟨_, f147, rfl, e149, m150, i151⟩
  obtain ⟨a153, n154, c155, rfl⟩ := m150.form
  have u156 := (u141.frS e149 Dj.nil_l)
  refine ⟨st_ql (y := aL_ 79 (pt_ b47 2) H148) (by kernel_rfl) (u156.l_) (st_ql (y := aL_ 78 (pt_ b47 1) H148) (by kernel_rfl) (u156.l_) (st_ql (y := aL_ 79 (pt_ b47 4) H148) (by kernel_rfl) (u156.l_) (st_anc (by kernel_rfl) (st_nil)))), ?_⟩
  have u157 := ((((((((u87.ext e92).ext e98).fr e104 (hb93.djn (h_Down.lt.le (t_ (t_ e49.n e55.n) e73.n)))).fr e110 (hb99.djn (h_Down.lt.le (t_ (t_ (t_ e49.n e55.n) e73.n) e92.n)))).ext e116).fr e122 (hb117.djn (h_Down.lt.le (t_ (t_ (t_ (t_ (t_ (t_ e49.n e55.n) e73.n) e92.n) e98.n) e104.n) e110.n)))).fr e134 Dj.nil_l).fr e149 Dj.nil_l)
  have u158 := (((((r105.frS e110 (hb99.djn r94.ltF)).ext e116).frS e122 (hb117.djn (r94.ltF.le (t_ (t_ e98.n e104.n) e110.n)))).frS e134 Dj.nil_l).frS e149 Dj.nil_l)
  have u159 := ((((r111.ext e116).frS e122 (hb117.djn (r100.ltF.le (t_ e104.n e110.n)))).frS e134 Dj.nil_l).frS e149 Dj.nil_l)
  have u160 := ((r123.frS e134 Dj.nil_l).frS e149 Dj.nil_l)
  obtain ⟨y161, hy162, r163⟩ := bind_some r145
  refine d_ck 93 #[hd_Down, pt_ b114 0] (by kernel_rfl) (c_hier_Turn_2 e149.wf u157 u158 u159 u160 hy162) ?_
  rintro s164 H166 ⟨_, f165, rfl, e167, m168, i169⟩
  obtain ⟨a171, n172, c173, rfl⟩ := m168.form
  have u174 := (u156.frS e167 Dj.nil_l)
  refine ⟨st_ql (y := aL_ 79 (pt_ b47 2) H166) (by kernel_rfl) (u174.l_) (st_ql (y := aL_ 78 (pt_ b47 1) H166) (by kernel_rfl) (u174.l_) (st_anc (by kernel_rfl) (st_anc (by kernel_rfl) (st_nil)))), ?_⟩
  have u175 := ((((((((((u63.fr e73 Dj.nil_l).ext e92).ext e98).fr e104 (hb93.djn (h_UpFirst.lt.le (t_ (t_ e49.n e55.n) e73.n)))).fr e110 (hb99.djn (h_UpFirst.lt.le (t_ (t_ (t_ e49.n e55.n) e73.n) e92.n)))).ext e116).fr e122 (hb117.djn (h_UpFirst.lt.le (t_ (t_ (t_ (t_ (t_ (t_ e49.n e55.n) e73.n) e92.n) e98.n) e104.n) e110.n)))).fr e134 Dj.nil_l).fr e149 Dj.nil_l).fr e167 Dj.nil_l)
  obtain ⟨y176, hy177, r178⟩ := bind_some r163
  refine d_ck 94 #[hd_UpFirst] (by kernel_rfl) (c_slices_Clone e167.wf u175 hy177) ?_
  rintro s179 H181 ⟨_, f180, rfl, e182, m183, i184⟩
  obtain ⟨a186, n187, c188, rfl⟩ := m183.form
  have u189 := (u174.frS e182 Dj.nil_l)
  refine ⟨st_ql (y := aL_ 79 (pt_ b47 2) H181) (by kernel_rfl) (u189.l_) (st_anc (by kernel_rfl) (st_anc (by kernel_rfl) (st_anc (by kernel_rfl) (st_nil)))), ?_⟩
  have u190 := ((((((((((u84.ext e92).ext e98).fr e104 (hb93.djn (h_Up.lt.le (t_ (t_ e49.n e55.n) e73.n)))).fr e110 (hb99.djn (h_Up.lt.le (t_ (t_ (t_ e49.n e55.n) e73.n) e92.n)))).ext e116).fr e122 (hb117.djn (h_Up.lt.le (t_ (t_ (t_ (t_ (t_ (t_ e49.n e55.n) e73.n) e92.n) e98.n) e104.n) e110.n)))).fr e134 Dj.nil_l).fr e149 Dj.nil_l).fr e167 Dj.nil_l).fr e182 Dj.nil_l)
  have u191 := ((u158.frS e167 Dj.nil_l).frS e182 Dj.nil_l)
  have u192 := ((u159.frS e167 Dj.nil_l).frS e182 Dj.nil_l)
  have u193 := ((u160.frS e167 Dj.nil_l).frS e182 Dj.nil_l)
  obtain ⟨y194, hy195, r196⟩ := bind_some r178
  refine d_ck 93 #[hd_Up, pt_ b114 0] (by kernel_rfl) (c_hier_Turn_2 e182.wf u190 u191 u192 u193 hy195) ?_
  rintro s197 H199 ⟨_, f198, rfl, e200, m201, i202⟩
  obtain ⟨a204, n205, c206, rfl⟩ := m201.form
  refine ⟨st_anc (by kernel_rfl) (st_anc (by kernel_rfl) (st_anc (by kernel_rfl) (st_anc (by kernel_rfl) (st_nil)))), ?_⟩
  refine e_' (.agg #[.slice a138 n139 c140, .slice a153 n154 c155, .slice a171 n172 c173, .slice a186 n187 c188, .slice a204 n205 c206]) ?_
  have u211 := ((((((((((((r57.frS e73 Dj.nil_l).ext e92).ext e98).frS e104 (hb93.djn (r57.ltF.le e73.n))).frS e110 (hb99.djn (r57.ltF.le (t_ e73.n e92.n)))).ext e116).frS e122 (hb117.djn (r57.ltF.le (t_ (t_ (t_ (t_ e73.n e92.n) e98.n) e104.n) e110.n)))).frS e134 Dj.nil_l).frS e149 Dj.nil_l).frS e167 Dj.nil_l).frS e182 Dj.nil_l).frS e200 Dj.nil_l)
  have u212 := (m183.fr e200 Dj.nil_l)
  have u213 := ((m168.fr e182 Dj.nil_l).fr e200 Dj.nil_l)
  have u214 := (((m150.fr e167 Dj.nil_l).fr e182 Dj.nil_l).fr e200 Dj.nil_l)
  have u215 := ((((m135.fr e149 Dj.nil_l).fr e167 Dj.nil_l).fr e182 Dj.nil_l).fr e200 Dj.nil_l)
  obtain ⟨H207, q208, e209, r210⟩ := Row.store (P := Try.prog) (t := 81) (p := 0) e200.wf u211 (.agg #[.slice a138 n139 c140, .slice a153 n154 c155, .slice a171 n172 c173, .slice a186 n187 c188, .slice a204 n205 c206]) [.slice a138 n139 c140, .slice a153 n154 c155, .slice a171 n172 c173, .slice a186 n187 c188, .slice a204 n205 c206] (by kernel_rfl) (by kernel_rfl) (one_cons (u215.one1) (one_cons (u214.one1) (one_cons (u213.one1) (one_cons (u212.one1) (one_cons (m201.one1) (one_nil)))))) (Nat.le_of_ble_eq_true (by kernel_rfl)) [.slice a138 n139 c140, .slice a153 n154 c155, .slice a171 n172 c173, .slice a186 n187 c188, .slice a204 n205 c206] (by kernel_rfl)
  refine d_ek (undef) (by kernel_rfl) (map_ok q208) (st_anc (by kernel_rfl) (st_anc (by kernel_rfl) (st_anc (by kernel_rfl) (st_anc (by kernel_rfl) (st_nil))))) ?_
  refine e_' (.nilIface) ?_
  refine d_nil ?_
  refine k125 _ _ ?_
  refine w_ret ?_
  refine b_ret (fn := Try.f37) (vs := [.agg #[.slice a138 n139 c140, .slice a153 n154 c155, .slice a171 n172 c173, .slice a186 n187 c188, .slice a204 n205 c206], .nilIface]) (aRes_cell (Eq.trans (b := aL_ 81 (pt_ b53 0) H207) (by kernel_rfl) (r210.l_)) (rt_ (rfl))) ?_
  have u216 := (u215.fr e209 (Dj.symm (i136.djn (r57.ltF.le (t_ (t_ (t_ (t_ (t_ (t_ e73.n e92.n) e98.n) e104.n) e110.n) e116.n) e122.n)))))
  have u217 := (u214.fr e209 (Dj.symm (i151.djn (r57.ltF.le (t_ (t_ (t_ (t_ (t_ (t_ (t_ e73.n e92.n) e98.n) e104.n) e110.n) e116.n) e122.n) e134.n)))))
  have u218 := (u213.fr e209 (Dj.symm (i169.djn (r57.ltF.le (t_ (t_ (t_ (t_ (t_ (t_ (t_ (t_ e73.n e92.n) e98.n) e104.n) e110.n) e116.n) e122.n) e134.n) e149.n)))))
  have u219 := (u212.fr e209 (Dj.symm (i184.djn (r57.ltF.le (t_ (t_ (t_ (t_ (t_ (t_ (t_ (t_ (t_ e73.n e92.n) e98.n) e104.n) e110.n) e116.n) e122.n) e134.n) e149.n) e167.n)))))
  have u220 := (m201.fr e209 (Dj.symm (i202.djn (r57.ltF.le (t_ (t_ (t_ (t_ (t_ (t_ (t_ (t_ (t_ (t_ e73.n e92.n) e98.n) e104.n) e110.n) e116.n) e122.n) e134.n) e149.n) e167.n) e182.n)))))
  obtain rfl := oi_ r196
  exact ⟨(.slice a138 n139 c140), f132, (.slice a153 n154 c155), f147, (.slice a171 n172 c173), f165, (.slice a186 n187 c188), f180, (.slice a204 n205 c206), f198, (.nilIface), [], rfl, (FrS.step wf (FrS.step wf (FrS.step wf (FrS.step wf (FrS.step wf (FrS.step wf (FrS.step wf ((FrS.step wf (FrS.step wf (((FrS.step wf (((f0_ wf).extR e49).extR e55) e73 Inn.nil).extR e92).extR e98) e104 (hb93.fresh (t_ (t_ e49.n e55.n) e73.n))) e110 (hb99.fresh (t_ (t_ (t_ e49.n e55.n) e73.n) e92.n))).extR e116) e122 (hb117.fresh (t_ (t_ (t_ (t_ (t_ (t_ e49.n e55.n) e73.n) e92.n) e98.n) e104.n) e110.n))) e134 Inn.nil) e149 Inn.nil) e167 Inn.nil) e182 Inn.nil) e200 Inn.nil) e209 (hb56.fresh e49.n)), u216, u217, u218, u219, u220, Ev.nil, (i136.fresh (t_ (t_ (t_ (t_ (t_ (t_ (t_ (t_ e49.n e55.n) e73.n) e92.n) e98.n) e104.n) e110.n) e116.n) e122.n)), (i151.fresh (t_ (t_ (t_ (t_ (t_ (t_ (t_ (t_ (t_ e49.n e55.n) e73.n) e92.n) e98.n) e104.n) e110.n) e116.n) e122.n) e134.n)), (i169.fresh (t_ (t_ (t_ (t_ (t_ (t_ (t_ (t_ (t_ (t_ e49.n e55.n) e73.n) e92.n) e98.n) e104.n) e110.n) e116.n) e122.n) e134.n) e149.n)), (i184.fresh (t_ (t_ (t_ (t_ (t_ (t_ (t_ (t_ (t_ (t_ (t_ e49.n e55.n) e73.n) e92.n) e98.n) e104.n) e110.n) e116.n) e122.n) e134.n) e149.n) e167.n)), (i202.fresh (t_ (t_ (t_ (t_ (t_ (t_ (t_ (t_ (t_ (t_ (t_ (t_ e49.n e55.n) e73.n) e92.n) e98.n) e104.n) e110.n) e116.n) e122.n) e134.n) e149.n) e167.n) e182.n)), Inn.nil, (Dj.symm (i151.djn m135.lt)), (Dj.symm (i169.djn (m135.lt.le e149.n))), (Dj.symm (i169.djn m150.lt)), (Dj.symm (i184.djn (m135.lt.le (t_ e149.n e167.n)))), (Dj.symm (i184.djn (m150.lt.le e167.n))), (Dj.symm (i184.djn m168.lt)), (Dj.symm (i202.djn (m135.lt.le (t_ (t_ e149.n e167.n) e182.n)))), (Dj.symm (i202.djn (m150.lt.le (t_ e167.n e182.n)))), (Dj.symm (i202.djn (m168.lt.le e182.n))), (Dj.symm (i202.djn m183.lt)), Dj.nil_r, Dj.nil_r, Dj.nil_r, Dj.nil_r, Dj.nil_r⟩
 have r221 := ite_f h78 r69
 refine l_' (.bool true) (aBin Try.prog .neq 31 (.tmp 11) (.const .nilIface) (.iface t79 x80) .nilIface) (aBin_nnil (by kernel_rfl)) ?_
 refine s_nil (k77 _ _ ?_)
 refine w_cond true (by kernel_rfl) rfl (fun _ => ?_) (fun h => by cases h)
 refine w_seqk fun _ k222 => g_' (q_ (.agg #[.slice none 0 0, .slice none 0 0, .slice none 0 0, .slice none 0 0, .slice none 0 0]) (q_ (.iface t79 x80) ?_))
 have u227 := (r57.frS e73 Dj.nil_l)
 obtain ⟨H223, q224, e225, r226⟩ := Row.store (P := Try.prog) (t := 81) (p := 0) e73.wf u227 (.agg #[.slice none 0 0, .slice none 0 0, .slice none 0 0, .slice none 0 0, .slice none 0 0]) [.slice none 0 0, .slice none 0 0, .slice none 0 0, .slice none 0 0, .slice none 0 0] (by kernel_rfl) (by kernel_rfl) (one_cons (rfl) (one_cons (rfl) (one_cons (rfl) (one_cons (rfl) (one_cons (rfl) (one_nil)))))) (Nat.le_of_ble_eq_true (by kernel_rfl)) [.slice none 0 0, .slice none 0 0, .slice none 0 0, .slice none 0 0, .slice none 0 0] (by kernel_rfl)
 refine s_ek (undef) (by kernel_rfl) (map_ok q224) ?_
 refine q_ (.iface t79 x80) (s_nil (k222 _ _ ?_))
 refine w_ret (th_ret ?_)
 refine b_ret (fn := Try.f37) (vs := [.agg #[.slice none 0 0, .slice none 0 0, .slice none 0 0, .slice none 0 0, .slice none 0 0], .iface t79 x80]) (aRes_cell (Eq.trans (b := aL_ 81 (pt_ b53 0) H223) (by kernel_rfl) (r226.l_)) (rt_ (rfl))) ?_
 have u228 := (m74.fr e225 (Dj.symm (i75.djn r57.ltF)))
 obtain rfl := oi_ r221
 exact ⟨(.slice none 0 0), [], (.slice none 0 0), [], (.slice none 0 0), [], (.slice none 0 0), [], (.slice none 0 0), [], (.iface t79 x80), f71, rfl, (FrS.step wf (FrS.step wf (((f0_ wf).extR e49).extR e55) e73 Inn.nil) e225 (hb56.fresh e49.n)), (Ow.nil (by decide)), (Ow.nil (by decide)), (Ow.nil (by decide)), (Ow.nil (by decide)), (Ow.nil (by decide)), u228, Inn.nil, Inn.nil, Inn.nil, Inn.nil, Inn.nil, (i75.fresh (t_ e49.n e55.n)), Dj.nil_l, Dj.nil_l, Dj.nil_l, Dj.nil_l, Dj.nil_l, Dj.nil_l, Dj.nil_l, Dj.nil_l, Dj.nil_l, Dj.nil_l, Dj.nil_l, Dj.nil_l, Dj.nil_l, Dj.nil_l, Dj.nil_l⟩
theorem c_hier_Ranks {H : AH} {hd_Node : Value} {fp_Node : Fp} {hd_UpFirst : Value} {fp_UpFirst : Fp} {hd_Up : Value} {fp_Up : Fp} {hd_DownFirst : Value} {fp_DownFirst : Fp} {hd_Down : Value} {fp_Down : Fp} {Node : List (Int)} {UpFirst : List (Int)} {Up : List (Int × Int × Int × Int)} {DownFirst : List (Int)} {Down : List (Int × Int × Int × Int)} {r : List (Int) × Er}
    (wf : WF H) (h_Node : Sq (encI .u32) 1 H hd_Node Node fp_Node) (h_UpFirst : Sq (encI .u32) 1 H hd_UpFirst UpFirst fp_UpFirst) (h_Up : Sq enc_u32_u64_u32_u32 4 H hd_Up Up fp_Up) (h_DownFirst : Sq (encI .u32) 1 H hd_DownFirst DownFirst fp_DownFirst) (h_Down : Sq enc_u32_u64_u32_u32 4 H hd_Down Down fp_Down) (hr : z_hier_Ranks Node UpFirst Up DownFirst Down = some r) :
    ACalls Try.prog 39 #[.agg #[hd_Node, hd_UpFirst, hd_Up, hd_DownFirst, hd_Down]] H fun v H' => ∃ (s3 : Value) (f4 : Fp) (v7 : Value) (f8 : Fp), v = .tuple #[s3, v7] ∧ FrS [] H H' ∧ Ow (encI .i64) 1 H' s3 r.1 f4 ∧ Ev 122 235 H' v7 r.2 f8 ∧ Inn [] H f4 ∧ Inn [] H f8 ∧ Dj f4 f8 := by
 refine acalls_of_body mixed Try.func39 rfl (Nat.le_of_ble_eq_true rfl) ?_
 unfold z_hier_Ranks at hr
 refine w_seqk fun _ k12 => g_' ?_
 refine s_rwl wf [hd_Node, hd_UpFirst, hd_Up, hd_DownFirst, hd_Down] (one_cons (h_Node.one1) (one_cons (h_UpFirst.one1) (one_cons (h_Up.one1) (one_cons (h_DownFirst.one1) (one_cons (h_Down.one1) (one_nil)))))) (by kernel_rfl) fun b13 H14 e15 hb16 r17 => ?_
 refine q_ (.slice none 0 0) (q_ (.nilIface) (s_nil (k12 _ _ (w_seqk fun _ k19 => w_seqk fun _ k20 => g_' ?_))))
 refine l_' (.agg #[hd_Node, hd_UpFirst, hd_Up, hd_DownFirst, hd_Down]) (aL_ 81 (pt_ b13 0) H14) (r17.l_) ?_
 have u21 := (h_Node.ext e15)
 have u22 := (h_UpFirst.ext e15)
 have u23 := (h_Up.ext e15)
 have u24 := (h_DownFirst.ext e15)
 have u25 := (h_Down.ext e15)
 obtain ⟨y26, hy27, r28⟩ := bind_some hr
 refine s_ck 88 #[.agg #[hd_Node, hd_UpFirst, hd_Up, hd_DownFirst, hd_Down]] (by kernel_rfl) (c_hier_Check e15.wf u21 u22 u23 u24 u25 hy27) ?_
 rintro v29 H31 ⟨_, f30, rfl, e32, m33, i34⟩
 refine q_ (v29) (s_nil (k20 _ _ (w_seqk fun _ k36 => g_' (q_ (v29) ?_))))
 rcases (m33).cases with ⟨h37, rfl⟩ | ⟨h37, t38, x39, rfl⟩
 ·have r40 := ite_t h37 r28
  refine q_ (.bool false) (s_nil (k36 _ _ ?_))
  refine w_cond false (by kernel_rfl) rfl (fun h => by cases h) (fun _ => ?_)
  refine w_skip (k19 _ _ (w_seqk fun _ k41 => g_' (q_ (pt_ b13 0) ?_)))
  have u42 := (r17.frS e32 Dj.nil_l)
  refine l_' (hd_Node) (aL_ 78 (pt_ b13 0) H31) (u42.l_) ?_
  have u43 := (u21.fr e32 Dj.nil_l)
  refine l_' (i_ (Node.length : Int)) (aLen Try.prog 78 hd_Node H31) (u43.lenb (by kernel_rfl)) ?_
  obtain ⟨g44, r45⟩ := G_some r40
  refine s_mks (t := 22) (m := 8) (l := (Node.length : Int)) (c := (Node.length : Int)) (enc := (encI .i64)) (sz := 1) e32.wf (0 : Int) (by kernel_rfl) (by decide) g44.1 (Int.le_refl _) (by omega) (by have := g44; omega) (by kernel_rfl) fun s46 f47 H48 e49 hf50 hm51 => ?_
  obtain ⟨a52, n53, c54, rfl⟩ := hm51.form
  have hm51 : Ow (encI .i64) 1 H48 (.slice a52 n53 c54) (List.replicate Node.length (0 : Int)) f47 := hm51
  refine q_ (.slice a52 n53 c54) (s_nil (k41 _ _ (w_seqk fun _ k56 => w_seqk fun _ k57 => g_' (q_ (pt_ b13 0) ?_))))
  have u58 := (u42.ext e49)
  refine l_' (hd_Node) (aL_ 78 (pt_ b13 0) H48) (u58.l_) ?_
  have u59 := (u43.ext e49)
  refine l_' (i_ (Node.length : Int)) (aLen Try.prog 78 hd_Node H48) (u59.lenb (by kernel_rfl)) ?_
  refine q_ (i_ 0) (s_nil (k57 _ _ ?_))
  obtain ⟨o60, hx61, r62⟩ := bind_some r45
  refine w_mid (fun α H63 => Has α [(5, .slice a52 n53 c54)] ∧ FrS f47 H48 H63 ∧ Ow (encI .i64) 1 H63 (.slice a52 n53 c54) o60 f47) (fun _ k67 => ?_) (fun α H63 hM => ?_)
  ·refine w_block ?_
   obtain ⟨n69, hn70⟩ := loopO_iff.1 hx61
   refine w_loopn (fun n α H71 => ∃ (i0 : Int), ∃ (l1 : List (Int)), iterO (fun zz_ => z_hier_Ranks_l0 Node zz_.1 zz_.2) n (i0, l1) = some o60 ∧ Has α [(5, .slice a52 n53 c54), (18, hd_Node), (19, i_ (Node.length : Int)), (20, i_ i0)] ∧ FrS f47 H48 H71 ∧ Ow (encI .i64) 1 H71 (.slice a52 n53 c54) l1 f47) n69 ⟨0, (List.replicate Node.length (0 : Int)), hn70, ha_, (FrS.refl (W := f47) e49.wf), hm51⟩ ?_
   rintro n69 α H71 ⟨i0, l1, hi76, hh75, e72, m74⟩ K81 k81
   obtain ⟨n77, z78, rfl, hz79, hn80⟩ := iter_succ hi76
   obtain ⟨β, rfl⟩ := has_ex hh75
   clear hh75
   replace hz79 : z_hier_Ranks_l0 Node i0 l1 = some z78 := hz79
   unfold z_hier_Ranks_l0 at hz79
   refine w_seqk fun _ k82 => g_' (q_ (.bool (decide (i0 < (Node.length : Int)))) (s_nil (k82 _ _ (w_seqk fun _ k83 => ?_))))
   refine w_condp (i0 < (Node.length : Int)) (by kernel_rfl) rfl (fun h84 => ?_) (fun h84 => ?_)
   ·have r85 := ite_t h84 hz79
    refine w_skip (k83 _ _ (w_seqk fun _ k86 => w_block (w_seqk fun _ k87 => g_' (q_ (i_ i0) ?_))))
    obtain ⟨g88, r89⟩ := G_some r85
    have u90 := (u59.fr e72 (hf50.djn (h_Node.lt.le (t_ e15.n e32.n))))
    refine l_' (elp hd_Node 1 i0.toNat 0) (aIndexAddr Try.prog 78 hd_Node (i_ i0)) (u90.idxb (by kernel_rfl) g88 h84) ?_
    refine l_' (.int .u32 (gt Node i0)) (aL_ 90 (elp hd_Node 1 i0.toNat 0) H71) (u90.ld g88 h84 (by kernel_rfl)) ?_
    refine q_ (i_ i0) (q_ (.int .u32 (gt Node i0)) (s_nil (k87 _ _ (g_' (q_ (.slice a52 n53 c54) (q_ (.int .u32 (gt Node i0)) (q_ (i_ i0) ?_)))))))
    obtain ⟨g91, r92⟩ := G_some r89
    refine l_' (elp (.slice a52 n53 c54) 1 (gt Node i0).toNat 0) (aIndexAddr Try.prog 22 (.slice a52 n53 c54) (.int .u32 (gt Node i0))) (m74.sq.idxb (by kernel_rfl) g91.1 g91.2) ?_
    obtain ⟨H93, q94, e95, hm96⟩ := Ow.store (P := Try.prog) (t := 3) (off := 0) e72.wf m74 g91.1 g91.2 (i_ i0) [i_ i0] (by kernel_rfl) (by kernel_rfl) rfl i0 (Nat.le_of_ble_eq_true rfl) (by kernel_rfl)
    refine s_ek (undef) (by kernel_rfl) (map_ok q94) ?_
    refine s_nil (k86 _ _ (g_' ?_))
    obtain ⟨g97, r98⟩ := G_some r92
    refine w_' (i0 + 1) (wrap64 (by have := g97; omega)) ?_
    refine q_ (i_ (i0 + 1)) (s_nil ?_)
    obtain rfl := oi_ r98
    exact k81 n77 _ _ (Nat.lt_succ_self _) ⟨(i0 + 1), (l1.set (gt Node i0).toNat i0), hn80, ha_, (FrS.step e49.wf (FrS.step e49.wf (FrS.refl (W := f47) e49.wf) e72 Inn.refl') e95 Inn.refl'), hm96⟩
   have r99 := ite_f h84 hz79
   refine w_exit (th_exit (th_exit (bl_eq ?_)))
   obtain rfl := oi_ r99
   obtain rfl := it_inr hn80
   exact k67 _ _ ⟨ha_, (FrS.step e49.wf (FrS.refl (W := f47) e49.wf) e72 Inn.refl'), m74⟩
  obtain ⟨hh68, e64, m66⟩ := hM
  obtain ⟨β, rfl⟩ := has_ex hh68
  clear hh68
  refine k56 _ _ (w_seqk fun _ k100 => g_' (q_ (.slice a52 n53 c54) (q_ (.slice a52 n53 c54) (q_ (.nilIface) (s_nil (k100 _ _ ?_))))))
  refine w_ret ?_
  refine b_ret (fn := Try.f39) (vs := [.slice a52 n53 c54, .nilIface]) (rt_ (aRes_tmp (by kernel_rfl) (rfl))) ?_
  obtain rfl := oi_ r62
  exact ⟨(.slice a52 n53 c54), f47, (.nilIface), [], rfl, (FrS.step wf ((FrS.step wf ((f0_ wf).extR e15) e32 Inn.nil).extR e49) e64 (hf50.fresh (t_ e15.n e32.n))), m66, Ev.nil, (hf50.fresh (t_ e15.n e32.n)), Inn.nil, Dj.nil_r⟩
 have r101 := ite_f h37 r28
 refine l_' (.bool true) (aBin Try.prog .neq 31 (.tmp 10) (.const .nilIface) (.iface t38 x39) .nilIface) (aBin_nnil (by kernel_rfl)) ?_
 refine s_nil (k36 _ _ ?_)
 refine w_cond true (by kernel_rfl) rfl (fun _ => ?_) (fun h => by cases h)
 refine w_seqk fun _ k102 => g_' (q_ (.iface t38 x39) (q_ (.slice none 0 0) (q_ (.iface t38 x39) (s_nil (k102 _ _ ?_)))))
 refine w_ret (th_ret ?_)
 refine b_ret (fn := Try.f39) (vs := [.slice none 0 0, .iface t38 x39]) (rt_ (aRes_tmp (by kernel_rfl) (rfl))) ?_
 obtain rfl := oi_ r101
 exact ⟨(.slice none 0 0), [], (.iface t38 x39), f30, rfl, (FrS.step wf ((f0_ wf).extR e15) e32 Inn.nil), (Ow.nil (by decide)), m33, Inn.nil, (i34.fresh e15.n), Dj.nil_l⟩
theorem c_slices_Equal {H : AH} {hd_s1 : Value} {fp_s1 : Fp} {s1 : List (Int)} {r : Bool}
    (wf : WF H) (h_s1 : Sq (encI .u32) 1 H hd_s1 s1 fp_s1) (hr : z_slices_Equal s1 = some r) :
    ACalls Try.prog 98 #[hd_s1, hd_s1] H fun v H' => v = .bool r ∧ H = H' := by
 refine acalls_of_body mixed Try.func98 rfl (Nat.le_of_ble_eq_true rfl) ?_
 unfold z_slices_Equal at hr
 refine w_seqk fun _ k1 => g_' (q_ (.bool false) (s_nil (k1 _ _ (w_seqk fun _ k2 => w_seqk fun _ k3 => g_' (q_ (hd_s1) ?_)))))
 refine l_' (i_ (s1.length : Int)) (aLen Try.prog 78 hd_s1 H) (h_s1.lenb (by kernel_rfl)) ?_
 refine q_ (hd_s1) ?_
 refine l_' (i_ (s1.length : Int)) (aLen Try.prog 78 hd_s1 H) (h_s1.lenb (by kernel_rfl)) ?_
 refine q_ (.bool (!decide ((s1.length : Int) = (s1.length : Int)))) (s_nil (k3 _ _ ?_))
 refine w_condn ((s1.length : Int) = (s1.length : Int)) (by kernel_rfl) rfl (fun h4 => ?_) (fun h4 => ?_)
 ·have r5 := ite_f h4 hr
  refine w_seqk fun _ k6 => g_' (q_ (.bool false) (s_nil (k6 _ _ ?_)))
  refine w_ret (th_ret ?_)
  refine b_ret (fn := Try.f98) (vs := [.bool false]) (rt_ (rfl)) ?_
  obtain rfl := oi_ r5
  exact ⟨rfl, rfl⟩
 have r7 := ite_t h4 hr
 refine w_skip (k2 _ _ (w_seqk fun _ k8 => w_seqk fun _ k9 => g_' (q_ (hd_s1) ?_)))
 refine l_' (i_ (s1.length : Int)) (aLen Try.prog 78 hd_s1 H) (h_s1.lenb (by kernel_rfl)) ?_
 refine q_ (i_ 0) (s_nil (k9 _ _ ?_))
 obtain ⟨z13, hx11, r12⟩ := bind_some r7
 refine w_mid (fun α H14 => ∃ o10, z13 = Sum.inr o10 ∧ Has α [] ∧ H = H14) (fun _ k16 => ?_) (fun α H14 hM => ?_)
 ·refine w_block ?_
  obtain ⟨n18, hn19⟩ := loopO_iff.1 hx11
  refine w_loopn (fun n α H20 => ∃ (i0 : Int), iterO (fun zz_ => z_slices_Equal_l0 s1 zz_) n i0 = some z13 ∧ Has α [(0, hd_s1), (1, hd_s1), (12, i_ (s1.length : Int)), (13, i_ i0)] ∧ H = H20) n18 ⟨0, hn19, ha_, rfl⟩ ?_
  rintro n18 α H20 ⟨i0, hi23, hh22, rfl⟩ K28 k28
  obtain ⟨n24, z25, rfl, hz26, hn27⟩ := iter_succ hi23
  obtain ⟨β, rfl⟩ := has_ex hh22
  clear hh22
  replace hz26 : z_slices_Equal_l0 s1 i0 = some z25 := hz26
  unfold z_slices_Equal_l0 at hz26
  refine w_seqk fun _ k29 => g_' (q_ (.bool (decide (i0 < (s1.length : Int)))) (s_nil (k29 _ _ (w_seqk fun _ k30 => ?_))))
  refine w_condp (i0 < (s1.length : Int)) (by kernel_rfl) rfl (fun h31 => ?_) (fun h31 => ?_)
  ·have r32 := ite_t h31 hz26
   refine w_skip (k30 _ _ (w_seqk fun _ k33 => w_block (w_seqk fun _ k34 => g_' (q_ (i_ i0) (q_ (i_ i0) (s_nil (k34 _ _ (w_seqk fun _ k35 => ?_))))))))
   refine w_draw [0, 1, 2, 3, 4, 5, 6, 7, 8] (by kernel_rfl) ?_
   refine e_' (hd_s1) (e_' (i_ i0) ?_)
   obtain ⟨g36, r37⟩ := G_some r32
   refine m_' (elp hd_s1 1 i0.toNat 0) (aIndexAddr Try.prog 78 hd_s1 (i_ i0)) (h_s1.idxb (by kernel_rfl) g36 h31) ?_
   refine m_' (.int .u32 (gt s1 i0)) (aL_ 90 (elp hd_s1 1 i0.toNat 0) H) (h_s1.ld g36 h31 (by kernel_rfl)) ?_
   refine e_' (hd_s1) (e_' (i_ i0) ?_)
   refine m_' (elp hd_s1 1 i0.toNat 0) (aIndexAddr Try.prog 78 hd_s1 (i_ i0)) (h_s1.idxb (by kernel_rfl) g36 h31) ?_
   refine m_' (.int .u32 (gt s1 i0)) (aL_ 90 (elp hd_s1 1 i0.toNat 0) H) (h_s1.ld g36 h31 (by kernel_rfl)) ?_
   refine e_' (.bool (!decide ((gt s1 i0) = (gt s1 i0)))) ?_
   refine d_nil ?_
   refine k35 _ _ ?_
   refine w_condn ((gt s1 i0) = (gt s1 i0)) (by kernel_rfl) rfl (fun h38 => ?_) (fun h38 => ?_)
   ·have r39 := ite_f h38 r37
    refine w_seqk fun _ k40 => g_' (q_ (.bool false) (s_nil (k40 _ _ ?_)))
    refine w_ret (bl_ret (th_ret (th_ret (bl_ret (th_ret (th_ret ?_))))))
    obtain ⟨v41, hv42, hz43⟩ := map_some r39
    subst hz43
    obtain rfl := it_inr hn27
    have hq44 := elim_inl r12
    rw [hq44] at hv42
    refine b_ret (fn := Try.f98) (vs := [.bool false]) (rt_ (rfl)) ?_
    obtain rfl := oi_ hv42
    exact ⟨rfl, rfl⟩
   have r45 := ite_t h38 r37
   refine w_skip (k33 _ _ (g_' ?_))
   obtain ⟨g46, r47⟩ := G_some r45
   refine w_' (i0 + 1) (wrap64 (by have := g46; omega)) ?_
   refine q_ (i_ (i0 + 1)) (s_nil ?_)
   obtain rfl := oi_ r47
   exact k28 n24 _ _ (Nat.lt_succ_self _) ⟨(i0 + 1), hn27, ha_, rfl⟩
  have r48 := ite_f h31 hz26
  refine w_exit (th_exit (th_exit (bl_eq ?_)))
  obtain rfl := oi_ r48
  obtain rfl := it_inr hn27
  exact k16 _ _ ⟨_, rfl, trivial, rfl⟩
 obtain ⟨o10, rfl, hh17, rfl⟩ := hM
 have r49 := elim_inr r12
 obtain ⟨β, rfl⟩ := has_ex hh17
 clear hh17
 refine k8 _ _ (w_seqk fun _ k50 => g_' (q_ (.bool true) (s_nil (k50 _ _ ?_))))
 refine w_ret ?_
 refine b_ret (fn := Try.f98) (vs := [.bool true]) (rt_ (rfl)) ?_
 obtain rfl := oi_ r49
 exact ⟨rfl, rfl⟩
theorem c_slices_Equal_1 {H : AH} {hd_s1 : Value} {fp_s1 : Fp} {s1 : List (Int × Int × Int × Int)} {r : Bool}
    (wf : WF H) (h_s1 : Sq enc_u32_u64_u32_u32 4 H hd_s1 s1 fp_s1) (hr : z_slices_Equal_1 s1 = some r) :
    ACalls Try.prog 99 #[hd_s1, hd_s1] H fun v H' => v = .bool r ∧ H = H' := by
 refine acalls_of_body mixed Try.func99 rfl (Nat.le_of_ble_eq_true rfl) ?_
 unfold z_slices_Equal_1 at hr
 refine w_seqk fun _ k1 => g_' (q_ (.bool false) (s_nil (k1 _ _ (w_seqk fun _ k2 => w_seqk fun _ k3 => g_' (q_ (hd_s1) ?_)))))
 refine l_' (i_ (s1.length : Int)) (aLen Try.prog 79 hd_s1 H) (h_s1.lenb (by kernel_rfl)) ?_
 refine q_ (hd_s1) ?_
 refine l_' (i_ (s1.length : Int)) (aLen Try.prog 79 hd_s1 H) (h_s1.lenb (by kernel_rfl)) ?_
 refine q_ (.bool (!decide ((s1.length : Int) = (s1.length : Int)))) (s_nil (k3 _ _ ?_))
 refine w_condn ((s1.length : Int) = (s1.length : Int)) (by kernel_rfl) rfl (fun h4 => ?_) (fun h4 => ?_)
 ·have r5 := ite_f h4 hr
  refine w_seqk fun _ k6 => g_' (q_ (.bool false) (s_nil (k6 _ _ ?_)))
  refine w_ret (th_ret ?_)
  refine b_ret (fn := Try.f99) (vs := [.bool false]) (rt_ (rfl)) ?_
  obtain rfl := oi_ r5
  exact ⟨rfl, rfl⟩
 have r7 := ite_t h4 hr
 refine w_skip (k2 _ _ (w_seqk fun _ k8 => w_seqk fun _ k9 => g_' (q_ (hd_s1) ?_)))
 refine l_' (i_ (s1.length : Int)) (aLen Try.prog 79 hd_s1 H) (h_s1.lenb (by kernel_rfl)) ?_
 refine q_ (i_ 0) (s_nil (k9 _ _ ?_))
 obtain ⟨z13, hx11, r12⟩ := bind_some r7
 refine w_mid (fun α H14 => ∃ o10, z13 = Sum.inr o10 ∧ Has α [] ∧ H = H14) (fun _ k16 => ?_) (fun α H14 hM => ?_)
 ·refine w_block ?_
  obtain ⟨n18, hn19⟩ := loopO_iff.1 hx11
  refine w_loopn (fun n α H20 => ∃ (i0 : Int), iterO (fun zz_ => z_slices_Equal_1_l0 s1 zz_) n i0 = some z13 ∧ Has α [(0, hd_s1), (1, hd_s1), (12, i_ (s1.length : Int)), (13, i_ i0)] ∧ H = H20) n18 ⟨0, hn19, ha_, rfl⟩ ?_
  rintro n18 α H20 ⟨i0, hi23, hh22, rfl⟩ K28 k28
  obtain ⟨n24, z25, rfl, hz26, hn27⟩ := iter_succ hi23
  obtain ⟨β, rfl⟩ := has_ex hh22
  clear hh22
  replace hz26 : z_slices_Equal_1_l0 s1 i0 = some z25 := hz26
  unfold z_slices_Equal_1_l0 at hz26
  refine w_seqk fun _ k29 => g_' (q_ (.bool (decide (i0 < (s1.length : Int)))) (s_nil (k29 _ _ (w_seqk fun _ k30 => ?_))))
  refine w_condp (i0 < (s1.length : Int)) (by kernel_rfl) rfl (fun h31 => ?_) (fun h31 => ?_)
  ·have r32 := ite_t h31 hz26
   refine w_skip (k30 _ _ (w_seqk fun _ k33 => w_block (w_seqk fun _ k34 => g_' (q_ (i_ i0) (q_ (i_ i0) (s_nil (k34 _ _ (w_seqk fun _ k35 => ?_))))))))
   refine w_draw [0, 1, 2, 3, 4, 5, 6, 7, 8] (by kernel_rfl) ?_
   refine e_' (hd_s1) (e_' (i_ i0) ?_)
   obtain ⟨g36, r37⟩ := G_some r32
   refine m_' (elp hd_s1 4 i0.toNat 0) (aIndexAddr Try.prog 79 hd_s1 (i_ i0)) (h_s1.idxb (by kernel_rfl) g36 h31) ?_
   refine m_' (.agg #[.int .u32 ((gt s1 i0).1), .int .u64 ((gt s1 i0).2.1), .int .u32 ((gt s1 i0).2.2.1), .int .u32 ((gt s1 i0).2.2.2)]) (aL_ 93 (elp hd_s1 4 i0.toNat 0) H) (h_s1.ld g36 h31 (by kernel_rfl)) ?_
   refine e_' (hd_s1) (e_' (i_ i0) ?_)
   refine m_' (elp hd_s1 4 i0.toNat 0) (aIndexAddr Try.prog 79 hd_s1 (i_ i0)) (h_s1.idxb (by kernel_rfl) g36 h31) ?_
   refine m_' (.agg #[.int .u32 ((gt s1 i0).1), .int .u64 ((gt s1 i0).2.1), .int .u32 ((gt s1 i0).2.2.1), .int .u32 ((gt s1 i0).2.2.2)]) (aL_ 93 (elp hd_s1 4 i0.toNat 0) H) (h_s1.ld g36 h31 (by kernel_rfl)) ?_
   refine m_' (.bool (!decide (((gt s1 i0).1) = ((gt s1 i0).1) ∧ ((gt s1 i0).2.1) = ((gt s1 i0).2.1) ∧ ((gt s1 i0).2.2.1) = ((gt s1 i0).2.2.1) ∧ ((gt s1 i0).2.2.2) = ((gt s1 i0).2.2.2)))) (aBin Try.prog .neq 93 (.tmp 19) (.tmp 23) (.agg #[.int .u32 ((gt s1 i0).1), .int .u64 ((gt s1 i0).2.1), .int .u32 ((gt s1 i0).2.2.1), .int .u32 ((gt s1 i0).2.2.2)]) (.agg #[.int .u32 ((gt s1 i0).1), .int .u64 ((gt s1 i0).2.1), .int .u32 ((gt s1 i0).2.2.1), .int .u32 ((gt s1 i0).2.2.2)])) (aBin_neq93 _ _ ((gt s1 i0).1) ((gt s1 i0).2.1) ((gt s1 i0).2.2.1) ((gt s1 i0).2.2.2) ((gt s1 i0).1) ((gt s1 i0).2.1) ((gt s1 i0).2.2.1) ((gt s1 i0).2.2.2)) ?_
   refine d_nil ?_
   refine k35 _ _ ?_
   refine w_condn (((gt s1 i0).1) = ((gt s1 i0).1) ∧ ((gt s1 i0).2.1) = ((gt s1 i0).2.1) ∧ ((gt s1 i0).2.2.1) = ((gt s1 i0).2.2.1) ∧ ((gt s1 i0).2.2.2) = ((gt s1 i0).2.2.2)) (by kernel_rfl) rfl (fun h38 => ?_) (fun h38 => ?_)
   ·have r39 := ite_f h38 r37
    refine w_seqk fun _ k40 => g_' (q_ (.bool false) (s_nil (k40 _ _ ?_)))
    refine w_ret (bl_ret (th_ret (th_ret (bl_ret (th_ret (th_ret ?_))))))
    obtain ⟨v41, hv42, hz43⟩ := map_some r39
    subst hz43
    obtain rfl := it_inr hn27
    have hq44 := elim_inl r12
    rw [hq44] at hv42
    refine b_ret (fn := Try.f99) (vs := [.bool false]) (rt_ (rfl)) ?_
    obtain rfl := oi_ hv42
    exact ⟨rfl, rfl⟩
   have r45 := ite_t h38 r37
   refine w_skip (k33 _ _ (g_' ?_))
   obtain ⟨g46, r47⟩ := G_some r45
   refine w_' (i0 + 1) (wrap64 (by have := g46; omega)) ?_
   refine q_ (i_ (i0 + 1)) (s_nil ?_)
   obtain rfl := oi_ r47
   exact k28 n24 _ _ (Nat.lt_succ_self _) ⟨(i0 + 1), hn27, ha_, rfl⟩
  have r48 := ite_f h31 hz26
  refine w_exit (th_exit (th_exit (bl_eq ?_)))
  obtain rfl := oi_ r48
  obtain rfl := it_inr hn27
  exact k16 _ _ ⟨_, rfl, trivial, rfl⟩
 obtain ⟨o10, rfl, hh17, rfl⟩ := hM
 have r49 := elim_inr r12
 obtain ⟨β, rfl⟩ := has_ex hh17
 clear hh17
 refine k8 _ _ (w_seqk fun _ k50 => g_' (q_ (.bool true) (s_nil (k50 _ _ ?_))))
 refine w_ret ?_
 refine b_ret (fn := Try.f99) (vs := [.bool true]) (rt_ (rfl)) ?_
 obtain rfl := oi_ r49
 exact ⟨rfl, rfl⟩
theorem c_hier_Same {H : AH} {hd_Node : Value} {fp_Node : Fp} {hd_UpFirst : Value} {fp_UpFirst : Fp} {hd_Up : Value} {fp_Up : Fp} {hd_DownFirst : Value} {fp_DownFirst : Fp} {hd_Down : Value} {fp_Down : Fp} {Node : List (Int)} {UpFirst : List (Int)} {Up : List (Int × Int × Int × Int)} {DownFirst : List (Int)} {Down : List (Int × Int × Int × Int)} {r : Bool}
    (wf : WF H) (h_Node : Sq (encI .u32) 1 H hd_Node Node fp_Node) (h_UpFirst : Sq (encI .u32) 1 H hd_UpFirst UpFirst fp_UpFirst) (h_Up : Sq enc_u32_u64_u32_u32 4 H hd_Up Up fp_Up) (h_DownFirst : Sq (encI .u32) 1 H hd_DownFirst DownFirst fp_DownFirst) (h_Down : Sq enc_u32_u64_u32_u32 4 H hd_Down Down fp_Down) (hr : z_hier_Same Node UpFirst Up DownFirst Down = some r) :
    ACalls Try.prog 40 #[.agg #[hd_Node, hd_UpFirst, hd_Up, hd_DownFirst, hd_Down], .agg #[hd_Node, hd_UpFirst, hd_Up, hd_DownFirst, hd_Down]] H fun v H' => v = .bool r ∧ FrS [] H H' := by
 refine acalls_of_body mixed Try.func40 rfl (Nat.le_of_ble_eq_true rfl) ?_
 unfold z_hier_Same at hr
 refine w_seqk fun _ k1 => g_' ?_
 refine s_rwl wf [hd_Node, hd_UpFirst, hd_Up, hd_DownFirst, hd_Down] (one_cons (h_Node.one1) (one_cons (h_UpFirst.one1) (one_cons (h_Up.one1) (one_cons (h_DownFirst.one1) (one_cons (h_Down.one1) (one_nil)))))) (by kernel_rfl) fun b2 H3 e4 hb5 r6 => ?_
 have u13 := (h_Down.ext e4)
 have u14 := (h_DownFirst.ext e4)
 have u15 := (h_Up.ext e4)
 have u16 := (h_UpFirst.ext e4)
 have u17 := (h_Node.ext e4)
 refine s_rwl e4.wf [hd_Node, hd_UpFirst, hd_Up, hd_DownFirst, hd_Down] (one_cons (u17.one1) (one_cons (u16.one1) (one_cons (u15.one1) (one_cons (u14.one1) (one_cons (u13.one1) (one_nil)))))) (by kernel_rfl) fun b8 H9 e10 hb11 r12 => ?_
 refine q_ (.bool false) (s_nil (k1 _ _ (w_seqk fun _ k19 => g_' (q_ (pt_ b2 0) ?_))))
 have u20 := (r6.ext e10)
 refine l_' (hd_Node) (aL_ 78 (pt_ b2 0) H9) (u20.l_) ?_
 refine q_ (pt_ b8 0) ?_
 refine l_' (hd_Node) (aL_ 78 (pt_ b8 0) H9) (r12.l_) ?_
 have u21 := (u17.ext e10)
 obtain ⟨y22, hy23, r24⟩ := bind_some hr
 refine s_ck 98 #[hd_Node, hd_Node] (by kernel_rfl) (c_slices_Equal e10.wf u21 hy23) ?_
 rintro _ _ ⟨rfl, rfl⟩
 by_cases h27 : y22 = true
 ·have r28 := ite_t h27 r24
  rw [h27]
  refine q_ (.bool true) (q_ (pt_ b2 1) ?_)
  refine l_' (hd_UpFirst) (aL_ 78 (pt_ b2 1) H9) (u20.l_) ?_
  refine q_ (pt_ b8 1) ?_
  refine l_' (hd_UpFirst) (aL_ 78 (pt_ b8 1) H9) (r12.l_) ?_
  have u30 := (u16.ext e10)
  obtain ⟨y31, hy32, r33⟩ := bind_some r28
  refine s_ck 98 #[hd_UpFirst, hd_UpFirst] (by kernel_rfl) (c_slices_Equal e10.wf u30 hy32) ?_
  rintro _ _ ⟨rfl, rfl⟩
  by_cases h36 : y31 = true
  ·have r37 := ite_t h36 r33
   rw [h36]
   refine q_ (.bool true) (q_ (.bool true) (q_ (pt_ b2 2) ?_))
   refine l_' (hd_Up) (aL_ 79 (pt_ b2 2) H9) (u20.l_) ?_
   refine q_ (pt_ b8 2) ?_
   refine l_' (hd_Up) (aL_ 79 (pt_ b8 2) H9) (r12.l_) ?_
   have u39 := (u15.ext e10)
   obtain ⟨y40, hy41, r42⟩ := bind_some r37
   refine s_ck 99 #[hd_Up, hd_Up] (by kernel_rfl) (c_slices_Equal_1 e10.wf u39 hy41) ?_
   rintro _ _ ⟨rfl, rfl⟩
   by_cases h45 : y40 = true
   ·have r46 := ite_t h45 r42
    rw [h45]
    refine q_ (.bool true) (q_ (.bool true) (q_ (pt_ b2 3) ?_))
    refine l_' (hd_DownFirst) (aL_ 78 (pt_ b2 3) H9) (u20.l_) ?_
    refine q_ (pt_ b8 3) ?_
    refine l_' (hd_DownFirst) (aL_ 78 (pt_ b8 3) H9) (r12.l_) ?_
    have u48 := (u14.ext e10)
    obtain ⟨y49, hy50, r51⟩ := bind_some r46
    refine s_ck 98 #[hd_DownFirst, hd_DownFirst] (by kernel_rfl) (c_slices_Equal e10.wf u48 hy50) ?_
    rintro _ _ ⟨rfl, rfl⟩
    by_cases h54 : y49 = true
    ·have r55 := ite_t h54 r51
     rw [h54]
     refine q_ (.bool true) (q_ (.bool true) (q_ (pt_ b2 4) ?_))
     refine l_' (hd_Down) (aL_ 79 (pt_ b2 4) H9) (u20.l_) ?_
     refine q_ (pt_ b8 4) ?_
     refine l_' (hd_Down) (aL_ 79 (pt_ b8 4) H9) (r12.l_) ?_
     have u57 := (u13.ext e10)
     obtain ⟨y58, hy59, r60⟩ := bind_some r55
     refine s_ck 99 #[hd_Down, hd_Down] (by kernel_rfl) (c_slices_Equal_1 e10.wf u57 hy59) ?_
     rintro _ _ ⟨rfl, rfl⟩
     refine q_ (.bool y58) (q_ (.bool y58) (s_nil (k19 _ _ ?_)))
     refine w_ret ?_
     refine b_ret (fn := Try.f40) (vs := [.bool y58]) (rt_ (rfl)) ?_
     obtain rfl := oi_ r60
     exact ⟨rfl, (((f0_ wf).extR e4).extR e10)⟩
    have r63 := ite_f h54 r51
    rw [nb h54]
    refine q_ (.bool false) (q_ (.bool false) (n_' (n_' (n_' (n_' (n_' (q_ (.bool false) (q_ (.bool false) (s_nil (k19 _ _ ?_))))))))))
    refine w_ret ?_
    refine b_ret (fn := Try.f40) (vs := [.bool false]) (rt_ (rfl)) ?_
    obtain rfl := oi_ r63
    exact ⟨rfl, (((f0_ wf).extR e4).extR e10)⟩
   have r65 := ite_f h45 r42
   rw [nb h45]
   refine q_ (.bool false) (q_ (.bool false) (n_' (n_' (n_' (n_' (n_' (q_ (.bool false) (q_ (.bool false) (n_' (n_' (n_' (n_' (n_' (q_ (.bool false) (q_ (.bool false) (s_nil (k19 _ _ ?_)))))))))))))))))
   refine w_ret ?_
   refine b_ret (fn := Try.f40) (vs := [.bool false]) (rt_ (rfl)) ?_
   obtain rfl := oi_ r65
   exact ⟨rfl, (((f0_ wf).extR e4).extR e10)⟩
  have r67 := ite_f h36 r33
  rw [nb h36]
  refine q_ (.bool false) (q_ (.bool false) (n_' (n_' (n_' (n_' (n_' (q_ (.bool false) (q_ (.bool false) (n_' (n_' (n_' (n_' (n_' (q_ (.bool false) (q_ (.bool false) (n_' (n_' (n_' (n_' (n_' (q_ (.bool false) (q_ (.bool false) (s_nil (k19 _ _ ?_))))))))))))))))))))))))
  refine w_ret ?_
  refine b_ret (fn := Try.f40) (vs := [.bool false]) (rt_ (rfl)) ?_
  obtain rfl := oi_ r67
  exact ⟨rfl, (((f0_ wf).extR e4).extR e10)⟩
 have r69 := ite_f h27 r24
 rw [nb h27]
 refine q_ (.bool false) (n_' (n_' (n_' (n_' (n_' (q_ (.bool false) (q_ (.bool false) (n_' (n_' (n_' (n_' (n_' (q_ (.bool false) (q_ (.bool false) (n_' (n_' (n_' (n_' (n_' (q_ (.bool false) (q_ (.bool false) (n_' (n_' (n_' (n_' (n_' (q_ (.bool false) (q_ (.bool false) (s_nil (k19 _ _ ?_))))))))))))))))))))))))))))))
 refine w_ret ?_
 refine b_ret (fn := Try.f40) (vs := [.bool false]) (rt_ (rfl)) ?_
 obtain rfl := oi_ r69
 exact ⟨rfl, (((f0_ wf).extR e4).extR e10)⟩
theorem c_viaductref10_SameWords {H : AH} {hd_a : Value} {fp_a : Fp} {hd_b : Value} {fp_b : Fp} {a : List (Int)} {b : List (Int)} {r : Bool}
    (wf : WF H) (h_a : Sq (encI .u32) 1 H hd_a a fp_a) (h_b : Sq (encI .u32) 1 H hd_b b fp_b) (hr : z_viaductref10_SameWords a b = some r) :
    ACalls Try.prog 100 #[hd_a, hd_b] H fun v H' => v = .bool r ∧ H = H' := by
 refine acalls_of_body mixed Try.func100 rfl (Nat.le_of_ble_eq_true rfl) ?_
 unfold z_viaductref10_SameWords at hr
 refine w_seqk fun _ k1 => g_' (q_ (.bool false) (s_nil (k1 _ _ (w_seqk fun _ k2 => w_seqk fun _ k3 => g_' (q_ (hd_a) ?_)))))
 refine l_' (i_ (a.length : Int)) (aLen Try.prog 78 hd_a H) (h_a.lenb (by kernel_rfl)) ?_
 refine q_ (hd_b) ?_
 refine l_' (i_ (b.length : Int)) (aLen Try.prog 78 hd_b H) (h_b.lenb (by kernel_rfl)) ?_
 refine q_ (.bool (!decide ((a.length : Int) = (b.length : Int)))) (s_nil (k3 _ _ ?_))
 refine w_condn ((a.length : Int) = (b.length : Int)) (by kernel_rfl) rfl (fun h4 => ?_) (fun h4 => ?_)
 ·have r5 := ite_f h4 hr
  refine w_seqk fun _ k6 => g_' (q_ (.bool false) (s_nil (k6 _ _ ?_)))
  refine w_ret (th_ret ?_)
  refine b_ret (fn := Try.f100) (vs := [.bool false]) (rt_ (rfl)) ?_
  obtain rfl := oi_ r5
  exact ⟨rfl, rfl⟩
 have r7 := ite_t h4 hr
 refine w_skip (k2 _ _ (w_seqk fun _ k8 => w_seqk fun _ k9 => g_' (q_ (hd_a) ?_)))
 refine l_' (i_ (a.length : Int)) (aLen Try.prog 78 hd_a H) (h_a.lenb (by kernel_rfl)) ?_
 refine q_ (i_ 0) (s_nil (k9 _ _ ?_))
 obtain ⟨z13, hx11, r12⟩ := bind_some r7
 refine w_mid (fun α H14 => ∃ o10, z13 = Sum.inr o10 ∧ Has α [] ∧ H = H14) (fun _ k16 => ?_) (fun α H14 hM => ?_)
 ·refine w_block ?_
  obtain ⟨n18, hn19⟩ := loopO_iff.1 hx11
  refine w_loopn (fun n α H20 => ∃ (i0 : Int), iterO (fun zz_ => z_viaductref10_SameWords_l0 a b zz_) n i0 = some z13 ∧ Has α [(0, hd_a), (1, hd_b), (12, i_ (a.length : Int)), (13, i_ i0)] ∧ H = H20) n18 ⟨0, hn19, ha_, rfl⟩ ?_
  rintro n18 α H20 ⟨i0, hi23, hh22, rfl⟩ K28 k28
  obtain ⟨n24, z25, rfl, hz26, hn27⟩ := iter_succ hi23
  obtain ⟨β, rfl⟩ := has_ex hh22
  clear hh22
  replace hz26 : z_viaductref10_SameWords_l0 a b i0 = some z25 := hz26
  unfold z_viaductref10_SameWords_l0 at hz26
  refine w_seqk fun _ k29 => g_' (q_ (.bool (decide (i0 < (a.length : Int)))) (s_nil (k29 _ _ (w_seqk fun _ k30 => ?_))))
  refine w_condp (i0 < (a.length : Int)) (by kernel_rfl) rfl (fun h31 => ?_) (fun h31 => ?_)
  ·have r32 := ite_t h31 hz26
   refine w_skip (k30 _ _ (w_seqk fun _ k33 => w_block (w_seqk fun _ k34 => g_' (q_ (i_ i0) (q_ (i_ i0) (s_nil (k34 _ _ (w_seqk fun _ k35 => ?_))))))))
   refine w_draw [0, 1, 2, 3, 4, 5, 6, 7, 8] (by kernel_rfl) ?_
   refine e_' (hd_a) (e_' (i_ i0) ?_)
   obtain ⟨g36, r37⟩ := G_some r32
   refine m_' (elp hd_a 1 i0.toNat 0) (aIndexAddr Try.prog 78 hd_a (i_ i0)) (h_a.idxb (by kernel_rfl) g36 h31) ?_
   refine m_' (.int .u32 (gt a i0)) (aL_ 90 (elp hd_a 1 i0.toNat 0) H) (h_a.ld g36 h31 (by kernel_rfl)) ?_
   refine e_' (hd_b) (e_' (i_ i0) ?_)
   obtain ⟨g38, r39⟩ := G_some r37
   refine m_' (elp hd_b 1 i0.toNat 0) (aIndexAddr Try.prog 78 hd_b (i_ i0)) (h_b.idxb (by kernel_rfl) g36 g38) ?_
   refine m_' (.int .u32 (gt b i0)) (aL_ 90 (elp hd_b 1 i0.toNat 0) H) (h_b.ld g36 g38 (by kernel_rfl)) ?_
   refine e_' (.bool (!decide ((gt a i0) = (gt b i0)))) ?_
   refine d_nil ?_
   refine k35 _ _ ?_
   refine w_condn ((gt a i0) = (gt b i0)) (by kernel_rfl) rfl (fun h40 => ?_) (fun h40 => ?_)
   ·have r41 := ite_f h40 r39
    refine w_seqk fun _ k42 => g_' (q_ (.bool false) (s_nil (k42 _ _ ?_)))
    refine w_ret (bl_ret (th_ret (th_ret (bl_ret (th_ret (th_ret ?_))))))
    obtain ⟨v43, hv44, hz45⟩ := map_some r41
    subst hz45
    obtain rfl := it_inr hn27
    have hq46 := elim_inl r12
    rw [hq46] at hv44
    refine b_ret (fn := Try.f100) (vs := [.bool false]) (rt_ (rfl)) ?_
    obtain rfl := oi_ hv44
    exact ⟨rfl, rfl⟩
   have r47 := ite_t h40 r39
   refine w_skip (k33 _ _ (g_' ?_))
   obtain ⟨g48, r49⟩ := G_some r47
   refine w_' (i0 + 1) (wrap64 (by have := g48; omega)) ?_
   refine q_ (i_ (i0 + 1)) (s_nil ?_)
   obtain rfl := oi_ r49
   exact k28 n24 _ _ (Nat.lt_succ_self _) ⟨(i0 + 1), hn27, ha_, rfl⟩
  have r50 := ite_f h31 hz26
  refine w_exit (th_exit (th_exit (bl_eq ?_)))
  obtain rfl := oi_ r50
  obtain rfl := it_inr hn27
  exact k16 _ _ ⟨_, rfl, trivial, rfl⟩
 obtain ⟨o10, rfl, hh17, rfl⟩ := hM
 have r51 := elim_inr r12
 obtain ⟨β, rfl⟩ := has_ex hh17
 clear hh17
 refine k8 _ _ (w_seqk fun _ k52 => g_' (q_ (.bool true) (s_nil (k52 _ _ ?_))))
 refine w_ret ?_
 refine b_ret (fn := Try.f100) (vs := [.bool true]) (rt_ (rfl)) ?_
 obtain rfl := oi_ r51
 exact ⟨rfl, rfl⟩
theorem c_viaductref10_SameLinks {H : AH} {hd_a : Value} {fp_a : Fp} {hd_b : Value} {fp_b : Fp} {a : List (Int × Int × Int × Int)} {b : List (Int × Int × Int × Int)} {r : Bool}
    (wf : WF H) (h_a : Sq enc_u32_u64_u32_u32 4 H hd_a a fp_a) (h_b : Sq enc_u32_u64_u32_u32 4 H hd_b b fp_b) (hr : z_viaductref10_SameLinks a b = some r) :
    ACalls Try.prog 101 #[hd_a, hd_b] H fun v H' => v = .bool r ∧ H = H' := by
 refine acalls_of_body mixed Try.func101 rfl (Nat.le_of_ble_eq_true rfl) ?_
 unfold z_viaductref10_SameLinks at hr
 refine w_seqk fun _ k1 => g_' (q_ (.bool false) (s_nil (k1 _ _ (w_seqk fun _ k2 => w_seqk fun _ k3 => g_' (q_ (hd_a) ?_)))))
 refine l_' (i_ (a.length : Int)) (aLen Try.prog 79 hd_a H) (h_a.lenb (by kernel_rfl)) ?_
 refine q_ (hd_b) ?_
 refine l_' (i_ (b.length : Int)) (aLen Try.prog 79 hd_b H) (h_b.lenb (by kernel_rfl)) ?_
 refine q_ (.bool (!decide ((a.length : Int) = (b.length : Int)))) (s_nil (k3 _ _ ?_))
 refine w_condn ((a.length : Int) = (b.length : Int)) (by kernel_rfl) rfl (fun h4 => ?_) (fun h4 => ?_)
 ·have r5 := ite_f h4 hr
  refine w_seqk fun _ k6 => g_' (q_ (.bool false) (s_nil (k6 _ _ ?_)))
  refine w_ret (th_ret ?_)
  refine b_ret (fn := Try.f101) (vs := [.bool false]) (rt_ (rfl)) ?_
  obtain rfl := oi_ r5
  exact ⟨rfl, rfl⟩
 have r7 := ite_t h4 hr
 refine w_skip (k2 _ _ (w_seqk fun _ k8 => w_seqk fun _ k9 => g_' (q_ (hd_a) ?_)))
 refine l_' (i_ (a.length : Int)) (aLen Try.prog 79 hd_a H) (h_a.lenb (by kernel_rfl)) ?_
 refine q_ (i_ 0) (s_nil (k9 _ _ ?_))
 obtain ⟨z13, hx11, r12⟩ := bind_some r7
 refine w_mid (fun α H14 => ∃ o10, z13 = Sum.inr o10 ∧ Has α [] ∧ H = H14) (fun _ k16 => ?_) (fun α H14 hM => ?_)
 ·refine w_block ?_
  obtain ⟨n18, hn19⟩ := loopO_iff.1 hx11
  refine w_loopn (fun n α H20 => ∃ (i0 : Int), iterO (fun zz_ => z_viaductref10_SameLinks_l0 a b zz_) n i0 = some z13 ∧ Has α [(0, hd_a), (1, hd_b), (12, i_ (a.length : Int)), (13, i_ i0)] ∧ H = H20) n18 ⟨0, hn19, ha_, rfl⟩ ?_
  rintro n18 α H20 ⟨i0, hi23, hh22, rfl⟩ K28 k28
  obtain ⟨n24, z25, rfl, hz26, hn27⟩ := iter_succ hi23
  obtain ⟨β, rfl⟩ := has_ex hh22
  clear hh22
  replace hz26 : z_viaductref10_SameLinks_l0 a b i0 = some z25 := hz26
  unfold z_viaductref10_SameLinks_l0 at hz26
  refine w_seqk fun _ k29 => g_' (q_ (.bool (decide (i0 < (a.length : Int)))) (s_nil (k29 _ _ (w_seqk fun _ k30 => ?_))))
  refine w_condp (i0 < (a.length : Int)) (by kernel_rfl) rfl (fun h31 => ?_) (fun h31 => ?_)
  ·have r32 := ite_t h31 hz26
   refine w_skip (k30 _ _ (w_seqk fun _ k33 => w_block (w_seqk fun _ k34 => g_' (q_ (i_ i0) (q_ (i_ i0) (s_nil (k34 _ _ (w_seqk fun _ k35 => ?_))))))))
   refine w_draw [0, 1, 2, 3, 4, 5, 6, 7, 8] (by kernel_rfl) ?_
   refine e_' (hd_a) (e_' (i_ i0) ?_)
   obtain ⟨g36, r37⟩ := G_some r32
   refine m_' (elp hd_a 4 i0.toNat 0) (aIndexAddr Try.prog 79 hd_a (i_ i0)) (h_a.idxb (by kernel_rfl) g36 h31) ?_
   refine m_' (.agg #[.int .u32 ((gt a i0).1), .int .u64 ((gt a i0).2.1), .int .u32 ((gt a i0).2.2.1), .int .u32 ((gt a i0).2.2.2)]) (aL_ 93 (elp hd_a 4 i0.toNat 0) H) (h_a.ld g36 h31 (by kernel_rfl)) ?_
   refine e_' (hd_b) (e_' (i_ i0) ?_)
   obtain ⟨g38, r39⟩ := G_some r37
   refine m_' (elp hd_b 4 i0.toNat 0) (aIndexAddr Try.prog 79 hd_b (i_ i0)) (h_b.idxb (by kernel_rfl) g36 g38) ?_
   refine m_' (.agg #[.int .u32 ((gt b i0).1), .int .u64 ((gt b i0).2.1), .int .u32 ((gt b i0).2.2.1), .int .u32 ((gt b i0).2.2.2)]) (aL_ 93 (elp hd_b 4 i0.toNat 0) H) (h_b.ld g36 g38 (by kernel_rfl)) ?_
   refine m_' (.bool (!decide (((gt a i0).1) = ((gt b i0).1) ∧ ((gt a i0).2.1) = ((gt b i0).2.1) ∧ ((gt a i0).2.2.1) = ((gt b i0).2.2.1) ∧ ((gt a i0).2.2.2) = ((gt b i0).2.2.2)))) (aBin Try.prog .neq 93 (.tmp 19) (.tmp 23) (.agg #[.int .u32 ((gt a i0).1), .int .u64 ((gt a i0).2.1), .int .u32 ((gt a i0).2.2.1), .int .u32 ((gt a i0).2.2.2)]) (.agg #[.int .u32 ((gt b i0).1), .int .u64 ((gt b i0).2.1), .int .u32 ((gt b i0).2.2.1), .int .u32 ((gt b i0).2.2.2)])) (aBin_neq93 _ _ ((gt a i0).1) ((gt a i0).2.1) ((gt a i0).2.2.1) ((gt a i0).2.2.2) ((gt b i0).1) ((gt b i0).2.1) ((gt b i0).2.2.1) ((gt b i0).2.2.2)) ?_
   refine d_nil ?_
   refine k35 _ _ ?_
   refine w_condn (((gt a i0).1) = ((gt b i0).1) ∧ ((gt a i0).2.1) = ((gt b i0).2.1) ∧ ((gt a i0).2.2.1) = ((gt b i0).2.2.1) ∧ ((gt a i0).2.2.2) = ((gt b i0).2.2.2)) (by kernel_rfl) rfl (fun h40 => ?_) (fun h40 => ?_)
   ·have r41 := ite_f h40 r39
    refine w_seqk fun _ k42 => g_' (q_ (.bool false) (s_nil (k42 _ _ ?_)))
    refine w_ret (bl_ret (th_ret (th_ret (bl_ret (th_ret (th_ret ?_))))))
    obtain ⟨v43, hv44, hz45⟩ := map_some r41
    subst hz45
    obtain rfl := it_inr hn27
    have hq46 := elim_inl r12
    rw [hq46] at hv44
    refine b_ret (fn := Try.f101) (vs := [.bool false]) (rt_ (rfl)) ?_
    obtain rfl := oi_ hv44
    exact ⟨rfl, rfl⟩
   have r47 := ite_t h40 r39
   refine w_skip (k33 _ _ (g_' ?_))
   obtain ⟨g48, r49⟩ := G_some r47
   refine w_' (i0 + 1) (wrap64 (by have := g48; omega)) ?_
   refine q_ (i_ (i0 + 1)) (s_nil ?_)
   obtain rfl := oi_ r49
   exact k28 n24 _ _ (Nat.lt_succ_self _) ⟨(i0 + 1), hn27, ha_, rfl⟩
  have r50 := ite_f h31 hz26
  refine w_exit (th_exit (th_exit (bl_eq ?_)))
  obtain rfl := oi_ r50
  obtain rfl := it_inr hn27
  exact k16 _ _ ⟨_, rfl, trivial, rfl⟩
 obtain ⟨o10, rfl, hh17, rfl⟩ := hM
 have r51 := elim_inr r12
 obtain ⟨β, rfl⟩ := has_ex hh17
 clear hh17
 refine k8 _ _ (w_seqk fun _ k52 => g_' (q_ (.bool true) (s_nil (k52 _ _ ?_))))
 refine w_ret ?_
 refine b_ret (fn := Try.f101) (vs := [.bool true]) (rt_ (rfl)) ?_
 obtain rfl := oi_ r51
 exact ⟨rfl, rfl⟩
theorem c_viaductref10_Same {H : AH} {hd_Node : Value} {fp_Node : Fp} {hd_UpFirst : Value} {fp_UpFirst : Fp} {hd_Up : Value} {fp_Up : Fp} {hd_DownFirst : Value} {fp_DownFirst : Fp} {hd_Down : Value} {fp_Down : Fp} {hd_Node_ : Value} {fp_Node_ : Fp} {hd_UpFirst_ : Value} {fp_UpFirst_ : Fp} {hd_Up_ : Value} {fp_Up_ : Fp} {hd_DownFirst_ : Value} {fp_DownFirst_ : Fp} {hd_Down_ : Value} {fp_Down_ : Fp} {Node : List (Int)} {UpFirst : List (Int)} {Up : List (Int × Int × Int × Int)} {DownFirst : List (Int)} {Down : List (Int × Int × Int × Int)} {Node_ : List (Int)} {UpFirst_ : List (Int)} {Up_ : List (Int × Int × Int × Int)} {DownFirst_ : List (Int)} {Down_ : List (Int × Int × Int × Int)} {r : Bool}
    (wf : WF H) (h_Node : Sq (encI .u32) 1 H hd_Node Node fp_Node) (h_UpFirst : Sq (encI .u32) 1 H hd_UpFirst UpFirst fp_UpFirst) (h_Up : Sq enc_u32_u64_u32_u32 4 H hd_Up Up fp_Up) (h_DownFirst : Sq (encI .u32) 1 H hd_DownFirst DownFirst fp_DownFirst) (h_Down : Sq enc_u32_u64_u32_u32 4 H hd_Down Down fp_Down) (h_Node_ : Sq (encI .u32) 1 H hd_Node_ Node_ fp_Node_) (h_UpFirst_ : Sq (encI .u32) 1 H hd_UpFirst_ UpFirst_ fp_UpFirst_) (h_Up_ : Sq enc_u32_u64_u32_u32 4 H hd_Up_ Up_ fp_Up_) (h_DownFirst_ : Sq (encI .u32) 1 H hd_DownFirst_ DownFirst_ fp_DownFirst_) (h_Down_ : Sq enc_u32_u64_u32_u32 4 H hd_Down_ Down_ fp_Down_) (hr : z_viaductref10_Same Node UpFirst Up DownFirst Down Node_ UpFirst_ Up_ DownFirst_ Down_ = some r) :
    ACalls Try.prog 41 #[.agg #[hd_Node, hd_UpFirst, hd_Up, hd_DownFirst, hd_Down], .agg #[hd_Node_, hd_UpFirst_, hd_Up_, hd_DownFirst_, hd_Down_]] H fun v H' => v = .bool r ∧ FrS [] H H' := by
 refine acalls_of_body mixed Try.func41 rfl (Nat.le_of_ble_eq_true rfl) ?_
 unfold z_viaductref10_Same at hr
 refine w_seqk fun _ k1 => g_' ?_
 refine s_rwl wf [hd_Node, hd_UpFirst, hd_Up, hd_DownFirst, hd_Down] (one_cons (h_Node.one1) (one_cons (h_UpFirst.one1) (one_cons (h_Up.one1) (one_cons (h_DownFirst.one1) (one_cons (h_Down.one1) (one_nil)))))) (by kernel_rfl) fun b2 H3 e4 hb5 r6 => ?_
 have u13 := (h_Down_.ext e4)
 have u14 := (h_DownFirst_.ext e4)
 have u15 := (h_Up_.ext e4)
 have u16 := (h_UpFirst_.ext e4)
 have u17 := (h_Node_.ext e4)
 refine s_rwl e4.wf [hd_Node_, hd_UpFirst_, hd_Up_, hd_DownFirst_, hd_Down_] (one_cons (u17.one1) (one_cons (u16.one1) (one_cons (u15.one1) (one_cons (u14.one1) (one_cons (u13.one1) (one_nil)))))) (by kernel_rfl) fun b8 H9 e10 hb11 r12 => ?_
 refine q_ (.bool false) (s_nil (k1 _ _ (w_seqk fun _ k19 => g_' (q_ (pt_ b2 0) ?_))))
 have u20 := (r6.ext e10)
 refine l_' (hd_Node) (aL_ 78 (pt_ b2 0) H9) (u20.l_) ?_
 refine q_ (pt_ b8 0) ?_
 refine l_' (hd_Node_) (aL_ 78 (pt_ b8 0) H9) (r12.l_) ?_
 have u21 := ((h_Node.ext e4).ext e10)
 have u22 := (u17.ext e10)
 obtain ⟨y23, hy24, r25⟩ := bind_some hr
 refine s_ck 100 #[hd_Node, hd_Node_] (by kernel_rfl) (c_viaductref10_SameWords e10.wf u21 u22 hy24) ?_
 rintro _ _ ⟨rfl, rfl⟩
 by_cases h28 : y23 = true
 ·have r29 := ite_t h28 r25
  rw [h28]
  refine q_ (.bool true) (q_ (pt_ b2 1) ?_)
  refine l_' (hd_UpFirst) (aL_ 78 (pt_ b2 1) H9) (u20.l_) ?_
  refine q_ (pt_ b8 1) ?_
  refine l_' (hd_UpFirst_) (aL_ 78 (pt_ b8 1) H9) (r12.l_) ?_
  have u31 := ((h_UpFirst.ext e4).ext e10)
  have u32 := (u16.ext e10)
  obtain ⟨y33, hy34, r35⟩ := bind_some r29
  refine s_ck 100 #[hd_UpFirst, hd_UpFirst_] (by kernel_rfl) (c_viaductref10_SameWords e10.wf u31 u32 hy34) ?_
  rintro _ _ ⟨rfl, rfl⟩
  by_cases h38 : y33 = true
  ·have r39 := ite_t h38 r35
   rw [h38]
   refine q_ (.bool true) (q_ (.bool true) (q_ (pt_ b2 3) ?_))
   refine l_' (hd_DownFirst) (aL_ 78 (pt_ b2 3) H9) (u20.l_) ?_
   refine q_ (pt_ b8 3) ?_
   refine l_' (hd_DownFirst_) (aL_ 78 (pt_ b8 3) H9) (r12.l_) ?_
   have u41 := ((h_DownFirst.ext e4).ext e10)
   have u42 := (u14.ext e10)
   obtain ⟨y43, hy44, r45⟩ := bind_some r39
   refine s_ck 100 #[hd_DownFirst, hd_DownFirst_] (by kernel_rfl) (c_viaductref10_SameWords e10.wf u41 u42 hy44) ?_
   rintro _ _ ⟨rfl, rfl⟩
   by_cases h48 : y43 = true
   ·have r49 := ite_t h48 r45
    rw [h48]
    refine q_ (.bool true) (q_ (.bool true) (q_ (pt_ b2 2) ?_))
    refine l_' (hd_Up) (aL_ 79 (pt_ b2 2) H9) (u20.l_) ?_
    refine q_ (pt_ b8 2) ?_
    refine l_' (hd_Up_) (aL_ 79 (pt_ b8 2) H9) (r12.l_) ?_
    have u51 := ((h_Up.ext e4).ext e10)
    have u52 := (u15.ext e10)
    obtain ⟨y53, hy54, r55⟩ := bind_some r49
    refine s_ck 101 #[hd_Up, hd_Up_] (by kernel_rfl) (c_viaductref10_SameLinks e10.wf u51 u52 hy54) ?_
    rintro _ _ ⟨rfl, rfl⟩
    by_cases h58 : y53 = true
    ·have r59 := ite_t h58 r55
     rw [h58]
     refine q_ (.bool true) (q_ (.bool true) (q_ (pt_ b2 4) ?_))
     refine l_' (hd_Down) (aL_ 79 (pt_ b2 4) H9) (u20.l_) ?_
     refine q_ (pt_ b8 4) ?_
     refine l_' (hd_Down_) (aL_ 79 (pt_ b8 4) H9) (r12.l_) ?_
     have u61 := ((h_Down.ext e4).ext e10)
     have u62 := (u13.ext e10)
     obtain ⟨y63, hy64, r65⟩ := bind_some r59
     refine s_ck 101 #[hd_Down, hd_Down_] (by kernel_rfl) (c_viaductref10_SameLinks e10.wf u61 u62 hy64) ?_
     rintro _ _ ⟨rfl, rfl⟩
     refine q_ (.bool y63) (q_ (.bool y63) (s_nil (k19 _ _ ?_)))
     refine w_ret ?_
     refine b_ret (fn := Try.f41) (vs := [.bool y63]) (rt_ (rfl)) ?_
     obtain rfl := oi_ r65
     exact ⟨rfl, (((f0_ wf).extR e4).extR e10)⟩
    have r68 := ite_f h58 r55
    rw [nb h58]
    refine q_ (.bool false) (q_ (.bool false) (n_' (n_' (n_' (n_' (n_' (q_ (.bool false) (q_ (.bool false) (s_nil (k19 _ _ ?_))))))))))
    refine w_ret ?_
    refine b_ret (fn := Try.f41) (vs := [.bool false]) (rt_ (rfl)) ?_
    obtain rfl := oi_ r68
    exact ⟨rfl, (((f0_ wf).extR e4).extR e10)⟩
   have r70 := ite_f h48 r45
   rw [nb h48]
   refine q_ (.bool false) (q_ (.bool false) (n_' (n_' (n_' (n_' (n_' (q_ (.bool false) (q_ (.bool false) (n_' (n_' (n_' (n_' (n_' (q_ (.bool false) (q_ (.bool false) (s_nil (k19 _ _ ?_)))))))))))))))))
   refine w_ret ?_
   refine b_ret (fn := Try.f41) (vs := [.bool false]) (rt_ (rfl)) ?_
   obtain rfl := oi_ r70
   exact ⟨rfl, (((f0_ wf).extR e4).extR e10)⟩
  have r72 := ite_f h38 r35
  rw [nb h38]
  refine q_ (.bool false) (q_ (.bool false) (n_' (n_' (n_' (n_' (n_' (q_ (.bool false) (q_ (.bool false) (n_' (n_' (n_' (n_' (n_' (q_ (.bool false) (q_ (.bool false) (n_' (n_' (n_' (n_' (n_' (q_ (.bool false) (q_ (.bool false) (s_nil (k19 _ _ ?_))))))))))))))))))))))))
  refine w_ret ?_
  refine b_ret (fn := Try.f41) (vs := [.bool false]) (rt_ (rfl)) ?_
  obtain rfl := oi_ r72
  exact ⟨rfl, (((f0_ wf).extR e4).extR e10)⟩
 have r74 := ite_f h28 r25
 rw [nb h28]
 refine q_ (.bool false) (n_' (n_' (n_' (n_' (n_' (q_ (.bool false) (q_ (.bool false) (n_' (n_' (n_' (n_' (n_' (q_ (.bool false) (q_ (.bool false) (n_' (n_' (n_' (n_' (n_' (q_ (.bool false) (q_ (.bool false) (n_' (n_' (n_' (n_' (n_' (q_ (.bool false) (q_ (.bool false) (s_nil (k19 _ _ ?_))))))))))))))))))))))))))))))
 refine w_ret ?_
 refine b_ret (fn := Try.f41) (vs := [.bool false]) (rt_ (rfl)) ?_
 obtain rfl := oi_ r74
 exact ⟨rfl, (((f0_ wf).extR e4).extR e10)⟩
theorem c_viaductref01_E {H : AH} {n_ : Int} {r : Int}
    (wf : WF H) (hr : z_viaductref01_E n_ = some r) :
    ACalls Try.prog 70 #[i_ n_] H fun v H' => v = .agg #[i_ r, .slice none 0 0] ∧ FrS [] H H' := by
 refine acalls_of_body mixed Try.func70 rfl (Nat.le_of_ble_eq_true rfl) ?_
 unfold z_viaductref01_E at hr
 refine w_seqk fun _ k1 => g_' ?_
 refine s_rwk wf [i_ 0, .slice none 0 0] (by kernel_rfl) fun b2 H3 e4 hb5 r6 => ?_
 refine s_nil (k1 _ _ (w_seqk fun _ k8 => g_' (q_ (i_ n_) (q_ (.agg #[i_ n_, .slice none 0 0]) ?_))))
 obtain ⟨H9, q10, e11, r12⟩ := Row.store (P := Try.prog) (t := 46) (p := 0) e4.wf r6 (.agg #[i_ n_, .slice none 0 0]) [i_ n_, .slice none 0 0] (by kernel_rfl) (by kernel_rfl) (one_cons (rfl) (one_cons (rfl) (one_nil))) (Nat.le_of_ble_eq_true (by kernel_rfl)) [i_ n_, .slice none 0 0] (by kernel_rfl)
 refine s_ek (undef) (by kernel_rfl) (map_ok q10) ?_
 refine s_nil (k8 _ _ ?_)
 refine w_ret ?_
 refine b_ret (fn := Try.f70) (vs := [.agg #[i_ n_, .slice none 0 0]]) (aRes_cell (Eq.trans (b := aL_ 46 (pt_ b2 0) H9) (by kernel_rfl) (r12.l_)) (rfl)) ?_
 obtain rfl := oi_ hr
 exact ⟨rfl, (FrS.step wf ((f0_ wf).extR e4) e11 (hb5.fresh (Nat.le_refl _)))⟩
end Go.Vd

/-! (KHm4) -/

set_option maxRecDepth 100000
set_option maxHeartbeats 4000000
set_option linter.unusedVariables false
namespace Go.Vd
open Go.Proofs
attribute [local irreducible] wpSeq wpOrd aWp
theorem c_viaductref01_At {H : AH} {hd_Places : Value} {fp_Places : Fp} {kind : Int} {at_ : Int} {Code : Int} {Places : List (Int × Int)} {r : Int × List (Int × Int)}
    (wf : WF H) (h_Places : Sq enc_i64_i64 2 H hd_Places Places fp_Places) (hr : z_viaductref01_At kind at_ Code Places = some r) :
    ACalls Try.prog 111 #[i_ kind, i_ at_, .agg #[i_ Code, hd_Places]] H fun v H' => ∃ (s3 : Value) (f4 : Fp), v = .agg #[i_ r.1, s3] ∧ FrS [] H H' ∧ Ow enc_i64_i64 2 H' s3 r.2 f4 ∧ Inn [] H f4 := by
 refine acalls_of_body mixed Try.func111 rfl (Nat.le_of_ble_eq_true rfl) ?_
 unfold z_viaductref01_At at hr
 refine w_seqk fun _ k6 => g_' ?_
 refine s_rwl wf [i_ Code, hd_Places] (one_cons (rfl) (one_cons (h_Places.one1) (one_nil))) (by kernel_rfl) fun b7 H8 e9 hb10 r11 => ?_
 refine s_rwk e9.wf [i_ 0, .slice none 0 0] (by kernel_rfl) fun b13 H14 e15 hb16 r17 => ?_
 refine s_nil (k6 _ _ (w_seqk fun _ k19 => g_' (q_ (i_ kind) (q_ (i_ at_) (q_ (.agg #[i_ kind, i_ at_]) ?_)))))
 refine s_owk (enc := enc_i64_i64) (sz := 2) e15.wf [(kind, at_)] 1 (by decide) (fun _ _ => rfl) (fun _ _ => rfl) rfl (by kernel_rfl) fun s20 f21 H22 e23 hf24 hm25 => ?_
 obtain ⟨a26, n27, c28, rfl⟩ := hm25.form
 refine q_ (.slice a26 n27 c28) (s_nil (k19 _ _ (w_seqk fun _ k30 => g_' (q_ (.slice a26 n27 c28) (q_ (pt_ b7 1) ?_)))))
 have u31 := ((r11.ext e15).ext e23)
 refine l_' (hd_Places) (aL_ 44 (pt_ b7 1) H22) (u31.l_) ?_
 obtain ⟨g32, r33⟩ := G_some hr
 have u41 := (((h_Places.ext e9).ext e15).ext e23)
 obtain ⟨s34, H35, f36, q40, e37, hm38, hf39⟩ := Ow.append (P := Try.prog) 16 e23.wf hm25 u41 (fun _ _ => rfl) (at_ := #[44, 44]) rfl rfl (by kernel_rfl) (by kernel_rfl) (by decide) (by have := g32; first | omega | (simp only [List.length_cons, List.length_nil] at this ⊢; omega) | (simp at this ⊢; omega))
 obtain ⟨a42, n43, c44, rfl⟩ := hm38.form
 refine s_ek (.slice a42 n43 c44) (by kernel_rfl) (q40) ?_
 refine q_ (.slice a42 n43 c44) (s_nil (k30 _ _ (w_seqk fun _ k46 => g_' (q_ (pt_ b7 0) ?_))))
 have u47 := (u31.frS e37 (hf24.djn (r11.ltF.le e15.n)))
 refine l_' (i_ Code) (aL_ 3 (pt_ b7 0) H35) (u47.l_) ?_
 refine q_ (.slice a42 n43 c44) (q_ (.agg #[i_ Code, .slice a42 n43 c44]) ?_)
 have u52 := ((r17.ext e23).frS e37 (hf24.djn r17.ltF))
 obtain ⟨H48, q49, e50, r51⟩ := Row.store (P := Try.prog) (t := 46) (p := 0) e37.wf u52 (.agg #[i_ Code, .slice a42 n43 c44]) [i_ Code, .slice a42 n43 c44] (by kernel_rfl) (by kernel_rfl) (one_cons (rfl) (one_cons (hm38.one1) (one_nil))) (Nat.le_of_ble_eq_true (by kernel_rfl)) [i_ Code, .slice a42 n43 c44] (by kernel_rfl)
 refine s_ek (undef) (by kernel_rfl) (map_ok q49) ?_
 refine s_nil (k46 _ _ ?_)
 refine w_ret ?_
 refine b_ret (fn := Try.f111) (vs := [.agg #[i_ Code, .slice a42 n43 c44]]) (aRes_cell (Eq.trans (b := aL_ 46 (pt_ b13 0) H48) (by kernel_rfl) (r51.l_)) (rfl)) ?_
 have u53 := (hm38.fr e50 (Dj.symm (hf39.dj (hf24.djn r17.ltF) (r17.ltF.le e23.n))))
 obtain rfl := oi_ r33
 exact ⟨(.slice a42 n43 c44), f36, rfl, (FrS.step wf (FrS.step wf ((((f0_ wf).extR e9).extR e15).extR e23) e37 (hf24.fresh (t_ e9.n e15.n))) e50 (hb16.fresh e9.n)), u53, (Inn.trans (hf24.fresh (t_ e9.n e15.n)) (t_ (t_ e9.n e15.n) e23.n) hf39)⟩
theorem c_viaductref10_firsts {H : AH} {hd_l : Value} {fp_l : Fp} {l : List (Int)} {n_ : Int} {links : Int} {r : Int × List (Int × Int)}
    (wf : WF H) (h_l : Sq (encI .u32) 1 H hd_l l fp_l) (hr : z_viaductref10_firsts l n_ links = some r) :
    ACalls Try.prog 134 #[hd_l, i_ n_, i_ links] H fun v H' => ∃ (s3 : Value) (f4 : Fp), v = .agg #[i_ r.1, s3] ∧ FrS [] H H' ∧ Ow enc_i64_i64 2 H' s3 r.2 f4 ∧ Inn [] H f4 := by
 refine acalls_of_body mixed Try.func134 rfl (Nat.le_of_ble_eq_true rfl) ?_
 unfold z_viaductref10_firsts at hr
 refine w_seqk fun _ k6 => g_' ?_
 refine s_rwk wf [i_ 0, .slice none 0 0] (by kernel_rfl) fun b7 H8 e9 hb10 r11 => ?_
 refine s_nil (k6 _ _ (w_seqk fun _ k13 => w_seqk fun _ k14 => g_' (q_ (hd_l) ?_)))
 obtain ⟨g15, r16⟩ := G_some hr
 have u17 := (h_l.ext e9)
 refine l_' (elp hd_l 1 (0 : Int).toNat 0) (aIndexAddr Try.prog 78 hd_l (i_ 0)) (u17.idxb (by kernel_rfl) (by decide) g15) ?_
 refine l_' (.int .u32 (gt l 0)) (aL_ 90 (elp hd_l 1 (0 : Int).toNat 0) H8) (u17.ld (by decide) g15 (by kernel_rfl)) ?_
 refine q_ (.bool (!decide ((gt l 0) = 0))) (s_nil (k14 _ _ ?_))
 refine w_condn ((gt l 0) = 0) (by kernel_rfl) rfl (fun h18 => ?_) (fun h18 => ?_)
 ·have r19 := ite_f h18 r16
  refine w_seqk fun _ k20 => g_' ?_
  obtain ⟨y21, hy22, r23⟩ := bind_some r19
  refine s_ck 70 #[i_ 14] (by kernel_rfl) (c_viaductref01_E e9.wf hy22) ?_
  rintro _ H24 ⟨rfl, e25⟩
  have u30 := (r11.frS e25 Dj.nil_l)
  obtain ⟨H26, q27, e28, r29⟩ := Row.store (P := Try.prog) (t := 46) (p := 0) e25.wf u30 (.agg #[i_ y21, .slice none 0 0]) [i_ y21, .slice none 0 0] (by kernel_rfl) (by kernel_rfl) (one_cons (rfl) (one_cons (rfl) (one_nil))) (Nat.le_of_ble_eq_true (by kernel_rfl)) [i_ y21, .slice none 0 0] (by kernel_rfl)
  refine s_ek (undef) (by kernel_rfl) (map_ok q27) ?_
  refine s_nil (k20 _ _ ?_)
  refine w_ret (th_ret ?_)
  refine b_ret (fn := Try.f134) (vs := [.agg #[i_ y21, .slice none 0 0]]) (aRes_cell (Eq.trans (b := aL_ 46 (pt_ b7 0) H26) (by kernel_rfl) (r29.l_)) (rfl)) ?_
  obtain rfl := oi_ r23
  exact ⟨(.slice none 0 0), [], rfl, (FrS.step wf (FrS.step wf ((f0_ wf).extR e9) e25 Inn.nil) e28 (hb10.fresh (Nat.le_refl _))), (Ow.nil (by decide)), Inn.nil⟩
 have r31 := ite_t h18 r16
 refine w_skip (k13 _ _ (w_seqk fun _ k32 => w_seqk fun _ k33 => g_' (q_ (i_ 0) (s_nil (k33 _ _ ?_)))))
 obtain ⟨z37, hx35, r36⟩ := bind_some r31
 refine w_mid (fun α H38 => ∃ o34, z37 = Sum.inr o34 ∧ Has α [(0, hd_l), (1, i_ n_), (2, i_ links), (6, pt_ b7 0)] ∧ H8 = H38) (fun _ k40 => ?_) (fun α H38 hM => ?_)
 ·refine w_block ?_
  obtain ⟨n42, hn43⟩ := loopO_iff.1 hx35
  refine w_loopn (fun n α H44 => ∃ (r0 : Int), iterO (fun zz_ => z_viaductref10_firsts_l0 l n_ zz_) n r0 = some z37 ∧ Has α [(0, hd_l), (1, i_ n_), (2, i_ links), (6, pt_ b7 0), (7, i_ r0)] ∧ H8 = H44) n42 ⟨0, hn43, ha_, rfl⟩ ?_
  rintro n42 α H44 ⟨r0, hi47, hh46, rfl⟩ K52 k52
  obtain ⟨n48, z49, rfl, hz50, hn51⟩ := iter_succ hi47
  obtain ⟨β, rfl⟩ := has_ex hh46
  clear hh46
  replace hz50 : z_viaductref10_firsts_l0 l n_ r0 = some z49 := hz50
  unfold z_viaductref10_firsts_l0 at hz50
  refine w_seqk fun _ k53 => w_seqk fun _ k54 => g_' (q_ (i_ r0) (q_ (i_ n_) (q_ (.bool (decide (r0 < n_))) (s_nil (k54 _ _ ?_)))))
  refine w_condp (r0 < n_) (by kernel_rfl) rfl (fun h55 => ?_) (fun h55 => ?_)
  ·have r56 := ite_t h55 hz50
   refine w_skip (k53 _ _ (w_seqk fun _ k57 => w_block (w_seqk fun _ k58 => ?_)))
   refine w_draw [0, 1, 2, 3, 4, 5, 6, 7, 8, 9] (by kernel_rfl) ?_
   refine e_' (hd_l) (e_' (i_ r0) ?_)
   obtain ⟨g59, r60⟩ := G_some r56
   refine d_w ((r0 + 1)) (k := .i64) (x := (r0 + 1)) (by kernel_rfl) (wrap64 g59) ?_
   obtain ⟨g61, r62⟩ := G_some r60
   refine m_' (elp hd_l 1 (r0 + 1).toNat 0) (aIndexAddr Try.prog 78 hd_l (i_ (r0 + 1))) (u17.idxb (by kernel_rfl) g61.1 g61.2) ?_
   refine m_' (.int .u32 (gt l (r0 + 1))) (aL_ 90 (elp hd_l 1 (r0 + 1).toNat 0) H8) (u17.ld g61.1 g61.2 (by kernel_rfl)) ?_
   refine e_' (hd_l) (e_' (i_ r0) ?_)
   obtain ⟨g63, r64⟩ := G_some r62
   refine m_' (elp hd_l 1 r0.toNat 0) (aIndexAddr Try.prog 78 hd_l (i_ r0)) (u17.idxb (by kernel_rfl) g63.1 g63.2) ?_
   refine m_' (.int .u32 (gt l r0)) (aL_ 90 (elp hd_l 1 r0.toNat 0) H8) (u17.ld g63.1 g63.2 (by kernel_rfl)) ?_
   refine e_' (.bool (decide ((gt l (r0 + 1)) < (gt l r0)))) ?_
   refine d_nil ?_
   refine k58 _ _ ?_
   refine w_condp ((gt l (r0 + 1)) < (gt l r0)) (by kernel_rfl) rfl (fun h65 => ?_) (fun h65 => ?_)
   ·have r66 := ite_t h65 r64
    refine w_seqk fun _ k67 => g_' (q_ (i_ r0) ?_)
    obtain ⟨y68, hy69, r70⟩ := bind_some r66
    refine s_ck 70 #[i_ 14] (by kernel_rfl) (c_viaductref01_E e9.wf hy69) ?_
    rintro _ H71 ⟨rfl, e72⟩
    obtain ⟨y73, hy74, r75⟩ := bind_some r70
    refine s_ck 111 #[i_ 3, i_ r0, .agg #[i_ y68, .slice none 0 0]] (by kernel_rfl) (c_viaductref01_At e72.wf (Sq.nil (enc := enc_i64_i64) (sz := 2) (by decide)) hy74) ?_
    rintro _ H78 ⟨s76, f77, rfl, e79, m80, i81⟩
    obtain ⟨a83, n84, c85, rfl⟩ := m80.form
    have u90 := ((r11.frS e72 Dj.nil_l).frS e79 Dj.nil_l)
    obtain ⟨H86, q87, e88, r89⟩ := Row.store (P := Try.prog) (t := 46) (p := 0) e79.wf u90 (.agg #[i_ y73.1, .slice a83 n84 c85]) [i_ y73.1, .slice a83 n84 c85] (by kernel_rfl) (by kernel_rfl) (one_cons (rfl) (one_cons (m80.one1) (one_nil))) (Nat.le_of_ble_eq_true (by kernel_rfl)) [i_ y73.1, .slice a83 n84 c85] (by kernel_rfl)
    refine s_ek (undef) (by kernel_rfl) (map_ok q87) ?_
    refine s_nil (k67 _ _ ?_)
    refine w_ret (bl_ret (th_ret (th_ret (bl_ret (th_ret (th_ret ?_))))))
    obtain ⟨v91, hv92, hz93⟩ := map_some r75
    subst hz93
    obtain rfl := it_inr hn51
    have hq94 := elim_inl r36
    rw [hq94] at hv92
    refine b_ret (fn := Try.f134) (vs := [.agg #[i_ y73.1, .slice a83 n84 c85]]) (aRes_cell (Eq.trans (b := aL_ 46 (pt_ b7 0) H86) (by kernel_rfl) (r89.l_)) (rfl)) ?_
    have u95 := (m80.fr e88 (Dj.symm (i81.djn (r11.ltF.le e72.n))))
    obtain rfl := oi_ hv92
    exact ⟨(.slice a83 n84 c85), f77, rfl, (FrS.step wf (FrS.step wf (FrS.step wf ((f0_ wf).extR e9) e72 Inn.nil) e79 Inn.nil) e88 (hb10.fresh (Nat.le_refl _))), u95, (i81.fresh (t_ e9.n e72.n))⟩
   have r96 := ite_f h65 r64
   refine w_skip (k57 _ _ (g_' (q_ (i_ r0) ?_)))
   obtain ⟨g97, r98⟩ := G_some r96
   refine w_' (r0 + 1) (wrap64 (by have := g97; omega)) ?_
   refine q_ (i_ (r0 + 1)) (s_nil ?_)
   obtain rfl := oi_ r98
   exact k52 n48 _ _ (Nat.lt_succ_self _) ⟨(r0 + 1), hn51, ha_, rfl⟩
  have r99 := ite_f h55 hz50
  refine w_exit (th_exit (th_exit (bl_eq ?_)))
  obtain rfl := oi_ r99
  obtain rfl := it_inr hn51
  exact k40 _ _ ⟨_, rfl, ha_, rfl⟩
 obtain ⟨o34, rfl, hh41, rfl⟩ := hM
 have r100 := elim_inr r36
 obtain ⟨β, rfl⟩ := has_ex hh41
 clear hh41
 refine k32 _ _ (w_seqk fun _ k101 => w_seqk fun _ k102 => g_' (q_ (hd_l) (q_ (i_ n_) ?_)))
 obtain ⟨g103, r104⟩ := G_some r100
 refine l_' (elp hd_l 1 n_.toNat 0) (aIndexAddr Try.prog 78 hd_l (i_ n_)) (u17.idxb (by kernel_rfl) g103.1 g103.2) ?_
 refine l_' (.int .u32 (gt l n_)) (aL_ 90 (elp hd_l 1 n_.toNat 0) H8) (u17.ld g103.1 g103.2 (by kernel_rfl)) ?_
 obtain ⟨g105, r106⟩ := G_some r104
 refine s_w ((gt l n_)) (k := .u64) (x := (gt l n_)) (by kernel_rfl) (wrapu64 g105) ?_
 refine q_ (i_ links) ?_
 obtain ⟨g107, r108⟩ := G_some r106
 refine s_w (links) (k := .u64) (x := links) (by kernel_rfl) (wrapu64 g107) ?_
 refine q_ (.bool (!decide ((gt l n_) = links))) (s_nil (k102 _ _ ?_))
 refine w_condn ((gt l n_) = links) (by kernel_rfl) rfl (fun h109 => ?_) (fun h109 => ?_)
 ·have r110 := ite_f h109 r108
  refine w_seqk fun _ k111 => g_' ?_
  obtain ⟨y112, hy113, r114⟩ := bind_some r110
  refine s_ck 70 #[i_ 14] (by kernel_rfl) (c_viaductref01_E e9.wf hy113) ?_
  rintro _ H115 ⟨rfl, e116⟩
  have u121 := (r11.frS e116 Dj.nil_l)
  obtain ⟨H117, q118, e119, r120⟩ := Row.store (P := Try.prog) (t := 46) (p := 0) e116.wf u121 (.agg #[i_ y112, .slice none 0 0]) [i_ y112, .slice none 0 0] (by kernel_rfl) (by kernel_rfl) (one_cons (rfl) (one_cons (rfl) (one_nil))) (Nat.le_of_ble_eq_true (by kernel_rfl)) [i_ y112, .slice none 0 0] (by kernel_rfl)
  refine s_ek (undef) (by kernel_rfl) (map_ok q118) ?_
  refine s_nil (k111 _ _ ?_)
  refine w_ret (th_ret ?_)
  refine b_ret (fn := Try.f134) (vs := [.agg #[i_ y112, .slice none 0 0]]) (aRes_cell (Eq.trans (b := aL_ 46 (pt_ b7 0) H117) (by kernel_rfl) (r120.l_)) (rfl)) ?_
  obtain rfl := oi_ r114
  exact ⟨(.slice none 0 0), [], rfl, (FrS.step wf (FrS.step wf ((f0_ wf).extR e9) e116 Inn.nil) e119 (hb10.fresh (Nat.le_refl _))), (Ow.nil (by decide)), Inn.nil⟩
 have r122 := ite_t h109 r108
 refine w_skip (k101 _ _ (w_seqk fun _ k123 => g_' (q_ (.agg #[i_ 0, .slice none 0 0]) ?_)))
 obtain ⟨H124, q125, e126, r127⟩ := Row.store (P := Try.prog) (t := 46) (p := 0) e9.wf r11 (.agg #[i_ 0, .slice none 0 0]) [i_ 0, .slice none 0 0] (by kernel_rfl) (by kernel_rfl) (one_cons (rfl) (one_cons (rfl) (one_nil))) (Nat.le_of_ble_eq_true (by kernel_rfl)) [i_ 0, .slice none 0 0] (by kernel_rfl)
 refine s_ek (undef) (by kernel_rfl) (map_ok q125) ?_
 refine s_nil (k123 _ _ ?_)
 refine w_ret ?_
 refine b_ret (fn := Try.f134) (vs := [.agg #[i_ 0, .slice none 0 0]]) (aRes_cell (Eq.trans (b := aL_ 46 (pt_ b7 0) H124) (by kernel_rfl) (r127.l_)) (rfl)) ?_
 obtain rfl := oi_ r122
 exact ⟨(.slice none 0 0), [], rfl, (FrS.step wf ((f0_ wf).extR e9) e126 (hb10.fresh (Nat.le_refl _))), (Ow.nil (by decide)), Inn.nil⟩
theorem c_viaductref01_Err_Bad {H : AH} {hd_Places : Value} {fp_Places : Fp} {Code : Int} {Places : List (Int × Int)} {r : Bool}
    (wf : WF H) (h_Places : Sq enc_i64_i64 2 H hd_Places Places fp_Places) (hr : z_viaductref01_Err_Bad Code Places = some r) :
    ACalls Try.prog 56 #[.agg #[i_ Code, hd_Places]] H fun v H' => v = .bool r ∧ FrS [] H H' := by
 refine acalls_of_body mixed Try.func56 rfl (Nat.le_of_ble_eq_true rfl) ?_
 unfold z_viaductref01_Err_Bad at hr
 refine w_seqk fun _ k1 => g_' ?_
 refine s_rwl wf [i_ Code, hd_Places] (one_cons (rfl) (one_cons (h_Places.one1) (one_nil))) (by kernel_rfl) fun b2 H3 e4 hb5 r6 => ?_
 refine q_ (.bool false) (s_nil (k1 _ _ (w_seqk fun _ k8 => g_' (q_ (pt_ b2 0) ?_))))
 refine l_' (i_ Code) (aL_ 3 (pt_ b2 0) H3) (r6.l_) ?_
 refine s_bn (Code = 0) (by kernel_rfl) (fun h9 => ?_) (fun h9 => ?_)
 ·have r10 := ite_t h9 hr
  refine q_ (.bool false) (q_ (pt_ b2 1) ?_)
  refine l_' (hd_Places) (aL_ 44 (pt_ b2 1) H3) (r6.l_) ?_
  have u11 := (h_Places.ext e4)
  refine l_' (i_ (Places.length : Int)) (aLen Try.prog 44 hd_Places H3) (u11.lenb (by kernel_rfl)) ?_
  refine q_ (.bool (decide ((Places.length : Int) > 0))) (q_ (.bool (decide ((Places.length : Int) > 0))) (q_ (.bool (decide ((Places.length : Int) > 0))) (s_nil (k8 _ _ ?_))))
  refine w_ret ?_
  refine b_ret (fn := Try.f56) (vs := [.bool (decide ((Places.length : Int) > 0))]) (rt_ (rfl)) ?_
  obtain rfl := oi_ r10
  exact ⟨rfl, ((f0_ wf).extR e4)⟩
 have r12 := ite_f h9 hr
 refine q_ (.bool true) (n_' (n_' (n_' (n_' (q_ (.bool true) (q_ (.bool true) (s_nil (k8 _ _ ?_))))))))
 refine w_ret ?_
 refine b_ret (fn := Try.f56) (vs := [.bool true]) (rt_ (rfl)) ?_
 obtain rfl := oi_ r12
 exact ⟨rfl, ((f0_ wf).extR e4)⟩
theorem c_viaductref01_First {H : AH} {b_list : Nat} {hd_list_2 : Value} {fp_list_2 : Fp} {hd_list_4 : Value} {fp_list_4 : Fp} {list_ : Int} {list_2 : List (Int × Int)} {list_3 : Int} {list_4 : List (Int × Int)} {r : Int × List (Int × Int)}
    (wf : WF H) (h_list_2 : Sq enc_i64_i64 2 H hd_list_2 list_2 fp_list_2) (h_list_4 : Sq enc_i64_i64 2 H hd_list_4 list_4 fp_list_4) (h_list : Row H b_list [i_ list_, hd_list_2, i_ list_3, hd_list_4]) (hr : z_viaductref01_First list_ list_2 list_3 list_4 = some r) :
    ACalls Try.prog 84 #[.slice (some ⟨b_list, 0, none⟩) 2 2] H fun v H' => ∃ (s3 : Value) (f4 : Fp), v = .agg #[i_ r.1, s3] ∧ FrS [] H H' ∧ Sq enc_i64_i64 2 H' s3 r.2 f4 ∧ Inn (fp_list_2 ++ fp_list_4) H f4 := by
 refine acalls_of_body mixed Try.func84 rfl (Nat.le_of_ble_eq_true rfl) ?_
 unfold z_viaductref01_First at hr
 refine w_seqk fun _ k6 => g_' ?_
 refine s_rwk wf [i_ 0, .slice none 0 0] (by kernel_rfl) fun b7 H8 e9 hb10 r11 => ?_
 refine s_nil (k6 _ _ (w_seqk fun _ k13 => w_seqk fun _ k14 => g_' (q_ (.slice (some ⟨b_list, 0, none⟩) 2 2) (q_ (i_ 2) (q_ (i_ 0) (s_nil (k14 _ _ (w_block ?_))))))))
 refine w_unroll ?_
 refine w_seqk fun _ k15 => g_' (q_ (.bool true) (s_nil (k15 _ _ (w_seqk fun _ k16 => ?_))))
 refine w_cond true (by kernel_rfl) rfl (fun _ => ?_) (fun h => by cases h)
 refine w_skip (k16 _ _ (w_seqk fun _ k17 => w_block (w_seqk fun _ k18 => g_' (q_ (pt_ b_list 0) ?_))))
 have u19 := (h_list.ext e9)
 refine l_' (.agg #[i_ list_, hd_list_2]) (aL_ 46 (pt_ b_list 0) H8) (u19.l_) ?_
 refine s_rwk e9.wf [i_ 0, .slice none 0 0] (by kernel_rfl) fun b20 H21 e22 hb23 r24 => ?_
 have u30 := ((h_list_2.ext e9).ext e22)
 obtain ⟨H26, q27, e28, r29⟩ := Row.store (P := Try.prog) (t := 46) (p := 0) e22.wf r24 (.agg #[i_ list_, hd_list_2]) [i_ list_, hd_list_2] (by kernel_rfl) (by kernel_rfl) (one_cons (rfl) (one_cons (u30.one1) (one_nil))) (Nat.le_of_ble_eq_true (by kernel_rfl)) [i_ list_, hd_list_2] (by kernel_rfl)
 refine s_ek (undef) (by kernel_rfl) (map_ok q27) ?_
 refine s_nil (k18 _ _ (w_seqk fun _ k31 => g_' ?_))
 refine l_' (.agg #[i_ list_, hd_list_2]) (aL_ 46 (pt_ b20 0) H26) (r29.l_) ?_
 have u32 := (u30.fr e28 (hb23.djn (h_list_2.lt.le e9.n)))
 obtain ⟨y33, hy34, r35⟩ := bind_some hr
 refine s_ck 56 #[.agg #[i_ list_, hd_list_2]] (by kernel_rfl) (c_viaductref01_Err_Bad e28.wf u32 hy34) ?_
 rintro _ H36 ⟨rfl, e37⟩
 refine s_nil (k31 _ _ ?_)
 refine w_cond (y33) (by kernel_rfl) rfl (fun h38 => ?_) (fun h38 => ?_)
 ·have r39 := ite_t h38 r35
  refine w_seqk fun _ k40 => g_' ?_
  have u41 := (r29.frS e37 Dj.nil_l)
  refine l_' (.agg #[i_ list_, hd_list_2]) (aL_ 46 (pt_ b20 0) H36) (u41.l_) ?_
  have u46 := (((r11.ext e22).frS e28 (hb23.djn r11.ltF)).frS e37 Dj.nil_l)
  have u47 := (u32.fr e37 Dj.nil_l)
  obtain ⟨H42, q43, e44, r45⟩ := Row.store (P := Try.prog) (t := 46) (p := 0) e37.wf u46 (.agg #[i_ list_, hd_list_2]) [i_ list_, hd_list_2] (by kernel_rfl) (by kernel_rfl) (one_cons (rfl) (one_cons (u47.one1) (one_nil))) (Nat.le_of_ble_eq_true (by kernel_rfl)) [i_ list_, hd_list_2] (by kernel_rfl)
  refine s_ek (undef) (by kernel_rfl) (map_ok q43) ?_
  refine s_nil (k40 _ _ ?_)
  refine w_ret (bl_ret (th_ret (th_ret (bl_ret (th_ret ?_)))))
  refine b_ret (fn := Try.f84) (vs := [.agg #[i_ list_, hd_list_2]]) (aRes_cell (Eq.trans (b := aL_ 46 (pt_ b7 0) H42) (by kernel_rfl) (r45.l_)) (rfl)) ?_
  have u48 := (u47.fr e44 (hb10.djn h_list_2.lt))
  obtain rfl := oi_ r39
  exact ⟨(hd_list_2), fp_list_2, rfl, (FrS.step wf (FrS.step wf (FrS.step wf (((f0_ wf).extR e9).extR e22) e28 (hb23.fresh e9.n)) e37 Inn.nil) e44 (hb10.fresh (Nat.le_refl _))), u48, Inn.left⟩
 have r49 := ite_bf h38 r35
 refine w_skip (k17 _ _ (g_' (q_ (i_ 1) (q_ (i_ 1) (s_nil ?_)))))
 refine w_unroll ?_
 refine w_seqk fun _ k50 => g_' (q_ (.bool true) (s_nil (k50 _ _ (w_seqk fun _ k51 => ?_))))
 refine w_cond true (by kernel_rfl) rfl (fun _ => ?_) (fun h => by cases h)
 refine w_skip (k51 _ _ (w_seqk fun _ k52 => w_block (w_seqk fun _ k53 => g_' (q_ (pt_ b_list 2) ?_))))
 have u54 := (((u19.ext e22).frS e28 (hb23.djn (h_list.ltF.le e9.n))).frS e37 Dj.nil_l)
 refine l_' (.agg #[i_ list_3, hd_list_4]) (aL_ 46 (pt_ b_list 2) H36) (u54.l_) ?_
 refine s_rwk e37.wf [i_ 0, .slice none 0 0] (by kernel_rfl) fun b55 H56 e57 hb58 r59 => ?_
 have u65 := (((((h_list_4.ext e9).ext e22).fr e28 (hb23.djn (h_list_4.lt.le e9.n))).fr e37 Dj.nil_l).ext e57)
 obtain ⟨H61, q62, e63, r64⟩ := Row.store (P := Try.prog) (t := 46) (p := 0) e57.wf r59 (.agg #[i_ list_3, hd_list_4]) [i_ list_3, hd_list_4] (by kernel_rfl) (by kernel_rfl) (one_cons (rfl) (one_cons (u65.one1) (one_nil))) (Nat.le_of_ble_eq_true (by kernel_rfl)) [i_ list_3, hd_list_4] (by kernel_rfl)
 refine s_ek (undef) (by kernel_rfl) (map_ok q62) ?_
 refine s_nil (k53 _ _ (w_seqk fun _ k66 => g_' ?_))
 refine l_' (.agg #[i_ list_3, hd_list_4]) (aL_ 46 (pt_ b55 0) H61) (r64.l_) ?_
 have u67 := (u65.fr e63 (hb58.djn (h_list_4.lt.le (t_ (t_ (t_ e9.n e22.n) e28.n) e37.n))))
 obtain ⟨y68, hy69, r70⟩ := bind_some r49
 refine s_ck 56 #[.agg #[i_ list_3, hd_list_4]] (by kernel_rfl) (c_viaductref01_Err_Bad e63.wf u67 hy69) ?_
 rintro _ H71 ⟨rfl, e72⟩
 refine s_nil (k66 _ _ ?_)
 refine w_cond (y68) (by kernel_rfl) rfl (fun h73 => ?_) (fun h73 => ?_)
 ·have r74 := ite_t h73 r70
  refine w_seqk fun _ k75 => g_' ?_
  have u76 := (r64.frS e72 Dj.nil_l)
  refine l_' (.agg #[i_ list_3, hd_list_4]) (aL_ 46 (pt_ b55 0) H71) (u76.l_) ?_
  have u81 := ((((((r11.ext e22).frS e28 (hb23.djn r11.ltF)).frS e37 Dj.nil_l).ext e57).frS e63 (hb58.djn (r11.ltF.le (t_ (t_ e22.n e28.n) e37.n)))).frS e72 Dj.nil_l)
  have u82 := (u67.fr e72 Dj.nil_l)
  obtain ⟨H77, q78, e79, r80⟩ := Row.store (P := Try.prog) (t := 46) (p := 0) e72.wf u81 (.agg #[i_ list_3, hd_list_4]) [i_ list_3, hd_list_4] (by kernel_rfl) (by kernel_rfl) (one_cons (rfl) (one_cons (u82.one1) (one_nil))) (Nat.le_of_ble_eq_true (by kernel_rfl)) [i_ list_3, hd_list_4] (by kernel_rfl)
  refine s_ek (undef) (by kernel_rfl) (map_ok q78) ?_
  refine s_nil (k75 _ _ ?_)
  refine w_ret (bl_ret (th_ret (th_ret (bl_ret (th_ret ?_)))))
  refine b_ret (fn := Try.f84) (vs := [.agg #[i_ list_3, hd_list_4]]) (aRes_cell (Eq.trans (b := aL_ 46 (pt_ b7 0) H77) (by kernel_rfl) (r80.l_)) (rfl)) ?_
  have u83 := (u82.fr e79 (hb10.djn h_list_4.lt))
  obtain rfl := oi_ r74
  exact ⟨(hd_list_4), fp_list_4, rfl, (FrS.step wf (FrS.step wf (FrS.step wf ((FrS.step wf (FrS.step wf (((f0_ wf).extR e9).extR e22) e28 (hb23.fresh e9.n)) e37 Inn.nil).extR e57) e63 (hb58.fresh (t_ (t_ (t_ e9.n e22.n) e28.n) e37.n))) e72 Inn.nil) e79 (hb10.fresh (Nat.le_refl _))), u83, (Inn.right Inn.refl')⟩
 have r84 := ite_bf h73 r70
 refine w_skip (k52 _ _ (g_' (q_ (i_ 2) (q_ (i_ 2) (s_nil ?_)))))
 refine w_unroll ?_
 refine w_seqk fun _ k85 => g_' (q_ (.bool false) (s_nil (k85 _ _ (w_seqk fun _ k86 => ?_))))
 refine w_cond false (by kernel_rfl) rfl (fun h => by cases h) (fun _ => ?_)
 refine w_exit (th_exit (th_exit (bl_eq ?_)))
 refine k13 _ _ (w_seqk fun _ k87 => g_' (q_ (.agg #[i_ 0, .slice none 0 0]) ?_))
 have u92 := ((((((r11.ext e22).frS e28 (hb23.djn r11.ltF)).frS e37 Dj.nil_l).ext e57).frS e63 (hb58.djn (r11.ltF.le (t_ (t_ e22.n e28.n) e37.n)))).frS e72 Dj.nil_l)
 obtain ⟨H88, q89, e90, r91⟩ := Row.store (P := Try.prog) (t := 46) (p := 0) e72.wf u92 (.agg #[i_ 0, .slice none 0 0]) [i_ 0, .slice none 0 0] (by kernel_rfl) (by kernel_rfl) (one_cons (rfl) (one_cons (rfl) (one_nil))) (Nat.le_of_ble_eq_true (by kernel_rfl)) [i_ 0, .slice none 0 0] (by kernel_rfl)
 refine s_ek (undef) (by kernel_rfl) (map_ok q89) ?_
 refine s_nil (k87 _ _ ?_)
 refine w_ret ?_
 refine b_ret (fn := Try.f84) (vs := [.agg #[i_ 0, .slice none 0 0]]) (aRes_cell (Eq.trans (b := aL_ 46 (pt_ b7 0) H88) (by kernel_rfl) (r91.l_)) (rfl)) ?_
 obtain rfl := oi_ r84
 exact ⟨(.slice none 0 0), [], rfl, (FrS.step wf (FrS.step wf (FrS.step wf ((FrS.step wf (FrS.step wf (((f0_ wf).extR e9).extR e22) e28 (hb23.fresh e9.n)) e37 Inn.nil).extR e57) e63 (hb58.fresh (t_ (t_ (t_ e9.n e22.n) e28.n) e37.n))) e72 Inn.nil) e90 (hb10.fresh (Nat.le_refl _))), (Sq.nil (by decide)), Inn.nil⟩
theorem c_viaductref10_Ranks {H : AH} {hd_Node : Value} {fp_Node : Fp} {hd_UpFirst : Value} {fp_UpFirst : Fp} {hd_Up : Value} {fp_Up : Fp} {hd_DownFirst : Value} {fp_DownFirst : Fp} {hd_Down : Value} {fp_Down : Fp} {Node : List (Int)} {UpFirst : List (Int)} {Up : List (Int × Int × Int × Int)} {DownFirst : List (Int)} {Down : List (Int × Int × Int × Int)} {r : List (Int)}
    (wf : WF H) (h_Node : Sq (encI .u32) 1 H hd_Node Node fp_Node) (h_UpFirst : Sq (encI .u32) 1 H hd_UpFirst UpFirst fp_UpFirst) (h_Up : Sq enc_u32_u64_u32_u32 4 H hd_Up Up fp_Up) (h_DownFirst : Sq (encI .u32) 1 H hd_DownFirst DownFirst fp_DownFirst) (h_Down : Sq enc_u32_u64_u32_u32 4 H hd_Down Down fp_Down) (hr : z_viaductref10_Ranks Node UpFirst Up DownFirst Down = some r) :
    ACalls Try.prog 135 #[.agg #[hd_Node, hd_UpFirst, hd_Up, hd_DownFirst, hd_Down]] H fun v H' => ∃ (s3 : Value) (f4 : Fp), v = s3 ∧ FrS [] H H' ∧ Ow (encI .i64) 1 H' s3 r f4 ∧ Inn [] H f4 := by
 refine acalls_of_body mixed Try.func135 rfl (Nat.le_of_ble_eq_true rfl) ?_
 unfold z_viaductref10_Ranks at hr
 refine w_seqk fun _ k6 => g_' ?_
 refine s_rwl wf [hd_Node, hd_UpFirst, hd_Up, hd_DownFirst, hd_Down] (one_cons (h_Node.one1) (one_cons (h_UpFirst.one1) (one_cons (h_Up.one1) (one_cons (h_DownFirst.one1) (one_cons (h_Down.one1) (one_nil)))))) (by kernel_rfl) fun b7 H8 e9 hb10 r11 => ?_
 refine q_ (.slice none 0 0) (s_nil (k6 _ _ (w_seqk fun _ k13 => g_' (q_ (.slice none 0 0) (s_nil (k13 _ _ (w_seqk fun _ k14 => w_seqk fun _ k15 => g_' (q_ (i_ 0) (s_nil (k15 _ _ ?_))))))))))
 obtain ⟨o16, hx17, r18⟩ := bind_some hr
 refine w_mid (fun α H19 => ∃ (s23 : Value) (f24 : Fp), Has α [(1, pt_ b7 0), (3, s23)] ∧ FrS [] H8 H19 ∧ Ow (encI .i64) 1 H19 s23 o16 f24 ∧ Inn [] H8 f24) (fun _ k26 => ?_) (fun α H19 hM => ?_)
 ·refine w_block ?_
  obtain ⟨n28, hn29⟩ := loopO_iff.1 hx17
  refine w_loopn (fun n α H30 => ∃ (l2 : List (Int)), ∃ (r3 : Int), ∃ (s34 : Value), ∃ (f35 : Fp), iterO (fun zz_ => z_viaductref10_Ranks_l1 UpFirst zz_.1 zz_.2) n (l2, r3) = some o16 ∧ Has α [(1, pt_ b7 0), (3, s34), (4, i_ r3)] ∧ FrS [] H8 H30 ∧ Ow (encI .i64) 1 H30 s34 l2 f35 ∧ Inn [] H8 f35) n28 ⟨[], 0, (.slice none 0 0), [], hn29, ha_, (FrS.refl (W := []) e9.wf), (Ow.nil (by decide)), Inn.nil⟩ ?_
  rintro n28 α H30 ⟨l2, r3, s34, f35, hi38, hh37, e31, m33, i36⟩ K43 k43
  obtain ⟨n39, z40, rfl, hz41, hn42⟩ := iter_succ hi38
  obtain ⟨β, rfl⟩ := has_ex hh37
  clear hh37
  replace hz41 : z_viaductref10_Ranks_l1 UpFirst l2 r3 = some z40 := hz41
  unfold z_viaductref10_Ranks_l1 at hz41
  obtain ⟨a44, n45, c46, rfl⟩ := m33.form
  refine w_seqk fun _ k47 => w_seqk fun _ k48 => g_' (q_ (i_ r3) ?_)
  obtain ⟨g49, r50⟩ := G_some hz41
  refine w_' (r3 + 1) (wrap64 g49) ?_
  refine q_ (pt_ b7 1) ?_
  have u51 := (r11.frS e31 Dj.nil_l)
  refine l_' (hd_UpFirst) (aL_ 78 (pt_ b7 1) H30) (u51.l_) ?_
  have u52 := ((h_UpFirst.ext e9).fr e31 Dj.nil_l)
  refine l_' (i_ (UpFirst.length : Int)) (aLen Try.prog 78 hd_UpFirst H30) (u52.lenb (by kernel_rfl)) ?_
  refine q_ (.bool (decide ((r3 + 1) < (UpFirst.length : Int)))) (s_nil (k48 _ _ ?_))
  refine w_condp ((r3 + 1) < (UpFirst.length : Int)) (by kernel_rfl) rfl (fun h53 => ?_) (fun h53 => ?_)
  ·have r54 := ite_t h53 r50
   refine w_skip (k47 _ _ (w_seqk fun _ k55 => w_block (w_seqk fun _ k56 => g_' (q_ (pt_ b7 1) ?_))))
   refine l_' (hd_UpFirst) (aL_ 78 (pt_ b7 1) H30) (u51.l_) ?_
   refine q_ (i_ r3) ?_
   obtain ⟨g57, r58⟩ := G_some r54
   refine l_' (elp hd_UpFirst 1 r3.toNat 0) (aIndexAddr Try.prog 78 hd_UpFirst (i_ r3)) (u52.idxb (by kernel_rfl) g57.1 g57.2) ?_
   refine l_' (.int .u32 (gt UpFirst r3)) (aL_ 90 (elp hd_UpFirst 1 r3.toNat 0) H30) (u52.ld g57.1 g57.2 (by kernel_rfl)) ?_
   refine q_ (.int .u32 (gt UpFirst r3)) (s_nil (k56 _ _ ?_))
   obtain ⟨o59, hx60, r61⟩ := bind_some r58
   refine w_mid (fun α H62 => ∃ (s66 : Value) (f67 : Fp), Has α [(1, pt_ b7 0), (3, s66), (4, i_ r3)] ∧ FrS f35 H30 H62 ∧ Ow (encI .i64) 1 H62 s66 o59 f67 ∧ Inn f35 H30 f67) (fun _ k69 => ?_) (fun α H62 hM => ?_)
   ·refine w_block ?_
    obtain ⟨n71, hn72⟩ := loopO_iff.1 hx60
    refine w_loopn (fun n α H73 => ∃ (l0 : List (Int)), ∃ (i1 : Int), ∃ (s77 : Value), ∃ (f78 : Fp), iterO (fun zz_ => z_viaductref10_Ranks_l0 UpFirst r3 zz_.1 zz_.2) n (l0, i1) = some o59 ∧ Has α [(1, pt_ b7 0), (3, s77), (4, i_ r3), (5, .int .u32 i1)] ∧ FrS f35 H30 H73 ∧ Ow (encI .i64) 1 H73 s77 l0 f78 ∧ Inn f35 H30 f78) n71 ⟨l2, (gt UpFirst r3), (.slice a44 n45 c46), f35, hn72, ha_, (FrS.refl (W := f35) e31.wf), m33, Inn.refl'⟩ ?_
    rintro n71 α H73 ⟨l0, i1, s77, f78, hi81, hh80, e74, m76, i79⟩ K86 k86
    obtain ⟨n82, z83, rfl, hz84, hn85⟩ := iter_succ hi81
    obtain ⟨β, rfl⟩ := has_ex hh80
    clear hh80
    replace hz84 : z_viaductref10_Ranks_l0 UpFirst r3 l0 i1 = some z83 := hz84
    unfold z_viaductref10_Ranks_l0 at hz84
    obtain ⟨a87, n88, c89, rfl⟩ := m76.form
    refine w_seqk fun _ k90 => w_seqk fun _ k91 => g_' (q_ (.int .u32 i1) (q_ (pt_ b7 1) ?_))
    have u92 := (u51.frS e74 (i36.djn r11.ltF))
    refine l_' (hd_UpFirst) (aL_ 78 (pt_ b7 1) H73) (u92.l_) ?_
    refine q_ (i_ r3) ?_
    obtain ⟨g93, r94⟩ := G_some hz84
    refine w_' (r3 + 1) (wrap64 (by have := g93; omega)) ?_
    obtain ⟨g95, r96⟩ := G_some r94
    have u97 := (u52.fr e74 (i36.djn (h_UpFirst.lt.le e9.n)))
    refine l_' (elp hd_UpFirst 1 (r3 + 1).toNat 0) (aIndexAddr Try.prog 78 hd_UpFirst (i_ (r3 + 1))) (u97.idxb (by kernel_rfl) g95 h53) ?_
    refine l_' (.int .u32 (gt UpFirst (r3 + 1))) (aL_ 90 (elp hd_UpFirst 1 (r3 + 1).toNat 0) H73) (u97.ld g95 h53 (by kernel_rfl)) ?_
    refine q_ (.bool (decide (i1 < (gt UpFirst (r3 + 1))))) (s_nil (k91 _ _ ?_))
    refine w_condp (i1 < (gt UpFirst (r3 + 1))) (by kernel_rfl) rfl (fun h98 => ?_) (fun h98 => ?_)
    ·have r99 := ite_t h98 r96
     refine w_skip (k90 _ _ (w_seqk fun _ k100 => w_block (g_' (q_ (.slice a87 n88 c89) (q_ (i_ r3) ?_)))))
     refine s_owk (enc := (encI .i64)) (sz := 1) e74.wf [r3] 1 (by decide) (fun _ _ => rfl) (fun _ _ => rfl) rfl (by kernel_rfl) fun s101 f102 H103 e104 hf105 hm106 => ?_
     obtain ⟨a107, n108, c109, rfl⟩ := hm106.form
     have u111 := (m76.ext e104)
     obtain ⟨g112, r113⟩ := G_some r99
     obtain ⟨s114, H115, f116, q120, e117, hm118, hf119⟩ := Ow.append (P := Try.prog) 8 e104.wf u111 hm106.sq (fun _ _ => rfl) (at_ := #[22, 22]) rfl rfl (by kernel_rfl) (by kernel_rfl) (by decide) (by have := g112; first | omega | (simp only [List.length_cons, List.length_nil] at this ⊢; omega) | (simp at this ⊢; omega))
     obtain ⟨a121, n122, c123, rfl⟩ := hm118.form
     refine s_ek (.slice a121 n122 c123) (by kernel_rfl) (q120) ?_
     refine q_ (.slice a121 n122 c123) (s_nil (k100 _ _ (g_' (q_ (.int .u32 i1) ?_))))
     obtain ⟨g125, r126⟩ := G_some r113
     refine s_w ((i1 + 1)) (k := .u32) (x := (i1 + 1)) (by kernel_rfl) (wrapu32 g125) ?_
     refine q_ (.int .u32 (i1 + 1)) (s_nil ?_)
     obtain rfl := oi_ r126
     exact k86 n82 _ _ (Nat.lt_succ_self _) ⟨(l0 ++ [r3]), (i1 + 1), (.slice a121 n122 c123), f116, hn85, ha_, (FrS.step e31.wf ((FrS.step e31.wf (FrS.refl (W := f35) e31.wf) e74 Inn.refl').extR e104) e117 (Inn.trans Inn.refl' (Nat.le_refl _) i79)), hm118, (Inn.trans (Inn.trans Inn.refl' (Nat.le_refl _) i79) (t_ e74.n e104.n) hf119)⟩
    have r127 := ite_f h98 r96
    refine w_exit (th_exit (th_exit (bl_eq ?_)))
    obtain rfl := oi_ r127
    obtain rfl := it_inr hn85
    exact k69 _ _ ⟨(.slice a87 n88 c89), f78, ha_, (FrS.step e31.wf (FrS.refl (W := f35) e31.wf) e74 Inn.refl'), m76, (Inn.trans Inn.refl' (Nat.le_refl _) i79)⟩
   obtain ⟨s66, f67, hh70, e63, m65, i68⟩ := hM
   obtain ⟨β, rfl⟩ := has_ex hh70
   clear hh70
   obtain ⟨a128, n129, c130, rfl⟩ := m65.form
   refine k55 _ _ (g_' (q_ (i_ r3) ?_))
   obtain ⟨g131, r132⟩ := G_some r61
   refine w_' (r3 + 1) (wrap64 (by have := g131; omega)) ?_
   refine q_ (i_ (r3 + 1)) (s_nil ?_)
   obtain rfl := oi_ r132
   exact k43 n39 _ _ (Nat.lt_succ_self _) ⟨o59, (r3 + 1), (.slice a128 n129 c130), f67, hn42, ha_, (FrS.step e9.wf (FrS.step e9.wf (FrS.refl (W := []) e9.wf) e31 Inn.nil) e63 (i36.fresh (Nat.le_refl _))), m65, (Inn.trans (i36.fresh (Nat.le_refl _)) e31.n i68)⟩
  have r133 := ite_f h53 r50
  refine w_exit (th_exit (th_exit (bl_eq ?_)))
  obtain rfl := oi_ r133
  obtain rfl := it_inr hn42
  exact k26 _ _ ⟨(.slice a44 n45 c46), f35, ha_, (FrS.step e9.wf (FrS.refl (W := []) e9.wf) e31 Inn.nil), m33, (i36.fresh (Nat.le_refl _))⟩
 obtain ⟨s23, f24, hh27, e20, m22, i25⟩ := hM
 obtain ⟨β, rfl⟩ := has_ex hh27
 clear hh27
 obtain ⟨a134, n135, c136, rfl⟩ := m22.form
 refine k14 _ _ (w_seqk fun _ k137 => w_seqk fun _ k138 => g_' (q_ (i_ 0) (s_nil (k138 _ _ ?_))))
 obtain ⟨o139, hx140, r141⟩ := bind_some r18
 refine w_mid (fun α H142 => ∃ (s146 : Value) (f147 : Fp), Has α [(3, s146)] ∧ FrS f24 H19 H142 ∧ Ow (encI .i64) 1 H142 s146 o139 f147 ∧ Inn f24 H19 f147) (fun _ k149 => ?_) (fun α H142 hM => ?_)
 ·refine w_block ?_
  obtain ⟨n151, hn152⟩ := loopO_iff.1 hx140
  refine w_loopn (fun n α H153 => ∃ (l6 : List (Int)), ∃ (r7 : Int), ∃ (s157 : Value), ∃ (f158 : Fp), iterO (fun zz_ => z_viaductref10_Ranks_l3 DownFirst zz_.1 zz_.2) n (l6, r7) = some o139 ∧ Has α [(1, pt_ b7 0), (3, s157), (6, i_ r7)] ∧ FrS f24 H19 H153 ∧ Ow (encI .i64) 1 H153 s157 l6 f158 ∧ Inn f24 H19 f158) n151 ⟨o16, 0, (.slice a134 n135 c136), f24, hn152, ha_, (FrS.refl (W := f24) e20.wf), m22, Inn.refl'⟩ ?_
  rintro n151 α H153 ⟨l6, r7, s157, f158, hi161, hh160, e154, m156, i159⟩ K166 k166
  obtain ⟨n162, z163, rfl, hz164, hn165⟩ := iter_succ hi161
  obtain ⟨β, rfl⟩ := has_ex hh160
  clear hh160
  replace hz164 : z_viaductref10_Ranks_l3 DownFirst l6 r7 = some z163 := hz164
  unfold z_viaductref10_Ranks_l3 at hz164
  obtain ⟨a167, n168, c169, rfl⟩ := m156.form
  refine w_seqk fun _ k170 => w_seqk fun _ k171 => g_' (q_ (i_ r7) ?_)
  obtain ⟨g172, r173⟩ := G_some hz164
  refine w_' (r7 + 1) (wrap64 g172) ?_
  refine q_ (pt_ b7 3) ?_
  have u174 := ((r11.frS e20 Dj.nil_l).frS e154 (i25.djn r11.ltF))
  refine l_' (hd_DownFirst) (aL_ 78 (pt_ b7 3) H153) (u174.l_) ?_
  have u175 := (((h_DownFirst.ext e9).fr e20 Dj.nil_l).fr e154 (i25.djn (h_DownFirst.lt.le e9.n)))
  refine l_' (i_ (DownFirst.length : Int)) (aLen Try.prog 78 hd_DownFirst H153) (u175.lenb (by kernel_rfl)) ?_
  refine q_ (.bool (decide ((r7 + 1) < (DownFirst.length : Int)))) (s_nil (k171 _ _ ?_))
  refine w_condp ((r7 + 1) < (DownFirst.length : Int)) (by kernel_rfl) rfl (fun h176 => ?_) (fun h176 => ?_)
  ·have r177 := ite_t h176 r173
   refine w_skip (k170 _ _ (w_seqk fun _ k178 => w_block (w_seqk fun _ k179 => g_' (q_ (pt_ b7 3) ?_))))
   refine l_' (hd_DownFirst) (aL_ 78 (pt_ b7 3) H153) (u174.l_) ?_
   refine q_ (i_ r7) ?_
   obtain ⟨g180, r181⟩ := G_some r177
   refine l_' (elp hd_DownFirst 1 r7.toNat 0) (aIndexAddr Try.prog 78 hd_DownFirst (i_ r7)) (u175.idxb (by kernel_rfl) g180.1 g180.2) ?_
   refine l_' (.int .u32 (gt DownFirst r7)) (aL_ 90 (elp hd_DownFirst 1 r7.toNat 0) H153) (u175.ld g180.1 g180.2 (by kernel_rfl)) ?_
   refine q_ (.int .u32 (gt DownFirst r7)) (s_nil (k179 _ _ ?_))
   obtain ⟨o182, hx183, r184⟩ := bind_some r181
   refine w_mid (fun α H185 => ∃ (s189 : Value) (f190 : Fp), Has α [(1, pt_ b7 0), (3, s189), (6, i_ r7)] ∧ FrS f158 H153 H185 ∧ Ow (encI .i64) 1 H185 s189 o182 f190 ∧ Inn f158 H153 f190) (fun _ k192 => ?_) (fun α H185 hM => ?_)
   ·refine w_block ?_
    obtain ⟨n194, hn195⟩ := loopO_iff.1 hx183
    refine w_loopn (fun n α H196 => ∃ (l4 : List (Int)), ∃ (i5 : Int), ∃ (s200 : Value), ∃ (f201 : Fp), iterO (fun zz_ => z_viaductref10_Ranks_l2 DownFirst r7 zz_.1 zz_.2) n (l4, i5) = some o182 ∧ Has α [(1, pt_ b7 0), (3, s200), (6, i_ r7), (7, .int .u32 i5)] ∧ FrS f158 H153 H196 ∧ Ow (encI .i64) 1 H196 s200 l4 f201 ∧ Inn f158 H153 f201) n194 ⟨l6, (gt DownFirst r7), (.slice a167 n168 c169), f158, hn195, ha_, (FrS.refl (W := f158) e154.wf), m156, Inn.refl'⟩ ?_
    rintro n194 α H196 ⟨l4, i5, s200, f201, hi204, hh203, e197, m199, i202⟩ K209 k209
    obtain ⟨n205, z206, rfl, hz207, hn208⟩ := iter_succ hi204
    obtain ⟨β, rfl⟩ := has_ex hh203
    clear hh203
    replace hz207 : z_viaductref10_Ranks_l2 DownFirst r7 l4 i5 = some z206 := hz207
    unfold z_viaductref10_Ranks_l2 at hz207
    obtain ⟨a210, n211, c212, rfl⟩ := m199.form
    refine w_seqk fun _ k213 => w_seqk fun _ k214 => g_' (q_ (.int .u32 i5) (q_ (pt_ b7 3) ?_))
    have u215 := (u174.frS e197 (i159.dj (i25.djn r11.ltF) (r11.ltF.le e20.n)))
    refine l_' (hd_DownFirst) (aL_ 78 (pt_ b7 3) H196) (u215.l_) ?_
    refine q_ (i_ r7) ?_
    obtain ⟨g216, r217⟩ := G_some hz207
    refine w_' (r7 + 1) (wrap64 (by have := g216; omega)) ?_
    obtain ⟨g218, r219⟩ := G_some r217
    have u220 := (u175.fr e197 (i159.dj (i25.djn (h_DownFirst.lt.le e9.n)) (h_DownFirst.lt.le (t_ e9.n e20.n))))
    refine l_' (elp hd_DownFirst 1 (r7 + 1).toNat 0) (aIndexAddr Try.prog 78 hd_DownFirst (i_ (r7 + 1))) (u220.idxb (by kernel_rfl) g218 h176) ?_
    refine l_' (.int .u32 (gt DownFirst (r7 + 1))) (aL_ 90 (elp hd_DownFirst 1 (r7 + 1).toNat 0) H196) (u220.ld g218 h176 (by kernel_rfl)) ?_
    refine q_ (.bool (decide (i5 < (gt DownFirst (r7 + 1))))) (s_nil (k214 _ _ ?_))
    refine w_condp (i5 < (gt DownFirst (r7 + 1))) (by kernel_rfl) rfl (fun h221 => ?_) (fun h221 => ?_)
    ·have r222 := ite_t h221 r219
     refine w_skip (k213 _ _ (w_seqk fun _ k223 => w_block (g_' (q_ (.slice a210 n211 c212) (q_ (i_ r7) ?_)))))
     refine s_owk (enc := (encI .i64)) (sz := 1) e197.wf [r7] 1 (by decide) (fun _ _ => rfl) (fun _ _ => rfl) rfl (by kernel_rfl) fun s224 f225 H226 e227 hf228 hm229 => ?_
     obtain ⟨a230, n231, c232, rfl⟩ := hm229.form
     have u234 := (m199.ext e227)
     obtain ⟨g235, r236⟩ := G_some r222
     obtain ⟨s237, H238, f239, q243, e240, hm241, hf242⟩ := Ow.append (P := Try.prog) 8 e227.wf u234 hm229.sq (fun _ _ => rfl) (at_ := #[22, 22]) rfl rfl (by kernel_rfl) (by kernel_rfl) (by decide) (by have := g235; first | omega | (simp only [List.length_cons, List.length_nil] at this ⊢; omega) | (simp at this ⊢; omega))
     obtain ⟨a244, n245, c246, rfl⟩ := hm241.form
     refine s_ek (.slice a244 n245 c246) (by kernel_rfl) (q243) ?_
     refine q_ (.slice a244 n245 c246) (s_nil (k223 _ _ (g_' (q_ (.int .u32 i5) ?_))))
     obtain ⟨g248, r249⟩ := G_some r236
     refine s_w ((i5 + 1)) (k := .u32) (x := (i5 + 1)) (by kernel_rfl) (wrapu32 g248) ?_
     refine q_ (.int .u32 (i5 + 1)) (s_nil ?_)
     obtain rfl := oi_ r249
     exact k209 n205 _ _ (Nat.lt_succ_self _) ⟨(l4 ++ [r7]), (i5 + 1), (.slice a244 n245 c246), f239, hn208, ha_, (FrS.step e154.wf ((FrS.step e154.wf (FrS.refl (W := f158) e154.wf) e197 Inn.refl').extR e227) e240 (Inn.trans Inn.refl' (Nat.le_refl _) i202)), hm241, (Inn.trans (Inn.trans Inn.refl' (Nat.le_refl _) i202) (t_ e197.n e227.n) hf242)⟩
    have r250 := ite_f h221 r219
    refine w_exit (th_exit (th_exit (bl_eq ?_)))
    obtain rfl := oi_ r250
    obtain rfl := it_inr hn208
    exact k192 _ _ ⟨(.slice a210 n211 c212), f201, ha_, (FrS.step e154.wf (FrS.refl (W := f158) e154.wf) e197 Inn.refl'), m199, (Inn.trans Inn.refl' (Nat.le_refl _) i202)⟩
   obtain ⟨s189, f190, hh193, e186, m188, i191⟩ := hM
   obtain ⟨β, rfl⟩ := has_ex hh193
   clear hh193
   obtain ⟨a251, n252, c253, rfl⟩ := m188.form
   refine k178 _ _ (g_' (q_ (i_ r7) ?_))
   obtain ⟨g254, r255⟩ := G_some r184
   refine w_' (r7 + 1) (wrap64 (by have := g254; omega)) ?_
   refine q_ (i_ (r7 + 1)) (s_nil ?_)
   obtain rfl := oi_ r255
   exact k166 n162 _ _ (Nat.lt_succ_self _) ⟨o182, (r7 + 1), (.slice a251 n252 c253), f190, hn165, ha_, (FrS.step e20.wf (FrS.step e20.wf (FrS.refl (W := f24) e20.wf) e154 Inn.refl') e186 (Inn.trans Inn.refl' (Nat.le_refl _) i159)), m188, (Inn.trans (Inn.trans Inn.refl' (Nat.le_refl _) i159) e154.n i191)⟩
  have r256 := ite_f h176 r173
  refine w_exit (th_exit (th_exit (bl_eq ?_)))
  obtain rfl := oi_ r256
  obtain rfl := it_inr hn165
  exact k149 _ _ ⟨(.slice a167 n168 c169), f158, ha_, (FrS.step e20.wf (FrS.refl (W := f24) e20.wf) e154 Inn.refl'), m156, (Inn.trans Inn.refl' (Nat.le_refl _) i159)⟩
 obtain ⟨s146, f147, hh150, e143, m145, i148⟩ := hM
 obtain ⟨β, rfl⟩ := has_ex hh150
 clear hh150
 obtain ⟨a257, n258, c259, rfl⟩ := m145.form
 refine k137 _ _ (w_seqk fun _ k260 => g_' (q_ (.slice a257 n258 c259) (q_ (.slice a257 n258 c259) (s_nil (k260 _ _ ?_)))))
 refine w_ret ?_
 refine b_ret (fn := Try.f135) (vs := [.slice a257 n258 c259]) (rt_ (rfl)) ?_
 obtain rfl := oi_ r141
 exact ⟨(.slice a257 n258 c259), f147, rfl, (FrS.step wf (FrS.step wf ((f0_ wf).extR e9) e20 Inn.nil) e143 (i25.fresh e9.n)), m145, (Inn.trans (i25.fresh e9.n) (t_ e9.n e20.n) i148)⟩
theorem c_viaductref10_Link {H : AH} {hd_Node : Value} {fp_Node : Fp} {hd_UpFirst : Value} {fp_UpFirst : Fp} {hd_Up : Value} {fp_Up : Fp} {hd_DownFirst : Value} {fp_DownFirst : Fp} {hd_Down : Value} {fp_Down : Fp} {Node : List (Int)} {UpFirst : List (Int)} {Up : List (Int × Int × Int × Int)} {DownFirst : List (Int)} {Down : List (Int × Int × Int × Int)} {i : Int} {r : Int × Int × Int × Int}
    (wf : WF H) (h_Node : Sq (encI .u32) 1 H hd_Node Node fp_Node) (h_UpFirst : Sq (encI .u32) 1 H hd_UpFirst UpFirst fp_UpFirst) (h_Up : Sq enc_u32_u64_u32_u32 4 H hd_Up Up fp_Up) (h_DownFirst : Sq (encI .u32) 1 H hd_DownFirst DownFirst fp_DownFirst) (h_Down : Sq enc_u32_u64_u32_u32 4 H hd_Down Down fp_Down) (hr : z_viaductref10_Link Node UpFirst Up DownFirst Down i = some r) :
    ACalls Try.prog 139 #[.agg #[hd_Node, hd_UpFirst, hd_Up, hd_DownFirst, hd_Down], i_ i] H fun v H' => v = .agg #[.int .u32 r.1, .int .u64 r.2.1, .int .u32 r.2.2.1, .int .u32 r.2.2.2] ∧ FrS [] H H' := by
 refine acalls_of_body mixed Try.func139 rfl (Nat.le_of_ble_eq_true rfl) ?_
 unfold z_viaductref10_Link at hr
 refine w_seqk fun _ k1 => g_' ?_
 refine s_rwl wf [hd_Node, hd_UpFirst, hd_Up, hd_DownFirst, hd_Down] (one_cons (h_Node.one1) (one_cons (h_UpFirst.one1) (one_cons (h_Up.one1) (one_cons (h_DownFirst.one1) (one_cons (h_Down.one1) (one_nil)))))) (by kernel_rfl) fun b2 H3 e4 hb5 r6 => ?_
 refine s_rwk e4.wf [.int .u32 0, .int .u64 0, .int .u32 0, .int .u32 0] (by kernel_rfl) fun b8 H9 e10 hb11 r12 => ?_
 refine s_nil (k1 _ _ (w_seqk fun _ k14 => w_seqk fun _ k15 => g_' (q_ (i_ i) (q_ (pt_ b2 2) ?_))))
 have u16 := (r6.ext e10)
 refine l_' (hd_Up) (aL_ 79 (pt_ b2 2) H9) (u16.l_) ?_
 have u17 := ((h_Up.ext e4).ext e10)
 refine l_' (i_ (Up.length : Int)) (aLen Try.prog 79 hd_Up H9) (u17.lenb (by kernel_rfl)) ?_
 refine q_ (.bool (decide (i < (Up.length : Int)))) (s_nil (k15 _ _ ?_))
 refine w_condp (i < (Up.length : Int)) (by kernel_rfl) rfl (fun h18 => ?_) (fun h18 => ?_)
 ·have r19 := ite_t h18 hr
  refine w_seqk fun _ k20 => g_' (q_ (pt_ b2 2) ?_)
  refine l_' (hd_Up) (aL_ 79 (pt_ b2 2) H9) (u16.l_) ?_
  refine q_ (i_ i) ?_
  obtain ⟨g21, r22⟩ := G_some r19
  refine l_' (elp hd_Up 4 i.toNat 0) (aIndexAddr Try.prog 79 hd_Up (i_ i)) (u17.idxb (by kernel_rfl) g21 h18) ?_
  refine l_' (.agg #[.int .u32 ((gt Up i).1), .int .u64 ((gt Up i).2.1), .int .u32 ((gt Up i).2.2.1), .int .u32 ((gt Up i).2.2.2)]) (aL_ 93 (elp hd_Up 4 i.toNat 0) H9) (u17.ld g21 h18 (by kernel_rfl)) ?_
  obtain ⟨H23, q24, e25, r26⟩ := Row.store (P := Try.prog) (t := 93) (p := 0) e10.wf r12 (.agg #[.int .u32 ((gt Up i).1), .int .u64 ((gt Up i).2.1), .int .u32 ((gt Up i).2.2.1), .int .u32 ((gt Up i).2.2.2)]) [.int .u32 ((gt Up i).1), .int .u64 ((gt Up i).2.1), .int .u32 ((gt Up i).2.2.1), .int .u32 ((gt Up i).2.2.2)] (by kernel_rfl) (by kernel_rfl) (one_cons (rfl) (one_cons (rfl) (one_cons (rfl) (one_cons (rfl) (one_nil))))) (Nat.le_of_ble_eq_true (by kernel_rfl)) [.int .u32 ((gt Up i).1), .int .u64 ((gt Up i).2.1), .int .u32 ((gt Up i).2.2.1), .int .u32 ((gt Up i).2.2.2)] (by kernel_rfl)
  refine s_ek (undef) (by kernel_rfl) (map_ok q24) ?_
  refine s_nil (k20 _ _ ?_)
  refine w_ret (th_ret ?_)
  refine b_ret (fn := Try.f139) (vs := [.agg #[.int .u32 ((gt Up i).1), .int .u64 ((gt Up i).2.1), .int .u32 ((gt Up i).2.2.1), .int .u32 ((gt Up i).2.2.2)]]) (aRes_cell (Eq.trans (b := aL_ 93 (pt_ b8 0) H23) (by kernel_rfl) (r26.l_)) (rfl)) ?_
  obtain rfl := oi_ r22
  exact ⟨rfl, (FrS.step wf (((f0_ wf).extR e4).extR e10) e25 (hb11.fresh e4.n))⟩
 have r27 := ite_f h18 hr
 refine w_skip (k14 _ _ (w_seqk fun _ k28 => g_' (q_ (pt_ b2 4) ?_)))
 refine l_' (hd_Down) (aL_ 79 (pt_ b2 4) H9) (u16.l_) ?_
 refine q_ (i_ i) (q_ (pt_ b2 2) ?_)
 refine l_' (hd_Up) (aL_ 79 (pt_ b2 2) H9) (u16.l_) ?_
 refine l_' (i_ (Up.length : Int)) (aLen Try.prog 79 hd_Up H9) (u17.lenb (by kernel_rfl)) ?_
 obtain ⟨g29, r30⟩ := G_some r27
 refine w_' (i - (Up.length : Int)) (wrap64 g29) ?_
 obtain ⟨g31, r32⟩ := G_some r30
 have u33 := ((h_Down.ext e4).ext e10)
 refine l_' (elp hd_Down 4 (i - (Up.length : Int)).toNat 0) (aIndexAddr Try.prog 79 hd_Down (i_ (i - (Up.length : Int)))) (u33.idxb (by kernel_rfl) g31.1 g31.2) ?_
 refine l_' (.agg #[.int .u32 ((gt Down (i - (Up.length : Int))).1), .int .u64 ((gt Down (i - (Up.length : Int))).2.1), .int .u32 ((gt Down (i - (Up.length : Int))).2.2.1), .int .u32 ((gt Down (i - (Up.length : Int))).2.2.2)]) (aL_ 93 (elp hd_Down 4 (i - (Up.length : Int)).toNat 0) H9) (u33.ld g31.1 g31.2 (by kernel_rfl)) ?_
 obtain ⟨H34, q35, e36, r37⟩ := Row.store (P := Try.prog) (t := 93) (p := 0) e10.wf r12 (.agg #[.int .u32 ((gt Down (i - (Up.length : Int))).1), .int .u64 ((gt Down (i - (Up.length : Int))).2.1), .int .u32 ((gt Down (i - (Up.length : Int))).2.2.1), .int .u32 ((gt Down (i - (Up.length : Int))).2.2.2)]) [.int .u32 ((gt Down (i - (Up.length : Int))).1), .int .u64 ((gt Down (i - (Up.length : Int))).2.1), .int .u32 ((gt Down (i - (Up.length : Int))).2.2.1), .int .u32 ((gt Down (i - (Up.length : Int))).2.2.2)] (by kernel_rfl) (by kernel_rfl) (one_cons (rfl) (one_cons (rfl) (one_cons (rfl) (one_cons (rfl) (one_nil))))) (Nat.le_of_ble_eq_true (by kernel_rfl)) [.int .u32 ((gt Down (i - (Up.length : Int))).1), .int .u64 ((gt Down (i - (Up.length : Int))).2.1), .int .u32 ((gt Down (i - (Up.length : Int))).2.2.1), .int .u32 ((gt Down (i - (Up.length : Int))).2.2.2)] (by kernel_rfl)
 refine s_ek (undef) (by kernel_rfl) (map_ok q35) ?_
 refine s_nil (k28 _ _ ?_)
 refine w_ret ?_
 refine b_ret (fn := Try.f139) (vs := [.agg #[.int .u32 ((gt Down (i - (Up.length : Int))).1), .int .u64 ((gt Down (i - (Up.length : Int))).2.1), .int .u32 ((gt Down (i - (Up.length : Int))).2.2.1), .int .u32 ((gt Down (i - (Up.length : Int))).2.2.2)]]) (aRes_cell (Eq.trans (b := aL_ 93 (pt_ b8 0) H34) (by kernel_rfl) (r37.l_)) (rfl)) ?_
 obtain rfl := oi_ r32
 exact ⟨rfl, (FrS.step wf (((f0_ wf).extR e4).extR e10) e36 (hb11.fresh e4.n))⟩
theorem c_viaductref10_Plain {H : AH} {To : Int} {Weight : Int} {Left : Int} {Right : Int} {r : Bool}
    (wf : WF H) (hr : z_viaductref10_Plain To Weight Left Right = some r) :
    ACalls Try.prog 140 #[.agg #[.int .u32 To, .int .u64 Weight, .int .u32 Left, .int .u32 Right]] H fun v H' => v = .bool r ∧ FrS [] H H' := by
 refine acalls_of_body mixed Try.func140 rfl (Nat.le_of_ble_eq_true rfl) ?_
 unfold z_viaductref10_Plain at hr
 refine w_seqk fun _ k1 => g_' ?_
 refine s_rwl wf [.int .u32 To, .int .u64 Weight, .int .u32 Left, .int .u32 Right] (one_cons (rfl) (one_cons (rfl) (one_cons (rfl) (one_cons (rfl) (one_nil))))) (by kernel_rfl) fun b2 H3 e4 hb5 r6 => ?_
 refine q_ (.bool false) (s_nil (k1 _ _ (w_seqk fun _ k8 => g_' (q_ (pt_ b2 2) ?_))))
 refine l_' (.int .u32 Left) (aL_ 90 (pt_ b2 2) H3) (r6.l_) ?_
 refine s_b (Left = 4294967295) (by kernel_rfl) (fun h9 => ?_) (fun h9 => ?_)
 ·have r10 := ite_t h9 hr
  refine q_ (.bool true) (q_ (pt_ b2 3) ?_)
  refine l_' (.int .u32 Right) (aL_ 90 (pt_ b2 3) H3) (r6.l_) ?_
  refine q_ (.bool (decide (Right = 4294967295))) (q_ (.bool (decide (Right = 4294967295))) (q_ (.bool (decide (Right = 4294967295))) (s_nil (k8 _ _ ?_))))
  refine w_ret ?_
  refine b_ret (fn := Try.f140) (vs := [.bool (decide (Right = 4294967295))]) (rt_ (rfl)) ?_
  obtain rfl := oi_ r10
  exact ⟨rfl, ((f0_ wf).extR e4)⟩
 have r11 := ite_f h9 hr
 refine q_ (.bool false) (n_' (n_' (n_' (q_ (.bool false) (q_ (.bool false) (s_nil (k8 _ _ ?_)))))))
 refine w_ret ?_
 refine b_ret (fn := Try.f140) (vs := [.bool false]) (rt_ (rfl)) ?_
 obtain rfl := oi_ r11
 exact ⟨rfl, ((f0_ wf).extR e4)⟩
theorem c_viaductref10_EndOf {H : AH} {hd_Node : Value} {fp_Node : Fp} {hd_UpFirst : Value} {fp_UpFirst : Fp} {hd_Up : Value} {fp_Up : Fp} {hd_DownFirst : Value} {fp_DownFirst : Fp} {hd_Down : Value} {fp_Down : Fp} {hd_ranks : Value} {fp_ranks : Fp} {Node : List (Int)} {UpFirst : List (Int)} {Up : List (Int × Int × Int × Int)} {DownFirst : List (Int)} {Down : List (Int × Int × Int × Int)} {ranks : List (Int)} {i : Int} {r : Int × Int × Int}
    (wf : WF H) (h_Node : Sq (encI .u32) 1 H hd_Node Node fp_Node) (h_UpFirst : Sq (encI .u32) 1 H hd_UpFirst UpFirst fp_UpFirst) (h_Up : Sq enc_u32_u64_u32_u32 4 H hd_Up Up fp_Up) (h_DownFirst : Sq (encI .u32) 1 H hd_DownFirst DownFirst fp_DownFirst) (h_Down : Sq enc_u32_u64_u32_u32 4 H hd_Down Down fp_Down) (h_ranks : Sq (encI .i64) 1 H hd_ranks ranks fp_ranks) (hr : z_viaductref10_EndOf Node UpFirst Up DownFirst Down ranks i = some r) :
    ACalls Try.prog 161 #[.agg #[hd_Node, hd_UpFirst, hd_Up, hd_DownFirst, hd_Down], hd_ranks, i_ i] H fun v H' => v = .agg #[i_ r.1, i_ r.2.1, i_ r.2.2] ∧ FrS [] H H' := by
 refine acalls_of_body mixed Try.func161 rfl (Nat.le_of_ble_eq_true rfl) ?_
 unfold z_viaductref10_EndOf at hr
 refine w_seqk fun _ k1 => g_' ?_
 refine s_rwl wf [hd_Node, hd_UpFirst, hd_Up, hd_DownFirst, hd_Down] (one_cons (h_Node.one1) (one_cons (h_UpFirst.one1) (one_cons (h_Up.one1) (one_cons (h_DownFirst.one1) (one_cons (h_Down.one1) (one_nil)))))) (by kernel_rfl) fun b2 H3 e4 hb5 r6 => ?_
 refine s_rwk e4.wf [i_ 0, i_ 0, i_ 0] (by kernel_rfl) fun b8 H9 e10 hb11 r12 => ?_
 refine s_nil (k1 _ _ (w_seqk fun _ k14 => g_' ?_))
 have u15 := (r6.ext e10)
 refine l_' (.agg #[hd_Node, hd_UpFirst, hd_Up, hd_DownFirst, hd_Down]) (aL_ 81 (pt_ b2 0) H9) (u15.l_) ?_
 refine q_ (i_ i) ?_
 have u16 := ((h_Node.ext e4).ext e10)
 have u17 := ((h_UpFirst.ext e4).ext e10)
 have u18 := ((h_Up.ext e4).ext e10)
 have u19 := ((h_DownFirst.ext e4).ext e10)
 have u20 := ((h_Down.ext e4).ext e10)
 obtain ⟨y21, hy22, r23⟩ := bind_some hr
 refine s_ck 139 #[.agg #[hd_Node, hd_UpFirst, hd_Up, hd_DownFirst, hd_Down], i_ i] (by kernel_rfl) (c_viaductref10_Link e10.wf u16 u17 u18 u19 u20 hy22) ?_
 rintro _ H24 ⟨rfl, e25⟩
 refine q_ (.int .u32 y21.1) ?_
 obtain ⟨g26, r27⟩ := G_some r23
 refine w_' y21.1 (wrap64 g26) ?_
 refine q_ (i_ y21.1) (s_nil (k14 _ _ (w_seqk fun _ k28 => w_seqk fun _ k29 => g_' (q_ (i_ i) (q_ (pt_ b2 2) ?_)))))
 have u30 := (u15.frS e25 Dj.nil_l)
 refine l_' (hd_Up) (aL_ 79 (pt_ b2 2) H24) (u30.l_) ?_
 have u31 := (u18.fr e25 Dj.nil_l)
 refine l_' (i_ (Up.length : Int)) (aLen Try.prog 79 hd_Up H24) (u31.lenb (by kernel_rfl)) ?_
 refine q_ (.bool (decide (i < (Up.length : Int)))) (s_nil (k29 _ _ ?_))
 refine w_condp (i < (Up.length : Int)) (by kernel_rfl) rfl (fun h32 => ?_) (fun h32 => ?_)
 ·have r33 := ite_t h32 r27
  refine w_seqk fun _ k34 => ?_
  refine w_draw [0, 1, 2, 3, 4, 5, 6, 7, 8, 9, 10] (by kernel_rfl) ?_
  refine e_' (hd_ranks) (e_' (i_ i) ?_)
  obtain ⟨g35, r36⟩ := G_some r33
  have u37 := (((h_ranks.ext e4).ext e10).fr e25 Dj.nil_l)
  refine m_' (elp hd_ranks 1 i.toNat 0) (aIndexAddr Try.prog 22 hd_ranks (i_ i)) (u37.idxb (by kernel_rfl) g35.1 g35.2) ?_
  refine m_' (i_ (gt ranks i)) (aL_ 3 (elp hd_ranks 1 i.toNat 0) H24) (u37.ld g35.1 g35.2 (by kernel_rfl)) ?_
  refine e_' (i_ y21.1) (e_' (hd_ranks) (e_' (i_ i) ?_))
  refine m_' (elp hd_ranks 1 i.toNat 0) (aIndexAddr Try.prog 22 hd_ranks (i_ i)) (u37.idxb (by kernel_rfl) g35.1 g35.2) ?_
  refine m_' (i_ (gt ranks i)) (aL_ 3 (elp hd_ranks 1 i.toNat 0) H24) (u37.ld g35.1 g35.2 (by kernel_rfl)) ?_
  refine e_' (.agg #[i_ (gt ranks i), i_ y21.1, i_ (gt ranks i)]) ?_
  have u42 := (r12.frS e25 Dj.nil_l)
  obtain ⟨H38, q39, e40, r41⟩ := Row.store (P := Try.prog) (t := 219) (p := 0) e25.wf u42 (.agg #[i_ (gt ranks i), i_ y21.1, i_ (gt ranks i)]) [i_ (gt ranks i), i_ y21.1, i_ (gt ranks i)] (by kernel_rfl) (by kernel_rfl) (one_cons (rfl) (one_cons (rfl) (one_cons (rfl) (one_nil)))) (Nat.le_of_ble_eq_true (by kernel_rfl)) [i_ (gt ranks i), i_ y21.1, i_ (gt ranks i)] (by kernel_rfl)
  refine d_ek (undef) (by kernel_rfl) (map_ok q39) (st_nil) ?_
  refine d_nil ?_
  refine k34 _ _ ?_
  refine w_ret (th_ret ?_)
  refine b_ret (fn := Try.f161) (vs := [.agg #[i_ (gt ranks i), i_ y21.1, i_ (gt ranks i)]]) (aRes_cell (Eq.trans (b := aL_ 219 (pt_ b8 0) H38) (by kernel_rfl) (r41.l_)) (rfl)) ?_
  obtain rfl := oi_ r36
  exact ⟨rfl, (FrS.step wf (FrS.step wf (((f0_ wf).extR e4).extR e10) e25 Inn.nil) e40 (hb11.fresh e4.n))⟩
 have r43 := ite_f h32 r27
 refine w_skip (k28 _ _ (w_seqk fun _ k44 => ?_))
 refine w_draw [0, 1, 2, 3, 4, 5, 6, 7, 8, 9, 10] (by kernel_rfl) ?_
 refine e_' (i_ y21.1) (e_' (hd_ranks) (e_' (i_ i) ?_))
 obtain ⟨g45, r46⟩ := G_some r43
 have u47 := (((h_ranks.ext e4).ext e10).fr e25 Dj.nil_l)
 refine m_' (elp hd_ranks 1 i.toNat 0) (aIndexAddr Try.prog 22 hd_ranks (i_ i)) (u47.idxb (by kernel_rfl) g45.1 g45.2) ?_
 refine m_' (i_ (gt ranks i)) (aL_ 3 (elp hd_ranks 1 i.toNat 0) H24) (u47.ld g45.1 g45.2 (by kernel_rfl)) ?_
 refine e_' (hd_ranks) (e_' (i_ i) ?_)
 refine m_' (elp hd_ranks 1 i.toNat 0) (aIndexAddr Try.prog 22 hd_ranks (i_ i)) (u47.idxb (by kernel_rfl) g45.1 g45.2) ?_
 refine m_' (i_ (gt ranks i)) (aL_ 3 (elp hd_ranks 1 i.toNat 0) H24) (u47.ld g45.1 g45.2 (by kernel_rfl)) ?_
 refine e_' (.agg #[i_ y21.1, i_ (gt ranks i), i_ (gt ranks i)]) ?_
 have u52 := (r12.frS e25 Dj.nil_l)
 obtain ⟨H48, q49, e50, r51⟩ := Row.store (P := Try.prog) (t := 219) (p := 0) e25.wf u52 (.agg #[i_ y21.1, i_ (gt ranks i), i_ (gt ranks i)]) [i_ y21.1, i_ (gt ranks i), i_ (gt ranks i)] (by kernel_rfl) (by kernel_rfl) (one_cons (rfl) (one_cons (rfl) (one_cons (rfl) (one_nil)))) (Nat.le_of_ble_eq_true (by kernel_rfl)) [i_ y21.1, i_ (gt ranks i), i_ (gt ranks i)] (by kernel_rfl)
 refine d_ek (undef) (by kernel_rfl) (map_ok q49) (st_nil) ?_
 refine d_nil ?_
 refine k44 _ _ ?_
 refine w_ret ?_
 refine b_ret (fn := Try.f161) (vs := [.agg #[i_ y21.1, i_ (gt ranks i), i_ (gt ranks i)]]) (aRes_cell (Eq.trans (b := aL_ 219 (pt_ b8 0) H48) (by kernel_rfl) (r51.l_)) (rfl)) ?_
 obtain rfl := oi_ r46
 exact ⟨rfl, (FrS.step wf (FrS.step wf (((f0_ wf).extR e4).extR e10) e25 Inn.nil) e50 (hb11.fresh e4.n))⟩
end Go.Vd

/-! (KHm5) -/

set_option maxRecDepth 100000
set_option maxHeartbeats 4000000
set_option linter.unusedVariables false
namespace Go.Vd
open Go.Proofs
attribute [local irreducible] wpSeq wpOrd aWp
theorem c_viaductref10_link {H : AH} {hd_Node : Value} {fp_Node : Fp} {hd_UpFirst : Value} {fp_UpFirst : Fp} {hd_Up : Value} {fp_Up : Fp} {hd_DownFirst : Value} {fp_DownFirst : Fp} {hd_Down : Value} {fp_Down : Fp} {hd_ranks : Value} {fp_ranks : Fp} {Node : List (Int)} {UpFirst : List (Int)} {Up : List (Int × Int × Int × Int)} {DownFirst : List (Int)} {Down : List (Int × Int × Int × Int)} {ranks : List (Int)} {i : Int} {r : Int × List (Int × Int)}
    (wf : WF H) (h_Node : Sq (encI .u32) 1 H hd_Node Node fp_Node) (h_UpFirst : Sq (encI .u32) 1 H hd_UpFirst UpFirst fp_UpFirst) (h_Up : Sq enc_u32_u64_u32_u32 4 H hd_Up Up fp_Up) (h_DownFirst : Sq (encI .u32) 1 H hd_DownFirst DownFirst fp_DownFirst) (h_Down : Sq enc_u32_u64_u32_u32 4 H hd_Down Down fp_Down) (h_ranks : Sq (encI .i64) 1 H hd_ranks ranks fp_ranks) (hr : z_viaductref10_link Node UpFirst Up DownFirst Down ranks i = some r) :
    ACalls Try.prog 136 #[.agg #[hd_Node, hd_UpFirst, hd_Up, hd_DownFirst, hd_Down], hd_ranks, i_ i] H fun v H' => ∃ (s3 : Value) (f4 : Fp), v = .agg #[i_ r.1, s3] ∧ FrS [] H H' ∧ Ow enc_i64_i64 2 H' s3 r.2 f4 ∧ Inn [] H f4 := by
 refine acalls_of_body mixed Try.func136 rfl (Nat.le_of_ble_eq_true rfl) ?_
 unfold z_viaductref10_link at hr
 refine w_seqk fun _ k6 => g_' ?_
 refine s_rwl wf [hd_Node, hd_UpFirst, hd_Up, hd_DownFirst, hd_Down] (one_cons (h_Node.one1) (one_cons (h_UpFirst.one1) (one_cons (h_Up.one1) (one_cons (h_DownFirst.one1) (one_cons (h_Down.one1) (one_nil)))))) (by kernel_rfl) fun b7 H8 e9 hb10 r11 => ?_
 refine s_rwk e9.wf [i_ 0, .slice none 0 0] (by kernel_rfl) fun b13 H14 e15 hb16 r17 => ?_
 refine s_nil (k6 _ _ (w_seqk fun _ k19 => ?_))
 refine w_draw [0, 1, 3, 4, 5, 6, 7, 8, 9, 10, 11, 12, 13, 2, 14, 15, 16] (by kernel_rfl) ?_
 have u20 := (r11.ext e15)
 refine m_' (.agg #[hd_Node, hd_UpFirst, hd_Up, hd_DownFirst, hd_Down]) (aL_ 81 (pt_ b7 0) H14) (u20.l_) ?_
 refine e_' (i_ i) (e_' (pt_ b7 0) ?_)
 refine d_fl (hd_Node) (x := aL_ 78 (pt_ b7 0) H14) (by kernel_rfl) (u20.l_) ?_
 have u21 := ((h_Node.ext e9).ext e15)
 refine m_' (i_ (Node.length : Int)) (aLen Try.prog 78 hd_Node H14) (u21.lenb (by kernel_rfl)) ?_
 refine e_' (pt_ b7 2) ?_
 refine d_fl (hd_Up) (x := aL_ 79 (pt_ b7 2) H14) (by kernel_rfl) (u20.l_) ?_
 have u22 := ((h_Up.ext e9).ext e15)
 refine m_' (i_ (Up.length : Int)) (aLen Try.prog 79 hd_Up H14) (u22.lenb (by kernel_rfl)) ?_
 refine e_' (pt_ b7 4) ?_
 refine d_fl (hd_Down) (x := aL_ 79 (pt_ b7 4) H14) (by kernel_rfl) (u20.l_) ?_
 have u23 := ((h_Down.ext e9).ext e15)
 refine m_' (i_ (Down.length : Int)) (aLen Try.prog 79 hd_Down H14) (u23.lenb (by kernel_rfl)) ?_
 obtain ⟨g24, r25⟩ := G_some hr
 refine d_w (((Up.length : Int) + (Down.length : Int))) (k := .i64) (x := ((Up.length : Int) + (Down.length : Int))) (by kernel_rfl) (wrap64 g24) ?_
 refine d_rwk e15.wf [.int .u32 0, .int .u64 0, .int .u32 0, .int .u32 0] (by kernel_rfl) fun b26 H27 e28 hb29 r30 => ?_
 have u32 := (u21.ext e28)
 have u33 := (((h_UpFirst.ext e9).ext e15).ext e28)
 have u34 := (u22.ext e28)
 have u35 := (((h_DownFirst.ext e9).ext e15).ext e28)
 have u36 := (u23.ext e28)
 obtain ⟨y37, hy38, r39⟩ := bind_some r25
 refine d_ck 139 #[.agg #[hd_Node, hd_UpFirst, hd_Up, hd_DownFirst, hd_Down], i_ i] (by kernel_rfl) (c_viaductref10_Link e28.wf u32 u33 u34 u35 u36 hy38) ?_
 rintro _ H40 ⟨rfl, e41⟩
 have u42 := ((u20.ext e28).frS e41 Dj.nil_l)
 refine ⟨st_ql (y := aL_ 79 (pt_ b7 4) H40) (by kernel_rfl) (u42.l_) (st_ql (y := aL_ 79 (pt_ b7 2) H40) (by kernel_rfl) (u42.l_) (st_ql (y := aL_ 78 (pt_ b7 0) H40) (by kernel_rfl) (u42.l_) (st_nil))), ?_⟩
 have u47 := (r30.frS e41 Dj.nil_l)
 obtain ⟨H43, q44, e45, r46⟩ := Row.store (P := Try.prog) (t := 93) (p := 0) e41.wf u47 (.agg #[.int .u32 y37.1, .int .u64 y37.2.1, .int .u32 y37.2.2.1, .int .u32 y37.2.2.2]) [.int .u32 y37.1, .int .u64 y37.2.1, .int .u32 y37.2.2.1, .int .u32 y37.2.2.2] (by kernel_rfl) (by kernel_rfl) (one_cons (rfl) (one_cons (rfl) (one_cons (rfl) (one_cons (rfl) (one_nil))))) (Nat.le_of_ble_eq_true (by kernel_rfl)) [.int .u32 y37.1, .int .u64 y37.2.1, .int .u32 y37.2.2.1, .int .u32 y37.2.2.2] (by kernel_rfl)
 have u48 := (u42.frS e45 (hb29.djn (r11.ltF.le e15.n)))
 refine d_ek (undef) (by kernel_rfl) (map_ok q44) (st_ql (y := aL_ 79 (pt_ b7 4) H43) (by kernel_rfl) (u48.l_) (st_ql (y := aL_ 79 (pt_ b7 2) H43) (by kernel_rfl) (u48.l_) (st_ql (y := aL_ 78 (pt_ b7 0) H43) (by kernel_rfl) (u48.l_) (st_nil)))) ?_
 refine e_' (i_ (Node.length : Int)) (e_' (i_ ((Up.length : Int) + (Down.length : Int))) ?_)
 refine d_nil ?_
 refine k19 _ _ (w_seqk fun _ k49 => g_' (q_ (i_ i) ?_))
 obtain ⟨y50, hy51, r52⟩ := bind_some r39
 refine s_ck 70 #[i_ 14] (by kernel_rfl) (c_viaductref01_E e45.wf hy51) ?_
 rintro _ H53 ⟨rfl, e54⟩
 obtain ⟨y55, hy56, r57⟩ := bind_some r52
 refine s_ck 111 #[i_ 4, i_ i, .agg #[i_ y50, .slice none 0 0]] (by kernel_rfl) (c_viaductref01_At e54.wf (Sq.nil (enc := enc_i64_i64) (sz := 2) (by decide)) hy56) ?_
 rintro _ H60 ⟨s58, f59, rfl, e61, m62, i63⟩
 obtain ⟨a65, n66, c67, rfl⟩ := m62.form
 refine s_rwk e61.wf [i_ 0, .slice none 0 0] (by kernel_rfl) fun b68 H69 e70 hb71 r72 => ?_
 have u78 := (m62.ext e70)
 obtain ⟨H74, q75, e76, r77⟩ := Row.store (P := Try.prog) (t := 46) (p := 0) e70.wf r72 (.agg #[i_ y55.1, .slice a65 n66 c67]) [i_ y55.1, .slice a65 n66 c67] (by kernel_rfl) (by kernel_rfl) (one_cons (rfl) (one_cons (u78.one1) (one_nil))) (Nat.le_of_ble_eq_true (by kernel_rfl)) [i_ y55.1, .slice a65 n66 c67] (by kernel_rfl)
 refine s_ek (undef) (by kernel_rfl) (map_ok q75) ?_
 refine s_nil (k49 _ _ (w_seqk fun _ k79 => w_seqk fun _ k80 => ?_))
 obtain ⟨o81, hx82, r83⟩ := bind_some r57
 refine w_mid (fun α H84 => Has α [(1, hd_ranks), (2, i_ i), (3, pt_ b7 0), (6, pt_ b13 0), (7, pt_ b26 0), (9, i_ ((Up.length : Int) + (Down.length : Int))), (10, pt_ b68 0), (48, .bool o81)] ∧ H74 = H84) (fun _ k86 => ?_) (fun α H84 hM => ?_)
 ·refine w_draw [0, 1, 2, 3, 4, 5, 6, 7, 8, 9, 10, 11, 12, 13, 14, 15] (by kernel_rfl) ?_
  refine e_' (pt_ b26 0) ?_
  have u88 := ((((r46.frS e54 Dj.nil_l).frS e61 Dj.nil_l).ext e70).frS e76 (hb71.djn (r30.ltF.le (t_ (t_ (t_ e41.n e45.n) e54.n) e61.n))))
  refine m_' (.int .u32 y37.1) (aL_ 90 (pt_ b26 0) H74) (u88.l_) ?_
  obtain ⟨g89, r90⟩ := G_some hx82
  refine d_w (y37.1) (k := .u64) (x := y37.1) (by kernel_rfl) (wrapu64 g89) ?_
  refine e_' (i_ (Node.length : Int)) ?_
  obtain ⟨g91, r92⟩ := G_some r90
  refine d_w ((Node.length : Int)) (k := .u64) (x := (Node.length : Int)) (by kernel_rfl) (wrapu64 (by have := g91; omega)) ?_
  refine d_b (y37.1 ≥ (Node.length : Int)) (by kernel_rfl) (fun h93 => ?_) (fun h93 => ?_)
  ·have r94 := ite_t h93 r92
   refine e_' (.bool true) (j_' (j_' (j_' (j_' (j_' (j_' (j_' (j_' (e_' (.bool true) ?_)))))))))
   refine d_nil ?_
   obtain rfl := oi_ r94
   exact k86 _ _ ⟨ha_, rfl⟩
  have r95 := ite_f h93 r92
  refine e_' (.bool false) (e_' (pt_ b26 0) ?_)
  refine m_' (.int .u32 y37.1) (aL_ 90 (pt_ b26 0) H74) (u88.l_) ?_
  obtain ⟨g96, r97⟩ := G_some r95
  refine d_w (y37.1) (k := .i64) (x := y37.1) (by kernel_rfl) (wrap64 (by have := g96; omega)) ?_
  refine e_' (hd_ranks) (e_' (i_ i) ?_)
  obtain ⟨g98, r99⟩ := G_some r97
  have u100 := (((((((((h_ranks.ext e9).ext e15).ext e28).fr e41 Dj.nil_l).fr e45 (hb29.djn (h_ranks.lt.le (t_ e9.n e15.n)))).fr e54 Dj.nil_l).fr e61 Dj.nil_l).ext e70).fr e76 (hb71.djn (h_ranks.lt.le (t_ (t_ (t_ (t_ (t_ (t_ e9.n e15.n) e28.n) e41.n) e45.n) e54.n) e61.n))))
  refine m_' (elp hd_ranks 1 i.toNat 0) (aIndexAddr Try.prog 22 hd_ranks (i_ i)) (u100.idxb (by kernel_rfl) g98.1 g98.2) ?_
  refine m_' (i_ (gt ranks i)) (aL_ 3 (elp hd_ranks 1 i.toNat 0) H74) (u100.ld g98.1 g98.2 (by kernel_rfl)) ?_
  refine e_' (.bool (decide (y37.1 ≤ (gt ranks i)))) (e_' (.bool (decide (y37.1 ≤ (gt ranks i)))) ?_)
  refine d_nil ?_
  obtain rfl := oi_ r99
  exact k86 _ _ ⟨ha_, rfl⟩
 obtain ⟨hh87, rfl⟩ := hM
 obtain ⟨β, rfl⟩ := has_ex hh87
 clear hh87
 refine k80 _ _ ?_
 refine w_cond (o81) (by kernel_rfl) rfl (fun h101 => ?_) (fun h101 => ?_)
 ·have r102 := ite_t h101 r83
  refine w_seqk fun _ k103 => g_' ?_
  refine l_' (.agg #[i_ y55.1, .slice a65 n66 c67]) (aL_ 46 (pt_ b68 0) H74) (r77.l_) ?_
  have u108 := (((((((r17.ext e28).frS e41 Dj.nil_l).frS e45 (hb29.djn r17.ltF)).frS e54 Dj.nil_l).frS e61 Dj.nil_l).ext e70).frS e76 (hb71.djn (r17.ltF.le (t_ (t_ (t_ (t_ e28.n e41.n) e45.n) e54.n) e61.n))))
  have u109 := (u78.fr e76 (hb71.djn m62.lt))
  obtain ⟨H104, q105, e106, r107⟩ := Row.store (P := Try.prog) (t := 46) (p := 0) e76.wf u108 (.agg #[i_ y55.1, .slice a65 n66 c67]) [i_ y55.1, .slice a65 n66 c67] (by kernel_rfl) (by kernel_rfl) (one_cons (rfl) (one_cons (u109.one1) (one_nil))) (Nat.le_of_ble_eq_true (by kernel_rfl)) [i_ y55.1, .slice a65 n66 c67] (by kernel_rfl)
  refine s_ek (undef) (by kernel_rfl) (map_ok q105) ?_
  refine s_nil (k103 _ _ ?_)
  refine w_ret (th_ret ?_)
  refine b_ret (fn := Try.f136) (vs := [.agg #[i_ y55.1, .slice a65 n66 c67]]) (aRes_cell (Eq.trans (b := aL_ 46 (pt_ b13 0) H104) (by kernel_rfl) (r107.l_)) (rfl)) ?_
  have u110 := (u109.fr e106 (Dj.symm (i63.djn (r17.ltF.le (t_ (t_ (t_ e28.n e41.n) e45.n) e54.n)))))
  obtain rfl := oi_ r102
  exact ⟨(.slice a65 n66 c67), f59, rfl, (FrS.step wf (FrS.step wf ((FrS.step wf (FrS.step wf (FrS.step wf (FrS.step wf ((((f0_ wf).extR e9).extR e15).extR e28) e41 Inn.nil) e45 (hb29.fresh (t_ e9.n e15.n))) e54 Inn.nil) e61 Inn.nil).extR e70) e76 (hb71.fresh (t_ (t_ (t_ (t_ (t_ (t_ e9.n e15.n) e28.n) e41.n) e45.n) e54.n) e61.n))) e106 (hb16.fresh e9.n)), u110, (i63.fresh (t_ (t_ (t_ (t_ (t_ e9.n e15.n) e28.n) e41.n) e45.n) e54.n))⟩
 have r111 := ite_bf h101 r83
 refine w_skip (k79 _ _ (w_seqk fun _ k112 => w_seqk fun _ k113 => ?_))
 obtain ⟨o114, hx115, r116⟩ := bind_some r111
 refine w_mid (fun α H117 => Has α [(1, hd_ranks), (2, i_ i), (3, pt_ b7 0), (6, pt_ b13 0), (7, pt_ b26 0), (9, i_ ((Up.length : Int) + (Down.length : Int))), (10, pt_ b68 0), (80, .bool o114)] ∧ FrS [] H74 H117) (fun _ k119 => ?_) (fun α H117 hM => ?_)
 ·refine w_draw [0, 1, 2, 3, 4, 5, 6, 7, 8, 9, 10, 11, 12, 13, 14, 15, 16, 17, 18, 19, 20, 21, 22, 23, 24, 25, 26, 27, 28, 29, 30] (by kernel_rfl) ?_
  refine e_' (i_ i) ?_
  refine d_bn (i = 0) (by kernel_rfl) (fun h121 => ?_) (fun h121 => ?_)
  ·have r122 := ite_t h121 hx115
   refine e_' (.bool false) (j_' (j_' (j_' (j_' (j_' (e_' (.bool false) (e_' (.bool false) (j_' (j_' (j_' (j_' (j_' (j_' (j_' (j_' (j_' (j_' (e_' (.bool false) (e_' (.bool false) (j_' (j_' (j_' (j_' (j_' (j_' (j_' (j_' (e_' (.bool false) ?_))))))))))))))))))))))))))))
   refine d_nil ?_
   obtain rfl := oi_ r122
   exact k119 _ _ ⟨ha_, (FrS.refl (W := []) e76.wf)⟩
  have r123 := ite_f h121 hx115
  refine e_' (.bool true) (e_' (i_ i) (e_' (pt_ b7 2) ?_))
  have u124 := ((((u48.frS e54 Dj.nil_l).frS e61 Dj.nil_l).ext e70).frS e76 (hb71.djn (r11.ltF.le (t_ (t_ (t_ (t_ (t_ e15.n e28.n) e41.n) e45.n) e54.n) e61.n))))
  refine m_' (hd_Up) (aL_ 79 (pt_ b7 2) H74) (u124.l_) ?_
  have u125 := ((((((u34.fr e41 Dj.nil_l).fr e45 (hb29.djn (h_Up.lt.le (t_ e9.n e15.n)))).fr e54 Dj.nil_l).fr e61 Dj.nil_l).ext e70).fr e76 (hb71.djn (h_Up.lt.le (t_ (t_ (t_ (t_ (t_ (t_ e9.n e15.n) e28.n) e41.n) e45.n) e54.n) e61.n))))
  refine m_' (i_ (Up.length : Int)) (aLen Try.prog 79 hd_Up H74) (u125.lenb (by kernel_rfl)) ?_
  refine d_bn (i = (Up.length : Int)) (by kernel_rfl) (fun h126 => ?_) (fun h126 => ?_)
  ·have r127 := ite_t h126 r123
   refine e_' (.bool false) (e_' (.bool false) (j_' (j_' (j_' (j_' (j_' (j_' (j_' (j_' (j_' (j_' (e_' (.bool false) (e_' (.bool false) (j_' (j_' (j_' (j_' (j_' (j_' (j_' (j_' (e_' (.bool false) ?_))))))))))))))))))))))
   refine d_nil ?_
   obtain rfl := oi_ r127
   exact k119 _ _ ⟨ha_, (FrS.refl (W := []) e76.wf)⟩
  have r128 := ite_f h126 r123
  refine e_' (.bool true) (e_' (.bool true) (e_' (hd_ranks) (e_' (i_ i) ?_)))
  obtain ⟨g129, r130⟩ := G_some r128
  refine d_w ((i - 1)) (k := .i64) (x := (i - 1)) (by kernel_rfl) (wrap64 g129) ?_
  obtain ⟨g131, r132⟩ := G_some r130
  have u133 := (((((((((h_ranks.ext e9).ext e15).ext e28).fr e41 Dj.nil_l).fr e45 (hb29.djn (h_ranks.lt.le (t_ e9.n e15.n)))).fr e54 Dj.nil_l).fr e61 Dj.nil_l).ext e70).fr e76 (hb71.djn (h_ranks.lt.le (t_ (t_ (t_ (t_ (t_ (t_ e9.n e15.n) e28.n) e41.n) e45.n) e54.n) e61.n))))
  refine m_' (elp hd_ranks 1 (i - 1).toNat 0) (aIndexAddr Try.prog 22 hd_ranks (i_ (i - 1))) (u133.idxb (by kernel_rfl) g131.1 g131.2) ?_
  refine m_' (i_ (gt ranks (i - 1))) (aL_ 3 (elp hd_ranks 1 (i - 1).toNat 0) H74) (u133.ld g131.1 g131.2 (by kernel_rfl)) ?_
  refine e_' (hd_ranks) (e_' (i_ i) ?_)
  obtain ⟨g134, r135⟩ := G_some r132
  refine m_' (elp hd_ranks 1 i.toNat 0) (aIndexAddr Try.prog 22 hd_ranks (i_ i)) (u133.idxb (by kernel_rfl) g134.1 g134.2) ?_
  refine m_' (i_ (gt ranks i)) (aL_ 3 (elp hd_ranks 1 i.toNat 0) H74) (u133.ld g134.1 g134.2 (by kernel_rfl)) ?_
  refine d_b ((gt ranks (i - 1)) = (gt ranks i)) (by kernel_rfl) (fun h136 => ?_) (fun h136 => ?_)
  ·have r137 := ite_t h136 r135
   refine e_' (.bool true) (e_' (.bool true) (e_' (pt_ b26 0) ?_))
   have u138 := ((((r46.frS e54 Dj.nil_l).frS e61 Dj.nil_l).ext e70).frS e76 (hb71.djn (r30.ltF.le (t_ (t_ (t_ e41.n e45.n) e54.n) e61.n))))
   refine d_fl (.int .u32 y37.1) (x := aL_ 90 (pt_ b26 0) H74) (by kernel_rfl) (u138.l_) ?_
   refine m_' (.agg #[hd_Node, hd_UpFirst, hd_Up, hd_DownFirst, hd_Down]) (aL_ 81 (pt_ b7 0) H74) (u124.l_) ?_
   refine e_' (i_ i) ?_
   obtain ⟨g139, r140⟩ := G_some r137
   refine d_w ((i - 1)) (k := .i64) (x := (i - 1)) (by kernel_rfl) (wrap64 (by have := g139; omega)) ?_
   have u141 := ((((((u32.fr e41 Dj.nil_l).fr e45 (hb29.djn (h_Node.lt.le (t_ e9.n e15.n)))).fr e54 Dj.nil_l).fr e61 Dj.nil_l).ext e70).fr e76 (hb71.djn (h_Node.lt.le (t_ (t_ (t_ (t_ (t_ (t_ e9.n e15.n) e28.n) e41.n) e45.n) e54.n) e61.n))))
   have u142 := ((((((u33.fr e41 Dj.nil_l).fr e45 (hb29.djn (h_UpFirst.lt.le (t_ e9.n e15.n)))).fr e54 Dj.nil_l).fr e61 Dj.nil_l).ext e70).fr e76 (hb71.djn (h_UpFirst.lt.le (t_ (t_ (t_ (t_ (t_ (t_ e9.n e15.n) e28.n) e41.n) e45.n) e54.n) e61.n))))
   have u143 := ((((((u35.fr e41 Dj.nil_l).fr e45 (hb29.djn (h_DownFirst.lt.le (t_ e9.n e15.n)))).fr e54 Dj.nil_l).fr e61 Dj.nil_l).ext e70).fr e76 (hb71.djn (h_DownFirst.lt.le (t_ (t_ (t_ (t_ (t_ (t_ e9.n e15.n) e28.n) e41.n) e45.n) e54.n) e61.n))))
   have u144 := ((((((u36.fr e41 Dj.nil_l).fr e45 (hb29.djn (h_Down.lt.le (t_ e9.n e15.n)))).fr e54 Dj.nil_l).fr e61 Dj.nil_l).ext e70).fr e76 (hb71.djn (h_Down.lt.le (t_ (t_ (t_ (t_ (t_ (t_ e9.n e15.n) e28.n) e41.n) e45.n) e54.n) e61.n))))
   obtain ⟨y145, hy146, r147⟩ := bind_some r140
   refine d_ck 139 #[.agg #[hd_Node, hd_UpFirst, hd_Up, hd_DownFirst, hd_Down], i_ (i - 1)] (by kernel_rfl) (c_viaductref10_Link e76.wf u141 u142 u125 u143 u144 hy146) ?_
   rintro _ H148 ⟨rfl, e149⟩
   have u150 := (u138.frS e149 Dj.nil_l)
   refine ⟨st_ql (y := aL_ 90 (pt_ b26 0) H148) (by kernel_rfl) (u150.l_) (st_nil), ?_⟩
   refine e_' (.int .u32 y145.1) (e_' (.bool (decide (y37.1 ≤ y145.1))) (e_' (.bool (decide (y37.1 ≤ y145.1))) ?_))
   refine d_nil ?_
   obtain rfl := oi_ r147
   exact k119 _ _ ⟨ha_, (FrS.step e76.wf (FrS.refl (W := []) e76.wf) e149 Inn.nil)⟩
  have r151 := ite_f h136 r135
  refine e_' (.bool false) (e_' (.bool false) (j_' (j_' (j_' (j_' (j_' (j_' (j_' (j_' (e_' (.bool false) ?_))))))))))
  refine d_nil ?_
  obtain rfl := oi_ r151
  exact k119 _ _ ⟨ha_, (FrS.refl (W := []) e76.wf)⟩
 obtain ⟨hh120, e118⟩ := hM
 obtain ⟨β, rfl⟩ := has_ex hh120
 clear hh120
 refine k113 _ _ ?_
 refine w_cond (o114) (by kernel_rfl) rfl (fun h152 => ?_) (fun h152 => ?_)
 ·have r153 := ite_t h152 r116
  refine w_seqk fun _ k154 => g_' ?_
  have u155 := (r77.frS e118 Dj.nil_l)
  refine l_' (.agg #[i_ y55.1, .slice a65 n66 c67]) (aL_ 46 (pt_ b68 0) H117) (u155.l_) ?_
  have u160 := ((((((((r17.ext e28).frS e41 Dj.nil_l).frS e45 (hb29.djn r17.ltF)).frS e54 Dj.nil_l).frS e61 Dj.nil_l).ext e70).frS e76 (hb71.djn (r17.ltF.le (t_ (t_ (t_ (t_ e28.n e41.n) e45.n) e54.n) e61.n)))).frS e118 Dj.nil_l)
  have u161 := ((u78.fr e76 (hb71.djn m62.lt)).fr e118 Dj.nil_l)
  obtain ⟨H156, q157, e158, r159⟩ := Row.store (P := Try.prog) (t := 46) (p := 0) e118.wf u160 (.agg #[i_ y55.1, .slice a65 n66 c67]) [i_ y55.1, .slice a65 n66 c67] (by kernel_rfl) (by kernel_rfl) (one_cons (rfl) (one_cons (u161.one1) (one_nil))) (Nat.le_of_ble_eq_true (by kernel_rfl)) [i_ y55.1, .slice a65 n66 c67] (by kernel_rfl)
  refine s_ek (undef) (by kernel_rfl) (map_ok q157) ?_
  refine s_nil (k154 _ _ ?_)
  refine w_ret (th_ret ?_)
  refine b_ret (fn := Try.f136) (vs := [.agg #[i_ y55.1, .slice a65 n66 c67]]) (aRes_cell (Eq.trans (b := aL_ 46 (pt_ b13 0) H156) (by kernel_rfl) (r159.l_)) (rfl)) ?_
  have u162 := (u161.fr e158 (Dj.symm (i63.djn (r17.ltF.le (t_ (t_ (t_ e28.n e41.n) e45.n) e54.n)))))
  obtain rfl := oi_ r153
  exact ⟨(.slice a65 n66 c67), f59, rfl, (FrS.step wf (FrS.step wf (FrS.step wf ((FrS.step wf (FrS.step wf (FrS.step wf (FrS.step wf ((((f0_ wf).extR e9).extR e15).extR e28) e41 Inn.nil) e45 (hb29.fresh (t_ e9.n e15.n))) e54 Inn.nil) e61 Inn.nil).extR e70) e76 (hb71.fresh (t_ (t_ (t_ (t_ (t_ (t_ e9.n e15.n) e28.n) e41.n) e45.n) e54.n) e61.n))) e118 Inn.nil) e158 (hb16.fresh e9.n)), u162, (i63.fresh (t_ (t_ (t_ (t_ (t_ e9.n e15.n) e28.n) e41.n) e45.n) e54.n))⟩
 have r163 := ite_bf h152 r116
 refine w_skip (k112 _ _ (w_seqk fun _ k164 => g_' (q_ (i_ i) ?_)))
 obtain ⟨y165, hy166, r167⟩ := bind_some r163
 refine s_ck 70 #[i_ 8] (by kernel_rfl) (c_viaductref01_E e118.wf hy166) ?_
 rintro _ H168 ⟨rfl, e169⟩
 obtain ⟨y170, hy171, r172⟩ := bind_some r167
 refine s_ck 111 #[i_ 4, i_ i, .agg #[i_ y165, .slice none 0 0]] (by kernel_rfl) (c_viaductref01_At e169.wf (Sq.nil (enc := enc_i64_i64) (sz := 2) (by decide)) hy171) ?_
 rintro _ H175 ⟨s173, f174, rfl, e176, m177, i178⟩
 obtain ⟨a180, n181, c182, rfl⟩ := m177.form
 refine s_rwk e176.wf [i_ 0, .slice none 0 0] (by kernel_rfl) fun b183 H184 e185 hb186 r187 => ?_
 have u193 := (m177.ext e185)
 obtain ⟨H189, q190, e191, r192⟩ := Row.store (P := Try.prog) (t := 46) (p := 0) e185.wf r187 (.agg #[i_ y170.1, .slice a180 n181 c182]) [i_ y170.1, .slice a180 n181 c182] (by kernel_rfl) (by kernel_rfl) (one_cons (rfl) (one_cons (u193.one1) (one_nil))) (Nat.le_of_ble_eq_true (by kernel_rfl)) [i_ y170.1, .slice a180 n181 c182] (by kernel_rfl)
 refine s_ek (undef) (by kernel_rfl) (map_ok q190) ?_
 refine s_nil (k164 _ _ (w_seqk fun _ k194 => w_seqk fun _ k195 => g_' ?_))
 have u196 := (((((((((r46.frS e54 Dj.nil_l).frS e61 Dj.nil_l).ext e70).frS e76 (hb71.djn (r30.ltF.le (t_ (t_ (t_ e41.n e45.n) e54.n) e61.n)))).frS e118 Dj.nil_l).frS e169 Dj.nil_l).frS e176 Dj.nil_l).ext e185).frS e191 (hb186.djn (r30.ltF.le (t_ (t_ (t_ (t_ (t_ (t_ (t_ (t_ e41.n e45.n) e54.n) e61.n) e70.n) e76.n) e118.n) e169.n) e176.n))))
 refine l_' (.agg #[.int .u32 y37.1, .int .u64 y37.2.1, .int .u32 y37.2.2.1, .int .u32 y37.2.2.2]) (aL_ 93 (pt_ b26 0) H189) (u196.l_) ?_
 obtain ⟨y197, hy198, r199⟩ := bind_some r172
 refine s_ck 140 #[.agg #[.int .u32 y37.1, .int .u64 y37.2.1, .int .u32 y37.2.2.1, .int .u32 y37.2.2.2]] (by kernel_rfl) (c_viaductref10_Plain e191.wf hy198) ?_
 rintro _ H200 ⟨rfl, e201⟩
 refine s_nil (k195 _ _ ?_)
 refine w_cond (y197) (by kernel_rfl) rfl (fun h202 => ?_) (fun h202 => ?_)
 ·have r203 := ite_t h202 r199
  refine w_seqk fun _ k204 => w_seqk fun _ k205 => g_' (q_ (pt_ b26 1) ?_)
  have u206 := (u196.frS e201 Dj.nil_l)
  refine l_' (.int .u64 y37.2.1) (aL_ 42 (pt_ b26 1) H200) (u206.l_) ?_
  refine q_ (.bool (decide (y37.2.1 > 2147483647))) (s_nil (k205 _ _ ?_))
  refine w_condp (y37.2.1 > 2147483647) (by kernel_rfl) rfl (fun h207 => ?_) (fun h207 => ?_)
  ·have r208 := ite_t h207 r203
   refine w_seqk fun _ k209 => g_' ?_
   have u210 := (r192.frS e201 Dj.nil_l)
   refine l_' (.agg #[i_ y170.1, .slice a180 n181 c182]) (aL_ 46 (pt_ b183 0) H200) (u210.l_) ?_
   have u215 := (((((((((((((r17.ext e28).frS e41 Dj.nil_l).frS e45 (hb29.djn r17.ltF)).frS e54 Dj.nil_l).frS e61 Dj.nil_l).ext e70).frS e76 (hb71.djn (r17.ltF.le (t_ (t_ (t_ (t_ e28.n e41.n) e45.n) e54.n) e61.n)))).frS e118 Dj.nil_l).frS e169 Dj.nil_l).frS e176 Dj.nil_l).ext e185).frS e191 (hb186.djn (r17.ltF.le (t_ (t_ (t_ (t_ (t_ (t_ (t_ (t_ (t_ e28.n e41.n) e45.n) e54.n) e61.n) e70.n) e76.n) e118.n) e169.n) e176.n)))).frS e201 Dj.nil_l)
   have u216 := ((u193.fr e191 (hb186.djn m177.lt)).fr e201 Dj.nil_l)
   obtain ⟨H211, q212, e213, r214⟩ := Row.store (P := Try.prog) (t := 46) (p := 0) e201.wf u215 (.agg #[i_ y170.1, .slice a180 n181 c182]) [i_ y170.1, .slice a180 n181 c182] (by kernel_rfl) (by kernel_rfl) (one_cons (rfl) (one_cons (u216.one1) (one_nil))) (Nat.le_of_ble_eq_true (by kernel_rfl)) [i_ y170.1, .slice a180 n181 c182] (by kernel_rfl)
   refine s_ek (undef) (by kernel_rfl) (map_ok q212) ?_
   refine s_nil (k209 _ _ ?_)
   refine w_ret (th_ret (th_ret ?_))
   refine b_ret (fn := Try.f136) (vs := [.agg #[i_ y170.1, .slice a180 n181 c182]]) (aRes_cell (Eq.trans (b := aL_ 46 (pt_ b13 0) H211) (by kernel_rfl) (r214.l_)) (rfl)) ?_
   have u217 := (u216.fr e213 (Dj.symm (i178.djn (r17.ltF.le (t_ (t_ (t_ (t_ (t_ (t_ (t_ (t_ e28.n e41.n) e45.n) e54.n) e61.n) e70.n) e76.n) e118.n) e169.n)))))
   obtain rfl := oi_ r208
   exact ⟨(.slice a180 n181 c182), f174, rfl, (FrS.step wf (FrS.step wf (FrS.step wf ((FrS.step wf (FrS.step wf (FrS.step wf (FrS.step wf ((FrS.step wf (FrS.step wf (FrS.step wf (FrS.step wf ((((f0_ wf).extR e9).extR e15).extR e28) e41 Inn.nil) e45 (hb29.fresh (t_ e9.n e15.n))) e54 Inn.nil) e61 Inn.nil).extR e70) e76 (hb71.fresh (t_ (t_ (t_ (t_ (t_ (t_ e9.n e15.n) e28.n) e41.n) e45.n) e54.n) e61.n))) e118 Inn.nil) e169 Inn.nil) e176 Inn.nil).extR e185) e191 (hb186.fresh (t_ (t_ (t_ (t_ (t_ (t_ (t_ (t_ (t_ (t_ (t_ e9.n e15.n) e28.n) e41.n) e45.n) e54.n) e61.n) e70.n) e76.n) e118.n) e169.n) e176.n))) e201 Inn.nil) e213 (hb16.fresh e9.n)), u217, (i178.fresh (t_ (t_ (t_ (t_ (t_ (t_ (t_ (t_ (t_ (t_ e9.n e15.n) e28.n) e41.n) e45.n) e54.n) e61.n) e70.n) e76.n) e118.n) e169.n))⟩
  have r218 := ite_f h207 r203
  refine w_skip (k204 _ _ (w_seqk fun _ k219 => g_' (q_ (.agg #[i_ 0, .slice none 0 0]) ?_)))
  have u224 := (((((((((((((r17.ext e28).frS e41 Dj.nil_l).frS e45 (hb29.djn r17.ltF)).frS e54 Dj.nil_l).frS e61 Dj.nil_l).ext e70).frS e76 (hb71.djn (r17.ltF.le (t_ (t_ (t_ (t_ e28.n e41.n) e45.n) e54.n) e61.n)))).frS e118 Dj.nil_l).frS e169 Dj.nil_l).frS e176 Dj.nil_l).ext e185).frS e191 (hb186.djn (r17.ltF.le (t_ (t_ (t_ (t_ (t_ (t_ (t_ (t_ (t_ e28.n e41.n) e45.n) e54.n) e61.n) e70.n) e76.n) e118.n) e169.n) e176.n)))).frS e201 Dj.nil_l)
  obtain ⟨H220, q221, e222, r223⟩ := Row.store (P := Try.prog) (t := 46) (p := 0) e201.wf u224 (.agg #[i_ 0, .slice none 0 0]) [i_ 0, .slice none 0 0] (by kernel_rfl) (by kernel_rfl) (one_cons (rfl) (one_cons (rfl) (one_nil))) (Nat.le_of_ble_eq_true (by kernel_rfl)) [i_ 0, .slice none 0 0] (by kernel_rfl)
  refine s_ek (undef) (by kernel_rfl) (map_ok q221) ?_
  refine s_nil (k219 _ _ ?_)
  refine w_ret (th_ret ?_)
  refine b_ret (fn := Try.f136) (vs := [.agg #[i_ 0, .slice none 0 0]]) (aRes_cell (Eq.trans (b := aL_ 46 (pt_ b13 0) H220) (by kernel_rfl) (r223.l_)) (rfl)) ?_
  obtain rfl := oi_ r218
  exact ⟨(.slice none 0 0), [], rfl, (FrS.step wf (FrS.step wf (FrS.step wf ((FrS.step wf (FrS.step wf (FrS.step wf (FrS.step wf ((FrS.step wf (FrS.step wf (FrS.step wf (FrS.step wf ((((f0_ wf).extR e9).extR e15).extR e28) e41 Inn.nil) e45 (hb29.fresh (t_ e9.n e15.n))) e54 Inn.nil) e61 Inn.nil).extR e70) e76 (hb71.fresh (t_ (t_ (t_ (t_ (t_ (t_ e9.n e15.n) e28.n) e41.n) e45.n) e54.n) e61.n))) e118 Inn.nil) e169 Inn.nil) e176 Inn.nil).extR e185) e191 (hb186.fresh (t_ (t_ (t_ (t_ (t_ (t_ (t_ (t_ (t_ (t_ (t_ e9.n e15.n) e28.n) e41.n) e45.n) e54.n) e61.n) e70.n) e76.n) e118.n) e169.n) e176.n))) e201 Inn.nil) e222 (hb16.fresh e9.n)), (Ow.nil (by decide)), Inn.nil⟩
 have r225 := ite_bf h202 r199
 refine w_skip (k194 _ _ (w_seqk fun _ k226 => w_seqk fun _ k227 => ?_))
 obtain ⟨o228, hx229, r230⟩ := bind_some r225
 refine w_mid (fun α H231 => Has α [(1, hd_ranks), (2, i_ i), (3, pt_ b7 0), (6, pt_ b13 0), (7, pt_ b26 0), (10, pt_ b68 0), (11, pt_ b183 0), (123, .bool o228)] ∧ H200 = H231) (fun _ k233 => ?_) (fun α H231 hM => ?_)
 ·refine g_' (q_ (pt_ b26 2) ?_)
  have u235 := (u196.frS e201 Dj.nil_l)
  refine l_' (.int .u32 y37.2.2.1) (aL_ 90 (pt_ b26 2) H200) (u235.l_) ?_
  obtain ⟨g236, r237⟩ := G_some hx229
  refine s_w (y37.2.2.1) (k := .u64) (x := y37.2.2.1) (by kernel_rfl) (wrapu64 g236) ?_
  refine q_ (i_ ((Up.length : Int) + (Down.length : Int))) ?_
  obtain ⟨g238, r239⟩ := G_some r237
  refine s_w (((Up.length : Int) + (Down.length : Int))) (k := .u64) (x := ((Up.length : Int) + (Down.length : Int))) (by kernel_rfl) (wrapu64 g238) ?_
  refine s_b (y37.2.2.1 ≥ ((Up.length : Int) + (Down.length : Int))) (by kernel_rfl) (fun h240 => ?_) (fun h240 => ?_)
  ·have r241 := ite_t h240 r239
   refine q_ (.bool true) (n_' (n_' (n_' (n_' (n_' (n_' (q_ (.bool true) (q_ (.bool true) (n_' (n_' (n_' (n_' (n_' (n_' (n_' (q_ (.bool true) (q_ (.bool true) (n_' (n_' (n_' (n_' (n_' (n_' (n_' (q_ (.bool true) (s_nil ?_))))))))))))))))))))))))))
   obtain rfl := oi_ r241
   exact k233 _ _ ⟨ha_, rfl⟩
  have r242 := ite_f h240 r239
  refine q_ (.bool false) (q_ (pt_ b26 3) ?_)
  refine l_' (.int .u32 y37.2.2.2) (aL_ 90 (pt_ b26 3) H200) (u235.l_) ?_
  obtain ⟨g243, r244⟩ := G_some r242
  refine s_w (y37.2.2.2) (k := .u64) (x := y37.2.2.2) (by kernel_rfl) (wrapu64 g243) ?_
  refine q_ (i_ ((Up.length : Int) + (Down.length : Int))) ?_
  obtain ⟨g245, r246⟩ := G_some r244
  refine s_w (((Up.length : Int) + (Down.length : Int))) (k := .u64) (x := ((Up.length : Int) + (Down.length : Int))) (by kernel_rfl) (wrapu64 (by have := g245; omega)) ?_
  refine s_b (y37.2.2.2 ≥ ((Up.length : Int) + (Down.length : Int))) (by kernel_rfl) (fun h247 => ?_) (fun h247 => ?_)
  ·have r248 := ite_t h247 r246
   refine q_ (.bool true) (q_ (.bool true) (n_' (n_' (n_' (n_' (n_' (n_' (n_' (q_ (.bool true) (q_ (.bool true) (n_' (n_' (n_' (n_' (n_' (n_' (n_' (q_ (.bool true) (s_nil ?_)))))))))))))))))))
   obtain rfl := oi_ r248
   exact k233 _ _ ⟨ha_, rfl⟩
  have r249 := ite_f h247 r246
  refine q_ (.bool false) (q_ (.bool false) (q_ (pt_ b26 2) ?_))
  refine l_' (.int .u32 y37.2.2.1) (aL_ 90 (pt_ b26 2) H200) (u235.l_) ?_
  obtain ⟨g250, r251⟩ := G_some r249
  refine w_' y37.2.2.1 (wrap64 (by have := g250; omega)) ?_
  refine q_ (pt_ b7 2) ?_
  have u252 := ((((((((((u48.frS e54 Dj.nil_l).frS e61 Dj.nil_l).ext e70).frS e76 (hb71.djn (r11.ltF.le (t_ (t_ (t_ (t_ (t_ e15.n e28.n) e41.n) e45.n) e54.n) e61.n)))).frS e118 Dj.nil_l).frS e169 Dj.nil_l).frS e176 Dj.nil_l).ext e185).frS e191 (hb186.djn (r11.ltF.le (t_ (t_ (t_ (t_ (t_ (t_ (t_ (t_ (t_ (t_ e15.n e28.n) e41.n) e45.n) e54.n) e61.n) e70.n) e76.n) e118.n) e169.n) e176.n)))).frS e201 Dj.nil_l)
  refine l_' (hd_Up) (aL_ 79 (pt_ b7 2) H200) (u252.l_) ?_
  have u253 := ((((((((((((u34.fr e41 Dj.nil_l).fr e45 (hb29.djn (h_Up.lt.le (t_ e9.n e15.n)))).fr e54 Dj.nil_l).fr e61 Dj.nil_l).ext e70).fr e76 (hb71.djn (h_Up.lt.le (t_ (t_ (t_ (t_ (t_ (t_ e9.n e15.n) e28.n) e41.n) e45.n) e54.n) e61.n)))).fr e118 Dj.nil_l).fr e169 Dj.nil_l).fr e176 Dj.nil_l).ext e185).fr e191 (hb186.djn (h_Up.lt.le (t_ (t_ (t_ (t_ (t_ (t_ (t_ (t_ (t_ (t_ (t_ e9.n e15.n) e28.n) e41.n) e45.n) e54.n) e61.n) e70.n) e76.n) e118.n) e169.n) e176.n)))).fr e201 Dj.nil_l)
  refine l_' (i_ (Up.length : Int)) (aLen Try.prog 79 hd_Up H200) (u253.lenb (by kernel_rfl)) ?_
  refine s_b (y37.2.2.1 < (Up.length : Int)) (by kernel_rfl) (fun h254 => ?_) (fun h254 => ?_)
  ·have r255 := ite_t h254 r251
   refine q_ (.bool true) (q_ (.bool true) (n_' (n_' (n_' (n_' (n_' (n_' (n_' (q_ (.bool true) (s_nil ?_))))))))))
   obtain rfl := oi_ r255
   exact k233 _ _ ⟨ha_, rfl⟩
  have r256 := ite_f h254 r251
  refine q_ (.bool false) (q_ (.bool false) (q_ (pt_ b26 3) ?_))
  refine l_' (.int .u32 y37.2.2.2) (aL_ 90 (pt_ b26 3) H200) (u235.l_) ?_
  obtain ⟨g257, r258⟩ := G_some r256
  refine w_' y37.2.2.2 (wrap64 (by have := g257; omega)) ?_
  refine q_ (pt_ b7 2) ?_
  refine l_' (hd_Up) (aL_ 79 (pt_ b7 2) H200) (u252.l_) ?_
  refine l_' (i_ (Up.length : Int)) (aLen Try.prog 79 hd_Up H200) (u253.lenb (by kernel_rfl)) ?_
  refine q_ (.bool (decide (y37.2.2.2 ≥ (Up.length : Int)))) (q_ (.bool (decide (y37.2.2.2 ≥ (Up.length : Int)))) (s_nil ?_))
  obtain rfl := oi_ r258
  exact k233 _ _ ⟨ha_, rfl⟩
 obtain ⟨hh234, rfl⟩ := hM
 obtain ⟨β, rfl⟩ := has_ex hh234
 clear hh234
 refine k227 _ _ ?_
 refine w_cond (o228) (by kernel_rfl) rfl (fun h259 => ?_) (fun h259 => ?_)
 ·have r260 := ite_t h259 r230
  refine w_seqk fun _ k261 => g_' ?_
  have u262 := ((((((r77.frS e118 Dj.nil_l).frS e169 Dj.nil_l).frS e176 Dj.nil_l).ext e185).frS e191 (hb186.djn (r72.ltF.le (t_ (t_ (t_ e76.n e118.n) e169.n) e176.n)))).frS e201 Dj.nil_l)
  refine l_' (.agg #[i_ y55.1, .slice a65 n66 c67]) (aL_ 46 (pt_ b68 0) H200) (u262.l_) ?_
  have u267 := (((((((((((((r17.ext e28).frS e41 Dj.nil_l).frS e45 (hb29.djn r17.ltF)).frS e54 Dj.nil_l).frS e61 Dj.nil_l).ext e70).frS e76 (hb71.djn (r17.ltF.le (t_ (t_ (t_ (t_ e28.n e41.n) e45.n) e54.n) e61.n)))).frS e118 Dj.nil_l).frS e169 Dj.nil_l).frS e176 Dj.nil_l).ext e185).frS e191 (hb186.djn (r17.ltF.le (t_ (t_ (t_ (t_ (t_ (t_ (t_ (t_ (t_ e28.n e41.n) e45.n) e54.n) e61.n) e70.n) e76.n) e118.n) e169.n) e176.n)))).frS e201 Dj.nil_l)
  have u268 := (((((((u78.fr e76 (hb71.djn m62.lt)).fr e118 Dj.nil_l).fr e169 Dj.nil_l).fr e176 Dj.nil_l).ext e185).fr e191 (hb186.djn (m62.lt.le (t_ (t_ (t_ (t_ e70.n e76.n) e118.n) e169.n) e176.n)))).fr e201 Dj.nil_l)
  obtain ⟨H263, q264, e265, r266⟩ := Row.store (P := Try.prog) (t := 46) (p := 0) e201.wf u267 (.agg #[i_ y55.1, .slice a65 n66 c67]) [i_ y55.1, .slice a65 n66 c67] (by kernel_rfl) (by kernel_rfl) (one_cons (rfl) (one_cons (u268.one1) (one_nil))) (Nat.le_of_ble_eq_true (by kernel_rfl)) [i_ y55.1, .slice a65 n66 c67] (by kernel_rfl)
  refine s_ek (undef) (by kernel_rfl) (map_ok q264) ?_
  refine s_nil (k261 _ _ ?_)
  refine w_ret (th_ret ?_)
  refine b_ret (fn := Try.f136) (vs := [.agg #[i_ y55.1, .slice a65 n66 c67]]) (aRes_cell (Eq.trans (b := aL_ 46 (pt_ b13 0) H263) (by kernel_rfl) (r266.l_)) (rfl)) ?_
  have u269 := (u268.fr e265 (Dj.symm (i63.djn (r17.ltF.le (t_ (t_ (t_ e28.n e41.n) e45.n) e54.n)))))
  obtain rfl := oi_ r260
  exact ⟨(.slice a65 n66 c67), f59, rfl, (FrS.step wf (FrS.step wf (FrS.step wf ((FrS.step wf (FrS.step wf (FrS.step wf (FrS.step wf ((FrS.step wf (FrS.step wf (FrS.step wf (FrS.step wf ((((f0_ wf).extR e9).extR e15).extR e28) e41 Inn.nil) e45 (hb29.fresh (t_ e9.n e15.n))) e54 Inn.nil) e61 Inn.nil).extR e70) e76 (hb71.fresh (t_ (t_ (t_ (t_ (t_ (t_ e9.n e15.n) e28.n) e41.n) e45.n) e54.n) e61.n))) e118 Inn.nil) e169 Inn.nil) e176 Inn.nil).extR e185) e191 (hb186.fresh (t_ (t_ (t_ (t_ (t_ (t_ (t_ (t_ (t_ (t_ (t_ e9.n e15.n) e28.n) e41.n) e45.n) e54.n) e61.n) e70.n) e76.n) e118.n) e169.n) e176.n))) e201 Inn.nil) e265 (hb16.fresh e9.n)), u269, (i63.fresh (t_ (t_ (t_ (t_ (t_ e9.n e15.n) e28.n) e41.n) e45.n) e54.n))⟩
 have r270 := ite_bf h259 r230
 refine w_skip (k226 _ _ (w_seqk fun _ k271 => ?_))
 refine w_draw [0, 1, 2, 4, 5, 6, 7, 8, 10, 11, 12, 13, 14, 16, 17, 18, 3, 9, 15, 19, 20, 21] (by kernel_rfl) ?_
 have u272 := ((((((((((u48.frS e54 Dj.nil_l).frS e61 Dj.nil_l).ext e70).frS e76 (hb71.djn (r11.ltF.le (t_ (t_ (t_ (t_ (t_ e15.n e28.n) e41.n) e45.n) e54.n) e61.n)))).frS e118 Dj.nil_l).frS e169 Dj.nil_l).frS e176 Dj.nil_l).ext e185).frS e191 (hb186.djn (r11.ltF.le (t_ (t_ (t_ (t_ (t_ (t_ (t_ (t_ (t_ (t_ e15.n e28.n) e41.n) e45.n) e54.n) e61.n) e70.n) e76.n) e118.n) e169.n) e176.n)))).frS e201 Dj.nil_l)
 refine m_' (.agg #[hd_Node, hd_UpFirst, hd_Up, hd_DownFirst, hd_Down]) (aL_ 81 (pt_ b7 0) H200) (u272.l_) ?_
 refine e_' (hd_ranks) (e_' (i_ i) ?_)
 refine d_fl (.agg #[hd_Node, hd_UpFirst, hd_Up, hd_DownFirst, hd_Down]) (x := aL_ 81 (pt_ b7 0) H200) (by kernel_rfl) (u272.l_) ?_
 refine e_' (hd_ranks) (e_' (pt_ b26 2) ?_)
 have u273 := (u196.frS e201 Dj.nil_l)
 refine d_fl (.int .u32 y37.2.2.1) (x := aL_ 90 (pt_ b26 2) H200) (by kernel_rfl) (u273.l_) ?_
 obtain ⟨g274, r275⟩ := G_some r270
 refine d_w (y37.2.2.1) (k := .i64) (x := y37.2.2.1) (by kernel_rfl) (wrap64 g274) ?_
 refine d_fl (.agg #[hd_Node, hd_UpFirst, hd_Up, hd_DownFirst, hd_Down]) (x := aL_ 81 (pt_ b7 0) H200) (by kernel_rfl) (u272.l_) ?_
 refine e_' (hd_ranks) (e_' (pt_ b26 3) ?_)
 refine d_fl (.int .u32 y37.2.2.2) (x := aL_ 90 (pt_ b26 3) H200) (by kernel_rfl) (u273.l_) ?_
 obtain ⟨g276, r277⟩ := G_some r275
 refine d_w (y37.2.2.2) (k := .i64) (x := y37.2.2.2) (by kernel_rfl) (wrap64 g276) ?_
 refine d_rwk e201.wf [i_ 0, i_ 0, i_ 0] (by kernel_rfl) fun b278 H279 e280 hb281 r282 => ?_
 refine d_rwk e280.wf [i_ 0, i_ 0, i_ 0] (by kernel_rfl) fun b284 H285 e286 hb287 r288 => ?_
 refine d_rwk e286.wf [i_ 0, i_ 0, i_ 0] (by kernel_rfl) fun b290 H291 e292 hb293 r294 => ?_
 have u296 := (((((((((((((((u32.fr e41 Dj.nil_l).fr e45 (hb29.djn (h_Node.lt.le (t_ e9.n e15.n)))).fr e54 Dj.nil_l).fr e61 Dj.nil_l).ext e70).fr e76 (hb71.djn (h_Node.lt.le (t_ (t_ (t_ (t_ (t_ (t_ e9.n e15.n) e28.n) e41.n) e45.n) e54.n) e61.n)))).fr e118 Dj.nil_l).fr e169 Dj.nil_l).fr e176 Dj.nil_l).ext e185).fr e191 (hb186.djn (h_Node.lt.le (t_ (t_ (t_ (t_ (t_ (t_ (t_ (t_ (t_ (t_ (t_ e9.n e15.n) e28.n) e41.n) e45.n) e54.n) e61.n) e70.n) e76.n) e118.n) e169.n) e176.n)))).fr e201 Dj.nil_l).ext e280).ext e286).ext e292)
 have u297 := (((((((((((((((u33.fr e41 Dj.nil_l).fr e45 (hb29.djn (h_UpFirst.lt.le (t_ e9.n e15.n)))).fr e54 Dj.nil_l).fr e61 Dj.nil_l).ext e70).fr e76 (hb71.djn (h_UpFirst.lt.le (t_ (t_ (t_ (t_ (t_ (t_ e9.n e15.n) e28.n) e41.n) e45.n) e54.n) e61.n)))).fr e118 Dj.nil_l).fr e169 Dj.nil_l).fr e176 Dj.nil_l).ext e185).fr e191 (hb186.djn (h_UpFirst.lt.le (t_ (t_ (t_ (t_ (t_ (t_ (t_ (t_ (t_ (t_ (t_ e9.n e15.n) e28.n) e41.n) e45.n) e54.n) e61.n) e70.n) e76.n) e118.n) e169.n) e176.n)))).fr e201 Dj.nil_l).ext e280).ext e286).ext e292)
 have u298 := (((((((((((((((u34.fr e41 Dj.nil_l).fr e45 (hb29.djn (h_Up.lt.le (t_ e9.n e15.n)))).fr e54 Dj.nil_l).fr e61 Dj.nil_l).ext e70).fr e76 (hb71.djn (h_Up.lt.le (t_ (t_ (t_ (t_ (t_ (t_ e9.n e15.n) e28.n) e41.n) e45.n) e54.n) e61.n)))).fr e118 Dj.nil_l).fr e169 Dj.nil_l).fr e176 Dj.nil_l).ext e185).fr e191 (hb186.djn (h_Up.lt.le (t_ (t_ (t_ (t_ (t_ (t_ (t_ (t_ (t_ (t_ (t_ e9.n e15.n) e28.n) e41.n) e45.n) e54.n) e61.n) e70.n) e76.n) e118.n) e169.n) e176.n)))).fr e201 Dj.nil_l).ext e280).ext e286).ext e292)
 have u299 := (((((((((((((((u35.fr e41 Dj.nil_l).fr e45 (hb29.djn (h_DownFirst.lt.le (t_ e9.n e15.n)))).fr e54 Dj.nil_l).fr e61 Dj.nil_l).ext e70).fr e76 (hb71.djn (h_DownFirst.lt.le (t_ (t_ (t_ (t_ (t_ (t_ e9.n e15.n) e28.n) e41.n) e45.n) e54.n) e61.n)))).fr e118 Dj.nil_l).fr e169 Dj.nil_l).fr e176 Dj.nil_l).ext e185).fr e191 (hb186.djn (h_DownFirst.lt.le (t_ (t_ (t_ (t_ (t_ (t_ (t_ (t_ (t_ (t_ (t_ e9.n e15.n) e28.n) e41.n) e45.n) e54.n) e61.n) e70.n) e76.n) e118.n) e169.n) e176.n)))).fr e201 Dj.nil_l).ext e280).ext e286).ext e292)
 have u300 := (((((((((((((((u36.fr e41 Dj.nil_l).fr e45 (hb29.djn (h_Down.lt.le (t_ e9.n e15.n)))).fr e54 Dj.nil_l).fr e61 Dj.nil_l).ext e70).fr e76 (hb71.djn (h_Down.lt.le (t_ (t_ (t_ (t_ (t_ (t_ e9.n e15.n) e28.n) e41.n) e45.n) e54.n) e61.n)))).fr e118 Dj.nil_l).fr e169 Dj.nil_l).fr e176 Dj.nil_l).ext e185).fr e191 (hb186.djn (h_Down.lt.le (t_ (t_ (t_ (t_ (t_ (t_ (t_ (t_ (t_ (t_ (t_ e9.n e15.n) e28.n) e41.n) e45.n) e54.n) e61.n) e70.n) e76.n) e118.n) e169.n) e176.n)))).fr e201 Dj.nil_l).ext e280).ext e286).ext e292)
 have u301 := ((((((((((((((((((h_ranks.ext e9).ext e15).ext e28).fr e41 Dj.nil_l).fr e45 (hb29.djn (h_ranks.lt.le (t_ e9.n e15.n)))).fr e54 Dj.nil_l).fr e61 Dj.nil_l).ext e70).fr e76 (hb71.djn (h_ranks.lt.le (t_ (t_ (t_ (t_ (t_ (t_ e9.n e15.n) e28.n) e41.n) e45.n) e54.n) e61.n)))).fr e118 Dj.nil_l).fr e169 Dj.nil_l).fr e176 Dj.nil_l).ext e185).fr e191 (hb186.djn (h_ranks.lt.le (t_ (t_ (t_ (t_ (t_ (t_ (t_ (t_ (t_ (t_ (t_ e9.n e15.n) e28.n) e41.n) e45.n) e54.n) e61.n) e70.n) e76.n) e118.n) e169.n) e176.n)))).fr e201 Dj.nil_l).ext e280).ext e286).ext e292)
 obtain ⟨y302, hy303, r304⟩ := bind_some r277
 refine d_ck 161 #[.agg #[hd_Node, hd_UpFirst, hd_Up, hd_DownFirst, hd_Down], hd_ranks, i_ i] (by kernel_rfl) (c_viaductref10_EndOf e292.wf u296 u297 u298 u299 u300 u301 hy303) ?_
 rintro _ H305 ⟨rfl, e306⟩
 have u307 := ((((u272.ext e280).ext e286).ext e292).frS e306 Dj.nil_l)
 have u308 := ((((u273.ext e280).ext e286).ext e292).frS e306 Dj.nil_l)
 refine ⟨st_ql (y := aL_ 90 (pt_ b26 3) H305) (by kernel_rfl) (u308.l_) (st_ql (y := aL_ 81 (pt_ b7 0) H305) (by kernel_rfl) (u307.l_) (st_ql (y := aL_ 90 (pt_ b26 2) H305) (by kernel_rfl) (u308.l_) (st_ql (y := aL_ 81 (pt_ b7 0) H305) (by kernel_rfl) (u307.l_) (st_nil)))), ?_⟩
 have u309 := (u296.fr e306 Dj.nil_l)
 have u310 := (u297.fr e306 Dj.nil_l)
 have u311 := (u298.fr e306 Dj.nil_l)
 have u312 := (u299.fr e306 Dj.nil_l)
 have u313 := (u300.fr e306 Dj.nil_l)
 have u314 := (u301.fr e306 Dj.nil_l)
 obtain ⟨y315, hy316, r317⟩ := bind_some r304
 refine d_ck 161 #[.agg #[hd_Node, hd_UpFirst, hd_Up, hd_DownFirst, hd_Down], hd_ranks, i_ y37.2.2.1] (by kernel_rfl) (c_viaductref10_EndOf e306.wf u309 u310 u311 u312 u313 u314 hy316) ?_
 rintro _ H318 ⟨rfl, e319⟩
 have u320 := (u307.frS e319 Dj.nil_l)
 have u321 := (u308.frS e319 Dj.nil_l)
 refine ⟨st_ql (y := aL_ 90 (pt_ b26 3) H318) (by kernel_rfl) (u321.l_) (st_ql (y := aL_ 81 (pt_ b7 0) H318) (by kernel_rfl) (u320.l_) (st_anc (by kernel_rfl) (st_anc (by kernel_rfl) (st_nil)))), ?_⟩
 have u322 := (u309.fr e319 Dj.nil_l)
 have u323 := (u310.fr e319 Dj.nil_l)
 have u324 := (u311.fr e319 Dj.nil_l)
 have u325 := (u312.fr e319 Dj.nil_l)
 have u326 := (u313.fr e319 Dj.nil_l)
 have u327 := (u314.fr e319 Dj.nil_l)
 obtain ⟨y328, hy329, r330⟩ := bind_some r317
 refine d_ck 161 #[.agg #[hd_Node, hd_UpFirst, hd_Up, hd_DownFirst, hd_Down], hd_ranks, i_ y37.2.2.2] (by kernel_rfl) (c_viaductref10_EndOf e319.wf u322 u323 u324 u325 u326 u327 hy329) ?_
 rintro _ H331 ⟨rfl, e332⟩
 refine ⟨st_anc (by kernel_rfl) (st_anc (by kernel_rfl) (st_anc (by kernel_rfl) (st_anc (by kernel_rfl) (st_nil)))), ?_⟩
 have u337 := (((((r282.ext e286).ext e292).frS e306 Dj.nil_l).frS e319 Dj.nil_l).frS e332 Dj.nil_l)
 obtain ⟨H333, q334, e335, r336⟩ := Row.store (P := Try.prog) (t := 219) (p := 0) e332.wf u337 (.agg #[i_ y302.1, i_ y302.2.1, i_ y302.2.2]) [i_ y302.1, i_ y302.2.1, i_ y302.2.2] (by kernel_rfl) (by kernel_rfl) (one_cons (rfl) (one_cons (rfl) (one_cons (rfl) (one_nil)))) (Nat.le_of_ble_eq_true (by kernel_rfl)) [i_ y302.1, i_ y302.2.1, i_ y302.2.2] (by kernel_rfl)
 refine d_ek (undef) (by kernel_rfl) (map_ok q334) (st_anc (by kernel_rfl) (st_anc (by kernel_rfl) (st_anc (by kernel_rfl) (st_anc (by kernel_rfl) (st_nil))))) ?_
 have u342 := (((((r288.ext e292).frS e306 Dj.nil_l).frS e319 Dj.nil_l).frS e332 Dj.nil_l).frS e335 (Dj.symm (hb287.djn r282.ltF)))
 obtain ⟨H338, q339, e340, r341⟩ := Row.store (P := Try.prog) (t := 219) (p := 0) e335.wf u342 (.agg #[i_ y315.1, i_ y315.2.1, i_ y315.2.2]) [i_ y315.1, i_ y315.2.1, i_ y315.2.2] (by kernel_rfl) (by kernel_rfl) (one_cons (rfl) (one_cons (rfl) (one_cons (rfl) (one_nil)))) (Nat.le_of_ble_eq_true (by kernel_rfl)) [i_ y315.1, i_ y315.2.1, i_ y315.2.2] (by kernel_rfl)
 refine d_ek (undef) (by kernel_rfl) (map_ok q339) (st_anc (by kernel_rfl) (st_anc (by kernel_rfl) (st_anc (by kernel_rfl) (st_anc (by kernel_rfl) (st_nil))))) ?_
 have u347 := (((((r294.frS e306 Dj.nil_l).frS e319 Dj.nil_l).frS e332 Dj.nil_l).frS e335 (Dj.symm (hb293.djn (r282.ltF.le e286.n)))).frS e340 (Dj.symm (hb293.djn r288.ltF)))
 obtain ⟨H343, q344, e345, r346⟩ := Row.store (P := Try.prog) (t := 219) (p := 0) e340.wf u347 (.agg #[i_ y328.1, i_ y328.2.1, i_ y328.2.2]) [i_ y328.1, i_ y328.2.1, i_ y328.2.2] (by kernel_rfl) (by kernel_rfl) (one_cons (rfl) (one_cons (rfl) (one_cons (rfl) (one_nil)))) (Nat.le_of_ble_eq_true (by kernel_rfl)) [i_ y328.1, i_ y328.2.1, i_ y328.2.2] (by kernel_rfl)
 refine d_ek (undef) (by kernel_rfl) (map_ok q344) (st_anc (by kernel_rfl) (st_anc (by kernel_rfl) (st_anc (by kernel_rfl) (st_anc (by kernel_rfl) (st_nil))))) ?_
 refine d_nil ?_
 refine k271 _ _ (w_seqk fun _ k348 => w_seqk fun _ k349 => ?_)
 obtain ⟨o350, hx351, r352⟩ := bind_some r330
 refine w_mid (fun α H353 => Has α [(3, pt_ b7 0), (6, pt_ b13 0), (7, pt_ b26 0), (10, pt_ b68 0), (11, pt_ b183 0), (159, .bool o350)] ∧ H343 = H353) (fun _ k355 => ?_) (fun α H353 hM => ?_)
 ·refine g_' (q_ (pt_ b284 0) ?_)
  have u357 := (r341.frS e345 (hb293.djn r288.ltF))
  refine l_' (i_ y315.1) (aL_ 3 (pt_ b284 0) H343) (u357.l_) ?_
  refine q_ (pt_ b278 0) ?_
  have u358 := ((r336.frS e340 (hb287.djn r282.ltF)).frS e345 (hb293.djn (r282.ltF.le e286.n)))
  refine l_' (i_ y302.1) (aL_ 3 (pt_ b278 0) H343) (u358.l_) ?_
  refine s_bn (y315.1 = y302.1) (by kernel_rfl) (fun h359 => ?_) (fun h359 => ?_)
  ·have r360 := ite_t h359 hx351
   refine q_ (.bool false) (q_ (pt_ b290 1) ?_)
   refine l_' (i_ y328.2.1) (aL_ 3 (pt_ b290 1) H343) (r346.l_) ?_
   refine q_ (pt_ b278 1) ?_
   refine l_' (i_ y302.2.1) (aL_ 3 (pt_ b278 1) H343) (u358.l_) ?_
   refine s_bn (y328.2.1 = y302.2.1) (by kernel_rfl) (fun h361 => ?_) (fun h361 => ?_)
   ·have r362 := ite_t h361 r360
    refine q_ (.bool false) (q_ (.bool false) (q_ (pt_ b284 2) ?_))
    refine l_' (i_ y315.2.2) (aL_ 3 (pt_ b284 2) H343) (u357.l_) ?_
    refine q_ (pt_ b290 2) ?_
    refine l_' (i_ y328.2.2) (aL_ 3 (pt_ b290 2) H343) (r346.l_) ?_
    refine q_ (.bool (!decide (y315.2.2 = y328.2.2))) (q_ (.bool (!decide (y315.2.2 = y328.2.2))) (s_nil ?_))
    obtain rfl := oi_ r362
    exact k355 _ _ ⟨ha_, rfl⟩
   have r363 := ite_f h361 r360
   refine q_ (.bool true) (q_ (.bool true) (n_' (n_' (n_' (n_' (n_' (q_ (.bool true) (s_nil ?_))))))))
   obtain rfl := oi_ r363
   exact k355 _ _ ⟨ha_, rfl⟩
  have r364 := ite_f h359 hx351
  refine q_ (.bool true) (n_' (n_' (n_' (n_' (n_' (q_ (.bool true) (q_ (.bool true) (n_' (n_' (n_' (n_' (n_' (q_ (.bool true) (s_nil ?_))))))))))))))
  obtain rfl := oi_ r364
  exact k355 _ _ ⟨ha_, rfl⟩
 obtain ⟨hh356, rfl⟩ := hM
 obtain ⟨β, rfl⟩ := has_ex hh356
 clear hh356
 refine k349 _ _ ?_
 refine w_cond (o350) (by kernel_rfl) rfl (fun h365 => ?_) (fun h365 => ?_)
 ·have r366 := ite_t h365 r352
  refine w_seqk fun _ k367 => g_' ?_
  have u368 := (((((((((((((((r77.frS e118 Dj.nil_l).frS e169 Dj.nil_l).frS e176 Dj.nil_l).ext e185).frS e191 (hb186.djn (r72.ltF.le (t_ (t_ (t_ e76.n e118.n) e169.n) e176.n)))).frS e201 Dj.nil_l).ext e280).ext e286).ext e292).frS e306 Dj.nil_l).frS e319 Dj.nil_l).frS e332 Dj.nil_l).frS e335 (hb281.djn (r72.ltF.le (t_ (t_ (t_ (t_ (t_ (t_ e76.n e118.n) e169.n) e176.n) e185.n) e191.n) e201.n)))).frS e340 (hb287.djn (r72.ltF.le (t_ (t_ (t_ (t_ (t_ (t_ (t_ e76.n e118.n) e169.n) e176.n) e185.n) e191.n) e201.n) e280.n)))).frS e345 (hb293.djn (r72.ltF.le (t_ (t_ (t_ (t_ (t_ (t_ (t_ (t_ e76.n e118.n) e169.n) e176.n) e185.n) e191.n) e201.n) e280.n) e286.n))))
  refine l_' (.agg #[i_ y55.1, .slice a65 n66 c67]) (aL_ 46 (pt_ b68 0) H343) (u368.l_) ?_
  have u373 := ((((((((((((((((((((((r17.ext e28).frS e41 Dj.nil_l).frS e45 (hb29.djn r17.ltF)).frS e54 Dj.nil_l).frS e61 Dj.nil_l).ext e70).frS e76 (hb71.djn (r17.ltF.le (t_ (t_ (t_ (t_ e28.n e41.n) e45.n) e54.n) e61.n)))).frS e118 Dj.nil_l).frS e169 Dj.nil_l).frS e176 Dj.nil_l).ext e185).frS e191 (hb186.djn (r17.ltF.le (t_ (t_ (t_ (t_ (t_ (t_ (t_ (t_ (t_ e28.n e41.n) e45.n) e54.n) e61.n) e70.n) e76.n) e118.n) e169.n) e176.n)))).frS e201 Dj.nil_l).ext e280).ext e286).ext e292).frS e306 Dj.nil_l).frS e319 Dj.nil_l).frS e332 Dj.nil_l).frS e335 (hb281.djn (r17.ltF.le (t_ (t_ (t_ (t_ (t_ (t_ (t_ (t_ (t_ (t_ (t_ (t_ e28.n e41.n) e45.n) e54.n) e61.n) e70.n) e76.n) e118.n) e169.n) e176.n) e185.n) e191.n) e201.n)))).frS e340 (hb287.djn (r17.ltF.le (t_ (t_ (t_ (t_ (t_ (t_ (t_ (t_ (t_ (t_ (t_ (t_ (t_ e28.n e41.n) e45.n) e54.n) e61.n) e70.n) e76.n) e118.n) e169.n) e176.n) e185.n) e191.n) e201.n) e280.n)))).frS e345 (hb293.djn (r17.ltF.le (t_ (t_ (t_ (t_ (t_ (t_ (t_ (t_ (t_ (t_ (t_ (t_ (t_ (t_ e28.n e41.n) e45.n) e54.n) e61.n) e70.n) e76.n) e118.n) e169.n) e176.n) e185.n) e191.n) e201.n) e280.n) e286.n))))
  have u374 := ((((((((((((((((u78.fr e76 (hb71.djn m62.lt)).fr e118 Dj.nil_l).fr e169 Dj.nil_l).fr e176 Dj.nil_l).ext e185).fr e191 (hb186.djn (m62.lt.le (t_ (t_ (t_ (t_ e70.n e76.n) e118.n) e169.n) e176.n)))).fr e201 Dj.nil_l).ext e280).ext e286).ext e292).fr e306 Dj.nil_l).fr e319 Dj.nil_l).fr e332 Dj.nil_l).fr e335 (hb281.djn (m62.lt.le (t_ (t_ (t_ (t_ (t_ (t_ (t_ e70.n e76.n) e118.n) e169.n) e176.n) e185.n) e191.n) e201.n)))).fr e340 (hb287.djn (m62.lt.le (t_ (t_ (t_ (t_ (t_ (t_ (t_ (t_ e70.n e76.n) e118.n) e169.n) e176.n) e185.n) e191.n) e201.n) e280.n)))).fr e345 (hb293.djn (m62.lt.le (t_ (t_ (t_ (t_ (t_ (t_ (t_ (t_ (t_ e70.n e76.n) e118.n) e169.n) e176.n) e185.n) e191.n) e201.n) e280.n) e286.n))))
  obtain ⟨H369, q370, e371, r372⟩ := Row.store (P := Try.prog) (t := 46) (p := 0) e345.wf u373 (.agg #[i_ y55.1, .slice a65 n66 c67]) [i_ y55.1, .slice a65 n66 c67] (by kernel_rfl) (by kernel_rfl) (one_cons (rfl) (one_cons (u374.one1) (one_nil))) (Nat.le_of_ble_eq_true (by kernel_rfl)) [i_ y55.1, .slice a65 n66 c67] (by kernel_rfl)
  refine s_ek (undef) (by kernel_rfl) (map_ok q370) ?_
  refine s_nil (k367 _ _ ?_)
  refine w_ret (th_ret ?_)
  refine b_ret (fn := Try.f136) (vs := [.agg #[i_ y55.1, .slice a65 n66 c67]]) (aRes_cell (Eq.trans (b := aL_ 46 (pt_ b13 0) H369) (by kernel_rfl) (r372.l_)) (rfl)) ?_
  have c375 := ((FrS.step wf (FrS.step wf (FrS.step wf (FrS.step wf ((((f0_ wf).extR e9).extR e15).extR e28) e41 Inn.nil) e45 (hb29.fresh (t_ e9.n e15.n))) e54 Inn.nil) e61 Inn.nil).extR e70)
  have n376 := (t_ (t_ (t_ (t_ (t_ (t_ (t_ e9.n e15.n) e28.n) e41.n) e45.n) e54.n) e61.n) e70.n)
  have n377 := (t_ (t_ (t_ (t_ (t_ (t_ (t_ e76.n e118.n) e169.n) e176.n) e185.n) e191.n) e201.n) e280.n)
  have u378 := (u374.fr e371 (Dj.symm (i63.djn (r17.ltF.le (t_ (t_ (t_ e28.n e41.n) e45.n) e54.n)))))
  obtain rfl := oi_ r366
  exact ⟨(.slice a65 n66 c67), f59, rfl, (FrS.step wf (FrS.step wf (FrS.step wf (FrS.step wf (FrS.step wf (FrS.step wf (FrS.step wf ((((FrS.step wf (FrS.step wf ((FrS.step wf (FrS.step wf (FrS.step wf (FrS.step wf (FrS.step wf (f0_ wf) c375 Inn.nil) e76 (hb71.fresh (t_ (t_ (t_ (t_ (t_ (t_ e9.n e15.n) e28.n) e41.n) e45.n) e54.n) e61.n))) e118 Inn.nil) e169 Inn.nil) e176 Inn.nil).extR e185) e191 (hb186.fresh (t_ (t_ (t_ (t_ (t_ (t_ (t_ (t_ (t_ (t_ (t_ e9.n e15.n) e28.n) e41.n) e45.n) e54.n) e61.n) e70.n) e76.n) e118.n) e169.n) e176.n))) e201 Inn.nil).extR e280).extR e286).extR e292) e306 Inn.nil) e319 Inn.nil) e332 Inn.nil) e335 (hb281.fresh (t_ (t_ (t_ (t_ (t_ (t_ (t_ (t_ (t_ (t_ (t_ (t_ (t_ (t_ e9.n e15.n) e28.n) e41.n) e45.n) e54.n) e61.n) e70.n) e76.n) e118.n) e169.n) e176.n) e185.n) e191.n) e201.n))) e340 (hb287.fresh (t_ n376 n377))) e345 (hb293.fresh (t_ (t_ n376 n377) e286.n))) e371 (hb16.fresh e9.n)), u378, (i63.fresh (t_ (t_ (t_ (t_ (t_ e9.n e15.n) e28.n) e41.n) e45.n) e54.n))⟩
 have r379 := ite_bf h365 r352
 refine w_skip (k348 _ _ (w_seqk fun _ k380 => ?_))
 refine w_draw [0, 1, 2, 3, 6, 7, 8, 9, 4, 5, 10, 11, 12, 13] (by kernel_rfl) ?_
 have n381 := (t_ (t_ (t_ (t_ (t_ (t_ (t_ e76.n e118.n) e169.n) e176.n) e185.n) e191.n) e201.n) e280.n)
 have u382 := ((((u320.frS e332 Dj.nil_l).frS e335 (hb281.djn (r11.ltF.le (t_ (t_ (t_ (t_ (t_ (t_ (t_ (t_ (t_ (t_ (t_ (t_ (t_ e15.n e28.n) e41.n) e45.n) e54.n) e61.n) e70.n) e76.n) e118.n) e169.n) e176.n) e185.n) e191.n) e201.n)))).frS e340 (hb287.djn (r11.ltF.le (t_ (t_ (t_ (t_ (t_ (t_ (t_ (t_ (t_ (t_ (t_ (t_ (t_ (t_ e15.n e28.n) e41.n) e45.n) e54.n) e61.n) e70.n) e76.n) e118.n) e169.n) e176.n) e185.n) e191.n) e201.n) e280.n)))).frS e345 (hb293.djn (r11.ltF.le (t_ (t_ (t_ (t_ (t_ (t_ (t_ (t_ e15.n e28.n) e41.n) e45.n) e54.n) e61.n) e70.n) n381) e286.n))))
 refine m_' (.agg #[hd_Node, hd_UpFirst, hd_Up, hd_DownFirst, hd_Down]) (aL_ 81 (pt_ b7 0) H343) (u382.l_) ?_
 refine e_' (pt_ b26 2) ?_
 have u383 := ((((u321.frS e332 Dj.nil_l).frS e335 (hb281.djn (r30.ltF.le (t_ (t_ (t_ (t_ (t_ (t_ (t_ (t_ (t_ (t_ (t_ e41.n e45.n) e54.n) e61.n) e70.n) e76.n) e118.n) e169.n) e176.n) e185.n) e191.n) e201.n)))).frS e340 (hb287.djn (r30.ltF.le (t_ (t_ (t_ (t_ (t_ (t_ (t_ (t_ (t_ (t_ (t_ (t_ e41.n e45.n) e54.n) e61.n) e70.n) e76.n) e118.n) e169.n) e176.n) e185.n) e191.n) e201.n) e280.n)))).frS e345 (hb293.djn (r30.ltF.le (t_ (t_ (t_ (t_ (t_ (t_ (t_ (t_ (t_ (t_ (t_ (t_ (t_ e41.n e45.n) e54.n) e61.n) e70.n) e76.n) e118.n) e169.n) e176.n) e185.n) e191.n) e201.n) e280.n) e286.n))))
 refine m_' (.int .u32 y37.2.2.1) (aL_ 90 (pt_ b26 2) H343) (u383.l_) ?_
 refine d_w (y37.2.2.1) (k := .i64) (x := y37.2.2.1) (by kernel_rfl) (wrap64 g274) ?_
 refine d_fl (.agg #[hd_Node, hd_UpFirst, hd_Up, hd_DownFirst, hd_Down]) (x := aL_ 81 (pt_ b7 0) H343) (by kernel_rfl) (u382.l_) ?_
 refine e_' (pt_ b26 3) ?_
 refine d_fl (.int .u32 y37.2.2.2) (x := aL_ 90 (pt_ b26 3) H343) (by kernel_rfl) (u383.l_) ?_
 refine d_w (y37.2.2.2) (k := .i64) (x := y37.2.2.2) (by kernel_rfl) (wrap64 g276) ?_
 have n384 := (t_ (t_ (t_ (t_ (t_ (t_ (t_ e9.n e15.n) e28.n) e41.n) e45.n) e54.n) e61.n) e70.n)
 have u385 := ((((u322.fr e332 Dj.nil_l).fr e335 (hb281.djn (h_Node.lt.le (t_ (t_ (t_ (t_ (t_ (t_ (t_ (t_ (t_ (t_ (t_ (t_ (t_ (t_ e9.n e15.n) e28.n) e41.n) e45.n) e54.n) e61.n) e70.n) e76.n) e118.n) e169.n) e176.n) e185.n) e191.n) e201.n)))).fr e340 (hb287.djn (h_Node.lt.le (t_ n384 n381)))).fr e345 (hb293.djn (h_Node.lt.le (t_ (t_ n384 n381) e286.n))))
 have u386 := ((((u323.fr e332 Dj.nil_l).fr e335 (hb281.djn (h_UpFirst.lt.le (t_ (t_ (t_ (t_ (t_ (t_ (t_ (t_ (t_ (t_ (t_ (t_ (t_ (t_ e9.n e15.n) e28.n) e41.n) e45.n) e54.n) e61.n) e70.n) e76.n) e118.n) e169.n) e176.n) e185.n) e191.n) e201.n)))).fr e340 (hb287.djn (h_UpFirst.lt.le (t_ n384 n381)))).fr e345 (hb293.djn (h_UpFirst.lt.le (t_ (t_ n384 n381) e286.n))))
 have u387 := ((((u324.fr e332 Dj.nil_l).fr e335 (hb281.djn (h_Up.lt.le (t_ (t_ (t_ (t_ (t_ (t_ (t_ (t_ (t_ (t_ (t_ (t_ (t_ (t_ e9.n e15.n) e28.n) e41.n) e45.n) e54.n) e61.n) e70.n) e76.n) e118.n) e169.n) e176.n) e185.n) e191.n) e201.n)))).fr e340 (hb287.djn (h_Up.lt.le (t_ n384 n381)))).fr e345 (hb293.djn (h_Up.lt.le (t_ (t_ n384 n381) e286.n))))
 have u388 := ((((u325.fr e332 Dj.nil_l).fr e335 (hb281.djn (h_DownFirst.lt.le (t_ (t_ (t_ (t_ (t_ (t_ (t_ (t_ (t_ (t_ (t_ (t_ (t_ (t_ e9.n e15.n) e28.n) e41.n) e45.n) e54.n) e61.n) e70.n) e76.n) e118.n) e169.n) e176.n) e185.n) e191.n) e201.n)))).fr e340 (hb287.djn (h_DownFirst.lt.le (t_ n384 n381)))).fr e345 (hb293.djn (h_DownFirst.lt.le (t_ (t_ n384 n381) e286.n))))
 have u389 := ((((u326.fr e332 Dj.nil_l).fr e335 (hb281.djn (h_Down.lt.le (t_ (t_ (t_ (t_ (t_ (t_ (t_ (t_ (t_ (t_ (t_ (t_ (t_ (t_ e9.n e15.n) e28.n) e41.n) e45.n) e54.n) e61.n) e70.n) e76.n) e118.n) e169.n) e176.n) e185.n) e191.n) e201.n)))).fr e340 (hb287.djn (h_Down.lt.le (t_ n384 n381)))).fr e345 (hb293.djn (h_Down.lt.le (t_ (t_ n384 n381) e286.n))))
 obtain ⟨y390, hy391, r392⟩ := bind_some r379
 refine d_ck 139 #[.agg #[hd_Node, hd_UpFirst, hd_Up, hd_DownFirst, hd_Down], i_ y37.2.2.1] (by kernel_rfl) (c_viaductref10_Link e345.wf u385 u386 u387 u388 u389 hy391) ?_
 rintro _ H393 ⟨rfl, e394⟩
 have u395 := (u382.frS e394 Dj.nil_l)
 have u396 := (u383.frS e394 Dj.nil_l)
 refine ⟨st_ql (y := aL_ 90 (pt_ b26 3) H393) (by kernel_rfl) (u396.l_) (st_ql (y := aL_ 81 (pt_ b7 0) H393) (by kernel_rfl) (u395.l_) (st_nil)), ?_⟩
 refine e_' (.int .u64 y390.2.1) ?_
 have u397 := (u385.fr e394 Dj.nil_l)
 have u398 := (u386.fr e394 Dj.nil_l)
 have u399 := (u387.fr e394 Dj.nil_l)
 have u400 := (u388.fr e394 Dj.nil_l)
 have u401 := (u389.fr e394 Dj.nil_l)
 obtain ⟨y402, hy403, r404⟩ := bind_some r392
 refine d_ck 139 #[.agg #[hd_Node, hd_UpFirst, hd_Up, hd_DownFirst, hd_Down], i_ y37.2.2.2] (by kernel_rfl) (c_viaductref10_Link e394.wf u397 u398 u399 u400 u401 hy403) ?_
 rintro _ H405 ⟨rfl, e406⟩
 refine ⟨st_anc (by kernel_rfl) (st_anc (by kernel_rfl) (st_nil)), ?_⟩
 refine e_' (.int .u64 y402.2.1) (e_' (.int .u64 y390.2.1) (e_' (.int .u64 y402.2.1) ?_))
 refine d_nil ?_
 refine k380 _ _ (w_seqk fun _ k407 => w_seqk fun _ k408 => g_' (q_ (pt_ b26 1) ?_))
 have u409 := (u396.frS e406 Dj.nil_l)
 refine l_' (.int .u64 y37.2.1) (aL_ 42 (pt_ b26 1) H405) (u409.l_) ?_
 refine s_b (y37.2.1 > 140737488355328) (by kernel_rfl) (fun h410 => ?_) (fun h410 => ?_)
 ·have r411 := ite_t h410 r404
  refine q_ (.bool true) (n_' (n_' (q_ (.bool true) (q_ (.bool true) (n_' (n_' (q_ (.bool true) (q_ (.bool true) (n_' (n_' (n_' (n_' (n_' (n_' (q_ (.bool true) (s_nil (k408 _ _ ?_)))))))))))))))))
  refine w_cond true (by kernel_rfl) rfl (fun _ => ?_) (fun h => by cases h)
  refine w_seqk fun _ k412 => g_' ?_
  have u413 := ((((((((((((r192.frS e201 Dj.nil_l).ext e280).ext e286).ext e292).frS e306 Dj.nil_l).frS e319 Dj.nil_l).frS e332 Dj.nil_l).frS e335 (hb281.djn (r187.ltF.le (t_ e191.n e201.n)))).frS e340 (hb287.djn (r187.ltF.le (t_ (t_ e191.n e201.n) e280.n)))).frS e345 (hb293.djn (r187.ltF.le (t_ (t_ (t_ e191.n e201.n) e280.n) e286.n)))).frS e394 Dj.nil_l).frS e406 Dj.nil_l)
  refine l_' (.agg #[i_ y170.1, .slice a180 n181 c182]) (aL_ 46 (pt_ b183 0) H405) (u413.l_) ?_
  have u418 := ((((((((((((((((((((((((r17.ext e28).frS e41 Dj.nil_l).frS e45 (hb29.djn r17.ltF)).frS e54 Dj.nil_l).frS e61 Dj.nil_l).ext e70).frS e76 (hb71.djn (r17.ltF.le (t_ (t_ (t_ (t_ e28.n e41.n) e45.n) e54.n) e61.n)))).frS e118 Dj.nil_l).frS e169 Dj.nil_l).frS e176 Dj.nil_l).ext e185).frS e191 (hb186.djn (r17.ltF.le (t_ (t_ (t_ (t_ (t_ (t_ (t_ (t_ (t_ e28.n e41.n) e45.n) e54.n) e61.n) e70.n) e76.n) e118.n) e169.n) e176.n)))).frS e201 Dj.nil_l).ext e280).ext e286).ext e292).frS e306 Dj.nil_l).frS e319 Dj.nil_l).frS e332 Dj.nil_l).frS e335 (hb281.djn (r17.ltF.le (t_ (t_ (t_ (t_ (t_ (t_ (t_ (t_ (t_ (t_ (t_ (t_ e28.n e41.n) e45.n) e54.n) e61.n) e70.n) e76.n) e118.n) e169.n) e176.n) e185.n) e191.n) e201.n)))).frS e340 (hb287.djn (r17.ltF.le (t_ (t_ (t_ (t_ (t_ (t_ (t_ (t_ (t_ (t_ (t_ (t_ (t_ e28.n e41.n) e45.n) e54.n) e61.n) e70.n) e76.n) e118.n) e169.n) e176.n) e185.n) e191.n) e201.n) e280.n)))).frS e345 (hb293.djn (r17.ltF.le (t_ (t_ (t_ (t_ (t_ (t_ (t_ (t_ (t_ (t_ (t_ (t_ (t_ (t_ e28.n e41.n) e45.n) e54.n) e61.n) e70.n) e76.n) e118.n) e169.n) e176.n) e185.n) e191.n) e201.n) e280.n) e286.n)))).frS e394 Dj.nil_l).frS e406 Dj.nil_l)
  have u419 := (((((((((((((u193.fr e191 (hb186.djn m177.lt)).fr e201 Dj.nil_l).ext e280).ext e286).ext e292).fr e306 Dj.nil_l).fr e319 Dj.nil_l).fr e332 Dj.nil_l).fr e335 (hb281.djn (m177.lt.le (t_ (t_ e185.n e191.n) e201.n)))).fr e340 (hb287.djn (m177.lt.le (t_ (t_ (t_ e185.n e191.n) e201.n) e280.n)))).fr e345 (hb293.djn (m177.lt.le (t_ (t_ (t_ (t_ e185.n e191.n) e201.n) e280.n) e286.n)))).fr e394 Dj.nil_l).fr e406 Dj.nil_l)
  obtain ⟨H414, q415, e416, r417⟩ := Row.store (P := Try.prog) (t := 46) (p := 0) e406.wf u418 (.agg #[i_ y170.1, .slice a180 n181 c182]) [i_ y170.1, .slice a180 n181 c182] (by kernel_rfl) (by kernel_rfl) (one_cons (rfl) (one_cons (u419.one1) (one_nil))) (Nat.le_of_ble_eq_true (by kernel_rfl)) [i_ y170.1, .slice a180 n181 c182] (by kernel_rfl)
  refine s_ek (undef) (by kernel_rfl) (map_ok q415) ?_
  refine s_nil (k412 _ _ ?_)
  refine w_ret (th_ret ?_)
  refine b_ret (fn := Try.f136) (vs := [.agg #[i_ y170.1, .slice a180 n181 c182]]) (aRes_cell (Eq.trans (b := aL_ 46 (pt_ b13 0) H414) (by kernel_rfl) (r417.l_)) (rfl)) ?_
  have c420 := ((FrS.step wf (FrS.step wf (FrS.step wf (FrS.step wf ((((f0_ wf).extR e9).extR e15).extR e28) e41 Inn.nil) e45 (hb29.fresh (t_ e9.n e15.n))) e54 Inn.nil) e61 Inn.nil).extR e70)
  have u421 := (u419.fr e416 (Dj.symm (i178.djn (r17.ltF.le (t_ (t_ (t_ (t_ (t_ (t_ (t_ (t_ e28.n e41.n) e45.n) e54.n) e61.n) e70.n) e76.n) e118.n) e169.n)))))
  obtain rfl := oi_ r411
  exact ⟨(.slice a180 n181 c182), f174, rfl, (FrS.step wf (FrS.step wf (FrS.step wf (FrS.step wf (FrS.step wf (FrS.step wf (FrS.step wf (FrS.step wf (FrS.step wf ((((FrS.step wf (FrS.step wf ((FrS.step wf (FrS.step wf (FrS.step wf (FrS.step wf (FrS.step wf (f0_ wf) c420 Inn.nil) e76 (hb71.fresh (t_ (t_ (t_ (t_ (t_ (t_ e9.n e15.n) e28.n) e41.n) e45.n) e54.n) e61.n))) e118 Inn.nil) e169 Inn.nil) e176 Inn.nil).extR e185) e191 (hb186.fresh (t_ (t_ (t_ (t_ (t_ (t_ (t_ (t_ (t_ (t_ (t_ e9.n e15.n) e28.n) e41.n) e45.n) e54.n) e61.n) e70.n) e76.n) e118.n) e169.n) e176.n))) e201 Inn.nil).extR e280).extR e286).extR e292) e306 Inn.nil) e319 Inn.nil) e332 Inn.nil) e335 (hb281.fresh (t_ (t_ (t_ (t_ (t_ (t_ (t_ (t_ (t_ (t_ (t_ (t_ (t_ (t_ e9.n e15.n) e28.n) e41.n) e45.n) e54.n) e61.n) e70.n) e76.n) e118.n) e169.n) e176.n) e185.n) e191.n) e201.n))) e340 (hb287.fresh (t_ n384 n381))) e345 (hb293.fresh (t_ (t_ n384 n381) e286.n))) e394 Inn.nil) e406 Inn.nil) e416 (hb16.fresh e9.n)), u421, (i178.fresh (t_ (t_ (t_ (t_ (t_ (t_ (t_ (t_ (t_ (t_ e9.n e15.n) e28.n) e41.n) e45.n) e54.n) e61.n) e70.n) e76.n) e118.n) e169.n))⟩
 have r422 := ite_f h410 r404
 refine q_ (.bool false) (q_ (.int .u64 y390.2.1) ?_)
 refine s_b (y390.2.1 > 140737488355328) (by kernel_rfl) (fun h423 => ?_) (fun h423 => ?_)
 ·have r424 := ite_t h423 r422
  refine q_ (.bool true) (q_ (.bool true) (n_' (n_' (q_ (.bool true) (q_ (.bool true) (n_' (n_' (n_' (n_' (n_' (n_' (q_ (.bool true) (s_nil (k408 _ _ ?_))))))))))))))
  refine w_cond true (by kernel_rfl) rfl (fun _ => ?_) (fun h => by cases h)
  refine w_seqk fun _ k425 => g_' ?_
  have u426 := ((((((((((((r192.frS e201 Dj.nil_l).ext e280).ext e286).ext e292).frS e306 Dj.nil_l).frS e319 Dj.nil_l).frS e332 Dj.nil_l).frS e335 (hb281.djn (r187.ltF.le (t_ e191.n e201.n)))).frS e340 (hb287.djn (r187.ltF.le (t_ (t_ e191.n e201.n) e280.n)))).frS e345 (hb293.djn (r187.ltF.le (t_ (t_ (t_ e191.n e201.n) e280.n) e286.n)))).frS e394 Dj.nil_l).frS e406 Dj.nil_l)
  refine l_' (.agg #[i_ y170.1, .slice a180 n181 c182]) (aL_ 46 (pt_ b183 0) H405) (u426.l_) ?_
  have u431 := ((((((((((((((((((((((((r17.ext e28).frS e41 Dj.nil_l).frS e45 (hb29.djn r17.ltF)).frS e54 Dj.nil_l).frS e61 Dj.nil_l).ext e70).frS e76 (hb71.djn (r17.ltF.le (t_ (t_ (t_ (t_ e28.n e41.n) e45.n) e54.n) e61.n)))).frS e118 Dj.nil_l).frS e169 Dj.nil_l).frS e176 Dj.nil_l).ext e185).frS e191 (hb186.djn (r17.ltF.le (t_ (t_ (t_ (t_ (t_ (t_ (t_ (t_ (t_ e28.n e41.n) e45.n) e54.n) e61.n) e70.n) e76.n) e118.n) e169.n) e176.n)))).frS e201 Dj.nil_l).ext e280).ext e286).ext e292).frS e306 Dj.nil_l).frS e319 Dj.nil_l).frS e332 Dj.nil_l).frS e335 (hb281.djn (r17.ltF.le (t_ (t_ (t_ (t_ (t_ (t_ (t_ (t_ (t_ (t_ (t_ (t_ e28.n e41.n) e45.n) e54.n) e61.n) e70.n) e76.n) e118.n) e169.n) e176.n) e185.n) e191.n) e201.n)))).frS e340 (hb287.djn (r17.ltF.le (t_ (t_ (t_ (t_ (t_ (t_ (t_ (t_ (t_ (t_ (t_ (t_ (t_ e28.n e41.n) e45.n) e54.n) e61.n) e70.n) e76.n) e118.n) e169.n) e176.n) e185.n) e191.n) e201.n) e280.n)))).frS e345 (hb293.djn (r17.ltF.le (t_ (t_ (t_ (t_ (t_ (t_ (t_ (t_ (t_ (t_ (t_ (t_ (t_ (t_ e28.n e41.n) e45.n) e54.n) e61.n) e70.n) e76.n) e118.n) e169.n) e176.n) e185.n) e191.n) e201.n) e280.n) e286.n)))).frS e394 Dj.nil_l).frS e406 Dj.nil_l)
  have u432 := (((((((((((((u193.fr e191 (hb186.djn m177.lt)).fr e201 Dj.nil_l).ext e280).ext e286).ext e292).fr e306 Dj.nil_l).fr e319 Dj.nil_l).fr e332 Dj.nil_l).fr e335 (hb281.djn (m177.lt.le (t_ (t_ e185.n e191.n) e201.n)))).fr e340 (hb287.djn (m177.lt.le (t_ (t_ (t_ e185.n e191.n) e201.n) e280.n)))).fr e345 (hb293.djn (m177.lt.le (t_ (t_ (t_ (t_ e185.n e191.n) e201.n) e280.n) e286.n)))).fr e394 Dj.nil_l).fr e406 Dj.nil_l)
  obtain ⟨H427, q428, e429, r430⟩ := Row.store (P := Try.prog) (t := 46) (p := 0) e406.wf u431 (.agg #[i_ y170.1, .slice a180 n181 c182]) [i_ y170.1, .slice a180 n181 c182] (by kernel_rfl) (by kernel_rfl) (one_cons (rfl) (one_cons (u432.one1) (one_nil))) (Nat.le_of_ble_eq_true (by kernel_rfl)) [i_ y170.1, .slice a180 n181 c182] (by kernel_rfl)
  refine s_ek (undef) (by kernel_rfl) (map_ok q428) ?_
  refine s_nil (k425 _ _ ?_)
  refine w_ret (th_ret ?_)
  refine b_ret (fn := Try.f136) (vs := [.agg #[i_ y170.1, .slice a180 n181 c182]]) (aRes_cell (Eq.trans (b := aL_ 46 (pt_ b13 0) H427) (by kernel_rfl) (r430.l_)) (rfl)) ?_
  have c433 := ((FrS.step wf (FrS.step wf (FrS.step wf (FrS.step wf ((((f0_ wf).extR e9).extR e15).extR e28) e41 Inn.nil) e45 (hb29.fresh (t_ e9.n e15.n))) e54 Inn.nil) e61 Inn.nil).extR e70)
  have u434 := (u432.fr e429 (Dj.symm (i178.djn (r17.ltF.le (t_ (t_ (t_ (t_ (t_ (t_ (t_ (t_ e28.n e41.n) e45.n) e54.n) e61.n) e70.n) e76.n) e118.n) e169.n)))))
  obtain rfl := oi_ r424
  exact ⟨(.slice a180 n181 c182), f174, rfl, (FrS.step wf (FrS.step wf (FrS.step wf (FrS.step wf (FrS.step wf (FrS.step wf (FrS.step wf (FrS.step wf (FrS.step wf ((((FrS.step wf (FrS.step wf ((FrS.step wf (FrS.step wf (FrS.step wf (FrS.step wf (FrS.step wf (f0_ wf) c433 Inn.nil) e76 (hb71.fresh (t_ (t_ (t_ (t_ (t_ (t_ e9.n e15.n) e28.n) e41.n) e45.n) e54.n) e61.n))) e118 Inn.nil) e169 Inn.nil) e176 Inn.nil).extR e185) e191 (hb186.fresh (t_ (t_ (t_ (t_ (t_ (t_ (t_ (t_ (t_ (t_ (t_ e9.n e15.n) e28.n) e41.n) e45.n) e54.n) e61.n) e70.n) e76.n) e118.n) e169.n) e176.n))) e201 Inn.nil).extR e280).extR e286).extR e292) e306 Inn.nil) e319 Inn.nil) e332 Inn.nil) e335 (hb281.fresh (t_ (t_ (t_ (t_ (t_ (t_ (t_ (t_ (t_ (t_ (t_ (t_ (t_ (t_ e9.n e15.n) e28.n) e41.n) e45.n) e54.n) e61.n) e70.n) e76.n) e118.n) e169.n) e176.n) e185.n) e191.n) e201.n))) e340 (hb287.fresh (t_ n384 n381))) e345 (hb293.fresh (t_ (t_ n384 n381) e286.n))) e394 Inn.nil) e406 Inn.nil) e429 (hb16.fresh e9.n)), u434, (i178.fresh (t_ (t_ (t_ (t_ (t_ (t_ (t_ (t_ (t_ (t_ e9.n e15.n) e28.n) e41.n) e45.n) e54.n) e61.n) e70.n) e76.n) e118.n) e169.n))⟩
 have r435 := ite_f h423 r422
 refine q_ (.bool false) (q_ (.bool false) (q_ (.int .u64 y402.2.1) ?_))
 refine s_b (y402.2.1 > 140737488355328) (by kernel_rfl) (fun h436 => ?_) (fun h436 => ?_)
 ·have r437 := ite_t h436 r435
  refine q_ (.bool true) (q_ (.bool true) (n_' (n_' (n_' (n_' (n_' (n_' (q_ (.bool true) (s_nil (k408 _ _ ?_))))))))))
  refine w_cond true (by kernel_rfl) rfl (fun _ => ?_) (fun h => by cases h)
  refine w_seqk fun _ k438 => g_' ?_
  have u439 := ((((((((((((r192.frS e201 Dj.nil_l).ext e280).ext e286).ext e292).frS e306 Dj.nil_l).frS e319 Dj.nil_l).frS e332 Dj.nil_l).frS e335 (hb281.djn (r187.ltF.le (t_ e191.n e201.n)))).frS e340 (hb287.djn (r187.ltF.le (t_ (t_ e191.n e201.n) e280.n)))).frS e345 (hb293.djn (r187.ltF.le (t_ (t_ (t_ e191.n e201.n) e280.n) e286.n)))).frS e394 Dj.nil_l).frS e406 Dj.nil_l)
  refine l_' (.agg #[i_ y170.1, .slice a180 n181 c182]) (aL_ 46 (pt_ b183 0) H405) (u439.l_) ?_
  have u444 := ((((((((((((((((((((((((r17.ext e28).frS e41 Dj.nil_l).frS e45 (hb29.djn r17.ltF)).frS e54 Dj.nil_l).frS e61 Dj.nil_l).ext e70).frS e76 (hb71.djn (r17.ltF.le (t_ (t_ (t_ (t_ e28.n e41.n) e45.n) e54.n) e61.n)))).frS e118 Dj.nil_l).frS e169 Dj.nil_l).frS e176 Dj.nil_l).ext e185).frS e191 (hb186.djn (r17.ltF.le (t_ (t_ (t_ (t_ (t_ (t_ (t_ (t_ (t_ e28.n e41.n) e45.n) e54.n) e61.n) e70.n) e76.n) e118.n) e169.n) e176.n)))).frS e201 Dj.nil_l).ext e280).ext e286).ext e292).frS e306 Dj.nil_l).frS e319 Dj.nil_l).frS e332 Dj.nil_l).frS e335 (hb281.djn (r17.ltF.le (t_ (t_ (t_ (t_ (t_ (t_ (t_ (t_ (t_ (t_ (t_ (t_ e28.n e41.n) e45.n) e54.n) e61.n) e70.n) e76.n) e118.n) e169.n) e176.n) e185.n) e191.n) e201.n)))).frS e340 (hb287.djn (r17.ltF.le (t_ (t_ (t_ (t_ (t_ (t_ (t_ (t_ (t_ (t_ (t_ (t_ (t_ e28.n e41.n) e45.n) e54.n) e61.n) e70.n) e76.n) e118.n) e169.n) e176.n) e185.n) e191.n) e201.n) e280.n)))).frS e345 (hb293.djn (r17.ltF.le (t_ (t_ (t_ (t_ (t_ (t_ (t_ (t_ (t_ (t_ (t_ (t_ (t_ (t_ e28.n e41.n) e45.n) e54.n) e61.n) e70.n) e76.n) e118.n) e169.n) e176.n) e185.n) e191.n) e201.n) e280.n) e286.n)))).frS e394 Dj.nil_l).frS e406 Dj.nil_l)
  have u445 := (((((((((((((u193.fr e191 (hb186.djn m177.lt)).fr e201 Dj.nil_l).ext e280).ext e286).ext e292).fr e306 Dj.nil_l).fr e319 Dj.nil_l).fr e332 Dj.nil_l).fr e335 (hb281.djn (m177.lt.le (t_ (t_ e185.n e191.n) e201.n)))).fr e340 (hb287.djn (m177.lt.le (t_ (t_ (t_ e185.n e191.n) e201.n) e280.n)))).fr e345 (hb293.djn (m177.lt.le (t_ (t_ (t_ (t_ e185.n e191.n) e201.n) e280.n) e286.n)))).fr e394 Dj.nil_l).fr e406 Dj.nil_l)
  obtain ⟨H440, q441, e442, r443⟩ := Row.store (P := Try.prog) (t := 46) (p := 0) e406.wf u444 (.agg #[i_ y170.1, .slice a180 n181 c182]) [i_ y170.1, .slice a180 n181 c182] (by kernel_rfl) (by kernel_rfl) (one_cons (rfl) (one_cons (u445.one1) (one_nil))) (Nat.le_of_ble_eq_true (by kernel_rfl)) [i_ y170.1, .slice a180 n181 c182] (by kernel_rfl)
  refine s_ek (undef) (by kernel_rfl) (map_ok q441) ?_
  refine s_nil (k438 _ _ ?_)
  refine w_ret (th_ret ?_)
  refine b_ret (fn := Try.f136) (vs := [.agg #[i_ y170.1, .slice a180 n181 c182]]) (aRes_cell (Eq.trans (b := aL_ 46 (pt_ b13 0) H440) (by kernel_rfl) (r443.l_)) (rfl)) ?_
  have c446 := ((FrS.step wf (FrS.step wf (FrS.step wf (FrS.step wf ((((f0_ wf).extR e9).extR e15).extR e28) e41 Inn.nil) e45 (hb29.fresh (t_ e9.n e15.n))) e54 Inn.nil) e61 Inn.nil).extR e70)
  have u447 := (u445.fr e442 (Dj.symm (i178.djn (r17.ltF.le (t_ (t_ (t_ (t_ (t_ (t_ (t_ (t_ e28.n e41.n) e45.n) e54.n) e61.n) e70.n) e76.n) e118.n) e169.n)))))
  obtain rfl := oi_ r437
  exact ⟨(.slice a180 n181 c182), f174, rfl, (FrS.step wf (FrS.step wf (FrS.step wf (FrS.step wf (FrS.step wf (FrS.step wf (FrS.step wf (FrS.step wf (FrS.step wf ((((FrS.step wf (FrS.step wf ((FrS.step wf (FrS.step wf (FrS.step wf (FrS.step wf (FrS.step wf (f0_ wf) c446 Inn.nil) e76 (hb71.fresh (t_ (t_ (t_ (t_ (t_ (t_ e9.n e15.n) e28.n) e41.n) e45.n) e54.n) e61.n))) e118 Inn.nil) e169 Inn.nil) e176 Inn.nil).extR e185) e191 (hb186.fresh (t_ (t_ (t_ (t_ (t_ (t_ (t_ (t_ (t_ (t_ (t_ e9.n e15.n) e28.n) e41.n) e45.n) e54.n) e61.n) e70.n) e76.n) e118.n) e169.n) e176.n))) e201 Inn.nil).extR e280).extR e286).extR e292) e306 Inn.nil) e319 Inn.nil) e332 Inn.nil) e335 (hb281.fresh (t_ (t_ (t_ (t_ (t_ (t_ (t_ (t_ (t_ (t_ (t_ (t_ (t_ (t_ e9.n e15.n) e28.n) e41.n) e45.n) e54.n) e61.n) e70.n) e76.n) e118.n) e169.n) e176.n) e185.n) e191.n) e201.n))) e340 (hb287.fresh (t_ n384 n381))) e345 (hb293.fresh (t_ (t_ n384 n381) e286.n))) e394 Inn.nil) e406 Inn.nil) e442 (hb16.fresh e9.n)), u447, (i178.fresh (t_ (t_ (t_ (t_ (t_ (t_ (t_ (t_ (t_ (t_ e9.n e15.n) e28.n) e41.n) e45.n) e54.n) e61.n) e70.n) e76.n) e118.n) e169.n))⟩
 have r448 := ite_f h436 r435
 refine q_ (.bool false) (q_ (.bool false) (q_ (.int .u64 y390.2.1) (q_ (.int .u64 y402.2.1) ?_)))
 obtain ⟨g449, r450⟩ := G_some r448
 refine s_w ((y390.2.1 + y402.2.1)) (k := .u64) (x := (y390.2.1 + y402.2.1)) (by kernel_rfl) (wrapu64 g449) ?_
 refine q_ (pt_ b26 1) ?_
 refine l_' (.int .u64 y37.2.1) (aL_ 42 (pt_ b26 1) H405) (u409.l_) ?_
 refine q_ (.bool (!decide ((y390.2.1 + y402.2.1) = y37.2.1))) (q_ (.bool (!decide ((y390.2.1 + y402.2.1) = y37.2.1))) (s_nil (k408 _ _ ?_)))
 refine w_condn ((y390.2.1 + y402.2.1) = y37.2.1) (by kernel_rfl) rfl (fun h451 => ?_) (fun h451 => ?_)
 ·have r452 := ite_f h451 r450
  refine w_seqk fun _ k453 => g_' ?_
  have u454 := ((((((((((((r192.frS e201 Dj.nil_l).ext e280).ext e286).ext e292).frS e306 Dj.nil_l).frS e319 Dj.nil_l).frS e332 Dj.nil_l).frS e335 (hb281.djn (r187.ltF.le (t_ e191.n e201.n)))).frS e340 (hb287.djn (r187.ltF.le (t_ (t_ e191.n e201.n) e280.n)))).frS e345 (hb293.djn (r187.ltF.le (t_ (t_ (t_ e191.n e201.n) e280.n) e286.n)))).frS e394 Dj.nil_l).frS e406 Dj.nil_l)
  refine l_' (.agg #[i_ y170.1, .slice a180 n181 c182]) (aL_ 46 (pt_ b183 0) H405) (u454.l_) ?_
  have u459 := ((((((((((((((((((((((((r17.ext e28).frS e41 Dj.nil_l).frS e45 (hb29.djn r17.ltF)).frS e54 Dj.nil_l).frS e61 Dj.nil_l).ext e70).frS e76 (hb71.djn (r17.ltF.le (t_ (t_ (t_ (t_ e28.n e41.n) e45.n) e54.n) e61.n)))).frS e118 Dj.nil_l).frS e169 Dj.nil_l).frS e176 Dj.nil_l).ext e185).frS e191 (hb186.djn (r17.ltF.le (t_ (t_ (t_ (t_ (t_ (t_ (t_ (t_ (t_ e28.n e41.n) e45.n) e54.n) e61.n) e70.n) e76.n) e118.n) e169.n) e176.n)))).frS e201 Dj.nil_l).ext e280).ext e286).ext e292).frS e306 Dj.nil_l).frS e319 Dj.nil_l).frS e332 Dj.nil_l).frS e335 (hb281.djn (r17.ltF.le (t_ (t_ (t_ (t_ (t_ (t_ (t_ (t_ (t_ (t_ (t_ (t_ e28.n e41.n) e45.n) e54.n) e61.n) e70.n) e76.n) e118.n) e169.n) e176.n) e185.n) e191.n) e201.n)))).frS e340 (hb287.djn (r17.ltF.le (t_ (t_ (t_ (t_ (t_ (t_ (t_ (t_ (t_ (t_ (t_ (t_ (t_ e28.n e41.n) e45.n) e54.n) e61.n) e70.n) e76.n) e118.n) e169.n) e176.n) e185.n) e191.n) e201.n) e280.n)))).frS e345 (hb293.djn (r17.ltF.le (t_ (t_ (t_ (t_ (t_ (t_ (t_ (t_ (t_ (t_ (t_ (t_ (t_ (t_ e28.n e41.n) e45.n) e54.n) e61.n) e70.n) e76.n) e118.n) e169.n) e176.n) e185.n) e191.n) e201.n) e280.n) e286.n)))).frS e394 Dj.nil_l).frS e406 Dj.nil_l)
  have u460 := (((((((((((((u193.fr e191 (hb186.djn m177.lt)).fr e201 Dj.nil_l).ext e280).ext e286).ext e292).fr e306 Dj.nil_l).fr e319 Dj.nil_l).fr e332 Dj.nil_l).fr e335 (hb281.djn (m177.lt.le (t_ (t_ e185.n e191.n) e201.n)))).fr e340 (hb287.djn (m177.lt.le (t_ (t_ (t_ e185.n e191.n) e201.n) e280.n)))).fr e345 (hb293.djn (m177.lt.le (t_ (t_ (t_ (t_ e185.n e191.n) e201.n) e280.n) e286.n)))).fr e394 Dj.nil_l).fr e406 Dj.nil_l)
  obtain ⟨H455, q456, e457, r458⟩ := Row.store (P := Try.prog) (t := 46) (p := 0) e406.wf u459 (.agg #[i_ y170.1, .slice a180 n181 c182]) [i_ y170.1, .slice a180 n181 c182] (by kernel_rfl) (by kernel_rfl) (one_cons (rfl) (one_cons (u460.one1) (one_nil))) (Nat.le_of_ble_eq_true (by kernel_rfl)) [i_ y170.1, .slice a180 n181 c182] (by kernel_rfl)
  refine s_ek (undef) (by kernel_rfl) (map_ok q456) ?_
  refine s_nil (k453 _ _ ?_)
  refine w_ret (th_ret ?_)
  refine b_ret (fn := Try.f136) (vs := [.agg #[i_ y170.1, .slice a180 n181 c182]]) (aRes_cell (Eq.trans (b := aL_ 46 (pt_ b13 0) H455) (by kernel_rfl) (r458.l_)) (rfl)) ?_
  have c461 := ((FrS.step wf (FrS.step wf (FrS.step wf (FrS.step wf ((((f0_ wf).extR e9).extR e15).extR e28) e41 Inn.nil) e45 (hb29.fresh (t_ e9.n e15.n))) e54 Inn.nil) e61 Inn.nil).extR e70)
  have u462 := (u460.fr e457 (Dj.symm (i178.djn (r17.ltF.le (t_ (t_ (t_ (t_ (t_ (t_ (t_ (t_ e28.n e41.n) e45.n) e54.n) e61.n) e70.n) e76.n) e118.n) e169.n)))))
  obtain rfl := oi_ r452
  exact ⟨(.slice a180 n181 c182), f174, rfl, (FrS.step wf (FrS.step wf (FrS.step wf (FrS.step wf (FrS.step wf (FrS.step wf (FrS.step wf (FrS.step wf (FrS.step wf ((((FrS.step wf (FrS.step wf ((FrS.step wf (FrS.step wf (FrS.step wf (FrS.step wf (FrS.step wf (f0_ wf) c461 Inn.nil) e76 (hb71.fresh (t_ (t_ (t_ (t_ (t_ (t_ e9.n e15.n) e28.n) e41.n) e45.n) e54.n) e61.n))) e118 Inn.nil) e169 Inn.nil) e176 Inn.nil).extR e185) e191 (hb186.fresh (t_ (t_ (t_ (t_ (t_ (t_ (t_ (t_ (t_ (t_ (t_ e9.n e15.n) e28.n) e41.n) e45.n) e54.n) e61.n) e70.n) e76.n) e118.n) e169.n) e176.n))) e201 Inn.nil).extR e280).extR e286).extR e292) e306 Inn.nil) e319 Inn.nil) e332 Inn.nil) e335 (hb281.fresh (t_ (t_ (t_ (t_ (t_ (t_ (t_ (t_ (t_ (t_ (t_ (t_ (t_ (t_ e9.n e15.n) e28.n) e41.n) e45.n) e54.n) e61.n) e70.n) e76.n) e118.n) e169.n) e176.n) e185.n) e191.n) e201.n))) e340 (hb287.fresh (t_ n384 n381))) e345 (hb293.fresh (t_ (t_ n384 n381) e286.n))) e394 Inn.nil) e406 Inn.nil) e457 (hb16.fresh e9.n)), u462, (i178.fresh (t_ (t_ (t_ (t_ (t_ (t_ (t_ (t_ (t_ (t_ e9.n e15.n) e28.n) e41.n) e45.n) e54.n) e61.n) e70.n) e76.n) e118.n) e169.n))⟩
 have r463 := ite_t h451 r450
 refine w_skip (k407 _ _ (w_seqk fun _ k464 => g_' (q_ (.agg #[i_ 0, .slice none 0 0]) ?_)))
 have u469 := ((((((((((((((((((((((((r17.ext e28).frS e41 Dj.nil_l).frS e45 (hb29.djn r17.ltF)).frS e54 Dj.nil_l).frS e61 Dj.nil_l).ext e70).frS e76 (hb71.djn (r17.ltF.le (t_ (t_ (t_ (t_ e28.n e41.n) e45.n) e54.n) e61.n)))).frS e118 Dj.nil_l).frS e169 Dj.nil_l).frS e176 Dj.nil_l).ext e185).frS e191 (hb186.djn (r17.ltF.le (t_ (t_ (t_ (t_ (t_ (t_ (t_ (t_ (t_ e28.n e41.n) e45.n) e54.n) e61.n) e70.n) e76.n) e118.n) e169.n) e176.n)))).frS e201 Dj.nil_l).ext e280).ext e286).ext e292).frS e306 Dj.nil_l).frS e319 Dj.nil_l).frS e332 Dj.nil_l).frS e335 (hb281.djn (r17.ltF.le (t_ (t_ (t_ (t_ (t_ (t_ (t_ (t_ (t_ (t_ (t_ (t_ e28.n e41.n) e45.n) e54.n) e61.n) e70.n) e76.n) e118.n) e169.n) e176.n) e185.n) e191.n) e201.n)))).frS e340 (hb287.djn (r17.ltF.le (t_ (t_ (t_ (t_ (t_ (t_ (t_ (t_ (t_ (t_ (t_ (t_ (t_ e28.n e41.n) e45.n) e54.n) e61.n) e70.n) e76.n) e118.n) e169.n) e176.n) e185.n) e191.n) e201.n) e280.n)))).frS e345 (hb293.djn (r17.ltF.le (t_ (t_ (t_ (t_ (t_ (t_ (t_ (t_ (t_ (t_ (t_ (t_ (t_ (t_ e28.n e41.n) e45.n) e54.n) e61.n) e70.n) e76.n) e118.n) e169.n) e176.n) e185.n) e191.n) e201.n) e280.n) e286.n)))).frS e394 Dj.nil_l).frS e406 Dj.nil_l)
 obtain ⟨H465, q466, e467, r468⟩ := Row.store (P := Try.prog) (t := 46) (p := 0) e406.wf u469 (.agg #[i_ 0, .slice none 0 0]) [i_ 0, .slice none 0 0] (by kernel_rfl) (by kernel_rfl) (one_cons (rfl) (one_cons (rfl) (one_nil))) (Nat.le_of_ble_eq_true (by kernel_rfl)) [i_ 0, .slice none 0 0] (by kernel_rfl)
 refine s_ek (undef) (by kernel_rfl) (map_ok q466) ?_
 refine s_nil (k464 _ _ ?_)
 refine w_ret ?_
 refine b_ret (fn := Try.f136) (vs := [.agg #[i_ 0, .slice none 0 0]]) (aRes_cell (Eq.trans (b := aL_ 46 (pt_ b13 0) H465) (by kernel_rfl) (r468.l_)) (rfl)) ?_
 have c470 := ((FrS.step wf (FrS.step wf (FrS.step wf (FrS.step wf ((((f0_ wf).extR e9).extR e15).extR e28) e41 Inn.nil) e45 (hb29.fresh (t_ e9.n e15.n))) e54 Inn.nil) e61 Inn.nil).extR e70)
 obtain rfl := oi_ r463
 exact ⟨(.slice none 0 0), [], rfl, (FrS.step wf (FrS.step wf (FrS.step wf (FrS.step wf (FrS.step wf (FrS.step wf (FrS.step wf (FrS.step wf (FrS.step wf ((((FrS.step wf (FrS.step wf ((FrS.step wf (FrS.step wf (FrS.step wf (FrS.step wf (FrS.step wf (f0_ wf) c470 Inn.nil) e76 (hb71.fresh (t_ (t_ (t_ (t_ (t_ (t_ e9.n e15.n) e28.n) e41.n) e45.n) e54.n) e61.n))) e118 Inn.nil) e169 Inn.nil) e176 Inn.nil).extR e185) e191 (hb186.fresh (t_ (t_ (t_ (t_ (t_ (t_ (t_ (t_ (t_ (t_ (t_ e9.n e15.n) e28.n) e41.n) e45.n) e54.n) e61.n) e70.n) e76.n) e118.n) e169.n) e176.n))) e201 Inn.nil).extR e280).extR e286).extR e292) e306 Inn.nil) e319 Inn.nil) e332 Inn.nil) e335 (hb281.fresh (t_ (t_ (t_ (t_ (t_ (t_ (t_ (t_ (t_ (t_ (t_ (t_ (t_ (t_ e9.n e15.n) e28.n) e41.n) e45.n) e54.n) e61.n) e70.n) e76.n) e118.n) e169.n) e176.n) e185.n) e191.n) e201.n))) e340 (hb287.fresh (t_ n384 n381))) e345 (hb293.fresh (t_ (t_ n384 n381) e286.n))) e394 Inn.nil) e406 Inn.nil) e467 (hb16.fresh e9.n)), (Ow.nil (by decide)), Inn.nil⟩
end Go.Vd
