/- The walks of the functions (printed by a program of ours). -/
import Derived.Test.YtccnpeeakadnoaaPhm2
import Derived.Test.YtccnpeeakadnoaaPhmVeC
import Derived.Test.YtccnpeeakadnoaaPhmIHm
import Derived.Test.YtccnpeeakadnoaaPhmVeN
import Derived.Test.YtccnpeeakadnoaaPhmVeM
import Derived.Test.YtccnpeeakadnoaaPhmSoA
import Derived.Test.YtccnpeeakadnoaaPhmVeT
set_option linter.unusedVariables false
set_option linter.unusedSimpArgs false
set_option linter.unusedSectionVars false
/-! (KHm6) -/

set_option maxRecDepth 100000
set_option maxHeartbeats 4000000
set_option linter.unusedVariables false
namespace Go.Vd
open Go.Proofs
attribute [local irreducible] wpSeq wpOrd aWp
theorem c_viaductref10_DocCheck {H : AH} {hd_Node : Value} {fp_Node : Fp} {hd_UpFirst : Value} {fp_UpFirst : Fp} {hd_Up : Value} {fp_Up : Fp} {hd_DownFirst : Value} {fp_DownFirst : Fp} {hd_Down : Value} {fp_Down : Fp} {Node : List (Int)} {UpFirst : List (Int)} {Up : List (Int × Int × Int × Int)} {DownFirst : List (Int)} {Down : List (Int × Int × Int × Int)} {r : Int × List (Int × Int)}
    (wf : WF H) (h_Node : Sq (encI .u32) 1 H hd_Node Node fp_Node) (h_UpFirst : Sq (encI .u32) 1 H hd_UpFirst UpFirst fp_UpFirst) (h_Up : Sq enc_u32_u64_u32_u32 4 H hd_Up Up fp_Up) (h_DownFirst : Sq (encI .u32) 1 H hd_DownFirst DownFirst fp_DownFirst) (h_Down : Sq enc_u32_u64_u32_u32 4 H hd_Down Down fp_Down) (hr : z_viaductref10_DocCheck Node UpFirst Up DownFirst Down = some r) :
    ACalls Try.prog 102 #[.agg #[hd_Node, hd_UpFirst, hd_Up, hd_DownFirst, hd_Down]] H fun v H' => ∃ (s3 : Value) (f4 : Fp), v = .agg #[i_ r.1, s3] ∧ FrS [] H H' ∧ Sq enc_i64_i64 2 H' s3 r.2 f4 ∧ Inn [] H f4 := by
 refine acalls_of_body mixed Try.func102 rfl (Nat.le_of_ble_eq_true rfl) ?_
 unfold z_viaductref10_DocCheck at hr
 refine w_seqk fun _ k6 => g_' ?_
 refine s_rwl wf [hd_Node, hd_UpFirst, hd_Up, hd_DownFirst, hd_Down] (one_cons (h_Node.one1) (one_cons (h_UpFirst.one1) (one_cons (h_Up.one1) (one_cons (h_DownFirst.one1) (one_cons (h_Down.one1) (one_nil)))))) (by kernel_rfl) fun b7 H8 e9 hb10 r11 => ?_
 refine s_rwk e9.wf [i_ 0, .slice none 0 0] (by kernel_rfl) fun b13 H14 e15 hb16 r17 => ?_
 refine s_nil (k6 _ _ (w_seqk fun _ k19 => g_' (q_ (pt_ b7 0) ?_)))
 have u20 := (r11.ext e15)
 refine l_' (hd_Node) (aL_ 78 (pt_ b7 0) H14) (u20.l_) ?_
 have u21 := ((h_Node.ext e9).ext e15)
 refine l_' (i_ (Node.length : Int)) (aLen Try.prog 78 hd_Node H14) (u21.lenb (by kernel_rfl)) ?_
 refine q_ (i_ (Node.length : Int)) (s_nil (k19 _ _ (w_seqk fun _ k22 => w_block (w_seqk fun _ k23 => ?_))))
 obtain ⟨o24, hx25, r26⟩ := bind_some hr
 refine w_mid (fun α H27 => Has α [(1, pt_ b7 0), (2, pt_ b13 0), (3, i_ (Node.length : Int)), (14, .bool o24)] ∧ H14 = H27) (fun _ k29 => ?_) (fun α H27 hM => ?_)
 ·refine g_' (q_ (i_ (Node.length : Int)) ?_)
  refine s_b ((Node.length : Int) > 65536) (by kernel_rfl) (fun h31 => ?_) (fun h31 => ?_)
  ·have r32 := ite_t h31 hx25
   refine q_ (.bool true) (n_' (n_' (n_' (n_' (n_' (n_' (n_' (n_' (q_ (.bool true) (q_ (.bool true) (s_nil ?_)))))))))))
   obtain rfl := oi_ r32
   exact k29 _ _ ⟨ha_, rfl⟩
  have r33 := ite_f h31 hx25
  refine q_ (.bool false) (q_ (pt_ b7 2) ?_)
  refine l_' (hd_Up) (aL_ 79 (pt_ b7 2) H14) (u20.l_) ?_
  have u34 := ((h_Up.ext e9).ext e15)
  refine l_' (i_ (Up.length : Int)) (aLen Try.prog 79 hd_Up H14) (u34.lenb (by kernel_rfl)) ?_
  refine q_ (pt_ b7 4) ?_
  refine l_' (hd_Down) (aL_ 79 (pt_ b7 4) H14) (u20.l_) ?_
  have u35 := ((h_Down.ext e9).ext e15)
  refine l_' (i_ (Down.length : Int)) (aLen Try.prog 79 hd_Down H14) (u35.lenb (by kernel_rfl)) ?_
  obtain ⟨g36, r37⟩ := G_some r33
  refine w_' ((Up.length : Int) + (Down.length : Int)) (wrap64 g36) ?_
  refine q_ (.bool (decide (((Up.length : Int) + (Down.length : Int)) > 1048576))) (q_ (.bool (decide (((Up.length : Int) + (Down.length : Int)) > 1048576))) (q_ (.bool (decide (((Up.length : Int) + (Down.length : Int)) > 1048576))) (s_nil ?_)))
  obtain rfl := oi_ r37
  exact k29 _ _ ⟨ha_, rfl⟩
 obtain ⟨hh30, rfl⟩ := hM
 obtain ⟨β, rfl⟩ := has_ex hh30
 clear hh30
 refine k23 _ _ ?_
 refine w_cond (o24) (by kernel_rfl) rfl (fun h38 => ?_) (fun h38 => ?_)
 ·have r39 := ite_t h38 r26
  refine w_seqk fun _ k40 => g_' ?_
  obtain ⟨y41, hy42, r43⟩ := bind_some r39
  refine s_ck 70 #[i_ 9] (by kernel_rfl) (c_viaductref01_E e15.wf hy42) ?_
  rintro _ H44 ⟨rfl, e45⟩
  have u50 := (r17.frS e45 Dj.nil_l)
  obtain ⟨H46, q47, e48, r49⟩ := Row.store (P := Try.prog) (t := 46) (p := 0) e45.wf u50 (.agg #[i_ y41, .slice none 0 0]) [i_ y41, .slice none 0 0] (by kernel_rfl) (by kernel_rfl) (one_cons (rfl) (one_cons (rfl) (one_nil))) (Nat.le_of_ble_eq_true (by kernel_rfl)) [i_ y41, .slice none 0 0] (by kernel_rfl)
  refine s_ek (undef) (by kernel_rfl) (map_ok q47) ?_
  refine s_nil (k40 _ _ ?_)
  refine w_ret (bl_ret (th_ret ?_))
  refine b_ret (fn := Try.f102) (vs := [.agg #[i_ y41, .slice none 0 0]]) (aRes_cell (Eq.trans (b := aL_ 46 (pt_ b13 0) H46) (by kernel_rfl) (r49.l_)) (rfl)) ?_
  obtain rfl := oi_ r43
  exact ⟨(.slice none 0 0), [], rfl, (FrS.step wf (FrS.step wf (((f0_ wf).extR e9).extR e15) e45 Inn.nil) e48 (hb16.fresh e9.n)), (Sq.nil (by decide)), Inn.nil⟩
 have r51 := ite_bf h38 r26
 refine w_seqk fun _ k52 => ?_
 obtain ⟨o53, hx54, r55⟩ := bind_some r51
 refine w_mid (fun α H56 => Has α [(1, pt_ b7 0), (2, pt_ b13 0), (3, i_ (Node.length : Int)), (28, .bool o53)] ∧ H14 = H56) (fun _ k58 => ?_) (fun α H56 hM => ?_)
 ·refine g_' (q_ (pt_ b7 1) ?_)
  refine l_' (hd_UpFirst) (aL_ 78 (pt_ b7 1) H14) (u20.l_) ?_
  have u60 := ((h_UpFirst.ext e9).ext e15)
  refine l_' (i_ (UpFirst.length : Int)) (aLen Try.prog 78 hd_UpFirst H14) (u60.lenb (by kernel_rfl)) ?_
  refine q_ (i_ (Node.length : Int)) ?_
  obtain ⟨g61, r62⟩ := G_some hx54
  refine w_' ((Node.length : Int) + 1) (wrap64 (by have := g61; omega)) ?_
  refine s_bn ((UpFirst.length : Int) = ((Node.length : Int) + 1)) (by kernel_rfl) (fun h63 => ?_) (fun h63 => ?_)
  ·have r64 := ite_t h63 r62
   refine q_ (.bool false) (q_ (pt_ b7 3) ?_)
   refine l_' (hd_DownFirst) (aL_ 78 (pt_ b7 3) H14) (u20.l_) ?_
   have u65 := ((h_DownFirst.ext e9).ext e15)
   refine l_' (i_ (DownFirst.length : Int)) (aLen Try.prog 78 hd_DownFirst H14) (u65.lenb (by kernel_rfl)) ?_
   refine q_ (i_ (Node.length : Int)) ?_
   refine w_' ((Node.length : Int) + 1) (wrap64 (by have := g61; omega)) ?_
   refine q_ (.bool (!decide ((DownFirst.length : Int) = ((Node.length : Int) + 1)))) (q_ (.bool (!decide ((DownFirst.length : Int) = ((Node.length : Int) + 1)))) (q_ (.bool (!decide ((DownFirst.length : Int) = ((Node.length : Int) + 1)))) (s_nil ?_)))
   obtain rfl := oi_ r64
   exact k58 _ _ ⟨ha_, rfl⟩
  have r66 := ite_f h63 r62
  refine q_ (.bool true) (n_' (n_' (n_' (n_' (n_' (n_' (q_ (.bool true) (q_ (.bool true) (s_nil ?_)))))))))
  obtain rfl := oi_ r66
  exact k58 _ _ ⟨ha_, rfl⟩
 obtain ⟨hh59, rfl⟩ := hM
 obtain ⟨β, rfl⟩ := has_ex hh59
 clear hh59
 refine k52 _ _ ?_
 refine w_cond (o53) (by kernel_rfl) rfl (fun h67 => ?_) (fun h67 => ?_)
 ·have r68 := ite_t h67 r55
  refine w_seqk fun _ k69 => g_' ?_
  obtain ⟨y70, hy71, r72⟩ := bind_some r68
  refine s_ck 70 #[i_ 14] (by kernel_rfl) (c_viaductref01_E e15.wf hy71) ?_
  rintro _ H73 ⟨rfl, e74⟩
  have u79 := (r17.frS e74 Dj.nil_l)
  obtain ⟨H75, q76, e77, r78⟩ := Row.store (P := Try.prog) (t := 46) (p := 0) e74.wf u79 (.agg #[i_ y70, .slice none 0 0]) [i_ y70, .slice none 0 0] (by kernel_rfl) (by kernel_rfl) (one_cons (rfl) (one_cons (rfl) (one_nil))) (Nat.le_of_ble_eq_true (by kernel_rfl)) [i_ y70, .slice none 0 0] (by kernel_rfl)
  refine s_ek (undef) (by kernel_rfl) (map_ok q76) ?_
  refine s_nil (k69 _ _ ?_)
  refine w_ret (bl_ret (th_ret ?_))
  refine b_ret (fn := Try.f102) (vs := [.agg #[i_ y70, .slice none 0 0]]) (aRes_cell (Eq.trans (b := aL_ 46 (pt_ b13 0) H75) (by kernel_rfl) (r78.l_)) (rfl)) ?_
  obtain rfl := oi_ r72
  exact ⟨(.slice none 0 0), [], rfl, (FrS.step wf (FrS.step wf (((f0_ wf).extR e9).extR e15) e74 Inn.nil) e77 (hb16.fresh e9.n)), (Sq.nil (by decide)), Inn.nil⟩
 have r80 := ite_bf h67 r55
 refine w_skip (k22 _ _ (w_seqk fun _ k81 => ?_))
 refine w_draw [0, 1, 2, 3, 4, 5, 7, 8, 9, 10, 11, 12, 16, 6, 13, 14, 15, 17] (by kernel_rfl) ?_
 refine e_' (pt_ b7 1) ?_
 refine m_' (hd_UpFirst) (aL_ 78 (pt_ b7 1) H14) (u20.l_) ?_
 refine e_' (i_ (Node.length : Int)) (e_' (pt_ b7 2) ?_)
 refine m_' (hd_Up) (aL_ 79 (pt_ b7 2) H14) (u20.l_) ?_
 have u82 := ((h_Up.ext e9).ext e15)
 refine m_' (i_ (Up.length : Int)) (aLen Try.prog 79 hd_Up H14) (u82.lenb (by kernel_rfl)) ?_
 refine e_' (pt_ b7 3) ?_
 refine d_fl (hd_DownFirst) (x := aL_ 78 (pt_ b7 3) H14) (by kernel_rfl) (u20.l_) ?_
 refine e_' (i_ (Node.length : Int)) (e_' (pt_ b7 4) ?_)
 refine d_fl (hd_Down) (x := aL_ 79 (pt_ b7 4) H14) (by kernel_rfl) (u20.l_) ?_
 have u83 := ((h_Down.ext e9).ext e15)
 refine m_' (i_ (Down.length : Int)) (aLen Try.prog 79 hd_Down H14) (u83.lenb (by kernel_rfl)) ?_
 refine d_rwk e15.wf [i_ 0, .slice none 0 0] (by kernel_rfl) fun b84 H85 e86 hb87 r88 => ?_
 have u90 := (((h_UpFirst.ext e9).ext e15).ext e86)
 obtain ⟨y91, hy92, r93⟩ := bind_some r80
 refine d_ck 134 #[hd_UpFirst, i_ (Node.length : Int), i_ (Up.length : Int)] (by kernel_rfl) (c_viaductref10_firsts e86.wf u90 hy92) ?_
 rintro _ H96 ⟨s94, f95, rfl, e97, m98, i99⟩
 obtain ⟨a101, n102, c103, rfl⟩ := m98.form
 have u104 := ((u20.ext e86).frS e97 Dj.nil_l)
 refine ⟨st_ql (y := aL_ 79 (pt_ b7 4) H96) (by kernel_rfl) (u104.l_) (st_ql (y := aL_ 78 (pt_ b7 3) H96) (by kernel_rfl) (u104.l_) (st_nil)), ?_⟩
 have u105 := ((((h_DownFirst.ext e9).ext e15).ext e86).fr e97 Dj.nil_l)
 obtain ⟨y106, hy107, r108⟩ := bind_some r93
 refine d_ck 134 #[hd_DownFirst, i_ (Node.length : Int), i_ (Down.length : Int)] (by kernel_rfl) (c_viaductref10_firsts e97.wf u105 hy107) ?_
 rintro _ H111 ⟨s109, f110, rfl, e112, m113, i114⟩
 obtain ⟨a116, n117, c118, rfl⟩ := m113.form
 refine ⟨st_anc (by kernel_rfl) (st_anc (by kernel_rfl) (st_nil)), ?_⟩
 have u124 := (m98.fr e112 Dj.nil_l)
 refine d_lsl e112.wf [i_ y91.1, .slice a101 n102 c103, i_ y106.1, .slice a116 n117 c118] 2 (one_cons (rfl) (one_cons (u124.one1) (one_cons (rfl) (one_cons (m113.one1) (one_nil))))) (by kernel_rfl) fun b119 H120 e121 hb122 r123 => ?_
 have u126 := (u124.ext e121)
 have u127 := (m113.ext e121)
 obtain ⟨y128, hy129, r130⟩ := bind_some r108
 refine d_ck 84 #[.slice (some ⟨b119, 0, none⟩) 2 2] (by kernel_rfl) (c_viaductref01_First e121.wf u126.sq u127.sq r123 hy129) ?_
 rintro _ H133 ⟨s131, f132, rfl, e134, m135, i136⟩
 obtain ⟨a138, n139, c140, rfl⟩ := m135.form
 refine ⟨st_anc (by kernel_rfl) (st_anc (by kernel_rfl) (st_nil)), ?_⟩
 have u145 := ((((r88.frS e97 Dj.nil_l).frS e112 Dj.nil_l).ext e121).frS e134 Dj.nil_l)
 obtain ⟨H141, q142, e143, r144⟩ := Row.store (P := Try.prog) (t := 46) (p := 0) e134.wf u145 (.agg #[i_ y128.1, .slice a138 n139 c140]) [i_ y128.1, .slice a138 n139 c140] (by kernel_rfl) (by kernel_rfl) (one_cons (rfl) (one_cons (m135.one1) (one_nil))) (Nat.le_of_ble_eq_true (by kernel_rfl)) [i_ y128.1, .slice a138 n139 c140] (by kernel_rfl)
 refine d_ek (undef) (by kernel_rfl) (map_ok q142) (st_anc (by kernel_rfl) (st_anc (by kernel_rfl) (st_nil))) ?_
 refine d_nil ?_
 refine k81 _ _ (w_seqk fun _ k146 => w_seqk fun _ k147 => g_' ?_)
 refine l_' (.agg #[i_ y128.1, .slice a138 n139 c140]) (aL_ 46 (pt_ b84 0) H141) (r144.l_) ?_
 have u148 := (m135.fr e143 (Dj.symm (i136.dj (Dj.app (i99.djn r88.ltF) (i114.djn (r88.ltF.le e97.n))) (r88.ltF.le (t_ (t_ e97.n e112.n) e121.n)))))
 obtain ⟨y149, hy150, r151⟩ := bind_some r130
 refine s_ck 56 #[.agg #[i_ y128.1, .slice a138 n139 c140]] (by kernel_rfl) (c_viaductref01_Err_Bad e143.wf u148 hy150) ?_
 rintro _ H152 ⟨rfl, e153⟩
 refine s_nil (k147 _ _ ?_)
 refine w_cond (y149) (by kernel_rfl) rfl (fun h154 => ?_) (fun h154 => ?_)
 ·have r155 := ite_t h154 r151
  refine w_seqk fun _ k156 => g_' ?_
  have u157 := (r144.frS e153 Dj.nil_l)
  refine l_' (.agg #[i_ y128.1, .slice a138 n139 c140]) (aL_ 46 (pt_ b84 0) H152) (u157.l_) ?_
  have u162 := (((((((r17.ext e86).frS e97 Dj.nil_l).frS e112 Dj.nil_l).ext e121).frS e134 Dj.nil_l).frS e143 (hb87.djn r17.ltF)).frS e153 Dj.nil_l)
  have u163 := (u148.fr e153 Dj.nil_l)
  obtain ⟨H158, q159, e160, r161⟩ := Row.store (P := Try.prog) (t := 46) (p := 0) e153.wf u162 (.agg #[i_ y128.1, .slice a138 n139 c140]) [i_ y128.1, .slice a138 n139 c140] (by kernel_rfl) (by kernel_rfl) (one_cons (rfl) (one_cons (u163.one1) (one_nil))) (Nat.le_of_ble_eq_true (by kernel_rfl)) [i_ y128.1, .slice a138 n139 c140] (by kernel_rfl)
  refine s_ek (undef) (by kernel_rfl) (map_ok q159) ?_
  refine s_nil (k156 _ _ ?_)
  refine w_ret (th_ret ?_)
  refine b_ret (fn := Try.f102) (vs := [.agg #[i_ y128.1, .slice a138 n139 c140]]) (aRes_cell (Eq.trans (b := aL_ 46 (pt_ b13 0) H158) (by kernel_rfl) (r161.l_)) (rfl)) ?_
  have u164 := (u163.fr e160 (Dj.symm (i136.dj (Dj.app (i99.djn (r17.ltF.le e86.n)) (i114.djn (r17.ltF.le (t_ e86.n e97.n)))) (r17.ltF.le (t_ (t_ (t_ e86.n e97.n) e112.n) e121.n)))))
  obtain rfl := oi_ r155
  exact ⟨(.slice a138 n139 c140), f132, rfl, (FrS.step wf (FrS.step wf (FrS.step wf (FrS.step wf ((FrS.step wf (FrS.step wf ((((f0_ wf).extR e9).extR e15).extR e86) e97 Inn.nil) e112 Inn.nil).extR e121) e134 Inn.nil) e143 (hb87.fresh (t_ e9.n e15.n))) e153 Inn.nil) e160 (hb16.fresh e9.n)), u164, (Inn.trans (Inn.app (i99.fresh (t_ (t_ e9.n e15.n) e86.n)) (i114.fresh (t_ (t_ (t_ e9.n e15.n) e86.n) e97.n))) (t_ (t_ (t_ (t_ (t_ e9.n e15.n) e86.n) e97.n) e112.n) e121.n) i136)⟩
 have r165 := ite_bf h154 r151
 refine w_skip (k146 _ _ (w_seqk fun _ k166 => g_' (q_ (i_ (Node.length : Int)) ?_)))
 obtain ⟨g167, r168⟩ := G_some r165
 refine s_mks (t := 125) (m := 1) (l := (Node.length : Int)) (c := (Node.length : Int)) (enc := encB) (sz := 1) e153.wf (false : Bool) (by kernel_rfl) (by decide) g167.1 (Int.le_refl _) (by omega) (by have := g167; omega) (by kernel_rfl) fun s169 f170 H171 e172 hf173 hm174 => ?_
 obtain ⟨a175, n176, c177, rfl⟩ := hm174.form
 have hm174 : Ow encB 1 H171 (.slice a175 n176 c177) (List.replicate Node.length (false : Bool)) f170 := hm174
 refine q_ (.slice a175 n176 c177) (s_nil (k166 _ _ (w_seqk fun _ k179 => w_seqk fun _ k180 => g_' (q_ (pt_ b7 0) ?_))))
 have u181 := ((((((u104.frS e112 Dj.nil_l).ext e121).frS e134 Dj.nil_l).frS e143 (hb87.djn (r11.ltF.le e15.n))).frS e153 Dj.nil_l).ext e172)
 refine l_' (hd_Node) (aL_ 78 (pt_ b7 0) H171) (u181.l_) ?_
 have u182 := ((((((((u21.ext e86).fr e97 Dj.nil_l).fr e112 Dj.nil_l).ext e121).fr e134 Dj.nil_l).fr e143 (hb87.djn (h_Node.lt.le (t_ e9.n e15.n)))).fr e153 Dj.nil_l).ext e172)
 refine l_' (i_ (Node.length : Int)) (aLen Try.prog 78 hd_Node H171) (u182.lenb (by kernel_rfl)) ?_
 refine q_ (i_ 0) (s_nil (k180 _ _ ?_))
 obtain ⟨z186, hx184, r185⟩ := bind_some r168
 refine w_mid (fun α H187 => ∃ o183, z186 = Sum.inr o183 ∧ Has α [(1, pt_ b7 0), (2, pt_ b13 0)] ∧ FrS f170 H171 H187) (fun _ k189 => ?_) (fun α H187 hM => ?_)
 ·refine w_block ?_
  obtain ⟨n191, hn192⟩ := loopO_iff.1 hx184
  refine w_loopn (fun n α H193 => ∃ (seen0 : List (Bool)), ∃ (i1 : Int), iterO (fun zz_ => z_viaductref10_DocCheck_l0 Node zz_.1 zz_.2) n (seen0, i1) = some z186 ∧ Has α [(1, pt_ b7 0), (2, pt_ b13 0), (3, i_ (Node.length : Int)), (5, .slice a175 n176 c177), (66, hd_Node), (67, i_ (Node.length : Int)), (68, i_ i1)] ∧ FrS f170 H171 H193 ∧ Ow encB 1 H193 (.slice a175 n176 c177) seen0 f170) n191 ⟨(List.replicate Node.length (false : Bool)), 0, hn192, ha_, (FrS.refl (W := f170) e172.wf), hm174⟩ ?_
  rintro n191 α H193 ⟨seen0, i1, hi198, hh197, e194, m196⟩ K203 k203
  obtain ⟨n199, z200, rfl, hz201, hn202⟩ := iter_succ hi198
  obtain ⟨β, rfl⟩ := has_ex hh197
  clear hh197
  replace hz201 : z_viaductref10_DocCheck_l0 Node seen0 i1 = some z200 := hz201
  unfold z_viaductref10_DocCheck_l0 at hz201
  refine w_seqk fun _ k204 => g_' (q_ (.bool (decide (i1 < (Node.length : Int)))) (s_nil (k204 _ _ (w_seqk fun _ k205 => ?_))))
  refine w_condp (i1 < (Node.length : Int)) (by kernel_rfl) rfl (fun h206 => ?_) (fun h206 => ?_)
  ·have r207 := ite_t h206 hz201
   refine w_skip (k205 _ _ (w_seqk fun _ k208 => w_block (w_seqk fun _ k209 => g_' (q_ (i_ i1) ?_))))
   obtain ⟨g210, r211⟩ := G_some r207
   have u212 := (u182.fr e194 (hf173.djn (h_Node.lt.le (t_ (t_ (t_ (t_ (t_ (t_ (t_ (t_ e9.n e15.n) e86.n) e97.n) e112.n) e121.n) e134.n) e143.n) e153.n))))
   refine l_' (elp hd_Node 1 i1.toNat 0) (aIndexAddr Try.prog 78 hd_Node (i_ i1)) (u212.idxb (by kernel_rfl) g210 h206) ?_
   refine l_' (.int .u32 (gt Node i1)) (aL_ 90 (elp hd_Node 1 i1.toNat 0) H193) (u212.ld g210 h206 (by kernel_rfl)) ?_
   refine q_ (i_ i1) (q_ (.int .u32 (gt Node i1)) (s_nil (k209 _ _ (w_seqk fun _ k213 => w_seqk fun _ k214 => ?_))))
   obtain ⟨o215, hx216, r217⟩ := bind_some r211
   refine w_mid (fun α H218 => Has α [(1, pt_ b7 0), (2, pt_ b13 0), (3, i_ (Node.length : Int)), (5, .slice a175 n176 c177), (6, i_ i1), (7, .int .u32 (gt Node i1)), (66, hd_Node), (67, i_ (Node.length : Int)), (68, i_ i1), (83, .bool o215)] ∧ H193 = H218) (fun _ k220 => ?_) (fun α H218 hM => ?_)
   ·refine g_' (q_ (.int .u32 (gt Node i1)) ?_)
    obtain ⟨g222, r223⟩ := G_some hx216
    refine s_w ((gt Node i1)) (k := .u64) (x := (gt Node i1)) (by kernel_rfl) (wrapu64 g222) ?_
    refine q_ (i_ (Node.length : Int)) ?_
    obtain ⟨g224, r225⟩ := G_some r223
    refine s_w ((Node.length : Int)) (k := .u64) (x := (Node.length : Int)) (by kernel_rfl) (wrapu64 (by have := g224; omega)) ?_
    refine s_b ((gt Node i1) ≥ (Node.length : Int)) (by kernel_rfl) (fun h226 => ?_) (fun h226 => ?_)
    ·have r227 := ite_t h226 r225
     refine q_ (.bool true) (n_' (n_' (n_' (n_' (q_ (.bool true) (s_nil ?_))))))
     obtain rfl := oi_ r227
     exact k220 _ _ ⟨ha_, rfl⟩
    have r228 := ite_f h226 r225
    refine q_ (.bool false) (q_ (.slice a175 n176 c177) (q_ (.int .u32 (gt Node i1)) ?_))
    obtain ⟨g229, r230⟩ := G_some r228
    refine l_' (elp (.slice a175 n176 c177) 1 (gt Node i1).toNat 0) (aIndexAddr Try.prog 125 (.slice a175 n176 c177) (.int .u32 (gt Node i1))) (m196.sq.idxb (by kernel_rfl) g229.1 g229.2) ?_
    refine l_' (.bool (gt seen0 (gt Node i1))) (aL_ 4 (elp (.slice a175 n176 c177) 1 (gt Node i1).toNat 0) H193) (m196.sq.ld g229.1 g229.2 (by kernel_rfl)) ?_
    refine q_ (.bool (gt seen0 (gt Node i1))) (s_nil ?_)
    obtain rfl := oi_ r230
    exact k220 _ _ ⟨ha_, rfl⟩
   obtain ⟨hh221, rfl⟩ := hM
   obtain ⟨β, rfl⟩ := has_ex hh221
   clear hh221
   refine k214 _ _ ?_
   refine w_cond (o215) (by kernel_rfl) rfl (fun h231 => ?_) (fun h231 => ?_)
   ·have r232 := ite_t h231 r217
    refine w_seqk fun _ k233 => g_' (q_ (i_ i1) ?_)
    obtain ⟨y234, hy235, r236⟩ := bind_some r232
    refine s_ck 70 #[i_ 20] (by kernel_rfl) (c_viaductref01_E e194.wf hy235) ?_
    rintro _ H237 ⟨rfl, e238⟩
    obtain ⟨y239, hy240, r241⟩ := bind_some r236
    refine s_ck 111 #[i_ 3, i_ i1, .agg #[i_ y234, .slice none 0 0]] (by kernel_rfl) (c_viaductref01_At e238.wf (Sq.nil (enc := enc_i64_i64) (sz := 2) (by decide)) hy240) ?_
    rintro _ H244 ⟨s242, f243, rfl, e245, m246, i247⟩
    obtain ⟨a249, n250, c251, rfl⟩ := m246.form
    have u256 := (((((((((((r17.ext e86).frS e97 Dj.nil_l).frS e112 Dj.nil_l).ext e121).frS e134 Dj.nil_l).frS e143 (hb87.djn r17.ltF)).frS e153 Dj.nil_l).ext e172).frS e194 (hf173.djn (r17.ltF.le (t_ (t_ (t_ (t_ (t_ (t_ e86.n e97.n) e112.n) e121.n) e134.n) e143.n) e153.n)))).frS e238 Dj.nil_l).frS e245 Dj.nil_l)
    obtain ⟨H252, q253, e254, r255⟩ := Row.store (P := Try.prog) (t := 46) (p := 0) e245.wf u256 (.agg #[i_ y239.1, .slice a249 n250 c251]) [i_ y239.1, .slice a249 n250 c251] (by kernel_rfl) (by kernel_rfl) (one_cons (rfl) (one_cons (m246.one1) (one_nil))) (Nat.le_of_ble_eq_true (by kernel_rfl)) [i_ y239.1, .slice a249 n250 c251] (by kernel_rfl)
    refine s_ek (undef) (by kernel_rfl) (map_ok q253) ?_
    refine s_nil (k233 _ _ ?_)
    refine w_ret (th_ret (bl_ret (th_ret (th_ret (bl_ret (th_ret (th_ret ?_)))))))
    obtain ⟨v257, hv258, hz259⟩ := map_some r241
    subst hz259
    obtain rfl := it_inr hn202
    have hq260 := elim_inl r185
    rw [hq260] at hv258
    refine b_ret (fn := Try.f102) (vs := [.agg #[i_ y239.1, .slice a249 n250 c251]]) (aRes_cell (Eq.trans (b := aL_ 46 (pt_ b13 0) H252) (by kernel_rfl) (r255.l_)) (rfl)) ?_
    have u261 := (m246.fr e254 (Dj.symm (i247.djn (r17.ltF.le (t_ (t_ (t_ (t_ (t_ (t_ (t_ (t_ (t_ e86.n e97.n) e112.n) e121.n) e134.n) e143.n) e153.n) e172.n) e194.n) e238.n)))))
    obtain rfl := oi_ hv258
    exact ⟨(.slice a249 n250 c251), f243, rfl, (FrS.step wf (FrS.step wf (FrS.step wf (FrS.step wf ((FrS.step wf (FrS.step wf (FrS.step wf ((FrS.step wf (FrS.step wf ((((f0_ wf).extR e9).extR e15).extR e86) e97 Inn.nil) e112 Inn.nil).extR e121) e134 Inn.nil) e143 (hb87.fresh (t_ e9.n e15.n))) e153 Inn.nil).extR e172) e194 (hf173.fresh (t_ (t_ (t_ (t_ (t_ (t_ (t_ (t_ e9.n e15.n) e86.n) e97.n) e112.n) e121.n) e134.n) e143.n) e153.n))) e238 Inn.nil) e245 Inn.nil) e254 (hb16.fresh e9.n)), u261.sq, (i247.fresh (t_ (t_ (t_ (t_ (t_ (t_ (t_ (t_ (t_ (t_ (t_ e9.n e15.n) e86.n) e97.n) e112.n) e121.n) e134.n) e143.n) e153.n) e172.n) e194.n) e238.n))⟩
   have r262 := ite_bf h231 r217
   refine w_skip (k213 _ _ (g_' (q_ (.slice a175 n176 c177) (q_ (.int .u32 (gt Node i1)) ?_))))
   obtain ⟨g263, r264⟩ := G_some r262
   refine l_' (elp (.slice a175 n176 c177) 1 (gt Node i1).toNat 0) (aIndexAddr Try.prog 125 (.slice a175 n176 c177) (.int .u32 (gt Node i1))) (m196.sq.idxb (by kernel_rfl) g263.1 g263.2) ?_
   obtain ⟨H265, q266, e267, hm268⟩ := Ow.store (P := Try.prog) (t := 4) (off := 0) e194.wf m196 g263.1 g263.2 (.bool true) [.bool true] (by kernel_rfl) (by kernel_rfl) rfl true (Nat.le_of_ble_eq_true rfl) (by kernel_rfl)
   refine s_ek (undef) (by kernel_rfl) (map_ok q266) ?_
   refine s_nil (k208 _ _ (g_' ?_))
   obtain ⟨g269, r270⟩ := G_some r264
   refine w_' (i1 + 1) (wrap64 (by have := g269; omega)) ?_
   refine q_ (i_ (i1 + 1)) (s_nil ?_)
   obtain rfl := oi_ r270
   exact k203 n199 _ _ (Nat.lt_succ_self _) ⟨(seen0.set (gt Node i1).toNat true), (i1 + 1), hn202, ha_, (FrS.step e172.wf (FrS.step e172.wf (FrS.refl (W := f170) e172.wf) e194 Inn.refl') e267 Inn.refl'), hm268⟩
  have r271 := ite_f h206 hz201
  refine w_exit (th_exit (th_exit (bl_eq ?_)))
  obtain rfl := oi_ r271
  obtain rfl := it_inr hn202
  exact k189 _ _ ⟨_, rfl, ha_, (FrS.step e172.wf (FrS.refl (W := f170) e172.wf) e194 Inn.refl')⟩
 obtain ⟨o183, rfl, hh190, e188⟩ := hM
 have r272 := elim_inr r185
 obtain ⟨β, rfl⟩ := has_ex hh190
 clear hh190
 refine k179 _ _ (w_seqk fun _ k273 => g_' ?_)
 have u274 := (u181.frS e188 (hf173.djn (r11.ltF.le (t_ (t_ (t_ (t_ (t_ (t_ (t_ e15.n e86.n) e97.n) e112.n) e121.n) e134.n) e143.n) e153.n))))
 refine l_' (.agg #[hd_Node, hd_UpFirst, hd_Up, hd_DownFirst, hd_Down]) (aL_ 81 (pt_ b7 0) H187) (u274.l_) ?_
 have u275 := (u182.fr e188 (hf173.djn (h_Node.lt.le (t_ (t_ (t_ (t_ (t_ (t_ (t_ (t_ e9.n e15.n) e86.n) e97.n) e112.n) e121.n) e134.n) e143.n) e153.n))))
 have u276 := ((((((((u90.fr e97 Dj.nil_l).fr e112 Dj.nil_l).ext e121).fr e134 Dj.nil_l).fr e143 (hb87.djn (h_UpFirst.lt.le (t_ e9.n e15.n)))).fr e153 Dj.nil_l).ext e172).fr e188 (hf173.djn (h_UpFirst.lt.le (t_ (t_ (t_ (t_ (t_ (t_ (t_ (t_ e9.n e15.n) e86.n) e97.n) e112.n) e121.n) e134.n) e143.n) e153.n))))
 have u277 := (((((((((u82.ext e86).fr e97 Dj.nil_l).fr e112 Dj.nil_l).ext e121).fr e134 Dj.nil_l).fr e143 (hb87.djn (h_Up.lt.le (t_ e9.n e15.n)))).fr e153 Dj.nil_l).ext e172).fr e188 (hf173.djn (h_Up.lt.le (t_ (t_ (t_ (t_ (t_ (t_ (t_ (t_ e9.n e15.n) e86.n) e97.n) e112.n) e121.n) e134.n) e143.n) e153.n))))
 have u278 := (((((((u105.fr e112 Dj.nil_l).ext e121).fr e134 Dj.nil_l).fr e143 (hb87.djn (h_DownFirst.lt.le (t_ e9.n e15.n)))).fr e153 Dj.nil_l).ext e172).fr e188 (hf173.djn (h_DownFirst.lt.le (t_ (t_ (t_ (t_ (t_ (t_ (t_ (t_ e9.n e15.n) e86.n) e97.n) e112.n) e121.n) e134.n) e143.n) e153.n))))
 have u279 := (((((((((u83.ext e86).fr e97 Dj.nil_l).fr e112 Dj.nil_l).ext e121).fr e134 Dj.nil_l).fr e143 (hb87.djn (h_Down.lt.le (t_ e9.n e15.n)))).fr e153 Dj.nil_l).ext e172).fr e188 (hf173.djn (h_Down.lt.le (t_ (t_ (t_ (t_ (t_ (t_ (t_ (t_ e9.n e15.n) e86.n) e97.n) e112.n) e121.n) e134.n) e143.n) e153.n))))
 obtain ⟨y280, hy281, r282⟩ := bind_some r272
 refine s_ck 135 #[.agg #[hd_Node, hd_UpFirst, hd_Up, hd_DownFirst, hd_Down]] (by kernel_rfl) (c_viaductref10_Ranks e188.wf u275 u276 u277 u278 u279 hy281) ?_
 rintro s283 H285 ⟨_, f284, rfl, e286, m287, i288⟩
 obtain ⟨a290, n291, c292, rfl⟩ := m287.form
 refine q_ (.slice a290 n291 c292) (s_nil (k273 _ _ (w_seqk fun _ k293 => w_seqk fun _ k294 => g_' (q_ (.slice a290 n291 c292) ?_))))
 refine l_' (i_ (y280.length : Int)) (aLen Try.prog 22 (.slice a290 n291 c292) H285) (m287.sq.lenb (by kernel_rfl)) ?_
 refine q_ (i_ 0) (s_nil (k294 _ _ ?_))
 obtain ⟨z298, hx296, r297⟩ := bind_some r282
 refine w_mid (fun α H299 => ∃ o295, z298 = Sum.inr o295 ∧ Has α [(2, pt_ b13 0)] ∧ FrS [] H285 H299) (fun _ k301 => ?_) (fun α H299 hM => ?_)
 ·refine w_block ?_
  obtain ⟨n303, hn304⟩ := loopO_iff.1 hx296
  refine w_loopn (fun n α H305 => ∃ (i2 : Int), iterO (fun zz_ => z_viaductref10_DocCheck_l1 Node UpFirst Up DownFirst Down y280 zz_) n i2 = some z298 ∧ Has α [(1, pt_ b7 0), (2, pt_ b13 0), (8, .slice a290 n291 c292), (94, i_ (y280.length : Int)), (95, i_ i2)] ∧ FrS [] H285 H305) n303 ⟨0, hn304, ha_, (FrS.refl (W := []) e286.wf)⟩ ?_
  rintro n303 α H305 ⟨i2, hi308, hh307, e306⟩ K313 k313
  obtain ⟨n309, z310, rfl, hz311, hn312⟩ := iter_succ hi308
  obtain ⟨β, rfl⟩ := has_ex hh307
  clear hh307
  replace hz311 : z_viaductref10_DocCheck_l1 Node UpFirst Up DownFirst Down y280 i2 = some z310 := hz311
  unfold z_viaductref10_DocCheck_l1 at hz311
  refine w_seqk fun _ k314 => g_' (q_ (.bool (decide (i2 < (y280.length : Int)))) (s_nil (k314 _ _ (w_seqk fun _ k315 => ?_))))
  refine w_condp (i2 < (y280.length : Int)) (by kernel_rfl) rfl (fun h316 => ?_) (fun h316 => ?_)
  ·have r317 := ite_t h316 hz311
   refine w_skip (k315 _ _ (w_seqk fun _ k318 => w_block (w_seqk fun _ k319 => g_' (q_ (i_ i2) (q_ (i_ i2) (s_nil (k319 _ _ (w_seqk fun _ k320 => g_' ?_))))))))
   have u321 := ((u274.frS e286 Dj.nil_l).frS e306 Dj.nil_l)
   refine l_' (.agg #[hd_Node, hd_UpFirst, hd_Up, hd_DownFirst, hd_Down]) (aL_ 81 (pt_ b7 0) H305) (u321.l_) ?_
   refine q_ (.slice a290 n291 c292) (q_ (i_ i2) ?_)
   have u322 := ((u275.fr e286 Dj.nil_l).fr e306 Dj.nil_l)
   have u323 := ((u276.fr e286 Dj.nil_l).fr e306 Dj.nil_l)
   have u324 := ((u277.fr e286 Dj.nil_l).fr e306 Dj.nil_l)
   have u325 := ((u278.fr e286 Dj.nil_l).fr e306 Dj.nil_l)
   have u326 := ((u279.fr e286 Dj.nil_l).fr e306 Dj.nil_l)
   have u327 := (m287.fr e306 Dj.nil_l)
   obtain ⟨y328, hy329, r330⟩ := bind_some r317
   refine s_ck 136 #[.agg #[hd_Node, hd_UpFirst, hd_Up, hd_DownFirst, hd_Down], .slice a290 n291 c292, i_ i2] (by kernel_rfl) (c_viaductref10_link e306.wf u322 u323 u324 u325 u326 u327.sq hy329) ?_
   rintro _ H333 ⟨s331, f332, rfl, e334, m335, i336⟩
   obtain ⟨a338, n339, c340, rfl⟩ := m335.form
   refine s_rwk e334.wf [i_ 0, .slice none 0 0] (by kernel_rfl) fun b341 H342 e343 hb344 r345 => ?_
   have u351 := (m335.ext e343)
   obtain ⟨H347, q348, e349, r350⟩ := Row.store (P := Try.prog) (t := 46) (p := 0) e343.wf r345 (.agg #[i_ y328.1, .slice a338 n339 c340]) [i_ y328.1, .slice a338 n339 c340] (by kernel_rfl) (by kernel_rfl) (one_cons (rfl) (one_cons (u351.one1) (one_nil))) (Nat.le_of_ble_eq_true (by kernel_rfl)) [i_ y328.1, .slice a338 n339 c340] (by kernel_rfl)
   refine s_ek (undef) (by kernel_rfl) (map_ok q348) ?_
   refine s_nil (k320 _ _ (w_seqk fun _ k352 => g_' ?_))
   refine l_' (.agg #[i_ y328.1, .slice a338 n339 c340]) (aL_ 46 (pt_ b341 0) H347) (r350.l_) ?_
   have u353 := (u351.fr e349 (hb344.djn m335.lt))
   obtain ⟨y354, hy355, r356⟩ := bind_some r330
   refine s_ck 56 #[.agg #[i_ y328.1, .slice a338 n339 c340]] (by kernel_rfl) (c_viaductref01_Err_Bad e349.wf u353.sq hy355) ?_
   rintro _ H357 ⟨rfl, e358⟩
   refine s_nil (k352 _ _ ?_)
   refine w_cond (y354) (by kernel_rfl) rfl (fun h359 => ?_) (fun h359 => ?_)
   ·have r360 := ite_t h359 r356
    refine w_seqk fun _ k361 => g_' ?_
    have u362 := (r350.frS e358 Dj.nil_l)
    refine l_' (.agg #[i_ y328.1, .slice a338 n339 c340]) (aL_ 46 (pt_ b341 0) H357) (u362.l_) ?_
    have u367 := (((((((((((((((r17.ext e86).frS e97 Dj.nil_l).frS e112 Dj.nil_l).ext e121).frS e134 Dj.nil_l).frS e143 (hb87.djn r17.ltF)).frS e153 Dj.nil_l).ext e172).frS e188 (hf173.djn (r17.ltF.le (t_ (t_ (t_ (t_ (t_ (t_ e86.n e97.n) e112.n) e121.n) e134.n) e143.n) e153.n)))).frS e286 Dj.nil_l).frS e306 Dj.nil_l).frS e334 Dj.nil_l).ext e343).frS e349 (hb344.djn (r17.ltF.le (t_ (t_ (t_ (t_ (t_ (t_ (t_ (t_ (t_ (t_ (t_ e86.n e97.n) e112.n) e121.n) e134.n) e143.n) e153.n) e172.n) e188.n) e286.n) e306.n) e334.n)))).frS e358 Dj.nil_l)
    have u368 := (u353.fr e358 Dj.nil_l)
    obtain ⟨H363, q364, e365, r366⟩ := Row.store (P := Try.prog) (t := 46) (p := 0) e358.wf u367 (.agg #[i_ y328.1, .slice a338 n339 c340]) [i_ y328.1, .slice a338 n339 c340] (by kernel_rfl) (by kernel_rfl) (one_cons (rfl) (one_cons (u368.one1) (one_nil))) (Nat.le_of_ble_eq_true (by kernel_rfl)) [i_ y328.1, .slice a338 n339 c340] (by kernel_rfl)
    refine s_ek (undef) (by kernel_rfl) (map_ok q364) ?_
    refine s_nil (k361 _ _ ?_)
    refine w_ret (bl_ret (th_ret (th_ret (bl_ret (th_ret (th_ret ?_))))))
    obtain ⟨v369, hv370, hz371⟩ := map_some r360
    subst hz371
    obtain rfl := it_inr hn312
    have hq372 := elim_inl r297
    rw [hq372] at hv370
    refine b_ret (fn := Try.f102) (vs := [.agg #[i_ y328.1, .slice a338 n339 c340]]) (aRes_cell (Eq.trans (b := aL_ 46 (pt_ b13 0) H363) (by kernel_rfl) (r366.l_)) (rfl)) ?_
    have u373 := (u368.fr e365 (Dj.symm (i336.djn (r17.ltF.le (t_ (t_ (t_ (t_ (t_ (t_ (t_ (t_ (t_ (t_ e86.n e97.n) e112.n) e121.n) e134.n) e143.n) e153.n) e172.n) e188.n) e286.n) e306.n)))))
    obtain rfl := oi_ hv370
    exact ⟨(.slice a338 n339 c340), f332, rfl, (FrS.step wf (FrS.step wf (FrS.step wf ((FrS.step wf (FrS.step wf (FrS.step wf (FrS.step wf ((FrS.step wf (FrS.step wf (FrS.step wf ((FrS.step wf (FrS.step wf ((((f0_ wf).extR e9).extR e15).extR e86) e97 Inn.nil) e112 Inn.nil).extR e121) e134 Inn.nil) e143 (hb87.fresh (t_ e9.n e15.n))) e153 Inn.nil).extR e172) e188 (hf173.fresh (t_ (t_ (t_ (t_ (t_ (t_ (t_ (t_ e9.n e15.n) e86.n) e97.n) e112.n) e121.n) e134.n) e143.n) e153.n))) e286 Inn.nil) e306 Inn.nil) e334 Inn.nil).extR e343) e349 (hb344.fresh (t_ (t_ (t_ (t_ (t_ (t_ (t_ (t_ (t_ (t_ (t_ (t_ (t_ e9.n e15.n) e86.n) e97.n) e112.n) e121.n) e134.n) e143.n) e153.n) e172.n) e188.n) e286.n) e306.n) e334.n))) e358 Inn.nil) e365 (hb16.fresh e9.n)), u373.sq, (i336.fresh (t_ (t_ (t_ (t_ (t_ (t_ (t_ (t_ (t_ (t_ (t_ (t_ e9.n e15.n) e86.n) e97.n) e112.n) e121.n) e134.n) e143.n) e153.n) e172.n) e188.n) e286.n) e306.n))⟩
   have r374 := ite_bf h359 r356
   refine w_skip (k318 _ _ (g_' ?_))
   obtain ⟨g375, r376⟩ := G_some r374
   refine w_' (i2 + 1) (wrap64 g375) ?_
   refine q_ (i_ (i2 + 1)) (s_nil ?_)
   obtain rfl := oi_ r376
   exact k313 n309 _ _ (Nat.lt_succ_self _) ⟨(i2 + 1), hn312, ha_, (FrS.step e286.wf (FrS.step e286.wf ((FrS.step e286.wf (FrS.step e286.wf (FrS.refl (W := []) e286.wf) e306 Inn.nil) e334 Inn.nil).extR e343) e349 (hb344.fresh (t_ e306.n e334.n))) e358 Inn.nil)⟩
  have r377 := ite_f h316 hz311
  refine w_exit (th_exit (th_exit (bl_eq ?_)))
  obtain rfl := oi_ r377
  obtain rfl := it_inr hn312
  exact k301 _ _ ⟨_, rfl, ha_, (FrS.step e286.wf (FrS.refl (W := []) e286.wf) e306 Inn.nil)⟩
 obtain ⟨o295, rfl, hh302, e300⟩ := hM
 have r378 := elim_inr r297
 obtain ⟨β, rfl⟩ := has_ex hh302
 clear hh302
 refine k293 _ _ (w_seqk fun _ k379 => g_' (q_ (.agg #[i_ 0, .slice none 0 0]) ?_))
 have u384 := (((((((((((r17.ext e86).frS e97 Dj.nil_l).frS e112 Dj.nil_l).ext e121).frS e134 Dj.nil_l).frS e143 (hb87.djn r17.ltF)).frS e153 Dj.nil_l).ext e172).frS e188 (hf173.djn (r17.ltF.le (t_ (t_ (t_ (t_ (t_ (t_ e86.n e97.n) e112.n) e121.n) e134.n) e143.n) e153.n)))).frS e286 Dj.nil_l).frS e300 Dj.nil_l)
 obtain ⟨H380, q381, e382, r383⟩ := Row.store (P := Try.prog) (t := 46) (p := 0) e300.wf u384 (.agg #[i_ 0, .slice none 0 0]) [i_ 0, .slice none 0 0] (by kernel_rfl) (by kernel_rfl) (one_cons (rfl) (one_cons (rfl) (one_nil))) (Nat.le_of_ble_eq_true (by kernel_rfl)) [i_ 0, .slice none 0 0] (by kernel_rfl)
 refine s_ek (undef) (by kernel_rfl) (map_ok q381) ?_
 refine s_nil (k379 _ _ ?_)
 refine w_ret ?_
 refine b_ret (fn := Try.f102) (vs := [.agg #[i_ 0, .slice none 0 0]]) (aRes_cell (Eq.trans (b := aL_ 46 (pt_ b13 0) H380) (by kernel_rfl) (r383.l_)) (rfl)) ?_
 obtain rfl := oi_ r378
 exact ⟨(.slice none 0 0), [], rfl, (FrS.step wf (FrS.step wf (FrS.step wf (FrS.step wf ((FrS.step wf (FrS.step wf (FrS.step wf ((FrS.step wf (FrS.step wf ((((f0_ wf).extR e9).extR e15).extR e86) e97 Inn.nil) e112 Inn.nil).extR e121) e134 Inn.nil) e143 (hb87.fresh (t_ e9.n e15.n))) e153 Inn.nil).extR e172) e188 (hf173.fresh (t_ (t_ (t_ (t_ (t_ (t_ (t_ (t_ e9.n e15.n) e86.n) e97.n) e112.n) e121.n) e134.n) e143.n) e153.n))) e286 Inn.nil) e300 Inn.nil) e382 (hb16.fresh e9.n)), (Sq.nil (by decide)), Inn.nil⟩
theorem c_viaductref10_number {H : AH} {hd_Node : Value} {fp_Node : Fp} {hd_UpFirst : Value} {fp_UpFirst : Fp} {hd_Up : Value} {fp_Up : Fp} {hd_DownFirst : Value} {fp_DownFirst : Fp} {hd_Down : Value} {fp_Down : Fp} {Node : List (Int)} {UpFirst : List (Int)} {Up : List (Int × Int × Int × Int)} {DownFirst : List (Int)} {Down : List (Int × Int × Int × Int)} {i : Int} {r : Int}
    (wf : WF H) (h_Node : Sq (encI .u32) 1 H hd_Node Node fp_Node) (h_UpFirst : Sq (encI .u32) 1 H hd_UpFirst UpFirst fp_UpFirst) (h_Up : Sq enc_u32_u64_u32_u32 4 H hd_Up Up fp_Up) (h_DownFirst : Sq (encI .u32) 1 H hd_DownFirst DownFirst fp_DownFirst) (h_Down : Sq enc_u32_u64_u32_u32 4 H hd_Down Down fp_Down) (hr : z_viaductref10_number Node UpFirst Up DownFirst Down i = some r) :
    ACalls Try.prog 162 #[.agg #[hd_Node, hd_UpFirst, hd_Up, hd_DownFirst, hd_Down], .int .u32 i] H fun v H' => v = .int .u32 r ∧ FrS [] H H' := by
 refine acalls_of_body mixed Try.func162 rfl (Nat.le_of_ble_eq_true rfl) ?_
 unfold z_viaductref10_number at hr
 refine w_seqk fun _ k1 => g_' ?_
 refine s_rwl wf [hd_Node, hd_UpFirst, hd_Up, hd_DownFirst, hd_Down] (one_cons (h_Node.one1) (one_cons (h_UpFirst.one1) (one_cons (h_Up.one1) (one_cons (h_DownFirst.one1) (one_cons (h_Down.one1) (one_nil)))))) (by kernel_rfl) fun b2 H3 e4 hb5 r6 => ?_
 refine q_ (.int .u32 0) (s_nil (k1 _ _ (w_seqk fun _ k8 => w_block (w_seqk fun _ k9 => g_' (q_ (.int .u32 i) (q_ (.bool (decide (i = 4294967295))) (q_ (.bool (decide (i = 4294967295))) (s_nil (k9 _ _ ?_)))))))))
 refine w_condp (i = 4294967295) (by kernel_rfl) rfl (fun h10 => ?_) (fun h10 => ?_)
 ·have r11 := ite_t h10 hr
  refine w_seqk fun _ k12 => g_' (q_ (.int .u32 i) (q_ (.int .u32 i) (s_nil (k12 _ _ ?_))))
  refine w_ret (bl_ret (th_ret ?_))
  refine b_ret (fn := Try.f162) (vs := [.int .u32 i]) (rt_ (rfl)) ?_
  obtain rfl := oi_ r11
  exact ⟨rfl, ((f0_ wf).extR e4)⟩
 have r13 := ite_f h10 hr
 refine w_seqk fun _ k14 => g_' (q_ (.int .u32 i) ?_)
 obtain ⟨g15, r16⟩ := G_some r13
 refine w_' i (wrap64 g15) ?_
 refine q_ (pt_ b2 2) ?_
 refine l_' (hd_Up) (aL_ 79 (pt_ b2 2) H3) (r6.l_) ?_
 have u17 := (h_Up.ext e4)
 refine l_' (i_ (Up.length : Int)) (aLen Try.prog 79 hd_Up H3) (u17.lenb (by kernel_rfl)) ?_
 refine q_ (.bool (decide (i < (Up.length : Int)))) (q_ (.bool (decide (i < (Up.length : Int)))) (s_nil (k14 _ _ ?_)))
 refine w_condp (i < (Up.length : Int)) (by kernel_rfl) rfl (fun h18 => ?_) (fun h18 => ?_)
 ·have r19 := ite_t h18 r16
  refine w_seqk fun _ k20 => g_' (q_ (pt_ b2 4) ?_)
  refine l_' (hd_Down) (aL_ 79 (pt_ b2 4) H3) (r6.l_) ?_
  have u21 := (h_Down.ext e4)
  refine l_' (i_ (Down.length : Int)) (aLen Try.prog 79 hd_Down H3) (u21.lenb (by kernel_rfl)) ?_
  obtain ⟨g22, r23⟩ := G_some r19
  refine s_w ((Down.length : Int)) (k := .u32) (x := (Down.length : Int)) (by kernel_rfl) (wrapu32 (by have := g22; omega)) ?_
  refine q_ (.int .u32 i) ?_
  obtain ⟨g24, r25⟩ := G_some r23
  refine s_w (((Down.length : Int) + i)) (k := .u32) (x := ((Down.length : Int) + i)) (by kernel_rfl) (wrapu32 g24) ?_
  refine q_ (.int .u32 ((Down.length : Int) + i)) (s_nil (k20 _ _ ?_))
  refine w_ret (bl_ret (th_ret ?_))
  refine b_ret (fn := Try.f162) (vs := [.int .u32 ((Down.length : Int) + i)]) (rt_ (rfl)) ?_
  obtain rfl := oi_ r25
  exact ⟨rfl, ((f0_ wf).extR e4)⟩
 have r26 := ite_f h18 r16
 refine w_skip (k8 _ _ (w_seqk fun _ k27 => g_' (q_ (.int .u32 i) (q_ (pt_ b2 2) ?_))))
 refine l_' (hd_Up) (aL_ 79 (pt_ b2 2) H3) (r6.l_) ?_
 refine l_' (i_ (Up.length : Int)) (aLen Try.prog 79 hd_Up H3) (u17.lenb (by kernel_rfl)) ?_
 obtain ⟨g28, r29⟩ := G_some r26
 refine s_w ((Up.length : Int)) (k := .u32) (x := (Up.length : Int)) (by kernel_rfl) (wrapu32 (by have := g28; omega)) ?_
 obtain ⟨g30, r31⟩ := G_some r29
 refine s_w ((i - (Up.length : Int))) (k := .u32) (x := (i - (Up.length : Int))) (by kernel_rfl) (wrapu32 g30) ?_
 refine q_ (.int .u32 (i - (Up.length : Int))) (s_nil (k27 _ _ ?_))
 refine w_ret ?_
 refine b_ret (fn := Try.f162) (vs := [.int .u32 (i - (Up.length : Int))]) (rt_ (rfl)) ?_
 obtain rfl := oi_ r31
 exact ⟨rfl, ((f0_ wf).extR e4)⟩
theorem c_viaductref10_turned {H : AH} {hd_Node : Value} {fp_Node : Fp} {hd_UpFirst : Value} {fp_UpFirst : Fp} {hd_Up : Value} {fp_Up : Fp} {hd_DownFirst : Value} {fp_DownFirst : Fp} {hd_Down : Value} {fp_Down : Fp} {Node : List (Int)} {UpFirst : List (Int)} {Up : List (Int × Int × Int × Int)} {DownFirst : List (Int)} {Down : List (Int × Int × Int × Int)} {r : List (Int × Int × Int × Int)}
    (wf : WF H) (h_Node : Sq (encI .u32) 1 H hd_Node Node fp_Node) (h_UpFirst : Sq (encI .u32) 1 H hd_UpFirst UpFirst fp_UpFirst) (h_Up : Sq enc_u32_u64_u32_u32 4 H hd_Up Up fp_Up) (h_DownFirst : Sq (encI .u32) 1 H hd_DownFirst DownFirst fp_DownFirst) (h_Down : Sq enc_u32_u64_u32_u32 4 H hd_Down Down fp_Down) (hr : z_viaductref10_turned Node UpFirst Up DownFirst Down = some r) :
    ACalls Try.prog 137 #[.agg #[hd_Node, hd_UpFirst, hd_Up, hd_DownFirst, hd_Down], hd_Down] H fun v H' => ∃ (s3 : Value) (f4 : Fp), v = s3 ∧ FrS [] H H' ∧ Ow enc_u32_u64_u32_u32 4 H' s3 r f4 ∧ Inn [] H f4 := by
 refine acalls_of_body mixed Try.func137 rfl (Nat.le_of_ble_eq_true rfl) ?_
 unfold z_viaductref10_turned at hr
 refine w_seqk fun _ k6 => g_' ?_
 refine s_rwl wf [hd_Node, hd_UpFirst, hd_Up, hd_DownFirst, hd_Down] (one_cons (h_Node.one1) (one_cons (h_UpFirst.one1) (one_cons (h_Up.one1) (one_cons (h_DownFirst.one1) (one_cons (h_Down.one1) (one_nil)))))) (by kernel_rfl) fun b7 H8 e9 hb10 r11 => ?_
 refine q_ (.slice none 0 0) (s_nil (k6 _ _ (w_seqk fun _ k13 => g_' (q_ (.slice none 0 0) (s_nil (k13 _ _ (w_seqk fun _ k14 => w_seqk fun _ k15 => g_' (q_ (hd_Down) ?_))))))))
 have u16 := (h_Down.ext e9)
 refine l_' (i_ (Down.length : Int)) (aLen Try.prog 79 hd_Down H8) (u16.lenb (by kernel_rfl)) ?_
 refine q_ (i_ 0) (s_nil (k15 _ _ ?_))
 obtain ⟨o17, hx18, r19⟩ := bind_some hr
 refine w_mid (fun α H20 => ∃ (s24 : Value) (f25 : Fp), Has α [(5, s24)] ∧ FrS [] H8 H20 ∧ Ow enc_u32_u64_u32_u32 4 H20 s24 o17 f25 ∧ Inn [] H8 f25) (fun _ k27 => ?_) (fun α H20 hM => ?_)
 ·refine w_block ?_
  obtain ⟨n29, hn30⟩ := loopO_iff.1 hx18
  refine w_loopn (fun n α H31 => ∃ (i0 : Int), ∃ (m1 : List (Int × Int × Int × Int)), ∃ (s35 : Value), ∃ (f36 : Fp), iterO (fun zz_ => z_viaductref10_turned_l0 Node UpFirst Up DownFirst Down zz_.1 zz_.2) n (i0, m1) = some o17 ∧ Has α [(2, pt_ b7 0), (5, s35), (8, hd_Down), (9, i_ (Down.length : Int)), (10, i_ i0)] ∧ FrS [] H8 H31 ∧ Ow enc_u32_u64_u32_u32 4 H31 s35 m1 f36 ∧ Inn [] H8 f36) n29 ⟨0, [], (.slice none 0 0), [], hn30, ha_, (FrS.refl (W := []) e9.wf), (Ow.nil (by decide)), Inn.nil⟩ ?_
  rintro n29 α H31 ⟨i0, m1, s35, f36, hi39, hh38, e32, m34, i37⟩ K44 k44
  obtain ⟨n40, z41, rfl, hz42, hn43⟩ := iter_succ hi39
  obtain ⟨β, rfl⟩ := has_ex hh38
  clear hh38
  replace hz42 : z_viaductref10_turned_l0 Node UpFirst Up DownFirst Down i0 m1 = some z41 := hz42
  unfold z_viaductref10_turned_l0 at hz42
  obtain ⟨a45, n46, c47, rfl⟩ := m34.form
  refine w_seqk fun _ k48 => g_' (q_ (.bool (decide (i0 < (Down.length : Int)))) (s_nil (k48 _ _ (w_seqk fun _ k49 => ?_))))
  refine w_condp (i0 < (Down.length : Int)) (by kernel_rfl) rfl (fun h50 => ?_) (fun h50 => ?_)
  ·have r51 := ite_t h50 hz42
   refine w_skip (k49 _ _ (w_seqk fun _ k52 => w_block (w_seqk fun _ k53 => g_' ?_)))
   obtain ⟨g54, r55⟩ := G_some r51
   have u56 := (u16.fr e32 Dj.nil_l)
   refine l_' (elp hd_Down 4 i0.toNat 0) (aIndexAddr Try.prog 79 hd_Down (i_ i0)) (u56.idxb (by kernel_rfl) g54 h50) ?_
   refine l_' (.agg #[.int .u32 ((gt Down i0).1), .int .u64 ((gt Down i0).2.1), .int .u32 ((gt Down i0).2.2.1), .int .u32 ((gt Down i0).2.2.2)]) (aL_ 93 (elp hd_Down 4 i0.toNat 0) H31) (u56.ld g54 h50 (by kernel_rfl)) ?_
   refine s_rwk e32.wf [.int .u32 0, .int .u64 0, .int .u32 0, .int .u32 0] (by kernel_rfl) fun b57 H58 e59 hb60 r61 => ?_
   obtain ⟨H63, q64, e65, r66⟩ := Row.store (P := Try.prog) (t := 93) (p := 0) e59.wf r61 (.agg #[.int .u32 ((gt Down i0).1), .int .u64 ((gt Down i0).2.1), .int .u32 ((gt Down i0).2.2.1), .int .u32 ((gt Down i0).2.2.2)]) [.int .u32 ((gt Down i0).1), .int .u64 ((gt Down i0).2.1), .int .u32 ((gt Down i0).2.2.1), .int .u32 ((gt Down i0).2.2.2)] (by kernel_rfl) (by kernel_rfl) (one_cons (rfl) (one_cons (rfl) (one_cons (rfl) (one_cons (rfl) (one_nil))))) (Nat.le_of_ble_eq_true (by kernel_rfl)) [.int .u32 ((gt Down i0).1), .int .u64 ((gt Down i0).2.1), .int .u32 ((gt Down i0).2.2.1), .int .u32 ((gt Down i0).2.2.2)] (by kernel_rfl)
   refine s_ek (undef) (by kernel_rfl) (map_ok q64) ?_
   refine s_nil (k53 _ _ ?_)
   refine w_draw [0, 1, 2, 3, 4, 5, 6, 7, 9, 10, 11, 8, 12, 13, 14, 15, 16] (by kernel_rfl) ?_
   refine e_' (.slice a45 n46 c47) (e_' (pt_ b57 0) ?_)
   refine d_fl (.int .u32 ((gt Down i0).1)) (x := aL_ 90 (pt_ b57 0) H63) (by kernel_rfl) (r66.l_) ?_
   refine e_' (pt_ b57 1) ?_
   refine d_fl (.int .u64 ((gt Down i0).2.1)) (x := aL_ 42 (pt_ b57 1) H63) (by kernel_rfl) (r66.l_) ?_
   have u67 := (((r11.frS e32 Dj.nil_l).ext e59).frS e65 (hb60.djn (r11.ltF.le e32.n)))
   refine m_' (.agg #[hd_Node, hd_UpFirst, hd_Up, hd_DownFirst, hd_Down]) (aL_ 81 (pt_ b7 0) H63) (u67.l_) ?_
   refine e_' (pt_ b57 3) ?_
   refine m_' (.int .u32 ((gt Down i0).2.2.2)) (aL_ 90 (pt_ b57 3) H63) (r66.l_) ?_
   refine d_fl (.agg #[hd_Node, hd_UpFirst, hd_Up, hd_DownFirst, hd_Down]) (x := aL_ 81 (pt_ b7 0) H63) (by kernel_rfl) (u67.l_) ?_
   refine e_' (pt_ b57 2) ?_
   refine d_fl (.int .u32 ((gt Down i0).2.2.1)) (x := aL_ 90 (pt_ b57 2) H63) (by kernel_rfl) (r66.l_) ?_
   have u68 := ((((h_Node.ext e9).fr e32 Dj.nil_l).ext e59).fr e65 (hb60.djn (h_Node.lt.le (t_ e9.n e32.n))))
   have u69 := ((((h_UpFirst.ext e9).fr e32 Dj.nil_l).ext e59).fr e65 (hb60.djn (h_UpFirst.lt.le (t_ e9.n e32.n))))
   have u70 := ((((h_Up.ext e9).fr e32 Dj.nil_l).ext e59).fr e65 (hb60.djn (h_Up.lt.le (t_ e9.n e32.n))))
   have u71 := ((((h_DownFirst.ext e9).fr e32 Dj.nil_l).ext e59).fr e65 (hb60.djn (h_DownFirst.lt.le (t_ e9.n e32.n))))
   have u72 := ((u56.ext e59).fr e65 (hb60.djn (h_Down.lt.le (t_ e9.n e32.n))))
   obtain ⟨y73, hy74, r75⟩ := bind_some r55
   refine d_ck 162 #[.agg #[hd_Node, hd_UpFirst, hd_Up, hd_DownFirst, hd_Down], .int .u32 ((gt Down i0).2.2.2)] (by kernel_rfl) (c_viaductref10_number e65.wf u68 u69 u70 u71 u72 hy74) ?_
   rintro _ H76 ⟨rfl, e77⟩
   have u78 := (r66.frS e77 Dj.nil_l)
   have u79 := (u67.frS e77 Dj.nil_l)
   refine ⟨st_ql (y := aL_ 90 (pt_ b57 2) H76) (by kernel_rfl) (u78.l_) (st_ql (y := aL_ 81 (pt_ b7 0) H76) (by kernel_rfl) (u79.l_) (st_ql (y := aL_ 42 (pt_ b57 1) H76) (by kernel_rfl) (u78.l_) (st_ql (y := aL_ 90 (pt_ b57 0) H76) (by kernel_rfl) (u78.l_) (st_nil)))), ?_⟩
   have u80 := (u68.fr e77 Dj.nil_l)
   have u81 := (u69.fr e77 Dj.nil_l)
   have u82 := (u70.fr e77 Dj.nil_l)
   have u83 := (u71.fr e77 Dj.nil_l)
   have u84 := (u72.fr e77 Dj.nil_l)
   obtain ⟨y85, hy86, r87⟩ := bind_some r75
   refine d_ck 162 #[.agg #[hd_Node, hd_UpFirst, hd_Up, hd_DownFirst, hd_Down], .int .u32 ((gt Down i0).2.2.1)] (by kernel_rfl) (c_viaductref10_number e77.wf u80 u81 u82 u83 u84 hy86) ?_
   rintro _ H88 ⟨rfl, e89⟩
   have u90 := (u78.frS e89 Dj.nil_l)
   refine ⟨st_anc (by kernel_rfl) (st_anc (by kernel_rfl) (st_ql (y := aL_ 42 (pt_ b57 1) H88) (by kernel_rfl) (u90.l_) (st_ql (y := aL_ 90 (pt_ b57 0) H88) (by kernel_rfl) (u90.l_) (st_nil)))), ?_⟩
   refine e_' (.agg #[.int .u32 ((gt Down i0).1), .int .u64 ((gt Down i0).2.1), .int .u32 y73, .int .u32 y85]) ?_
   refine d_owk (enc := enc_u32_u64_u32_u32) (sz := 4) e89.wf [((gt Down i0).1, (gt Down i0).2.1, y73, y85)] 1 (by decide) (fun _ _ => rfl) (fun _ _ => rfl) rfl (by kernel_rfl) fun s91 f92 H93 e94 hf95 hm96 => ?_
   obtain ⟨a97, n98, c99, rfl⟩ := hm96.form
   have u101 := (((((m34.ext e59).fr e65 (hb60.djn m34.lt)).fr e77 Dj.nil_l).fr e89 Dj.nil_l).ext e94)
   obtain ⟨g102, r103⟩ := G_some r87
   obtain ⟨s104, H105, f106, q110, e107, hm108, hf109⟩ := Ow.append (P := Try.prog) 24 e94.wf u101 hm96.sq (fun _ _ => rfl) (at_ := #[79, 79]) rfl rfl (by kernel_rfl) (by kernel_rfl) (by decide) (by have := g102; first | omega | (simp only [List.length_cons, List.length_nil] at this ⊢; omega) | (simp at this ⊢; omega))
   obtain ⟨a111, n112, c113, rfl⟩ := hm108.form
   refine d_ek (.slice a111 n112 c113) (by kernel_rfl) (q110) (st_anc (by kernel_rfl) (st_anc (by kernel_rfl) (st_anc (by kernel_rfl) (st_anc (by kernel_rfl) (st_nil))))) ?_
   refine e_' (.slice a111 n112 c113) ?_
   refine d_nil ?_
   refine k52 _ _ (g_' ?_)
   obtain ⟨g115, r116⟩ := G_some r103
   refine w_' (i0 + 1) (wrap64 (by have := g115; omega)) ?_
   refine q_ (i_ (i0 + 1)) (s_nil ?_)
   obtain rfl := oi_ r116
   exact k44 n40 _ _ (Nat.lt_succ_self _) ⟨(i0 + 1), (m1 ++ [((gt Down i0).1, (gt Down i0).2.1, y73, y85)]), (.slice a111 n112 c113), f106, hn43, ha_, (FrS.step e9.wf ((FrS.step e9.wf (FrS.step e9.wf (FrS.step e9.wf ((FrS.step e9.wf (FrS.refl (W := []) e9.wf) e32 Inn.nil).extR e59) e65 (hb60.fresh e32.n)) e77 Inn.nil) e89 Inn.nil).extR e94) e107 (i37.fresh (Nat.le_refl _))), hm108, (Inn.trans (i37.fresh (Nat.le_refl _)) (t_ (t_ (t_ (t_ (t_ e32.n e59.n) e65.n) e77.n) e89.n) e94.n) hf109)⟩
  have r117 := ite_f h50 hz42
  refine w_exit (th_exit (th_exit (bl_eq ?_)))
  obtain rfl := oi_ r117
  obtain rfl := it_inr hn43
  exact k27 _ _ ⟨(.slice a45 n46 c47), f36, ha_, (FrS.step e9.wf (FrS.refl (W := []) e9.wf) e32 Inn.nil), m34, (i37.fresh (Nat.le_refl _))⟩
 obtain ⟨s24, f25, hh28, e21, m23, i26⟩ := hM
 obtain ⟨β, rfl⟩ := has_ex hh28
 clear hh28
 obtain ⟨a118, n119, c120, rfl⟩ := m23.form
 refine k14 _ _ (w_seqk fun _ k121 => g_' (q_ (.slice a118 n119 c120) (q_ (.slice a118 n119 c120) (s_nil (k121 _ _ ?_)))))
 refine w_ret ?_
 refine b_ret (fn := Try.f137) (vs := [.slice a118 n119 c120]) (rt_ (rfl)) ?_
 obtain rfl := oi_ r19
 exact ⟨(.slice a118 n119 c120), f25, rfl, (FrS.step wf ((f0_ wf).extR e9) e21 Inn.nil), m23, (i26.fresh e9.n)⟩
theorem c_viaductref10_turned_1 {H : AH} {hd_Node : Value} {fp_Node : Fp} {hd_UpFirst : Value} {fp_UpFirst : Fp} {hd_Up : Value} {fp_Up : Fp} {hd_DownFirst : Value} {fp_DownFirst : Fp} {hd_Down : Value} {fp_Down : Fp} {Node : List (Int)} {UpFirst : List (Int)} {Up : List (Int × Int × Int × Int)} {DownFirst : List (Int)} {Down : List (Int × Int × Int × Int)} {r : List (Int × Int × Int × Int)}
    (wf : WF H) (h_Node : Sq (encI .u32) 1 H hd_Node Node fp_Node) (h_UpFirst : Sq (encI .u32) 1 H hd_UpFirst UpFirst fp_UpFirst) (h_Up : Sq enc_u32_u64_u32_u32 4 H hd_Up Up fp_Up) (h_DownFirst : Sq (encI .u32) 1 H hd_DownFirst DownFirst fp_DownFirst) (h_Down : Sq enc_u32_u64_u32_u32 4 H hd_Down Down fp_Down) (hr : z_viaductref10_turned_1 Node UpFirst Up DownFirst Down = some r) :
    ACalls Try.prog 137 #[.agg #[hd_Node, hd_UpFirst, hd_Up, hd_DownFirst, hd_Down], hd_Up] H fun v H' => ∃ (s3 : Value) (f4 : Fp), v = s3 ∧ FrS [] H H' ∧ Ow enc_u32_u64_u32_u32 4 H' s3 r f4 ∧ Inn [] H f4 := by
 refine acalls_of_body mixed Try.func137 rfl (Nat.le_of_ble_eq_true rfl) ?_
 unfold z_viaductref10_turned_1 at hr
 refine w_seqk fun _ k6 => g_' ?_
 refine s_rwl wf [hd_Node, hd_UpFirst, hd_Up, hd_DownFirst, hd_Down] (one_cons (h_Node.one1) (one_cons (h_UpFirst.one1) (one_cons (h_Up.one1) (one_cons (h_DownFirst.one1) (one_cons (h_Down.one1) (one_nil)))))) (by kernel_rfl) fun b7 H8 e9 hb10 r11 => ?_
 refine q_ (.slice none 0 0) (s_nil (k6 _ _ (w_seqk fun _ k13 => g_' (q_ (.slice none 0 0) (s_nil (k13 _ _ (w_seqk fun _ k14 => w_seqk fun _ k15 => g_' (q_ (hd_Up) ?_))))))))
 have u16 := (h_Up.ext e9)
 refine l_' (i_ (Up.length : Int)) (aLen Try.prog 79 hd_Up H8) (u16.lenb (by kernel_rfl)) ?_
 refine q_ (i_ 0) (s_nil (k15 _ _ ?_))
 obtain ⟨o17, hx18, r19⟩ := bind_some hr
 refine w_mid (fun α H20 => ∃ (s24 : Value) (f25 : Fp), Has α [(5, s24)] ∧ FrS [] H8 H20 ∧ Ow enc_u32_u64_u32_u32 4 H20 s24 o17 f25 ∧ Inn [] H8 f25) (fun _ k27 => ?_) (fun α H20 hM => ?_)
 ·refine w_block ?_
  obtain ⟨n29, hn30⟩ := loopO_iff.1 hx18
  refine w_loopn (fun n α H31 => ∃ (i0 : Int), ∃ (m1 : List (Int × Int × Int × Int)), ∃ (s35 : Value), ∃ (f36 : Fp), iterO (fun zz_ => z_viaductref10_turned_1_l0 Node UpFirst Up DownFirst Down zz_.1 zz_.2) n (i0, m1) = some o17 ∧ Has α [(2, pt_ b7 0), (5, s35), (8, hd_Up), (9, i_ (Up.length : Int)), (10, i_ i0)] ∧ FrS [] H8 H31 ∧ Ow enc_u32_u64_u32_u32 4 H31 s35 m1 f36 ∧ Inn [] H8 f36) n29 ⟨0, [], (.slice none 0 0), [], hn30, ha_, (FrS.refl (W := []) e9.wf), (Ow.nil (by decide)), Inn.nil⟩ ?_
  rintro n29 α H31 ⟨i0, m1, s35, f36, hi39, hh38, e32, m34, i37⟩ K44 k44
  obtain ⟨n40, z41, rfl, hz42, hn43⟩ := iter_succ hi39
  obtain ⟨β, rfl⟩ := has_ex hh38
  clear hh38
  replace hz42 : z_viaductref10_turned_1_l0 Node UpFirst Up DownFirst Down i0 m1 = some z41 := hz42
  unfold z_viaductref10_turned_1_l0 at hz42
  obtain ⟨a45, n46, c47, rfl⟩ := m34.form
  refine w_seqk fun _ k48 => g_' (q_ (.bool (decide (i0 < (Up.length : Int)))) (s_nil (k48 _ _ (w_seqk fun _ k49 => ?_))))
  refine w_condp (i0 < (Up.length : Int)) (by kernel_rfl) rfl (fun h50 => ?_) (fun h50 => ?_)
  ·have r51 := ite_t h50 hz42
   refine w_skip (k49 _ _ (w_seqk fun _ k52 => w_block (w_seqk fun _ k53 => g_' ?_)))
   obtain ⟨g54, r55⟩ := G_some r51
   have u56 := (u16.fr e32 Dj.nil_l)
   refine l_' (elp hd_Up 4 i0.toNat 0) (aIndexAddr Try.prog 79 hd_Up (i_ i0)) (u56.idxb (by kernel_rfl) g54 h50) ?_
   refine l_' (.agg #[.int .u32 ((gt Up i0).1), .int .u64 ((gt Up i0).2.1), .int .u32 ((gt Up i0).2.2.1), .int .u32 ((gt Up i0).2.2.2)]) (aL_ 93 (elp hd_Up 4 i0.toNat 0) H31) (u56.ld g54 h50 (by kernel_rfl)) ?_
   refine s_rwk e32.wf [.int .u32 0, .int .u64 0, .int .u32 0, .int .u32 0] (by kernel_rfl) fun b57 H58 e59 hb60 r61 => ?_
   obtain ⟨H63, q64, e65, r66⟩ := Row.store (P := Try.prog) (t := 93) (p := 0) e59.wf r61 (.agg #[.int .u32 ((gt Up i0).1), .int .u64 ((gt Up i0).2.1), .int .u32 ((gt Up i0).2.2.1), .int .u32 ((gt Up i0).2.2.2)]) [.int .u32 ((gt Up i0).1), .int .u64 ((gt Up i0).2.1), .int .u32 ((gt Up i0).2.2.1), .int .u32 ((gt Up i0).2.2.2)] (by kernel_rfl) (by kernel_rfl) (one_cons (rfl) (one_cons (rfl) (one_cons (rfl) (one_cons (rfl) (one_nil))))) (Nat.le_of_ble_eq_true (by kernel_rfl)) [.int .u32 ((gt Up i0).1), .int .u64 ((gt Up i0).2.1), .int .u32 ((gt Up i0).2.2.1), .int .u32 ((gt Up i0).2.2.2)] (by kernel_rfl)
   refine s_ek (undef) (by kernel_rfl) (map_ok q64) ?_
   refine s_nil (k53 _ _ ?_)
   refine w_draw [0, 1, 2, 3, 4, 5, 6, 7, 9, 10, 11, 8, 12, 13, 14, 15, 16] (by kernel_rfl) ?_
   refine e_' (.slice a45 n46 c47) (e_' (pt_ b57 0) ?_)
   refine d_fl (.int .u32 ((gt Up i0).1)) (x := aL_ 90 (pt_ b57 0) H63) (by kernel_rfl) (r66.l_) ?_
   refine e_' (pt_ b57 1) ?_
   refine d_fl (.int .u64 ((gt Up i0).2.1)) (x := aL_ 42 (pt_ b57 1) H63) (by kernel_rfl) (r66.l_) ?_
   have u67 := (((r11.frS e32 Dj.nil_l).ext e59).frS e65 (hb60.djn (r11.ltF.le e32.n)))
   refine m_' (.agg #[hd_Node, hd_UpFirst, hd_Up, hd_DownFirst, hd_Down]) (aL_ 81 (pt_ b7 0) H63) (u67.l_) ?_
   refine e_' (pt_ b57 3) ?_
   refine m_' (.int .u32 ((gt Up i0).2.2.2)) (aL_ 90 (pt_ b57 3) H63) (r66.l_) ?_
   refine d_fl (.agg #[hd_Node, hd_UpFirst, hd_Up, hd_DownFirst, hd_Down]) (x := aL_ 81 (pt_ b7 0) H63) (by kernel_rfl) (u67.l_) ?_
   refine e_' (pt_ b57 2) ?_
   refine d_fl (.int .u32 ((gt Up i0).2.2.1)) (x := aL_ 90 (pt_ b57 2) H63) (by kernel_rfl) (r66.l_) ?_
   have u68 := ((((h_Node.ext e9).fr e32 Dj.nil_l).ext e59).fr e65 (hb60.djn (h_Node.lt.le (t_ e9.n e32.n))))
   have u69 := ((((h_UpFirst.ext e9).fr e32 Dj.nil_l).ext e59).fr e65 (hb60.djn (h_UpFirst.lt.le (t_ e9.n e32.n))))
   have u70 := ((u56.ext e59).fr e65 (hb60.djn (h_Up.lt.le (t_ e9.n e32.n))))
   have u71 := ((((h_DownFirst.ext e9).fr e32 Dj.nil_l).ext e59).fr e65 (hb60.djn (h_DownFirst.lt.le (t_ e9.n e32.n))))
   have u72 := ((((h_Down.ext e9).fr e32 Dj.nil_l).ext e59).fr e65 (hb60.djn (h_Down.lt.le (t_ e9.n e32.n))))
   obtain ⟨y73, hy74, r75⟩ := bind_some r55
   refine d_ck 162 #[.agg #[hd_Node, hd_UpFirst, hd_Up, hd_DownFirst, hd_Down], .int .u32 ((gt Up i0).2.2.2)] (by kernel_rfl) (c_viaductref10_number e65.wf u68 u69 u70 u71 u72 hy74) ?_
   rintro _ H76 ⟨rfl, e77⟩
   have u78 := (r66.frS e77 Dj.nil_l)
   have u79 := (u67.frS e77 Dj.nil_l)
   refine ⟨st_ql (y := aL_ 90 (pt_ b57 2) H76) (by kernel_rfl) (u78.l_) (st_ql (y := aL_ 81 (pt_ b7 0) H76) (by kernel_rfl) (u79.l_) (st_ql (y := aL_ 42 (pt_ b57 1) H76) (by kernel_rfl) (u78.l_) (st_ql (y := aL_ 90 (pt_ b57 0) H76) (by kernel_rfl) (u78.l_) (st_nil)))), ?_⟩
   have u80 := (u68.fr e77 Dj.nil_l)
   have u81 := (u69.fr e77 Dj.nil_l)
   have u82 := (u70.fr e77 Dj.nil_l)
   have u83 := (u71.fr e77 Dj.nil_l)
   have u84 := (u72.fr e77 Dj.nil_l)
   obtain ⟨y85, hy86, r87⟩ := bind_some r75
   refine d_ck 162 #[.agg #[hd_Node, hd_UpFirst, hd_Up, hd_DownFirst, hd_Down], .int .u32 ((gt Up i0).2.2.1)] (by kernel_rfl) (c_viaductref10_number e77.wf u80 u81 u82 u83 u84 hy86) ?_
   rintro _ H88 ⟨rfl, e89⟩
   have u90 := (u78.frS e89 Dj.nil_l)
   refine ⟨st_anc (by kernel_rfl) (st_anc (by kernel_rfl) (st_ql (y := aL_ 42 (pt_ b57 1) H88) (by kernel_rfl) (u90.l_) (st_ql (y := aL_ 90 (pt_ b57 0) H88) (by kernel_rfl) (u90.l_) (st_nil)))), ?_⟩
   refine e_' (.agg #[.int .u32 ((gt Up i0).1), .int .u64 ((gt Up i0).2.1), .int .u32 y73, .int .u32 y85]) ?_
   refine d_owk (enc := enc_u32_u64_u32_u32) (sz := 4) e89.wf [((gt Up i0).1, (gt Up i0).2.1, y73, y85)] 1 (by decide) (fun _ _ => rfl) (fun _ _ => rfl) rfl (by kernel_rfl) fun s91 f92 H93 e94 hf95 hm96 => ?_
   obtain ⟨a97, n98, c99, rfl⟩ := hm96.form
   have u101 := (((((m34.ext e59).fr e65 (hb60.djn m34.lt)).fr e77 Dj.nil_l).fr e89 Dj.nil_l).ext e94)
   obtain ⟨g102, r103⟩ := G_some r87
   obtain ⟨s104, H105, f106, q110, e107, hm108, hf109⟩ := Ow.append (P := Try.prog) 24 e94.wf u101 hm96.sq (fun _ _ => rfl) (at_ := #[79, 79]) rfl rfl (by kernel_rfl) (by kernel_rfl) (by decide) (by have := g102; first | omega | (simp only [List.length_cons, List.length_nil] at this ⊢; omega) | (simp at this ⊢; omega))
   obtain ⟨a111, n112, c113, rfl⟩ := hm108.form
   refine d_ek (.slice a111 n112 c113) (by kernel_rfl) (q110) (st_anc (by kernel_rfl) (st_anc (by kernel_rfl) (st_anc (by kernel_rfl) (st_anc (by kernel_rfl) (st_nil))))) ?_
   refine e_' (.slice a111 n112 c113) ?_
   refine d_nil ?_
   refine k52 _ _ (g_' ?_)
   obtain ⟨g115, r116⟩ := G_some r103
   refine w_' (i0 + 1) (wrap64 (by have := g115; omega)) ?_
   refine q_ (i_ (i0 + 1)) (s_nil ?_)
   obtain rfl := oi_ r116
   exact k44 n40 _ _ (Nat.lt_succ_self _) ⟨(i0 + 1), (m1 ++ [((gt Up i0).1, (gt Up i0).2.1, y73, y85)]), (.slice a111 n112 c113), f106, hn43, ha_, (FrS.step e9.wf ((FrS.step e9.wf (FrS.step e9.wf (FrS.step e9.wf ((FrS.step e9.wf (FrS.refl (W := []) e9.wf) e32 Inn.nil).extR e59) e65 (hb60.fresh e32.n)) e77 Inn.nil) e89 Inn.nil).extR e94) e107 (i37.fresh (Nat.le_refl _))), hm108, (Inn.trans (i37.fresh (Nat.le_refl _)) (t_ (t_ (t_ (t_ (t_ e32.n e59.n) e65.n) e77.n) e89.n) e94.n) hf109)⟩
  have r117 := ite_f h50 hz42
  refine w_exit (th_exit (th_exit (bl_eq ?_)))
  obtain rfl := oi_ r117
  obtain rfl := it_inr hn43
  exact k27 _ _ ⟨(.slice a45 n46 c47), f36, ha_, (FrS.step e9.wf (FrS.refl (W := []) e9.wf) e32 Inn.nil), m34, (i37.fresh (Nat.le_refl _))⟩
 obtain ⟨s24, f25, hh28, e21, m23, i26⟩ := hM
 obtain ⟨β, rfl⟩ := has_ex hh28
 clear hh28
 obtain ⟨a118, n119, c120, rfl⟩ := m23.form
 refine k14 _ _ (w_seqk fun _ k121 => g_' (q_ (.slice a118 n119 c120) (q_ (.slice a118 n119 c120) (s_nil (k121 _ _ ?_)))))
 refine w_ret ?_
 refine b_ret (fn := Try.f137) (vs := [.slice a118 n119 c120]) (rt_ (rfl)) ?_
 obtain rfl := oi_ r19
 exact ⟨(.slice a118 n119 c120), f25, rfl, (FrS.step wf ((f0_ wf).extR e9) e21 Inn.nil), m23, (i26.fresh e9.n)⟩
theorem c_viaductref10_Turn {H : AH} {hd_Node : Value} {fp_Node : Fp} {hd_UpFirst : Value} {fp_UpFirst : Fp} {hd_Up : Value} {fp_Up : Fp} {hd_DownFirst : Value} {fp_DownFirst : Fp} {hd_Down : Value} {fp_Down : Fp} {Node : List (Int)} {UpFirst : List (Int)} {Up : List (Int × Int × Int × Int)} {DownFirst : List (Int)} {Down : List (Int × Int × Int × Int)} {r : List (Int) × List (Int) × List (Int × Int × Int × Int) × List (Int) × List (Int × Int × Int × Int)}
    (wf : WF H) (h_Node : Sq (encI .u32) 1 H hd_Node Node fp_Node) (h_UpFirst : Sq (encI .u32) 1 H hd_UpFirst UpFirst fp_UpFirst) (h_Up : Sq enc_u32_u64_u32_u32 4 H hd_Up Up fp_Up) (h_DownFirst : Sq (encI .u32) 1 H hd_DownFirst DownFirst fp_DownFirst) (h_Down : Sq enc_u32_u64_u32_u32 4 H hd_Down Down fp_Down) (hr : z_viaductref10_Turn Node UpFirst Up DownFirst Down = some r) :
    ACalls Try.prog 103 #[.agg #[hd_Node, hd_UpFirst, hd_Up, hd_DownFirst, hd_Down]] H fun v H' => ∃ (s3 : Value) (f4 : Fp) (s7 : Value) (f8 : Fp) (s11 : Value) (f12 : Fp) (s15 : Value) (f16 : Fp) (s19 : Value) (f20 : Fp), v = .agg #[s3, s7, s11, s15, s19] ∧ FrS [] H H' ∧ Ow (encI .u32) 1 H' s3 r.1 f4 ∧ Ow (encI .u32) 1 H' s7 r.2.1 f8 ∧ Ow enc_u32_u64_u32_u32 4 H' s11 r.2.2.1 f12 ∧ Ow (encI .u32) 1 H' s15 r.2.2.2.1 f16 ∧ Ow enc_u32_u64_u32_u32 4 H' s19 r.2.2.2.2 f20 ∧ Inn [] H f4 ∧ Inn [] H f8 ∧ Inn [] H f12 ∧ Inn [] H f16 ∧ Inn [] H f20 ∧ Dj f4 f8 ∧ Dj f4 f12 ∧ Dj f8 f12 ∧ Dj f4 f16 ∧ Dj f8 f16 ∧ Dj f12 f16 ∧ Dj f4 f20 ∧ Dj f8 f20 ∧ Dj f12 f20 ∧ Dj f16 f20 := by
 refine acalls_of_body mixed Try.func103 rfl (Nat.le_of_ble_eq_true rfl) ?_
 unfold z_viaductref10_Turn at hr
 refine w_seqk fun _ k36 => g_' ?_
 refine s_rwl wf [hd_Node, hd_UpFirst, hd_Up, hd_DownFirst, hd_Down] (one_cons (h_Node.one1) (one_cons (h_UpFirst.one1) (one_cons (h_Up.one1) (one_cons (h_DownFirst.one1) (one_cons (h_Down.one1) (one_nil)))))) (by kernel_rfl) fun b37 H38 e39 hb40 r41 => ?_
 refine s_rwk e39.wf [.slice none 0 0, .slice none 0 0, .slice none 0 0, .slice none 0 0, .slice none 0 0] (by kernel_rfl) fun b43 H44 e45 hb46 r47 => ?_
 refine s_nil (k36 _ _ (w_seqk fun _ k49 => ?_))
 refine w_draw [0, 1, 3, 4, 6, 7, 8, 10, 11, 13, 14, 15, 2, 5, 9, 12, 16, 17, 18] (by kernel_rfl) ?_
 refine e_' (pt_ b37 0) ?_
 have u50 := (r41.ext e45)
 refine m_' (hd_Node) (aL_ 78 (pt_ b37 0) H44) (u50.l_) ?_
 refine e_' (pt_ b37 3) ?_
 refine d_fl (hd_DownFirst) (x := aL_ 78 (pt_ b37 3) H44) (by kernel_rfl) (u50.l_) ?_
 refine d_fl (.agg #[hd_Node, hd_UpFirst, hd_Up, hd_DownFirst, hd_Down]) (x := aL_ 81 (pt_ b37 0) H44) (by kernel_rfl) (u50.l_) ?_
 refine e_' (pt_ b37 4) ?_
 refine d_fl (hd_Down) (x := aL_ 79 (pt_ b37 4) H44) (by kernel_rfl) (u50.l_) ?_
 refine e_' (pt_ b37 1) ?_
 refine d_fl (hd_UpFirst) (x := aL_ 78 (pt_ b37 1) H44) (by kernel_rfl) (u50.l_) ?_
 refine d_fl (.agg #[hd_Node, hd_UpFirst, hd_Up, hd_DownFirst, hd_Down]) (x := aL_ 81 (pt_ b37 0) H44) (by kernel_rfl) (u50.l_) ?_
 refine e_' (pt_ b37 2) ?_
 refine d_fl (hd_Up) (x := aL_ 79 (pt_ b37 2) H44) (by kernel_rfl) (u50.l_) ?_
 have u51 := ((h_Node.ext e39).ext e45)
 obtain ⟨y52, hy53, r54⟩ := bind_some hr
 refine d_ck 90 #[hd_Node] (by kernel_rfl) (c_viaductref10_Words e45.wf u51 hy53) ?_
 rintro s55 H57 ⟨_, f56, rfl, e58, m59, i60⟩
 obtain ⟨a62, n63, c64, rfl⟩ := m59.form
 have u65 := (u50.frS e58 Dj.nil_l)
 refine ⟨st_ql (y := aL_ 79 (pt_ b37 2) H57) (by kernel_rfl) (u65.l_) (st_ql (y := aL_ 81 (pt_ b37 0) H57) (by kernel_rfl) (u65.l_) (st_ql (y := aL_ 78 (pt_ b37 1) H57) (by kernel_rfl) (u65.l_) (st_ql (y := aL_ 79 (pt_ b37 4) H57) (by kernel_rfl) (u65.l_) (st_ql (y := aL_ 81 (pt_ b37 0) H57) (by kernel_rfl) (u65.l_) (st_ql (y := aL_ 78 (pt_ b37 3) H57) (by kernel_rfl) (u65.l_) (st_nil)))))), ?_⟩
 have u66 := (((h_DownFirst.ext e39).ext e45).fr e58 Dj.nil_l)
 obtain ⟨y67, hy68, r69⟩ := bind_some r54
 refine d_ck 90 #[hd_DownFirst] (by kernel_rfl) (c_viaductref10_Words e58.wf u66 hy68) ?_
 rintro s70 H72 ⟨_, f71, rfl, e73, m74, i75⟩
 obtain ⟨a77, n78, c79, rfl⟩ := m74.form
 have u80 := (u65.frS e73 Dj.nil_l)
 refine ⟨st_ql (y := aL_ 79 (pt_ b37 2) H72) (by kernel_rfl) (u80.l_) (st_ql (y := aL_ 81 (pt_ b37 0) H72) (by kernel_rfl) (u80.l_) (st_ql (y := aL_ 78 (pt_ b37 1) H72) (by kernel_rfl) (u80.l_) (st_ql (y := aL_ 79 (pt_ b37 4) H72) (by kernel_rfl) (u80.l_) (st_ql (y := aL_ 81 (pt_ b37 0) H72) (by kernel_rfl) (u80.l_) (st_anc (by kernel_rfl) (st_nil)))))), ?_⟩
 have u81 := ((u51.fr e58 Dj.nil_l).fr e73 Dj.nil_l)
 have u82 := ((((h_UpFirst.ext e39).ext e45).fr e58 Dj.nil_l).fr e73 Dj.nil_l)
 have u83 := ((((h_Up.ext e39).ext e45).fr e58 Dj.nil_l).fr e73 Dj.nil_l)
 have u84 := (u66.fr e73 Dj.nil_l)
 have u85 := ((((h_Down.ext e39).ext e45).fr e58 Dj.nil_l).fr e73 Dj.nil_l)
 obtain ⟨y86, hy87, r88⟩ := bind_some r69
 refine d_ck 137 #[.agg #[hd_Node, hd_UpFirst, hd_Up, hd_DownFirst, hd_Down], hd_Down] (by kernel_rfl) (c_viaductref10_turned e73.wf u81 u82 u83 u84 u85 hy87) ?_
 rintro s89 H91 ⟨_, f90, rfl, e92, m93, i94⟩
 obtain ⟨a96, n97, c98, rfl⟩ := m93.form
 have u99 := (u80.frS e92 Dj.nil_l)
 refine ⟨st_ql (y := aL_ 79 (pt_ b37 2) H91) (by kernel_rfl) (u99.l_) (st_ql (y := aL_ 81 (pt_ b37 0) H91) (by kernel_rfl) (u99.l_) (st_ql (y := aL_ 78 (pt_ b37 1) H91) (by kernel_rfl) (u99.l_) (st_anc (by kernel_rfl) (st_anc (by kernel_rfl) (st_anc (by kernel_rfl) (st_nil)))))), ?_⟩
 have u100 := (u82.fr e92 Dj.nil_l)
 obtain ⟨y101, hy102, r103⟩ := bind_some r88
 refine d_ck 90 #[hd_UpFirst] (by kernel_rfl) (c_viaductref10_Words e92.wf u100 hy102) ?_
 rintro s104 H106 ⟨_, f105, rfl, e107, m108, i109⟩
 obtain ⟨a111, n112, c113, rfl⟩ := m108.form
 have u114 := (u99.frS e107 Dj.nil_l)
 refine ⟨st_ql (y := aL_ 79 (pt_ b37 2) H106) (by kernel_rfl) (u114.l_) (st_ql (y := aL_ 81 (pt_ b37 0) H106) (by kernel_rfl) (u114.l_) (st_anc (by kernel_rfl) (st_anc (by kernel_rfl) (st_anc (by kernel_rfl) (st_anc (by kernel_rfl) (st_nil)))))), ?_⟩
 have u115 := ((u81.fr e92 Dj.nil_l).fr e107 Dj.nil_l)
 have u116 := (u100.fr e107 Dj.nil_l)
 have u117 := ((u83.fr e92 Dj.nil_l).fr e107 Dj.nil_l)
 have u118 := ((u84.fr e92 Dj.nil_l).fr e107 Dj.nil_l)
 have u119 := ((u85.fr e92 Dj.nil_l).fr e107 Dj.nil_l)
 obtain ⟨y120, hy121, r122⟩ := bind_some r103
 refine d_ck 137 #[.agg #[hd_Node, hd_UpFirst, hd_Up, hd_DownFirst, hd_Down], hd_Up] (by kernel_rfl) (c_viaductref10_turned_1 e107.wf u115 u116 u117 u118 u119 hy121) ?_
 rintro s123 H125 ⟨_, f124, rfl, e126, m127, i128⟩
 obtain ⟨a130, n131, c132, rfl⟩ := m127.form
 refine ⟨st_anc (by kernel_rfl) (st_anc (by kernel_rfl) (st_anc (by kernel_rfl) (st_anc (by kernel_rfl) (st_anc (by kernel_rfl) (st_anc (by kernel_rfl) (st_nil)))))), ?_⟩
 refine e_' (.agg #[.slice a62 n63 c64, .slice a77 n78 c79, .slice a96 n97 c98, .slice a111 n112 c113, .slice a130 n131 c132]) ?_
 have u137 := (((((r47.frS e58 Dj.nil_l).frS e73 Dj.nil_l).frS e92 Dj.nil_l).frS e107 Dj.nil_l).frS e126 Dj.nil_l)
 have u138 := (m108.fr e126 Dj.nil_l)
 have u139 := ((m93.fr e107 Dj.nil_l).fr e126 Dj.nil_l)
 have u140 := (((m74.fr e92 Dj.nil_l).fr e107 Dj.nil_l).fr e126 Dj.nil_l)
 have u141 := ((((m59.fr e73 Dj.nil_l).fr e92 Dj.nil_l).fr e107 Dj.nil_l).fr e126 Dj.nil_l)
 obtain ⟨H133, q134, e135, r136⟩ := Row.store (P := Try.prog) (t := 81) (p := 0) e126.wf u137 (.agg #[.slice a62 n63 c64, .slice a77 n78 c79, .slice a96 n97 c98, .slice a111 n112 c113, .slice a130 n131 c132]) [.slice a62 n63 c64, .slice a77 n78 c79, .slice a96 n97 c98, .slice a111 n112 c113, .slice a130 n131 c132] (by kernel_rfl) (by kernel_rfl) (one_cons (u141.one1) (one_cons (u140.one1) (one_cons (u139.one1) (one_cons (u138.one1) (one_cons (m127.one1) (one_nil)))))) (Nat.le_of_ble_eq_true (by kernel_rfl)) [.slice a62 n63 c64, .slice a77 n78 c79, .slice a96 n97 c98, .slice a111 n112 c113, .slice a130 n131 c132] (by kernel_rfl)
 refine d_ek (undef) (by kernel_rfl) (map_ok q134) (st_anc (by kernel_rfl) (st_anc (by kernel_rfl) (st_anc (by kernel_rfl) (st_anc (by kernel_rfl) (st_anc (by kernel_rfl) (st_anc (by kernel_rfl) (st_nil))))))) ?_
 refine d_nil ?_
 refine k49 _ _ ?_
 refine w_ret ?_
 refine b_ret (fn := Try.f103) (vs := [.agg #[.slice a62 n63 c64, .slice a77 n78 c79, .slice a96 n97 c98, .slice a111 n112 c113, .slice a130 n131 c132]]) (aRes_cell (Eq.trans (b := aL_ 81 (pt_ b43 0) H133) (by kernel_rfl) (r136.l_)) (rfl)) ?_
 have u142 := (u141.fr e135 (Dj.symm (i60.djn r47.ltF)))
 have u143 := (u140.fr e135 (Dj.symm (i75.djn (r47.ltF.le e58.n))))
 have u144 := (u139.fr e135 (Dj.symm (i94.djn (r47.ltF.le (t_ e58.n e73.n)))))
 have u145 := (u138.fr e135 (Dj.symm (i109.djn (r47.ltF.le (t_ (t_ e58.n e73.n) e92.n)))))
 have u146 := (m127.fr e135 (Dj.symm (i128.djn (r47.ltF.le (t_ (t_ (t_ e58.n e73.n) e92.n) e107.n)))))
 obtain rfl := oi_ r122
 exact ⟨(.slice a62 n63 c64), f56, (.slice a77 n78 c79), f71, (.slice a96 n97 c98), f90, (.slice a111 n112 c113), f105, (.slice a130 n131 c132), f124, rfl, (FrS.step wf (FrS.step wf (FrS.step wf (FrS.step wf (FrS.step wf (FrS.step wf (((f0_ wf).extR e39).extR e45) e58 Inn.nil) e73 Inn.nil) e92 Inn.nil) e107 Inn.nil) e126 Inn.nil) e135 (hb46.fresh e39.n)), u142, u143, u144, u145, u146, (i60.fresh (t_ e39.n e45.n)), (i75.fresh (t_ (t_ e39.n e45.n) e58.n)), (i94.fresh (t_ (t_ (t_ e39.n e45.n) e58.n) e73.n)), (i109.fresh (t_ (t_ (t_ (t_ e39.n e45.n) e58.n) e73.n) e92.n)), (i128.fresh (t_ (t_ (t_ (t_ (t_ e39.n e45.n) e58.n) e73.n) e92.n) e107.n)), (Dj.symm (i75.djn m59.lt)), (Dj.symm (i94.djn (m59.lt.le e73.n))), (Dj.symm (i94.djn m74.lt)), (Dj.symm (i109.djn (m59.lt.le (t_ e73.n e92.n)))), (Dj.symm (i109.djn (m74.lt.le e92.n))), (Dj.symm (i109.djn m93.lt)), (Dj.symm (i128.djn (m59.lt.le (t_ (t_ e73.n e92.n) e107.n)))), (Dj.symm (i128.djn (m74.lt.le (t_ e92.n e107.n)))), (Dj.symm (i128.djn (m93.lt.le e107.n))), (Dj.symm (i128.djn m108.lt))⟩
end Go.Vd

/-! (KHm7) -/

set_option maxRecDepth 100000
set_option maxHeartbeats 4000000
set_option linter.unusedVariables false
namespace Go.Vd
open Go.Proofs
attribute [local irreducible] wpSeq wpOrd aWp
theorem c_viaductref10_DocTurn {H : AH} {hd_Node : Value} {fp_Node : Fp} {hd_UpFirst : Value} {fp_UpFirst : Fp} {hd_Up : Value} {fp_Up : Fp} {hd_DownFirst : Value} {fp_DownFirst : Fp} {hd_Down : Value} {fp_Down : Fp} {Node : List (Int)} {UpFirst : List (Int)} {Up : List (Int × Int × Int × Int)} {DownFirst : List (Int)} {Down : List (Int × Int × Int × Int)} {r : List (Int) × List (Int) × List (Int × Int × Int × Int) × List (Int) × List (Int × Int × Int × Int) × Int × List (Int × Int)}
    (wf : WF H) (h_Node : Sq (encI .u32) 1 H hd_Node Node fp_Node) (h_UpFirst : Sq (encI .u32) 1 H hd_UpFirst UpFirst fp_UpFirst) (h_Up : Sq enc_u32_u64_u32_u32 4 H hd_Up Up fp_Up) (h_DownFirst : Sq (encI .u32) 1 H hd_DownFirst DownFirst fp_DownFirst) (h_Down : Sq enc_u32_u64_u32_u32 4 H hd_Down Down fp_Down) (hr : z_viaductref10_DocTurn Node UpFirst Up DownFirst Down = some r) :
    ACalls Try.prog 42 #[.agg #[hd_Node, hd_UpFirst, hd_Up, hd_DownFirst, hd_Down]] H fun v H' => ∃ (s3 : Value) (f4 : Fp) (s7 : Value) (f8 : Fp) (s11 : Value) (f12 : Fp) (s15 : Value) (f16 : Fp) (s19 : Value) (f20 : Fp) (s23 : Value) (f24 : Fp), v = .tuple #[.agg #[s3, s7, s11, s15, s19], .agg #[i_ r.2.2.2.2.2.1, s23]] ∧ FrS [] H H' ∧ Ow (encI .u32) 1 H' s3 r.1 f4 ∧ Ow (encI .u32) 1 H' s7 r.2.1 f8 ∧ Ow enc_u32_u64_u32_u32 4 H' s11 r.2.2.1 f12 ∧ Ow (encI .u32) 1 H' s15 r.2.2.2.1 f16 ∧ Ow enc_u32_u64_u32_u32 4 H' s19 r.2.2.2.2.1 f20 ∧ Sq enc_i64_i64 2 H' s23 r.2.2.2.2.2.2 f24 ∧ Inn [] H f4 ∧ Inn [] H f8 ∧ Inn [] H f12 ∧ Inn [] H f16 ∧ Inn [] H f20 ∧ Inn [] H f24 ∧ Dj f4 f8 ∧ Dj f4 f12 ∧ Dj f8 f12 ∧ Dj f4 f16 ∧ Dj f8 f16 ∧ Dj f12 f16 ∧ Dj f4 f20 ∧ Dj f8 f20 ∧ Dj f12 f20 ∧ Dj f16 f20 ∧ Dj f4 f24 ∧ Dj f8 f24 ∧ Dj f12 f24 ∧ Dj f16 f24 ∧ Dj f20 f24 := by
 refine acalls_of_body mixed Try.func42 rfl (Nat.le_of_ble_eq_true rfl) ?_
 unfold z_viaductref10_DocTurn at hr
 refine w_seqk fun _ k46 => g_' ?_
 refine s_rwl wf [hd_Node, hd_UpFirst, hd_Up, hd_DownFirst, hd_Down] (one_cons (h_Node.one1) (one_cons (h_UpFirst.one1) (one_cons (h_Up.one1) (one_cons (h_DownFirst.one1) (one_cons (h_Down.one1) (one_nil)))))) (by kernel_rfl) fun b47 H48 e49 hb50 r51 => ?_
 refine s_rwk e49.wf [.slice none 0 0, .slice none 0 0, .slice none 0 0, .slice none 0 0, .slice none 0 0] (by kernel_rfl) fun b53 H54 e55 hb56 r57 => ?_
 refine s_rwk e55.wf [i_ 0, .slice none 0 0] (by kernel_rfl) fun b59 H60 e61 hb62 r63 => ?_
 refine s_nil (k46 _ _ (w_seqk fun _ k65 => w_seqk fun _ k66 => g_' ?_))
 have u67 := ((r51.ext e55).ext e61)
 refine l_' (.agg #[hd_Node, hd_UpFirst, hd_Up, hd_DownFirst, hd_Down]) (aL_ 81 (pt_ b47 0) H60) (u67.l_) ?_
 have u68 := (((h_Node.ext e49).ext e55).ext e61)
 have u69 := (((h_UpFirst.ext e49).ext e55).ext e61)
 have u70 := (((h_Up.ext e49).ext e55).ext e61)
 have u71 := (((h_DownFirst.ext e49).ext e55).ext e61)
 have u72 := (((h_Down.ext e49).ext e55).ext e61)
 obtain ⟨y73, hy74, r75⟩ := bind_some hr
 refine s_ck 102 #[.agg #[hd_Node, hd_UpFirst, hd_Up, hd_DownFirst, hd_Down]] (by kernel_rfl) (c_viaductref10_DocCheck e61.wf u68 u69 u70 u71 u72 hy74) ?_
 rintro _ H78 ⟨s76, f77, rfl, e79, m80, i81⟩
 obtain ⟨a83, n84, c85, rfl⟩ := m80.form
 refine s_rwk e79.wf [i_ 0, .slice none 0 0] (by kernel_rfl) fun b86 H87 e88 hb89 r90 => ?_
 have u96 := (m80.ext e88)
 obtain ⟨H92, q93, e94, r95⟩ := Row.store (P := Try.prog) (t := 46) (p := 0) e88.wf r90 (.agg #[i_ y73.1, .slice a83 n84 c85]) [i_ y73.1, .slice a83 n84 c85] (by kernel_rfl) (by kernel_rfl) (one_cons (rfl) (one_cons (u96.one1) (one_nil))) (Nat.le_of_ble_eq_true (by kernel_rfl)) [i_ y73.1, .slice a83 n84 c85] (by kernel_rfl)
 refine s_ek (undef) (by kernel_rfl) (map_ok q93) ?_
 refine s_nil (k66 _ _ (w_seqk fun _ k97 => g_' ?_))
 refine l_' (.agg #[i_ y73.1, .slice a83 n84 c85]) (aL_ 46 (pt_ b86 0) H92) (r95.l_) ?_
 have u98 := (u96.fr e94 (hb89.djn m80.lt))
 obtain ⟨y99, hy100, r101⟩ := bind_some r75
 refine s_ck 56 #[.agg #[i_ y73.1, .slice a83 n84 c85]] (by kernel_rfl) (c_viaductref01_Err_Bad e94.wf u98 hy100) ?_
 rintro _ H102 ⟨rfl, e103⟩
 refine s_nil (k97 _ _ ?_)
 refine w_cond (y99) (by kernel_rfl) rfl (fun h104 => ?_) (fun h104 => ?_)
 ·have r105 := ite_t h104 r101
  refine w_seqk fun _ k106 => ?_
  refine w_draw [0, 1, 2, 3] (by kernel_rfl) ?_
  refine e_' (.agg #[.slice none 0 0, .slice none 0 0, .slice none 0 0, .slice none 0 0, .slice none 0 0]) ?_
  have u107 := (r95.frS e103 Dj.nil_l)
  refine d_fl (.agg #[i_ y73.1, .slice a83 n84 c85]) (x := aL_ 46 (pt_ b86 0) H102) (by kernel_rfl) (u107.l_) ?_
  have u112 := (((((r57.ext e61).frS e79 Dj.nil_l).ext e88).frS e94 (hb89.djn (r57.ltF.le (t_ e61.n e79.n)))).frS e103 Dj.nil_l)
  obtain ⟨H108, q109, e110, r111⟩ := Row.store (P := Try.prog) (t := 81) (p := 0) e103.wf u112 (.agg #[.slice none 0 0, .slice none 0 0, .slice none 0 0, .slice none 0 0, .slice none 0 0]) [.slice none 0 0, .slice none 0 0, .slice none 0 0, .slice none 0 0, .slice none 0 0] (by kernel_rfl) (by kernel_rfl) (one_cons (rfl) (one_cons (rfl) (one_cons (rfl) (one_cons (rfl) (one_cons (rfl) (one_nil)))))) (Nat.le_of_ble_eq_true (by kernel_rfl)) [.slice none 0 0, .slice none 0 0, .slice none 0 0, .slice none 0 0, .slice none 0 0] (by kernel_rfl)
  have u113 := (u107.frS e110 (Dj.symm (hb89.djn (r57.ltF.le (t_ e61.n e79.n)))))
  refine d_ek (undef) (by kernel_rfl) (map_ok q109) (st_ql (y := aL_ 46 (pt_ b86 0) H108) (by kernel_rfl) (u113.l_) (st_nil)) ?_
  have u118 := (((((r63.frS e79 Dj.nil_l).ext e88).frS e94 (hb89.djn (r63.ltF.le e79.n))).frS e103 Dj.nil_l).frS e110 (Dj.symm (hb62.djn r57.ltF)))
  have u119 := ((u98.fr e103 Dj.nil_l).fr e110 (Dj.symm (i81.djn (r57.ltF.le e61.n))))
  obtain ⟨H114, q115, e116, r117⟩ := Row.store (P := Try.prog) (t := 46) (p := 0) e110.wf u118 (.agg #[i_ y73.1, .slice a83 n84 c85]) [i_ y73.1, .slice a83 n84 c85] (by kernel_rfl) (by kernel_rfl) (one_cons (rfl) (one_cons (u119.one1) (one_nil))) (Nat.le_of_ble_eq_true (by kernel_rfl)) [i_ y73.1, .slice a83 n84 c85] (by kernel_rfl)
  refine d_ek (undef) (by kernel_rfl) (map_ok q115) (st_anc (by kernel_rfl) (st_nil)) ?_
  refine d_nil ?_
  refine k106 _ _ ?_
  refine w_ret (th_ret ?_)
  have u120 := (r111.frS e116 (hb62.djn r57.ltF))
  refine b_ret (fn := Try.f42) (vs := [.agg #[.slice none 0 0, .slice none 0 0, .slice none 0 0, .slice none 0 0, .slice none 0 0], .agg #[i_ y73.1, .slice a83 n84 c85]]) (aRes_cell (Eq.trans (b := aL_ 81 (pt_ b53 0) H114) (by kernel_rfl) (u120.l_)) (aRes_cell (Eq.trans (b := aL_ 46 (pt_ b59 0) H114) (by kernel_rfl) (r117.l_)) (rfl))) ?_
  have u121 := (u119.fr e116 (Dj.symm (i81.djn r63.ltF)))
  obtain rfl := oi_ r105
  exact ⟨(.slice none 0 0), [], (.slice none 0 0), [], (.slice none 0 0), [], (.slice none 0 0), [], (.slice none 0 0), [], (.slice a83 n84 c85), f77, rfl, (FrS.step wf (FrS.step wf (FrS.step wf (FrS.step wf ((FrS.step wf ((((f0_ wf).extR e49).extR e55).extR e61) e79 Inn.nil).extR e88) e94 (hb89.fresh (t_ (t_ (t_ e49.n e55.n) e61.n) e79.n))) e103 Inn.nil) e110 (hb56.fresh e49.n)) e116 (hb62.fresh (t_ e49.n e55.n))), (Ow.nil (by decide)), (Ow.nil (by decide)), (Ow.nil (by decide)), (Ow.nil (by decide)), (Ow.nil (by decide)), u121, Inn.nil, Inn.nil, Inn.nil, Inn.nil, Inn.nil, (i81.fresh (t_ (t_ e49.n e55.n) e61.n)), Dj.nil_l, Dj.nil_l, Dj.nil_l, Dj.nil_l, Dj.nil_l, Dj.nil_l, Dj.nil_l, Dj.nil_l, Dj.nil_l, Dj.nil_l, Dj.nil_l, Dj.nil_l, Dj.nil_l, Dj.nil_l, Dj.nil_l⟩
 have r122 := ite_bf h104 r101
 refine w_skip (k65 _ _ (w_seqk fun _ k123 => g_' ?_))
 have u124 := ((((u67.frS e79 Dj.nil_l).ext e88).frS e94 (hb89.djn (r51.ltF.le (t_ (t_ e55.n e61.n) e79.n)))).frS e103 Dj.nil_l)
 refine l_' (.agg #[hd_Node, hd_UpFirst, hd_Up, hd_DownFirst, hd_Down]) (aL_ 81 (pt_ b47 0) H102) (u124.l_) ?_
 have u125 := ((((u68.fr e79 Dj.nil_l).ext e88).fr e94 (hb89.djn (h_Node.lt.le (t_ (t_ (t_ e49.n e55.n) e61.n) e79.n)))).fr e103 Dj.nil_l)
 have u126 := ((((u69.fr e79 Dj.nil_l).ext e88).fr e94 (hb89.djn (h_UpFirst.lt.le (t_ (t_ (t_ e49.n e55.n) e61.n) e79.n)))).fr e103 Dj.nil_l)
 have u127 := ((((u70.fr e79 Dj.nil_l).ext e88).fr e94 (hb89.djn (h_Up.lt.le (t_ (t_ (t_ e49.n e55.n) e61.n) e79.n)))).fr e103 Dj.nil_l)
 have u128 := ((((u71.fr e79 Dj.nil_l).ext e88).fr e94 (hb89.djn (h_DownFirst.lt.le (t_ (t_ (t_ e49.n e55.n) e61.n) e79.n)))).fr e103 Dj.nil_l)
 have u129 := ((((u72.fr e79 Dj.nil_l).ext e88).fr e94 (hb89.djn (h_Down.lt.le (t_ (t_ (t_ e49.n e55.n) e61.n) e79.n)))).fr e103 Dj.nil_l)
 obtain ⟨y130, hy131, r132⟩ := bind_some r122
 refine s_ck 103 #[.agg #[hd_Node, hd_UpFirst, hd_Up, hd_DownFirst, hd_Down]] (by kernel_rfl) (c_viaductref10_Turn e103.wf u125 u126 u127 u128 u129 hy131) ?_
 rintro _ H143 ⟨s133, f134, s135, f136, s137, f138, s139, f140, s141, f142, rfl, e144, m145, m146, m147, m148, m149, i150, i151, i152, i153, i154, d155, d156, d157, d158, d159, d160, d161, d162, d163, d164⟩
 obtain ⟨a170, n171, c172, rfl⟩ := m145.form
 obtain ⟨a173, n174, c175, rfl⟩ := m146.form
 obtain ⟨a176, n177, c178, rfl⟩ := m147.form
 obtain ⟨a179, n180, c181, rfl⟩ := m148.form
 obtain ⟨a182, n183, c184, rfl⟩ := m149.form
 refine q_ (.agg #[i_ 0, .slice none 0 0]) ?_
 have u189 := ((((((r57.ext e61).frS e79 Dj.nil_l).ext e88).frS e94 (hb89.djn (r57.ltF.le (t_ e61.n e79.n)))).frS e103 Dj.nil_l).frS e144 Dj.nil_l)
 obtain ⟨H185, q186, e187, r188⟩ := Row.store (P := Try.prog) (t := 81) (p := 0) e144.wf u189 (.agg #[.slice a170 n171 c172, .slice a173 n174 c175, .slice a176 n177 c178, .slice a179 n180 c181, .slice a182 n183 c184]) [.slice a170 n171 c172, .slice a173 n174 c175, .slice a176 n177 c178, .slice a179 n180 c181, .slice a182 n183 c184] (by kernel_rfl) (by kernel_rfl) (one_cons (m145.one1) (one_cons (m146.one1) (one_cons (m147.one1) (one_cons (m148.one1) (one_cons (m149.one1) (one_nil)))))) (Nat.le_of_ble_eq_true (by kernel_rfl)) [.slice a170 n171 c172, .slice a173 n174 c175, .slice a176 n177 c178, .slice a179 n180 c181, .slice a182 n183 c184] (by kernel_rfl)
 refine s_ek (undef) (by kernel_rfl) (map_ok q186) ?_
 have u194 := ((((((r63.frS e79 Dj.nil_l).ext e88).frS e94 (hb89.djn (r63.ltF.le e79.n))).frS e103 Dj.nil_l).frS e144 Dj.nil_l).frS e187 (Dj.symm (hb62.djn r57.ltF)))
 obtain ⟨H190, q191, e192, r193⟩ := Row.store (P := Try.prog) (t := 46) (p := 0) e187.wf u194 (.agg #[i_ 0, .slice none 0 0]) [i_ 0, .slice none 0 0] (by kernel_rfl) (by kernel_rfl) (one_cons (rfl) (one_cons (rfl) (one_nil))) (Nat.le_of_ble_eq_true (by kernel_rfl)) [i_ 0, .slice none 0 0] (by kernel_rfl)
 refine s_ek (undef) (by kernel_rfl) (map_ok q191) ?_
 refine s_nil (k123 _ _ ?_)
 refine w_ret ?_
 have u195 := (r188.frS e192 (hb62.djn r57.ltF))
 refine b_ret (fn := Try.f42) (vs := [.agg #[.slice a170 n171 c172, .slice a173 n174 c175, .slice a176 n177 c178, .slice a179 n180 c181, .slice a182 n183 c184], .agg #[i_ 0, .slice none 0 0]]) (aRes_cell (Eq.trans (b := aL_ 81 (pt_ b53 0) H190) (by kernel_rfl) (u195.l_)) (aRes_cell (Eq.trans (b := aL_ 46 (pt_ b59 0) H190) (by kernel_rfl) (r193.l_)) (rfl))) ?_
 have u196 := ((m145.fr e187 (Dj.symm (i150.djn (r57.ltF.le (t_ (t_ (t_ (t_ e61.n e79.n) e88.n) e94.n) e103.n))))).fr e192 (Dj.symm (i150.djn (r63.ltF.le (t_ (t_ (t_ e79.n e88.n) e94.n) e103.n)))))
 have u197 := ((m146.fr e187 (Dj.symm (i151.djn (r57.ltF.le (t_ (t_ (t_ (t_ e61.n e79.n) e88.n) e94.n) e103.n))))).fr e192 (Dj.symm (i151.djn (r63.ltF.le (t_ (t_ (t_ e79.n e88.n) e94.n) e103.n)))))
 have u198 := ((m147.fr e187 (Dj.symm (i152.djn (r57.ltF.le (t_ (t_ (t_ (t_ e61.n e79.n) e88.n) e94.n) e103.n))))).fr e192 (Dj.symm (i152.djn (r63.ltF.le (t_ (t_ (t_ e79.n e88.n) e94.n) e103.n)))))
 have u199 := ((m148.fr e187 (Dj.symm (i153.djn (r57.ltF.le (t_ (t_ (t_ (t_ e61.n e79.n) e88.n) e94.n) e103.n))))).fr e192 (Dj.symm (i153.djn (r63.ltF.le (t_ (t_ (t_ e79.n e88.n) e94.n) e103.n)))))
 have u200 := ((m149.fr e187 (Dj.symm (i154.djn (r57.ltF.le (t_ (t_ (t_ (t_ e61.n e79.n) e88.n) e94.n) e103.n))))).fr e192 (Dj.symm (i154.djn (r63.ltF.le (t_ (t_ (t_ e79.n e88.n) e94.n) e103.n)))))
 obtain rfl := oi_ r132
 exact ⟨(.slice a170 n171 c172), f134, (.slice a173 n174 c175), f136, (.slice a176 n177 c178), f138, (.slice a179 n180 c181), f140, (.slice a182 n183 c184), f142, (.slice none 0 0), [], rfl, (FrS.step wf (FrS.step wf (FrS.step wf (FrS.step wf (FrS.step wf ((FrS.step wf ((((f0_ wf).extR e49).extR e55).extR e61) e79 Inn.nil).extR e88) e94 (hb89.fresh (t_ (t_ (t_ e49.n e55.n) e61.n) e79.n))) e103 Inn.nil) e144 Inn.nil) e187 (hb56.fresh e49.n)) e192 (hb62.fresh (t_ e49.n e55.n))), u196, u197, u198, u199, u200, (Sq.nil (by decide)), (i150.fresh (t_ (t_ (t_ (t_ (t_ (t_ e49.n e55.n) e61.n) e79.n) e88.n) e94.n) e103.n)), (i151.fresh (t_ (t_ (t_ (t_ (t_ (t_ e49.n e55.n) e61.n) e79.n) e88.n) e94.n) e103.n)), (i152.fresh (t_ (t_ (t_ (t_ (t_ (t_ e49.n e55.n) e61.n) e79.n) e88.n) e94.n) e103.n)), (i153.fresh (t_ (t_ (t_ (t_ (t_ (t_ e49.n e55.n) e61.n) e79.n) e88.n) e94.n) e103.n)), (i154.fresh (t_ (t_ (t_ (t_ (t_ (t_ e49.n e55.n) e61.n) e79.n) e88.n) e94.n) e103.n)), Inn.nil, d155, d156, d157, d158, d159, d160, d161, d162, d163, d164, Dj.nil_r, Dj.nil_r, Dj.nil_r, Dj.nil_r, Dj.nil_r⟩
theorem c_viaductref10_Arcs {H : AH} {hd_Node : Value} {fp_Node : Fp} {hd_UpFirst : Value} {fp_UpFirst : Fp} {hd_Up : Value} {fp_Up : Fp} {hd_DownFirst : Value} {fp_DownFirst : Fp} {hd_Down : Value} {fp_Down : Fp} {Node : List (Int)} {UpFirst : List (Int)} {Up : List (Int × Int × Int × Int)} {DownFirst : List (Int)} {Down : List (Int × Int × Int × Int)} {r : List (Int × Int × Int)}
    (wf : WF H) (h_Node : Sq (encI .u32) 1 H hd_Node Node fp_Node) (h_UpFirst : Sq (encI .u32) 1 H hd_UpFirst UpFirst fp_UpFirst) (h_Up : Sq enc_u32_u64_u32_u32 4 H hd_Up Up fp_Up) (h_DownFirst : Sq (encI .u32) 1 H hd_DownFirst DownFirst fp_DownFirst) (h_Down : Sq enc_u32_u64_u32_u32 4 H hd_Down Down fp_Down) (hr : z_viaductref10_Arcs Node UpFirst Up DownFirst Down = some r) :
    ACalls Try.prog 138 #[.agg #[hd_Node, hd_UpFirst, hd_Up, hd_DownFirst, hd_Down]] H fun v H' => ∃ (s3 : Value) (f4 : Fp), v = s3 ∧ FrS [] H H' ∧ Ow enc_i64_i64_i64 3 H' s3 r f4 ∧ Inn [] H f4 := by
 refine acalls_of_body mixed Try.func138 rfl (Nat.le_of_ble_eq_true rfl) ?_
 unfold z_viaductref10_Arcs at hr
 refine w_seqk fun _ k6 => g_' ?_
 refine s_rwl wf [hd_Node, hd_UpFirst, hd_Up, hd_DownFirst, hd_Down] (one_cons (h_Node.one1) (one_cons (h_UpFirst.one1) (one_cons (h_Up.one1) (one_cons (h_DownFirst.one1) (one_cons (h_Down.one1) (one_nil)))))) (by kernel_rfl) fun b7 H8 e9 hb10 r11 => ?_
 refine q_ (.slice none 0 0) (s_nil (k6 _ _ (w_seqk fun _ k13 => g_' ?_)))
 refine l_' (.agg #[hd_Node, hd_UpFirst, hd_Up, hd_DownFirst, hd_Down]) (aL_ 81 (pt_ b7 0) H8) (r11.l_) ?_
 have u14 := (h_Node.ext e9)
 have u15 := (h_UpFirst.ext e9)
 have u16 := (h_Up.ext e9)
 have u17 := (h_DownFirst.ext e9)
 have u18 := (h_Down.ext e9)
 obtain ⟨y19, hy20, r21⟩ := bind_some hr
 refine s_ck 135 #[.agg #[hd_Node, hd_UpFirst, hd_Up, hd_DownFirst, hd_Down]] (by kernel_rfl) (c_viaductref10_Ranks e9.wf u14 u15 u16 u17 u18 hy20) ?_
 rintro s22 H24 ⟨_, f23, rfl, e25, m26, i27⟩
 obtain ⟨a29, n30, c31, rfl⟩ := m26.form
 refine q_ (.slice a29 n30 c31) (s_nil (k13 _ _ (w_seqk fun _ k32 => g_' (q_ (.slice none 0 0) (s_nil (k32 _ _ (w_seqk fun _ k33 => w_seqk fun _ k34 => g_' (q_ (.slice a29 n30 c31) ?_))))))))
 refine l_' (i_ (y19.length : Int)) (aLen Try.prog 22 (.slice a29 n30 c31) H24) (m26.sq.lenb (by kernel_rfl)) ?_
 refine q_ (i_ 0) (s_nil (k34 _ _ ?_))
 obtain ⟨o35, hx36, r37⟩ := bind_some r21
 refine w_mid (fun α H38 => ∃ (s42 : Value) (f43 : Fp), Has α [(4, s42)] ∧ FrS [] H24 H38 ∧ Ow enc_i64_i64_i64 3 H38 s42 o35 f43 ∧ Inn [] H24 f43) (fun _ k45 => ?_) (fun α H38 hM => ?_)
 ·refine w_block ?_
  obtain ⟨n47, hn48⟩ := loopO_iff.1 hx36
  refine w_loopn (fun n α H49 => ∃ (i0 : Int), ∃ (l1 : List (Int × Int × Int)), ∃ (s53 : Value), ∃ (f54 : Fp), iterO (fun zz_ => z_viaductref10_Arcs_l0 Node UpFirst Up DownFirst Down y19 zz_.1 zz_.2) n (i0, l1) = some o35 ∧ Has α [(1, pt_ b7 0), (3, .slice a29 n30 c31), (4, s53), (9, i_ (y19.length : Int)), (10, i_ i0)] ∧ FrS [] H24 H49 ∧ Ow enc_i64_i64_i64 3 H49 s53 l1 f54 ∧ Inn [] H24 f54) n47 ⟨0, [], (.slice none 0 0), [], hn48, ha_, (FrS.refl (W := []) e25.wf), (Ow.nil (by decide)), Inn.nil⟩ ?_
  rintro n47 α H49 ⟨i0, l1, s53, f54, hi57, hh56, e50, m52, i55⟩ K62 k62
  obtain ⟨n58, z59, rfl, hz60, hn61⟩ := iter_succ hi57
  obtain ⟨β, rfl⟩ := has_ex hh56
  clear hh56
  replace hz60 : z_viaductref10_Arcs_l0 Node UpFirst Up DownFirst Down y19 i0 l1 = some z59 := hz60
  unfold z_viaductref10_Arcs_l0 at hz60
  obtain ⟨a63, n64, c65, rfl⟩ := m52.form
  refine w_seqk fun _ k66 => g_' (q_ (.bool (decide (i0 < (y19.length : Int)))) (s_nil (k66 _ _ (w_seqk fun _ k67 => ?_))))
  refine w_condp (i0 < (y19.length : Int)) (by kernel_rfl) rfl (fun h68 => ?_) (fun h68 => ?_)
  ·have r69 := ite_t h68 hz60
   refine w_skip (k67 _ _ (w_seqk fun _ k70 => w_block (w_seqk fun _ k71 => g_' (q_ (i_ i0) (q_ (i_ i0) (s_nil (k71 _ _ (g_' (q_ (.slice a63 n64 c65) ?_)))))))))
   have u72 := ((r11.frS e25 Dj.nil_l).frS e50 Dj.nil_l)
   refine l_' (.agg #[hd_Node, hd_UpFirst, hd_Up, hd_DownFirst, hd_Down]) (aL_ 81 (pt_ b7 0) H49) (u72.l_) ?_
   refine q_ (.slice a29 n30 c31) (q_ (i_ i0) ?_)
   have u73 := ((u14.fr e25 Dj.nil_l).fr e50 Dj.nil_l)
   have u74 := ((u15.fr e25 Dj.nil_l).fr e50 Dj.nil_l)
   have u75 := ((u16.fr e25 Dj.nil_l).fr e50 Dj.nil_l)
   have u76 := ((u17.fr e25 Dj.nil_l).fr e50 Dj.nil_l)
   have u77 := ((u18.fr e25 Dj.nil_l).fr e50 Dj.nil_l)
   have u78 := (m26.fr e50 Dj.nil_l)
   obtain ⟨y79, hy80, r81⟩ := bind_some r69
   refine s_ck 161 #[.agg #[hd_Node, hd_UpFirst, hd_Up, hd_DownFirst, hd_Down], .slice a29 n30 c31, i_ i0] (by kernel_rfl) (c_viaductref10_EndOf e50.wf u73 u74 u75 u76 u77 u78.sq hy80) ?_
   rintro _ H82 ⟨rfl, e83⟩
   refine s_owk (enc := enc_i64_i64_i64) (sz := 3) e83.wf [(y79.1, y79.2.1, y79.2.2)] 1 (by decide) (fun _ _ => rfl) (fun _ _ => rfl) rfl (by kernel_rfl) fun s84 f85 H86 e87 hf88 hm89 => ?_
   obtain ⟨a90, n91, c92, rfl⟩ := hm89.form
   have u94 := ((m52.fr e83 Dj.nil_l).ext e87)
   obtain ⟨g95, r96⟩ := G_some r81
   obtain ⟨s97, H98, f99, q103, e100, hm101, hf102⟩ := Ow.append (P := Try.prog) 24 e87.wf u94 hm89.sq (fun _ _ => rfl) (at_ := #[216, 216]) rfl rfl (by kernel_rfl) (by kernel_rfl) (by decide) (by have := g95; first | omega | (simp only [List.length_cons, List.length_nil] at this ⊢; omega) | (simp at this ⊢; omega))
   obtain ⟨a104, n105, c106, rfl⟩ := hm101.form
   refine s_ek (.slice a104 n105 c106) (by kernel_rfl) (q103) ?_
   refine q_ (.slice a104 n105 c106) (s_nil (k70 _ _ (g_' ?_)))
   obtain ⟨g108, r109⟩ := G_some r96
   refine w_' (i0 + 1) (wrap64 g108) ?_
   refine q_ (i_ (i0 + 1)) (s_nil ?_)
   obtain rfl := oi_ r109
   exact k62 n58 _ _ (Nat.lt_succ_self _) ⟨(i0 + 1), (l1 ++ [(y79.1, y79.2.1, y79.2.2)]), (.slice a104 n105 c106), f99, hn61, ha_, (FrS.step e25.wf ((FrS.step e25.wf (FrS.step e25.wf (FrS.refl (W := []) e25.wf) e50 Inn.nil) e83 Inn.nil).extR e87) e100 (i55.fresh (Nat.le_refl _))), hm101, (Inn.trans (i55.fresh (Nat.le_refl _)) (t_ (t_ e50.n e83.n) e87.n) hf102)⟩
  have r110 := ite_f h68 hz60
  refine w_exit (th_exit (th_exit (bl_eq ?_)))
  obtain rfl := oi_ r110
  obtain rfl := it_inr hn61
  exact k45 _ _ ⟨(.slice a63 n64 c65), f54, ha_, (FrS.step e25.wf (FrS.refl (W := []) e25.wf) e50 Inn.nil), m52, (i55.fresh (Nat.le_refl _))⟩
 obtain ⟨s42, f43, hh46, e39, m41, i44⟩ := hM
 obtain ⟨β, rfl⟩ := has_ex hh46
 clear hh46
 obtain ⟨a111, n112, c113, rfl⟩ := m41.form
 refine k33 _ _ (w_seqk fun _ k114 => g_' (q_ (.slice a111 n112 c113) (q_ (.slice a111 n112 c113) (s_nil (k114 _ _ ?_)))))
 refine w_ret ?_
 refine b_ret (fn := Try.f138) (vs := [.slice a111 n112 c113]) (rt_ (rfl)) ?_
 obtain rfl := oi_ r37
 exact ⟨(.slice a111 n112 c113), f43, rfl, (FrS.step wf (FrS.step wf ((f0_ wf).extR e9) e25 Inn.nil) e39 Inn.nil), m41, (i44.fresh (t_ e9.n e25.n))⟩
theorem c_viaductref04_less {H : AH} {From : Int} {To : Int} {Weight : Int} {From_ : Int} {To_ : Int} {Weight_ : Int} {r : Bool}
    (wf : WF H) (hr : z_viaductref04_less From To Weight From_ To_ Weight_ = some r) :
    ACalls Try.prog 159 #[.agg #[i_ From, i_ To, i_ Weight], .agg #[i_ From_, i_ To_, i_ Weight_]] H fun v H' => v = .bool r ∧ FrS [] H H' := by
 refine acalls_of_body mixed Try.func159 rfl (Nat.le_of_ble_eq_true rfl) ?_
 unfold z_viaductref04_less at hr
 refine w_seqk fun _ k1 => g_' ?_
 refine s_rwl wf [i_ From, i_ To, i_ Weight] (one_cons (rfl) (one_cons (rfl) (one_cons (rfl) (one_nil)))) (by kernel_rfl) fun b2 H3 e4 hb5 r6 => ?_
 refine s_rwl e4.wf [i_ From_, i_ To_, i_ Weight_] (one_cons (rfl) (one_cons (rfl) (one_cons (rfl) (one_nil)))) (by kernel_rfl) fun b8 H9 e10 hb11 r12 => ?_
 refine q_ (.bool false) (s_nil (k1 _ _ (w_seqk fun _ k14 => g_' (q_ (pt_ b2 0) ?_))))
 have u15 := (r6.ext e10)
 refine l_' (i_ From) (aL_ 3 (pt_ b2 0) H9) (u15.l_) ?_
 refine q_ (pt_ b8 0) ?_
 refine l_' (i_ From_) (aL_ 3 (pt_ b8 0) H9) (r12.l_) ?_
 refine s_b (From < From_) (by kernel_rfl) (fun h16 => ?_) (fun h16 => ?_)
 ·have r17 := ite_t h16 hr
  refine q_ (.bool true) (n_' (n_' (n_' (n_' (n_' (n_' (n_' (n_' (n_' (n_' (n_' (n_' (q_ (.bool true) (q_ (.bool true) (s_nil (k14 _ _ ?_))))))))))))))))
  refine w_ret ?_
  refine b_ret (fn := Try.f159) (vs := [.bool true]) (rt_ (rfl)) ?_
  obtain rfl := oi_ r17
  exact ⟨rfl, (((f0_ wf).extR e4).extR e10)⟩
 have r18 := ite_f h16 hr
 refine q_ (.bool false) (q_ (pt_ b2 0) ?_)
 refine l_' (i_ From) (aL_ 3 (pt_ b2 0) H9) (u15.l_) ?_
 refine q_ (pt_ b8 0) ?_
 refine l_' (i_ From_) (aL_ 3 (pt_ b8 0) H9) (r12.l_) ?_
 refine s_b (From = From_) (by kernel_rfl) (fun h19 => ?_) (fun h19 => ?_)
 ·have r20 := ite_t h19 r18
  refine q_ (.bool true) (q_ (pt_ b2 1) ?_)
  refine l_' (i_ To) (aL_ 3 (pt_ b2 1) H9) (u15.l_) ?_
  refine q_ (pt_ b8 1) ?_
  refine l_' (i_ To_) (aL_ 3 (pt_ b8 1) H9) (r12.l_) ?_
  refine q_ (.bool (decide (To < To_))) (q_ (.bool (decide (To < To_))) (q_ (.bool (decide (To < To_))) (q_ (.bool (decide (To < To_))) (s_nil (k14 _ _ ?_)))))
  refine w_ret ?_
  refine b_ret (fn := Try.f159) (vs := [.bool (decide (To < To_))]) (rt_ (rfl)) ?_
  obtain rfl := oi_ r20
  exact ⟨rfl, (((f0_ wf).extR e4).extR e10)⟩
 have r21 := ite_f h19 r18
 refine q_ (.bool false) (n_' (n_' (n_' (n_' (n_' (q_ (.bool false) (q_ (.bool false) (q_ (.bool false) (s_nil (k14 _ _ ?_))))))))))
 refine w_ret ?_
 refine b_ret (fn := Try.f159) (vs := [.bool false]) (rt_ (rfl)) ?_
 obtain rfl := oi_ r21
 exact ⟨rfl, (((f0_ wf).extR e4).extR e10)⟩
theorem c_viaductref04_Put {H : AH} {hd_l : Value} {fp_l : Fp} {l : List (Int × Int × Int)} {From : Int} {To : Int} {Weight : Int} {r : List (Int × Int × Int)}
    (wf : WF H) (h_l : Sq enc_i64_i64_i64 3 H hd_l l fp_l) (hr : z_viaductref04_Put l From To Weight = some r) :
    ACalls Try.prog 128 #[hd_l, .agg #[i_ From, i_ To, i_ Weight]] H fun v H' => ∃ (s3 : Value) (f4 : Fp), v = s3 ∧ FrS [] H H' ∧ Ow enc_i64_i64_i64 3 H' s3 r f4 ∧ Inn [] H f4 := by
 refine acalls_of_body mixed Try.func128 rfl (Nat.le_of_ble_eq_true rfl) ?_
 unfold z_viaductref04_Put at hr
 refine w_seqk fun _ k6 => g_' ?_
 refine s_rwl wf [i_ From, i_ To, i_ Weight] (one_cons (rfl) (one_cons (rfl) (one_cons (rfl) (one_nil)))) (by kernel_rfl) fun b7 H8 e9 hb10 r11 => ?_
 refine q_ (.slice none 0 0) (s_nil (k6 _ _ (w_seqk fun _ k13 => g_' (q_ (i_ 0) (s_nil (k13 _ _ (w_seqk fun _ k14 => ?_)))))))
 obtain ⟨o15, hx16, r17⟩ := bind_some hr
 refine w_mid (fun α H18 => Has α [(0, hd_l), (3, pt_ b7 0), (5, i_ o15)] ∧ FrS [] H8 H18) (fun _ k20 => ?_) (fun α H18 hM => ?_)
 ·refine w_block ?_
  obtain ⟨n22, hn23⟩ := loopO_iff.1 hx16
  refine w_loopn (fun n α H24 => ∃ (i0 : Int), iterO (fun zz_ => z_viaductref04_Put_l0 l From To Weight zz_) n i0 = some o15 ∧ Has α [(0, hd_l), (3, pt_ b7 0), (5, i_ i0)] ∧ FrS [] H8 H24) n22 ⟨0, hn23, ha_, (FrS.refl (W := []) e9.wf)⟩ ?_
  rintro n22 α H24 ⟨i0, hi27, hh26, e25⟩ K32 k32
  obtain ⟨n28, z29, rfl, hz30, hn31⟩ := iter_succ hi27
  obtain ⟨β, rfl⟩ := has_ex hh26
  clear hh26
  replace hz30 : z_viaductref04_Put_l0 l From To Weight i0 = some z29 := hz30
  unfold z_viaductref04_Put_l0 at hz30
  refine w_seqk fun _ k33 => w_seqk fun _ k34 => ?_
  refine w_draw [0, 1, 2, 3, 4, 5, 6, 7, 8, 9, 10, 11] (by kernel_rfl) ?_
  refine e_' (i_ i0) (e_' (hd_l) ?_)
  have u35 := ((h_l.ext e9).fr e25 Dj.nil_l)
  refine m_' (i_ (l.length : Int)) (aLen Try.prog 57 hd_l H24) (u35.lenb (by kernel_rfl)) ?_
  refine d_b (i0 < (l.length : Int)) (by kernel_rfl) (fun h36 => ?_) (fun h36 => ?_)
  ·have r37 := ite_t h36 hz30
   refine e_' (.bool true) (e_' (hd_l) (e_' (i_ i0) ?_))
   obtain ⟨g38, r39⟩ := G_some r37
   refine m_' (elp hd_l 3 i0.toNat 0) (aIndexAddr Try.prog 57 hd_l (i_ i0)) (u35.idxb (by kernel_rfl) g38 h36) ?_
   refine m_' (.agg #[i_ ((gt l i0).1), i_ ((gt l i0).2.1), i_ ((gt l i0).2.2)]) (aL_ 73 (elp hd_l 3 i0.toNat 0) H24) (u35.ld g38 h36 (by kernel_rfl)) ?_
   have u40 := (r11.frS e25 Dj.nil_l)
   refine m_' (.agg #[i_ From, i_ To, i_ Weight]) (aL_ 73 (pt_ b7 0) H24) (u40.l_) ?_
   obtain ⟨y41, hy42, r43⟩ := bind_some r39
   refine d_ck 159 #[.agg #[i_ ((gt l i0).1), i_ ((gt l i0).2.1), i_ ((gt l i0).2.2)], .agg #[i_ From, i_ To, i_ Weight]] (by kernel_rfl) (c_viaductref04_less e25.wf hy42) ?_
   rintro _ H44 ⟨rfl, e45⟩
   refine ⟨st_nil, ?_⟩
   refine e_' (.bool y41) ?_
   refine d_nil ?_
   refine k34 _ _ ?_
   refine w_cond (y41) (by kernel_rfl) rfl (fun h46 => ?_) (fun h46 => ?_)
   ·have r47 := ite_t h46 r43
    refine w_skip (k33 _ _ (w_block (g_' (q_ (i_ i0) ?_))))
    obtain ⟨g48, r49⟩ := G_some r47
    refine w_' (i0 + 1) (wrap64 (by have := g48; omega)) ?_
    refine q_ (i_ (i0 + 1)) (s_nil ?_)
    obtain rfl := oi_ r49
    exact k32 n28 _ _ (Nat.lt_succ_self _) ⟨(i0 + 1), hn31, ha_, (FrS.step e9.wf (FrS.step e9.wf (FrS.refl (W := []) e9.wf) e25 Inn.nil) e45 Inn.nil)⟩
   have r50 := ite_bf h46 r43
   refine w_exit (th_exit (th_exit (bl_eq ?_)))
   obtain rfl := oi_ r50
   obtain rfl := it_inr hn31
   exact k20 _ _ ⟨ha_, (FrS.step e9.wf (FrS.step e9.wf (FrS.refl (W := []) e9.wf) e25 Inn.nil) e45 Inn.nil)⟩
  have r51 := ite_f h36 hz30
  refine e_' (.bool false) (j_' (j_' (j_' (j_' (j_' (j_' (e_' (.bool false) ?_)))))))
  refine d_nil ?_
  refine k34 _ _ ?_
  refine w_cond false (by kernel_rfl) rfl (fun h => by cases h) (fun _ => ?_)
  refine w_exit (th_exit (th_exit (bl_eq ?_)))
  obtain rfl := oi_ r51
  obtain rfl := it_inr hn31
  exact k20 _ _ ⟨ha_, (FrS.step e9.wf (FrS.refl (W := []) e9.wf) e25 Inn.nil)⟩
 obtain ⟨hh21, e19⟩ := hM
 obtain ⟨β, rfl⟩ := has_ex hh21
 clear hh21
 refine k14 _ _ (w_seqk fun _ k52 => g_' (q_ (.slice none 0 0) (s_nil (k52 _ _ (w_seqk fun _ k53 => g_' (q_ (.slice none 0 0) (q_ (hd_l) (q_ (i_ o15) ?_))))))))
 obtain ⟨g54, r55⟩ := G_some r17
 have u59 := ((h_l.ext e9).fr e19 Dj.nil_l)
 obtain ⟨s56, q57, hs58⟩ := Sq.cut (P := Try.prog) u59 (t := 57) (by kernel_rfl) (lo := none) (hi := (some (i_ o15))) (l := 0) (r := o15.toNat) (rfl) (aBound_int _ (by have := g54; omega)) (by have := g54; omega) (by have := g54; omega)
 obtain ⟨a60, n61, c62, rfl⟩ := hs58.form
 refine s_ql (.slice a60 n61 c62) (by kernel_rfl) q57 ?_
 obtain ⟨g64, r65⟩ := G_some r55
 obtain ⟨s66, H67, f68, q72, e69, hm70, hf71⟩ := Ow.append (P := Try.prog) 24 e19.wf (Ow.nil (enc := enc_i64_i64_i64) (sz := 3) (by decide)) hs58 (fun _ _ => rfl) (at_ := #[57, 57]) rfl rfl (by kernel_rfl) (by kernel_rfl) (by decide) (by have := g64; first | omega | (simp only [List.length_cons, List.length_nil] at this ⊢; omega) | (simp at this ⊢; omega))
 obtain ⟨a73, n74, c75, rfl⟩ := hm70.form
 refine s_ek (.slice a73 n74 c75) (by kernel_rfl) (q72) ?_
 refine q_ (.slice a73 n74 c75) (s_nil (k53 _ _ (w_seqk fun _ k77 => w_seqk fun _ k78 => ?_)))
 obtain ⟨o79, hx80, r81⟩ := bind_some r65
 refine w_mid (fun α H82 => Has α [(0, hd_l), (3, pt_ b7 0), (5, i_ o15), (6, .slice a73 n74 c75), (49, .bool o79)] ∧ H67 = H82) (fun _ k84 => ?_) (fun α H82 hM => ?_)
 ·refine w_draw [0, 1, 2, 3, 4, 5, 6, 7, 8, 9, 10, 11, 12, 13, 14, 15, 16, 17, 18, 19, 20, 21, 22, 23] (by kernel_rfl) ?_
  refine e_' (i_ o15) (e_' (hd_l) ?_)
  have u86 := (u59.fr e69 Dj.nil_l)
  refine m_' (i_ (l.length : Int)) (aLen Try.prog 57 hd_l H67) (u86.lenb (by kernel_rfl)) ?_
  refine d_b (o15 < (l.length : Int)) (by kernel_rfl) (fun h87 => ?_) (fun h87 => ?_)
  ·have r88 := ite_t h87 hx80
   refine e_' (.bool true) (e_' (hd_l) (e_' (i_ o15) ?_))
   obtain ⟨g89, r90⟩ := G_some r88
   refine m_' (elp hd_l 3 o15.toNat 0) (aIndexAddr Try.prog 57 hd_l (i_ o15)) (u86.idxb (by kernel_rfl) g89 h87) ?_
   refine m_' (elp hd_l 3 o15.toNat 0) (aFieldAddr Try.prog 73 (elp hd_l 3 o15.toNat 0) 0) (Sq.fldq (d := 0) u86 g89 h87 (by kernel_rfl)) ?_
   refine m_' (i_ ((gt l o15).1)) (aL_ 3 (elp hd_l 3 o15.toNat 0) H67) (u86.ld g89 h87 (by kernel_rfl)) ?_
   refine e_' (pt_ b7 0) ?_
   have u91 := ((r11.frS e19 Dj.nil_l).frS e69 Dj.nil_l)
   refine m_' (i_ From) (aL_ 3 (pt_ b7 0) H67) (u91.l_) ?_
   refine d_b (((gt l o15).1) = From) (by kernel_rfl) (fun h92 => ?_) (fun h92 => ?_)
   ·have r93 := ite_t h92 r90
    refine e_' (.bool true) (e_' (.bool true) (e_' (hd_l) (e_' (i_ o15) ?_)))
    refine m_' (elp hd_l 3 o15.toNat 0) (aIndexAddr Try.prog 57 hd_l (i_ o15)) (u86.idxb (by kernel_rfl) g89 h87) ?_
    refine m_' (elp hd_l 3 o15.toNat 1) (aFieldAddr Try.prog 73 (elp hd_l 3 o15.toNat 0) 1) (Sq.fldq (d := 1) u86 g89 h87 (by kernel_rfl)) ?_
    refine m_' (i_ ((gt l o15).2.1)) (aL_ 3 (elp hd_l 3 o15.toNat 1) H67) (u86.ld g89 h87 (by kernel_rfl)) ?_
    refine e_' (pt_ b7 1) ?_
    refine m_' (i_ To) (aL_ 3 (pt_ b7 1) H67) (u91.l_) ?_
    refine e_' (.bool (decide (((gt l o15).2.1) = To))) (e_' (.bool (decide (((gt l o15).2.1) = To))) ?_)
    refine d_nil ?_
    obtain rfl := oi_ r93
    exact k84 _ _ ⟨ha_, rfl⟩
   have r94 := ite_f h92 r90
   refine e_' (.bool false) (e_' (.bool false) (j_' (j_' (j_' (j_' (j_' (j_' (j_' (j_' (e_' (.bool false) ?_))))))))))
   refine d_nil ?_
   obtain rfl := oi_ r94
   exact k84 _ _ ⟨ha_, rfl⟩
  have r95 := ite_f h87 hx80
  refine e_' (.bool false) (j_' (j_' (j_' (j_' (j_' (j_' (j_' (j_' (e_' (.bool false) (e_' (.bool false) (j_' (j_' (j_' (j_' (j_' (j_' (j_' (j_' (e_' (.bool false) ?_)))))))))))))))))))
  refine d_nil ?_
  obtain rfl := oi_ r95
  exact k84 _ _ ⟨ha_, rfl⟩
 obtain ⟨hh85, rfl⟩ := hM
 obtain ⟨β, rfl⟩ := has_ex hh85
 clear hh85
 refine k78 _ _ ?_
 refine w_cond (o79) (by kernel_rfl) rfl (fun h96 => ?_) (fun h96 => ?_)
 ·have r97 := ite_t h96 r81
  refine w_seqk fun _ k98 => ?_
  refine w_draw [0, 1, 2, 3, 4, 5, 6, 7, 8, 9] (by kernel_rfl) ?_
  refine e_' (pt_ b7 2) ?_
  have u99 := ((r11.frS e19 Dj.nil_l).frS e69 Dj.nil_l)
  refine m_' (i_ Weight) (aL_ 3 (pt_ b7 2) H67) (u99.l_) ?_
  refine e_' (hd_l) (e_' (i_ o15) ?_)
  obtain ⟨g100, r101⟩ := G_some r97
  have u102 := (u59.fr e69 Dj.nil_l)
  refine m_' (elp hd_l 3 o15.toNat 0) (aIndexAddr Try.prog 57 hd_l (i_ o15)) (u102.idxb (by kernel_rfl) g100.1 g100.2) ?_
  refine m_' (elp hd_l 3 o15.toNat 2) (aFieldAddr Try.prog 73 (elp hd_l 3 o15.toNat 0) 2) (Sq.fldq (d := 2) u102 g100.1 g100.2 (by kernel_rfl)) ?_
  refine m_' (i_ ((gt l o15).2.2)) (aL_ 3 (elp hd_l 3 o15.toNat 2) H67) (u102.ld g100.1 g100.2 (by kernel_rfl)) ?_
  refine m_' (i_ (min Weight ((gt l o15).2.2))) (aMin Try.prog [i_ Weight, i_ ((gt l o15).2.2)]) (aMin_two _ _) ?_
  refine e_' (pt_ b7 2) ?_
  obtain ⟨H103, q104, e105, r106⟩ := Row.store (P := Try.prog) (t := 3) (p := 2) e69.wf u99 (i_ (min Weight ((gt l o15).2.2))) [i_ (min Weight ((gt l o15).2.2))] (by kernel_rfl) (by kernel_rfl) (one_cons (rfl) (one_nil)) (Nat.le_of_ble_eq_true (by kernel_rfl)) [i_ From, i_ To, i_ (min Weight ((gt l o15).2.2))] (by kernel_rfl)
  refine d_ek (undef) (by kernel_rfl) (map_ok q104) (st_nil) ?_
  refine d_nil ?_
  refine k98 _ _ (w_seqk fun _ k107 => g_' (q_ (.slice a73 n74 c75) ?_))
  refine l_' (.agg #[i_ From, i_ To, i_ (min Weight ((gt l o15).2.2))]) (aL_ 73 (pt_ b7 0) H103) (r106.l_) ?_
  refine s_owk (enc := enc_i64_i64_i64) (sz := 3) e105.wf [(From, To, (min Weight ((gt l o15).2.2)))] 1 (by decide) (fun _ _ => rfl) (fun _ _ => rfl) rfl (by kernel_rfl) fun s108 f109 H110 e111 hf112 hm113 => ?_
  obtain ⟨a114, n115, c116, rfl⟩ := hm113.form
  have u118 := ((hm70.fr e105 (Dj.symm (hf71.djn (r11.ltF.le e19.n)))).ext e111)
  obtain ⟨g119, r120⟩ := G_some r101
  obtain ⟨s121, H122, f123, q127, e124, hm125, hf126⟩ := Ow.append (P := Try.prog) 24 e111.wf u118 hm113.sq (fun _ _ => rfl) (at_ := #[57, 57]) rfl rfl (by kernel_rfl) (by kernel_rfl) (by decide) (by have := g119; first | omega | (simp only [List.length_cons, List.length_nil] at this ⊢; omega) | (simp at this ⊢; omega))
  obtain ⟨a128, n129, c130, rfl⟩ := hm125.form
  refine s_ek (.slice a128 n129 c130) (by kernel_rfl) (q127) ?_
  refine q_ (.slice a128 n129 c130) (s_nil (k107 _ _ (w_seqk fun _ k132 => g_' (q_ (.slice a128 n129 c130) (q_ (hd_l) (q_ (i_ o15) ?_))))))
  obtain ⟨g133, r134⟩ := G_some r120
  refine w_' (o15 + 1) (wrap64 (by have := g133; omega)) ?_
  obtain ⟨g135, r136⟩ := G_some r134
  have u140 := (((u102.fr e105 (hb10.djn h_l.lt)).ext e111).fr e124 (hf71.djn (h_l.lt.le (t_ e9.n e19.n))))
  obtain ⟨s137, q138, hs139⟩ := Sq.cut (P := Try.prog) u140 (t := 57) (by kernel_rfl) (lo := (some (i_ (o15 + 1)))) (hi := none) (l := (o15 + 1).toNat) (r := l.length) (aBound_int _ (by have := g135; omega)) (rfl) (by have := g135; omega) (by have := g135; omega)
  obtain ⟨a141, n142, c143, rfl⟩ := hs139.form
  refine s_ql (.slice a141 n142 c143) (by kernel_rfl) q138 ?_
  obtain ⟨g145, r146⟩ := G_some r136
  obtain ⟨s147, H148, f149, q153, e150, hm151, hf152⟩ := Ow.append (P := Try.prog) 24 e124.wf hm125 hs139 (fun _ _ => rfl) (at_ := #[57, 57]) rfl rfl (by kernel_rfl) (by kernel_rfl) (by decide) (by have := g145; first | omega | (simp only [List.length_cons, List.length_nil] at this ⊢; omega) | (simp at this ⊢; omega))
  obtain ⟨a154, n155, c156, rfl⟩ := hm151.form
  refine s_ek (.slice a154 n155 c156) (by kernel_rfl) (q153) ?_
  refine q_ (.slice a154 n155 c156) (s_nil (k132 _ _ ?_))
  refine w_ret (th_ret ?_)
  refine b_ret (fn := Try.f128) (vs := [.slice a154 n155 c156]) (rt_ (rfl)) ?_
  obtain rfl := oi_ r146
  exact ⟨(.slice a154 n155 c156), f149, rfl, (FrS.step wf (FrS.step wf ((FrS.step wf (FrS.step wf (FrS.step wf ((f0_ wf).extR e9) e19 Inn.nil) e69 Inn.nil) e105 (hb10.fresh (Nat.le_refl _))).extR e111) e124 (hf71.fresh (t_ e9.n e19.n))) e150 (Inn.trans (hf71.fresh (t_ e9.n e19.n)) (t_ (t_ (t_ (t_ e9.n e19.n) e69.n) e105.n) e111.n) hf126)), hm151, (Inn.trans (Inn.trans (hf71.fresh (t_ e9.n e19.n)) (t_ (t_ (t_ (t_ e9.n e19.n) e69.n) e105.n) e111.n) hf126) (t_ (t_ (t_ (t_ (t_ e9.n e19.n) e69.n) e105.n) e111.n) e124.n) hf152)⟩
 have r158 := ite_bf h96 r81
 refine w_skip (k77 _ _ (w_seqk fun _ k159 => g_' (q_ (.slice a73 n74 c75) ?_)))
 have u160 := ((r11.frS e19 Dj.nil_l).frS e69 Dj.nil_l)
 refine l_' (.agg #[i_ From, i_ To, i_ Weight]) (aL_ 73 (pt_ b7 0) H67) (u160.l_) ?_
 refine s_owk (enc := enc_i64_i64_i64) (sz := 3) e69.wf [(From, To, Weight)] 1 (by decide) (fun _ _ => rfl) (fun _ _ => rfl) rfl (by kernel_rfl) fun s161 f162 H163 e164 hf165 hm166 => ?_
 obtain ⟨a167, n168, c169, rfl⟩ := hm166.form
 have u171 := (hm70.ext e164)
 obtain ⟨g172, r173⟩ := G_some r158
 obtain ⟨s174, H175, f176, q180, e177, hm178, hf179⟩ := Ow.append (P := Try.prog) 24 e164.wf u171 hm166.sq (fun _ _ => rfl) (at_ := #[57, 57]) rfl rfl (by kernel_rfl) (by kernel_rfl) (by decide) (by have := g172; first | omega | (simp only [List.length_cons, List.length_nil] at this ⊢; omega) | (simp at this ⊢; omega))
 obtain ⟨a181, n182, c183, rfl⟩ := hm178.form
 refine s_ek (.slice a181 n182 c183) (by kernel_rfl) (q180) ?_
 refine q_ (.slice a181 n182 c183) (s_nil (k159 _ _ (w_seqk fun _ k185 => g_' (q_ (.slice a181 n182 c183) (q_ (hd_l) (q_ (i_ o15) ?_))))))
 have u189 := (((u59.fr e69 Dj.nil_l).ext e164).fr e177 (hf71.djn (h_l.lt.le (t_ e9.n e19.n))))
 obtain ⟨s186, q187, hs188⟩ := Sq.cut (P := Try.prog) u189 (t := 57) (by kernel_rfl) (lo := (some (i_ o15))) (hi := none) (l := o15.toNat) (r := l.length) (aBound_int _ (by have := g54; omega)) (rfl) (by have := g54; omega) (by have := g54; omega)
 obtain ⟨a190, n191, c192, rfl⟩ := hs188.form
 refine s_ql (.slice a190 n191 c192) (by kernel_rfl) q187 ?_
 obtain ⟨g194, r195⟩ := G_some r173
 obtain ⟨s196, H197, f198, q202, e199, hm200, hf201⟩ := Ow.append (P := Try.prog) 24 e177.wf hm178 hs188 (fun _ _ => rfl) (at_ := #[57, 57]) rfl rfl (by kernel_rfl) (by kernel_rfl) (by decide) (by have := g194; first | omega | (simp only [List.length_cons, List.length_nil] at this ⊢; omega) | (simp at this ⊢; omega))
 obtain ⟨a203, n204, c205, rfl⟩ := hm200.form
 refine s_ek (.slice a203 n204 c205) (by kernel_rfl) (q202) ?_
 refine q_ (.slice a203 n204 c205) (s_nil (k185 _ _ ?_))
 refine w_ret ?_
 refine b_ret (fn := Try.f128) (vs := [.slice a203 n204 c205]) (rt_ (rfl)) ?_
 obtain rfl := oi_ r195
 exact ⟨(.slice a203 n204 c205), f198, rfl, (FrS.step wf (FrS.step wf ((FrS.step wf (FrS.step wf ((f0_ wf).extR e9) e19 Inn.nil) e69 Inn.nil).extR e164) e177 (hf71.fresh (t_ e9.n e19.n))) e199 (Inn.trans (hf71.fresh (t_ e9.n e19.n)) (t_ (t_ (t_ e9.n e19.n) e69.n) e164.n) hf179)), hm200, (Inn.trans (Inn.trans (hf71.fresh (t_ e9.n e19.n)) (t_ (t_ (t_ e9.n e19.n) e69.n) e164.n) hf179) (t_ (t_ (t_ (t_ e9.n e19.n) e69.n) e164.n) e177.n) hf201)⟩
theorem c_viaductref04_Of {H : AH} {hd_Arcs : Value} {fp_Arcs : Fp} {N_ : Int} {Arcs : List (Int × Int × Int)} {r : Int × List (Int × Int × Int)}
    (wf : WF H) (h_Arcs : Sq enc_i64_i64_i64 3 H hd_Arcs Arcs fp_Arcs) (hr : z_viaductref04_Of N_ Arcs = some r) :
    ACalls Try.prog 82 #[.agg #[i_ N_, hd_Arcs]] H fun v H' => ∃ (s3 : Value) (f4 : Fp), v = .agg #[i_ r.1, s3] ∧ FrS [] H H' ∧ Ow enc_i64_i64_i64 3 H' s3 r.2 f4 ∧ Inn [] H f4 := by
 refine acalls_of_body mixed Try.func82 rfl (Nat.le_of_ble_eq_true rfl) ?_
 unfold z_viaductref04_Of at hr
 refine w_seqk fun _ k6 => g_' ?_
 refine s_rwl wf [i_ N_, hd_Arcs] (one_cons (rfl) (one_cons (h_Arcs.one1) (one_nil))) (by kernel_rfl) fun b7 H8 e9 hb10 r11 => ?_
 refine s_rwk e9.wf [i_ 0, .slice none 0 0] (by kernel_rfl) fun b13 H14 e15 hb16 r17 => ?_
 refine s_nil (k6 _ _ (w_seqk fun _ k19 => g_' (q_ (pt_ b7 0) ?_)))
 have u20 := (r11.ext e15)
 refine l_' (i_ N_) (aL_ 3 (pt_ b7 0) H14) (u20.l_) ?_
 refine q_ (.agg #[i_ N_, .slice none 0 0]) ?_
 refine s_rwk e15.wf [i_ 0, .slice none 0 0] (by kernel_rfl) fun b21 H22 e23 hb24 r25 => ?_
 obtain ⟨H27, q28, e29, r30⟩ := Row.store (P := Try.prog) (t := 59) (p := 0) e23.wf r25 (.agg #[i_ N_, .slice none 0 0]) [i_ N_, .slice none 0 0] (by kernel_rfl) (by kernel_rfl) (one_cons (rfl) (one_cons (rfl) (one_nil))) (Nat.le_of_ble_eq_true (by kernel_rfl)) [i_ N_, .slice none 0 0] (by kernel_rfl)
 refine s_ek (undef) (by kernel_rfl) (map_ok q28) ?_
 refine s_nil (k19 _ _ (w_seqk fun _ k31 => w_seqk fun _ k32 => g_' (q_ (pt_ b7 1) ?_)))
 have u33 := ((u20.ext e23).frS e29 (hb24.djn (r11.ltF.le e15.n)))
 refine l_' (hd_Arcs) (aL_ 57 (pt_ b7 1) H27) (u33.l_) ?_
 have u34 := ((((h_Arcs.ext e9).ext e15).ext e23).fr e29 (hb24.djn (h_Arcs.lt.le (t_ e9.n e15.n))))
 refine l_' (i_ (Arcs.length : Int)) (aLen Try.prog 57 hd_Arcs H27) (u34.lenb (by kernel_rfl)) ?_
 refine q_ (i_ 0) (s_nil (k32 _ _ ?_))
 obtain ⟨o35, hx36, r37⟩ := bind_some hr
 refine w_mid (fun α H38 => ∃ (s42 : Value) (f43 : Fp), Has α [(2, pt_ b13 0), (3, pt_ b21 0)] ∧ FrS [b21] H27 H38 ∧ Ow enc_i64_i64_i64 3 H38 s42 o35 f43 ∧ Row H38 b21 [i_ N_, s42] ∧ Inn [] H27 f43) (fun _ k47 => ?_) (fun α H38 hM => ?_)
 ·refine w_block ?_
  obtain ⟨n49, hn50⟩ := loopO_iff.1 hx36
  refine w_loopn (fun n α H51 => ∃ (i0 : Int), ∃ (c1 : List (Int × Int × Int)), ∃ (s55 : Value), ∃ (f56 : Fp), iterO (fun zz_ => z_viaductref04_Of_l0 Arcs zz_.1 zz_.2) n (i0, c1) = some o35 ∧ Has α [(2, pt_ b13 0), (3, pt_ b21 0), (10, hd_Arcs), (11, i_ (Arcs.length : Int)), (12, i_ i0)] ∧ FrS [b21] H27 H51 ∧ Ow enc_i64_i64_i64 3 H51 s55 c1 f56 ∧ Row H51 b21 [i_ N_, s55] ∧ Inn [] H27 f56) n49 ⟨0, [], (.slice none 0 0), [], hn50, ha_, (FrS.refl (W := [b21]) e29.wf), (Ow.nil (by decide)), r30, Inn.nil⟩ ?_
  rintro n49 α H51 ⟨i0, c1, s55, f56, hi61, hh60, e52, m54, m58, i59⟩ K66 k66
  obtain ⟨n62, z63, rfl, hz64, hn65⟩ := iter_succ hi61
  obtain ⟨β, rfl⟩ := has_ex hh60
  clear hh60
  replace hz64 : z_viaductref04_Of_l0 Arcs i0 c1 = some z63 := hz64
  unfold z_viaductref04_Of_l0 at hz64
  obtain ⟨a67, n68, c69, rfl⟩ := m54.form
  refine w_seqk fun _ k70 => g_' (q_ (.bool (decide (i0 < (Arcs.length : Int)))) (s_nil (k70 _ _ (w_seqk fun _ k71 => ?_))))
  refine w_condp (i0 < (Arcs.length : Int)) (by kernel_rfl) rfl (fun h72 => ?_) (fun h72 => ?_)
  ·have r73 := ite_t h72 hz64
   refine w_skip (k71 _ _ (w_seqk fun _ k74 => w_block (w_seqk fun _ k75 => g_' ?_)))
   obtain ⟨g76, r77⟩ := G_some r73
   have u78 := (u34.fr e52 (hb24.djn (h_Arcs.lt.le (t_ e9.n e15.n))))
   refine l_' (elp hd_Arcs 3 i0.toNat 0) (aIndexAddr Try.prog 57 hd_Arcs (i_ i0)) (u78.idxb (by kernel_rfl) g76 h72) ?_
   refine l_' (.agg #[i_ ((gt Arcs i0).1), i_ ((gt Arcs i0).2.1), i_ ((gt Arcs i0).2.2)]) (aL_ 73 (elp hd_Arcs 3 i0.toNat 0) H51) (u78.ld g76 h72 (by kernel_rfl)) ?_
   refine s_rwk e52.wf [i_ 0, i_ 0, i_ 0] (by kernel_rfl) fun b79 H80 e81 hb82 r83 => ?_
   obtain ⟨H85, q86, e87, r88⟩ := Row.store (P := Try.prog) (t := 73) (p := 0) e81.wf r83 (.agg #[i_ ((gt Arcs i0).1), i_ ((gt Arcs i0).2.1), i_ ((gt Arcs i0).2.2)]) [i_ ((gt Arcs i0).1), i_ ((gt Arcs i0).2.1), i_ ((gt Arcs i0).2.2)] (by kernel_rfl) (by kernel_rfl) (one_cons (rfl) (one_cons (rfl) (one_cons (rfl) (one_nil)))) (Nat.le_of_ble_eq_true (by kernel_rfl)) [i_ ((gt Arcs i0).1), i_ ((gt Arcs i0).2.1), i_ ((gt Arcs i0).2.2)] (by kernel_rfl)
   refine s_ek (undef) (by kernel_rfl) (map_ok q86) ?_
   refine s_nil (k75 _ _ (w_seqk fun _ k89 => g_' (q_ (pt_ b79 0) ?_)))
   refine l_' (i_ ((gt Arcs i0).1)) (aL_ 3 (pt_ b79 0) H85) (r88.l_) ?_
   refine q_ (pt_ b79 1) ?_
   refine l_' (i_ ((gt Arcs i0).2.1)) (aL_ 3 (pt_ b79 1) H85) (r88.l_) ?_
   refine q_ (.bool (!decide (((gt Arcs i0).1) = ((gt Arcs i0).2.1)))) (s_nil (k89 _ _ ?_))
   refine w_condn (((gt Arcs i0).1) = ((gt Arcs i0).2.1)) (by kernel_rfl) rfl (fun h90 => ?_) (fun h90 => ?_)
   ·have r91 := ite_f h90 r77
    refine g_' (q_ (pt_ b21 1) ?_)
    have u92 := ((m58.ext e81).frS e87 (hb82.djn (r25.ltF.le (t_ e29.n e52.n))))
    refine l_' (.slice a67 n68 c69) (aL_ 57 (pt_ b21 1) H85) (u92.l_) ?_
    refine l_' (.agg #[i_ ((gt Arcs i0).1), i_ ((gt Arcs i0).2.1), i_ ((gt Arcs i0).2.2)]) (aL_ 73 (pt_ b79 0) H85) (r88.l_) ?_
    have u93 := ((m54.ext e81).fr e87 (hb82.djn m54.lt))
    obtain ⟨y94, hy95, r96⟩ := bind_some r91
    refine s_ck 128 #[.slice a67 n68 c69, .agg #[i_ ((gt Arcs i0).1), i_ ((gt Arcs i0).2.1), i_ ((gt Arcs i0).2.2)]] (by kernel_rfl) (c_viaductref04_Put e87.wf u93.sq hy95) ?_
    rintro s97 H99 ⟨_, f98, rfl, e100, m101, i102⟩
    obtain ⟨a104, n105, c106, rfl⟩ := m101.form
    refine q_ (pt_ b21 1) ?_
    have u111 := (u92.frS e100 Dj.nil_l)
    obtain ⟨H107, q108, e109, r110⟩ := Row.store (P := Try.prog) (t := 57) (p := 1) e100.wf u111 (.slice a104 n105 c106) [.slice a104 n105 c106] (by kernel_rfl) (by kernel_rfl) (one_cons (m101.one1) (one_nil)) (Nat.le_of_ble_eq_true (by kernel_rfl)) [i_ N_, .slice a104 n105 c106] (by kernel_rfl)
    refine s_ek (undef) (by kernel_rfl) (map_ok q108) ?_
    refine s_nil (k74 _ _ (g_' ?_))
    obtain ⟨g112, r113⟩ := G_some r96
    refine w_' (i0 + 1) (wrap64 (by have := g112; omega)) ?_
    refine q_ (i_ (i0 + 1)) (s_nil ?_)
    have u114 := (m101.fr e109 (Dj.symm (i102.djn (r25.ltF.le (t_ (t_ (t_ e29.n e52.n) e81.n) e87.n)))))
    obtain rfl := oi_ r113
    exact k66 n62 _ _ (Nat.lt_succ_self _) ⟨(i0 + 1), y94, (.slice a104 n105 c106), f98, hn65, ha_, (FrS.step e29.wf (FrS.step e29.wf (FrS.step e29.wf ((FrS.step e29.wf (FrS.refl (W := [b21]) e29.wf) e52 Inn.refl').extR e81) e87 (hb82.fresh e52.n)) e100 Inn.nil) e109 Inn.refl'), u114, r110, (i102.fresh (t_ (t_ e52.n e81.n) e87.n))⟩
   have r115 := ite_t h90 r77
   refine w_skip (k74 _ _ (g_' ?_))
   obtain ⟨g116, r117⟩ := G_some r115
   refine w_' (i0 + 1) (wrap64 (by have := g116; omega)) ?_
   refine q_ (i_ (i0 + 1)) (s_nil ?_)
   have u118 := ((m54.ext e81).fr e87 (hb82.djn m54.lt))
   have u119 := ((m58.ext e81).frS e87 (hb82.djn (r25.ltF.le (t_ e29.n e52.n))))
   obtain rfl := oi_ r117
   exact k66 n62 _ _ (Nat.lt_succ_self _) ⟨(i0 + 1), c1, (.slice a67 n68 c69), f56, hn65, ha_, (FrS.step e29.wf ((FrS.step e29.wf (FrS.refl (W := [b21]) e29.wf) e52 Inn.refl').extR e81) e87 (hb82.fresh e52.n)), u118, u119, (i59.fresh (Nat.le_refl _))⟩
  have r120 := ite_f h72 hz64
  refine w_exit (th_exit (th_exit (bl_eq ?_)))
  obtain rfl := oi_ r120
  obtain rfl := it_inr hn65
  exact k47 _ _ ⟨(.slice a67 n68 c69), f56, ha_, (FrS.step e29.wf (FrS.refl (W := [b21]) e29.wf) e52 Inn.refl'), m54, m58, (i59.fresh (Nat.le_refl _))⟩
 obtain ⟨s42, f43, hh48, e39, m41, m45, i46⟩ := hM
 obtain ⟨β, rfl⟩ := has_ex hh48
 clear hh48
 obtain ⟨a121, n122, c123, rfl⟩ := m41.form
 refine k31 _ _ (w_seqk fun _ k124 => g_' ?_)
 refine l_' (.agg #[i_ N_, .slice a121 n122 c123]) (aL_ 59 (pt_ b21 0) H38) (m45.l_) ?_
 have u129 := (((r17.ext e23).frS e29 (hb24.djn r17.ltF)).frS e39 (hb24.djn r17.ltF))
 obtain ⟨H125, q126, e127, r128⟩ := Row.store (P := Try.prog) (t := 59) (p := 0) e39.wf u129 (.agg #[i_ N_, .slice a121 n122 c123]) [i_ N_, .slice a121 n122 c123] (by kernel_rfl) (by kernel_rfl) (one_cons (rfl) (one_cons (m41.one1) (one_nil))) (Nat.le_of_ble_eq_true (by kernel_rfl)) [i_ N_, .slice a121 n122 c123] (by kernel_rfl)
 refine s_ek (undef) (by kernel_rfl) (map_ok q126) ?_
 refine s_nil (k124 _ _ ?_)
 refine w_ret ?_
 refine b_ret (fn := Try.f82) (vs := [.agg #[i_ N_, .slice a121 n122 c123]]) (aRes_cell (Eq.trans (b := aL_ 59 (pt_ b13 0) H125) (by kernel_rfl) (r128.l_)) (rfl)) ?_
 have u130 := (m41.fr e127 (Dj.symm (i46.djn (r17.ltF.le (t_ e23.n e29.n)))))
 obtain rfl := oi_ r37
 exact ⟨(.slice a121 n122 c123), f43, rfl, (FrS.step wf (FrS.step wf (FrS.step wf ((((f0_ wf).extR e9).extR e15).extR e23) e29 (hb24.fresh (t_ e9.n e15.n))) e39 (hb24.fresh (t_ e9.n e15.n))) e127 (hb16.fresh e9.n)), u130, (i46.fresh (t_ (t_ (t_ e9.n e15.n) e23.n) e29.n))⟩
theorem c_viaductref10_Graph {H : AH} {hd_Node : Value} {fp_Node : Fp} {hd_UpFirst : Value} {fp_UpFirst : Fp} {hd_Up : Value} {fp_Up : Fp} {hd_DownFirst : Value} {fp_DownFirst : Fp} {hd_Down : Value} {fp_Down : Fp} {Node : List (Int)} {UpFirst : List (Int)} {Up : List (Int × Int × Int × Int)} {DownFirst : List (Int)} {Down : List (Int × Int × Int × Int)} {r : Int × List (Int × Int × Int)}
    (wf : WF H) (h_Node : Sq (encI .u32) 1 H hd_Node Node fp_Node) (h_UpFirst : Sq (encI .u32) 1 H hd_UpFirst UpFirst fp_UpFirst) (h_Up : Sq enc_u32_u64_u32_u32 4 H hd_Up Up fp_Up) (h_DownFirst : Sq (encI .u32) 1 H hd_DownFirst DownFirst fp_DownFirst) (h_Down : Sq enc_u32_u64_u32_u32 4 H hd_Down Down fp_Down) (hr : z_viaductref10_Graph Node UpFirst Up DownFirst Down = some r) :
    ACalls Try.prog 104 #[.agg #[hd_Node, hd_UpFirst, hd_Up, hd_DownFirst, hd_Down]] H fun v H' => ∃ (s3 : Value) (f4 : Fp), v = .agg #[i_ r.1, s3] ∧ FrS [] H H' ∧ Ow enc_i64_i64_i64 3 H' s3 r.2 f4 ∧ Inn [] H f4 := by
 refine acalls_of_body mixed Try.func104 rfl (Nat.le_of_ble_eq_true rfl) ?_
 unfold z_viaductref10_Graph at hr
 refine w_seqk fun _ k6 => g_' ?_
 refine s_rwl wf [hd_Node, hd_UpFirst, hd_Up, hd_DownFirst, hd_Down] (one_cons (h_Node.one1) (one_cons (h_UpFirst.one1) (one_cons (h_Up.one1) (one_cons (h_DownFirst.one1) (one_cons (h_Down.one1) (one_nil)))))) (by kernel_rfl) fun b7 H8 e9 hb10 r11 => ?_
 refine s_rwk e9.wf [i_ 0, .slice none 0 0] (by kernel_rfl) fun b13 H14 e15 hb16 r17 => ?_
 refine s_nil (k6 _ _ (w_seqk fun _ k19 => g_' (q_ (pt_ b7 0) ?_)))
 have u20 := (r11.ext e15)
 refine l_' (hd_Node) (aL_ 78 (pt_ b7 0) H14) (u20.l_) ?_
 have u21 := ((h_Node.ext e9).ext e15)
 refine l_' (i_ (Node.length : Int)) (aLen Try.prog 78 hd_Node H14) (u21.lenb (by kernel_rfl)) ?_
 refine q_ (.agg #[i_ (Node.length : Int), .slice none 0 0]) ?_
 refine s_rwk e15.wf [i_ 0, .slice none 0 0] (by kernel_rfl) fun b22 H23 e24 hb25 r26 => ?_
 obtain ⟨H28, q29, e30, r31⟩ := Row.store (P := Try.prog) (t := 59) (p := 0) e24.wf r26 (.agg #[i_ (Node.length : Int), .slice none 0 0]) [i_ (Node.length : Int), .slice none 0 0] (by kernel_rfl) (by kernel_rfl) (one_cons (rfl) (one_cons (rfl) (one_nil))) (Nat.le_of_ble_eq_true (by kernel_rfl)) [i_ (Node.length : Int), .slice none 0 0] (by kernel_rfl)
 refine s_ek (undef) (by kernel_rfl) (map_ok q29) ?_
 refine s_nil (k19 _ _ (w_seqk fun _ k32 => w_seqk fun _ k33 => g_' ?_))
 have u34 := ((u20.ext e24).frS e30 (hb25.djn (r11.ltF.le e15.n)))
 refine l_' (.agg #[hd_Node, hd_UpFirst, hd_Up, hd_DownFirst, hd_Down]) (aL_ 81 (pt_ b7 0) H28) (u34.l_) ?_
 have u35 := ((u21.ext e24).fr e30 (hb25.djn (h_Node.lt.le (t_ e9.n e15.n))))
 have u36 := ((((h_UpFirst.ext e9).ext e15).ext e24).fr e30 (hb25.djn (h_UpFirst.lt.le (t_ e9.n e15.n))))
 have u37 := ((((h_Up.ext e9).ext e15).ext e24).fr e30 (hb25.djn (h_Up.lt.le (t_ e9.n e15.n))))
 have u38 := ((((h_DownFirst.ext e9).ext e15).ext e24).fr e30 (hb25.djn (h_DownFirst.lt.le (t_ e9.n e15.n))))
 have u39 := ((((h_Down.ext e9).ext e15).ext e24).fr e30 (hb25.djn (h_Down.lt.le (t_ e9.n e15.n))))
 obtain ⟨y40, hy41, r42⟩ := bind_some hr
 refine s_ck 138 #[.agg #[hd_Node, hd_UpFirst, hd_Up, hd_DownFirst, hd_Down]] (by kernel_rfl) (c_viaductref10_Arcs e30.wf u35 u36 u37 u38 u39 hy41) ?_
 rintro s43 H45 ⟨_, f44, rfl, e46, m47, i48⟩
 obtain ⟨a50, n51, c52, rfl⟩ := m47.form
 refine l_' (i_ (y40.length : Int)) (aLen Try.prog 216 (.slice a50 n51 c52) H45) (m47.sq.lenb (by kernel_rfl)) ?_
 refine q_ (i_ 0) (s_nil (k33 _ _ ?_))
 obtain ⟨o53, hx54, r55⟩ := bind_some r42
 refine w_mid (fun α H56 => ∃ (s60 : Value) (f61 : Fp), Has α [(2, pt_ b13 0), (3, pt_ b22 0)] ∧ FrS [b22] H45 H56 ∧ Ow enc_i64_i64_i64 3 H56 s60 o53 f61 ∧ Row H56 b22 [i_ (Node.length : Int), s60] ∧ Inn [] H45 f61) (fun _ k65 => ?_) (fun α H56 hM => ?_)
 ·refine w_block ?_
  obtain ⟨n67, hn68⟩ := loopO_iff.1 hx54
  have u84 := (r31.frS e46 Dj.nil_l)
  refine w_loopn (fun n α H69 => ∃ (i0 : Int), ∃ (g1 : List (Int × Int × Int)), ∃ (s73 : Value), ∃ (f74 : Fp), iterO (fun zz_ => z_viaductref10_Graph_l0 Node UpFirst Up DownFirst Down y40 zz_.1 zz_.2) n (i0, g1) = some o53 ∧ Has α [(1, pt_ b7 0), (2, pt_ b13 0), (3, pt_ b22 0), (12, .slice a50 n51 c52), (13, i_ (y40.length : Int)), (14, i_ i0)] ∧ FrS [b22] H45 H69 ∧ Ow enc_i64_i64_i64 3 H69 s73 g1 f74 ∧ Row H69 b22 [i_ (Node.length : Int), s73] ∧ Inn [] H45 f74) n67 ⟨0, [], (.slice none 0 0), [], hn68, ha_, (FrS.refl (W := [b22]) e46.wf), (Ow.nil (by decide)), u84, Inn.nil⟩ ?_
  rintro n67 α H69 ⟨i0, g1, s73, f74, hi79, hh78, e70, m72, m76, i77⟩ K85 k85
  obtain ⟨n80, z81, rfl, hz82, hn83⟩ := iter_succ hi79
  obtain ⟨β, rfl⟩ := has_ex hh78
  clear hh78
  replace hz82 : z_viaductref10_Graph_l0 Node UpFirst Up DownFirst Down y40 i0 g1 = some z81 := hz82
  unfold z_viaductref10_Graph_l0 at hz82
  obtain ⟨a86, n87, c88, rfl⟩ := m72.form
  refine w_seqk fun _ k89 => g_' (q_ (.bool (decide (i0 < (y40.length : Int)))) (s_nil (k89 _ _ (w_seqk fun _ k90 => ?_))))
  refine w_condp (i0 < (y40.length : Int)) (by kernel_rfl) rfl (fun h91 => ?_) (fun h91 => ?_)
  ·have r92 := ite_t h91 hz82
   refine w_skip (k90 _ _ (w_seqk fun _ k93 => w_block (w_seqk fun _ k94 => g_' (q_ (i_ i0) ?_))))
   obtain ⟨g95, r96⟩ := G_some r92
   have u97 := (m47.fr e70 (Dj.symm (i48.djn (r26.ltF.le e30.n))))
   refine l_' (elp (.slice a50 n51 c52) 3 i0.toNat 0) (aIndexAddr Try.prog 216 (.slice a50 n51 c52) (i_ i0)) (u97.sq.idxb (by kernel_rfl) g95 h91) ?_
   refine l_' (.agg #[i_ ((gt y40 i0).1), i_ ((gt y40 i0).2.1), i_ ((gt y40 i0).2.2)]) (aL_ 219 (elp (.slice a50 n51 c52) 3 i0.toNat 0) H69) (u97.sq.ld g95 h91 (by kernel_rfl)) ?_
   refine s_rwk e70.wf [i_ 0, i_ 0, i_ 0] (by kernel_rfl) fun b98 H99 e100 hb101 r102 => ?_
   refine q_ (i_ i0) ?_
   obtain ⟨H104, q105, e106, r107⟩ := Row.store (P := Try.prog) (t := 219) (p := 0) e100.wf r102 (.agg #[i_ ((gt y40 i0).1), i_ ((gt y40 i0).2.1), i_ ((gt y40 i0).2.2)]) [i_ ((gt y40 i0).1), i_ ((gt y40 i0).2.1), i_ ((gt y40 i0).2.2)] (by kernel_rfl) (by kernel_rfl) (one_cons (rfl) (one_cons (rfl) (one_cons (rfl) (one_nil)))) (Nat.le_of_ble_eq_true (by kernel_rfl)) [i_ ((gt y40 i0).1), i_ ((gt y40 i0).2.1), i_ ((gt y40 i0).2.2)] (by kernel_rfl)
   refine s_ek (undef) (by kernel_rfl) (map_ok q105) ?_
   refine s_nil (k94 _ _ (w_seqk fun _ k108 => g_' ?_))
   have u109 := ((((u34.frS e46 Dj.nil_l).frS e70 (hb25.djn (r11.ltF.le e15.n))).ext e100).frS e106 (hb101.djn (r11.ltF.le (t_ (t_ (t_ (t_ e15.n e24.n) e30.n) e46.n) e70.n))))
   refine l_' (.agg #[hd_Node, hd_UpFirst, hd_Up, hd_DownFirst, hd_Down]) (aL_ 81 (pt_ b7 0) H104) (u109.l_) ?_
   refine q_ (i_ i0) ?_
   have u110 := ((((u35.fr e46 Dj.nil_l).fr e70 (hb25.djn (h_Node.lt.le (t_ e9.n e15.n)))).ext e100).fr e106 (hb101.djn (h_Node.lt.le (t_ (t_ (t_ (t_ (t_ e9.n e15.n) e24.n) e30.n) e46.n) e70.n))))
   have u111 := ((((u36.fr e46 Dj.nil_l).fr e70 (hb25.djn (h_UpFirst.lt.le (t_ e9.n e15.n)))).ext e100).fr e106 (hb101.djn (h_UpFirst.lt.le (t_ (t_ (t_ (t_ (t_ e9.n e15.n) e24.n) e30.n) e46.n) e70.n))))
   have u112 := ((((u37.fr e46 Dj.nil_l).fr e70 (hb25.djn (h_Up.lt.le (t_ e9.n e15.n)))).ext e100).fr e106 (hb101.djn (h_Up.lt.le (t_ (t_ (t_ (t_ (t_ e9.n e15.n) e24.n) e30.n) e46.n) e70.n))))
   have u113 := ((((u38.fr e46 Dj.nil_l).fr e70 (hb25.djn (h_DownFirst.lt.le (t_ e9.n e15.n)))).ext e100).fr e106 (hb101.djn (h_DownFirst.lt.le (t_ (t_ (t_ (t_ (t_ e9.n e15.n) e24.n) e30.n) e46.n) e70.n))))
   have u114 := ((((u39.fr e46 Dj.nil_l).fr e70 (hb25.djn (h_Down.lt.le (t_ e9.n e15.n)))).ext e100).fr e106 (hb101.djn (h_Down.lt.le (t_ (t_ (t_ (t_ (t_ e9.n e15.n) e24.n) e30.n) e46.n) e70.n))))
   obtain ⟨y115, hy116, r117⟩ := bind_some r96
   refine s_ck 139 #[.agg #[hd_Node, hd_UpFirst, hd_Up, hd_DownFirst, hd_Down], i_ i0] (by kernel_rfl) (c_viaductref10_Link e106.wf u110 u111 u112 u113 u114 hy116) ?_
   rintro _ H118 ⟨rfl, e119⟩
   refine s_rwk e119.wf [.int .u32 0, .int .u64 0, .int .u32 0, .int .u32 0] (by kernel_rfl) fun b120 H121 e122 hb123 r124 => ?_
   obtain ⟨H126, q127, e128, r129⟩ := Row.store (P := Try.prog) (t := 93) (p := 0) e122.wf r124 (.agg #[.int .u32 y115.1, .int .u64 y115.2.1, .int .u32 y115.2.2.1, .int .u32 y115.2.2.2]) [.int .u32 y115.1, .int .u64 y115.2.1, .int .u32 y115.2.2.1, .int .u32 y115.2.2.2] (by kernel_rfl) (by kernel_rfl) (one_cons (rfl) (one_cons (rfl) (one_cons (rfl) (one_cons (rfl) (one_nil))))) (Nat.le_of_ble_eq_true (by kernel_rfl)) [.int .u32 y115.1, .int .u64 y115.2.1, .int .u32 y115.2.2.1, .int .u32 y115.2.2.2] (by kernel_rfl)
   refine s_ek (undef) (by kernel_rfl) (map_ok q127) ?_
   refine s_nil (k108 _ _ (w_seqk fun _ k130 => g_' ?_))
   refine l_' (.agg #[.int .u32 y115.1, .int .u64 y115.2.1, .int .u32 y115.2.2.1, .int .u32 y115.2.2.2]) (aL_ 93 (pt_ b120 0) H126) (r129.l_) ?_
   obtain ⟨y131, hy132, r133⟩ := bind_some r117
   refine s_ck 140 #[.agg #[.int .u32 y115.1, .int .u64 y115.2.1, .int .u32 y115.2.2.1, .int .u32 y115.2.2.2]] (by kernel_rfl) (c_viaductref10_Plain e128.wf hy132) ?_
   rintro _ H134 ⟨rfl, e135⟩
   refine s_nil (k130 _ _ ?_)
   refine w_cond (y131) (by kernel_rfl) rfl (fun h136 => ?_) (fun h136 => ?_)
   ·have r137 := ite_t h136 r133
    refine w_draw [0, 1, 2, 3, 4, 5, 6, 7, 8, 9, 10, 11, 12, 13, 14, 15, 16, 17, 18, 19, 20, 21, 22, 23] (by kernel_rfl) ?_
    refine e_' (pt_ b22 1) ?_
    have u138 := ((((((m76.ext e100).frS e106 (hb101.djn (r26.ltF.le (t_ (t_ e30.n e46.n) e70.n)))).frS e119 Dj.nil_l).ext e122).frS e128 (hb123.djn (r26.ltF.le (t_ (t_ (t_ (t_ (t_ e30.n e46.n) e70.n) e100.n) e106.n) e119.n)))).frS e135 Dj.nil_l)
    refine m_' (.slice a86 n87 c88) (aL_ 57 (pt_ b22 1) H134) (u138.l_) ?_
    refine e_' (pt_ b7 0) ?_
    have u139 := ((((u109.frS e119 Dj.nil_l).ext e122).frS e128 (hb123.djn (r11.ltF.le (t_ (t_ (t_ (t_ (t_ (t_ (t_ e15.n e24.n) e30.n) e46.n) e70.n) e100.n) e106.n) e119.n)))).frS e135 Dj.nil_l)
    refine m_' (hd_Node) (aL_ 78 (pt_ b7 0) H134) (u139.l_) ?_
    refine e_' (pt_ b98 0) ?_
    have u140 := ((((r107.frS e119 Dj.nil_l).ext e122).frS e128 (hb123.djn (r102.ltF.le (t_ e106.n e119.n)))).frS e135 Dj.nil_l)
    refine m_' (i_ ((gt y40 i0).1)) (aL_ 3 (pt_ b98 0) H134) (u140.l_) ?_
    obtain ⟨g141, r142⟩ := G_some r137
    have u143 := ((((u110.fr e119 Dj.nil_l).ext e122).fr e128 (hb123.djn (h_Node.lt.le (t_ (t_ (t_ (t_ (t_ (t_ (t_ (t_ e9.n e15.n) e24.n) e30.n) e46.n) e70.n) e100.n) e106.n) e119.n)))).fr e135 Dj.nil_l)
    refine m_' (elp hd_Node 1 ((gt y40 i0).1).toNat 0) (aIndexAddr Try.prog 78 hd_Node (i_ ((gt y40 i0).1))) (u143.idxb (by kernel_rfl) g141.1 g141.2) ?_
    refine m_' (.int .u32 (gt Node ((gt y40 i0).1))) (aL_ 90 (elp hd_Node 1 ((gt y40 i0).1).toNat 0) H134) (u143.ld g141.1 g141.2 (by kernel_rfl)) ?_
    obtain ⟨g144, r145⟩ := G_some r142
    refine d_w ((gt Node ((gt y40 i0).1))) (k := .i64) (x := (gt Node ((gt y40 i0).1))) (by kernel_rfl) (wrap64 g144) ?_
    refine e_' (pt_ b7 0) ?_
    refine m_' (hd_Node) (aL_ 78 (pt_ b7 0) H134) (u139.l_) ?_
    refine e_' (pt_ b98 1) ?_
    refine m_' (i_ ((gt y40 i0).2.1)) (aL_ 3 (pt_ b98 1) H134) (u140.l_) ?_
    obtain ⟨g146, r147⟩ := G_some r145
    refine m_' (elp hd_Node 1 ((gt y40 i0).2.1).toNat 0) (aIndexAddr Try.prog 78 hd_Node (i_ ((gt y40 i0).2.1))) (u143.idxb (by kernel_rfl) g146.1 g146.2) ?_
    refine m_' (.int .u32 (gt Node ((gt y40 i0).2.1))) (aL_ 90 (elp hd_Node 1 ((gt y40 i0).2.1).toNat 0) H134) (u143.ld g146.1 g146.2 (by kernel_rfl)) ?_
    obtain ⟨g148, r149⟩ := G_some r147
    refine d_w ((gt Node ((gt y40 i0).2.1))) (k := .i64) (x := (gt Node ((gt y40 i0).2.1))) (by kernel_rfl) (wrap64 g148) ?_
    refine e_' (pt_ b120 1) ?_
    have u150 := (r129.frS e135 Dj.nil_l)
    refine m_' (.int .u64 y115.2.1) (aL_ 42 (pt_ b120 1) H134) (u150.l_) ?_
    obtain ⟨g151, r152⟩ := G_some r149
    refine d_w (y115.2.1) (k := .i64) (x := y115.2.1) (by kernel_rfl) (wrap64 g151) ?_
    refine e_' (.agg #[i_ (gt Node ((gt y40 i0).1)), i_ (gt Node ((gt y40 i0).2.1)), i_ y115.2.1]) ?_
    refine d_owk (enc := enc_i64_i64_i64) (sz := 3) e135.wf [((gt Node ((gt y40 i0).1)), (gt Node ((gt y40 i0).2.1)), y115.2.1)] 1 (by decide) (fun _ _ => rfl) (fun _ _ => rfl) rfl (by kernel_rfl) fun s153 f154 H155 e156 hf157 hm158 => ?_
    obtain ⟨a159, n160, c161, rfl⟩ := hm158.form
    have u163 := (((((((m72.ext e100).fr e106 (hb101.djn m72.lt)).fr e119 Dj.nil_l).ext e122).fr e128 (hb123.djn (m72.lt.le (t_ (t_ e100.n e106.n) e119.n)))).fr e135 Dj.nil_l).ext e156)
    obtain ⟨g164, r165⟩ := G_some r152
    obtain ⟨s166, H167, f168, q172, e169, hm170, hf171⟩ := Ow.append (P := Try.prog) 24 e156.wf u163 hm158.sq (fun _ _ => rfl) (at_ := #[57, 57]) rfl rfl (by kernel_rfl) (by kernel_rfl) (by decide) (by have := g164; first | omega | (simp only [List.length_cons, List.length_nil] at this ⊢; omega) | (simp at this ⊢; omega))
    obtain ⟨a173, n174, c175, rfl⟩ := hm170.form
    refine d_ek (.slice a173 n174 c175) (by kernel_rfl) (q172) (st_nil) ?_
    refine e_' (pt_ b22 1) ?_
    have u181 := ((u138.ext e156).frS e169 (i77.djn (r26.ltF.le (t_ e30.n e46.n))))
    obtain ⟨H177, q178, e179, r180⟩ := Row.store (P := Try.prog) (t := 57) (p := 1) e169.wf u181 (.slice a173 n174 c175) [.slice a173 n174 c175] (by kernel_rfl) (by kernel_rfl) (one_cons (hm170.one1) (one_nil)) (Nat.le_of_ble_eq_true (by kernel_rfl)) [i_ (Node.length : Int), .slice a173 n174 c175] (by kernel_rfl)
    refine d_ek (undef) (by kernel_rfl) (map_ok q178) (st_nil) ?_
    refine d_nil ?_
    refine k93 _ _ (g_' ?_)
    obtain ⟨g182, r183⟩ := G_some r165
    refine w_' (i0 + 1) (wrap64 (by have := g182; omega)) ?_
    refine q_ (i_ (i0 + 1)) (s_nil ?_)
    have u184 := (hm170.fr e179 (Dj.symm (hf171.dj (i77.djn (r26.ltF.le (t_ e30.n e46.n))) (r26.ltF.le (t_ (t_ (t_ (t_ (t_ (t_ (t_ (t_ (t_ e30.n e46.n) e70.n) e100.n) e106.n) e119.n) e122.n) e128.n) e135.n) e156.n)))))
    obtain rfl := oi_ r183
    exact k85 n80 _ _ (Nat.lt_succ_self _) ⟨(i0 + 1), (g1 ++ [((gt Node ((gt y40 i0).1)), (gt Node ((gt y40 i0).2.1)), y115.2.1)]), (.slice a173 n174 c175), f168, hn83, ha_, (FrS.step e46.wf (FrS.step e46.wf ((FrS.step e46.wf (FrS.step e46.wf ((FrS.step e46.wf (FrS.step e46.wf ((FrS.step e46.wf (FrS.refl (W := [b22]) e46.wf) e70 Inn.refl').extR e100) e106 (hb101.fresh e70.n)) e119 Inn.nil).extR e122) e128 (hb123.fresh (t_ (t_ (t_ e70.n e100.n) e106.n) e119.n))) e135 Inn.nil).extR e156) e169 (i77.fresh (Nat.le_refl _))) e179 Inn.refl'), u184, r180, (Inn.trans (i77.fresh (Nat.le_refl _)) (t_ (t_ (t_ (t_ (t_ (t_ (t_ e70.n e100.n) e106.n) e119.n) e122.n) e128.n) e135.n) e156.n) hf171)⟩
   have r185 := ite_bf h136 r133
   refine w_skip (k93 _ _ (g_' ?_))
   obtain ⟨g186, r187⟩ := G_some r185
   refine w_' (i0 + 1) (wrap64 (by have := g186; omega)) ?_
   refine q_ (i_ (i0 + 1)) (s_nil ?_)
   have u188 := ((((((m72.ext e100).fr e106 (hb101.djn m72.lt)).fr e119 Dj.nil_l).ext e122).fr e128 (hb123.djn (m72.lt.le (t_ (t_ e100.n e106.n) e119.n)))).fr e135 Dj.nil_l)
   have u189 := ((((((m76.ext e100).frS e106 (hb101.djn (r26.ltF.le (t_ (t_ e30.n e46.n) e70.n)))).frS e119 Dj.nil_l).ext e122).frS e128 (hb123.djn (r26.ltF.le (t_ (t_ (t_ (t_ (t_ e30.n e46.n) e70.n) e100.n) e106.n) e119.n)))).frS e135 Dj.nil_l)
   obtain rfl := oi_ r187
   exact k85 n80 _ _ (Nat.lt_succ_self _) ⟨(i0 + 1), g1, (.slice a86 n87 c88), f74, hn83, ha_, (FrS.step e46.wf (FrS.step e46.wf ((FrS.step e46.wf (FrS.step e46.wf ((FrS.step e46.wf (FrS.refl (W := [b22]) e46.wf) e70 Inn.refl').extR e100) e106 (hb101.fresh e70.n)) e119 Inn.nil).extR e122) e128 (hb123.fresh (t_ (t_ (t_ e70.n e100.n) e106.n) e119.n))) e135 Inn.nil), u188, u189, (i77.fresh (Nat.le_refl _))⟩
  have r190 := ite_f h91 hz82
  refine w_exit (th_exit (th_exit (bl_eq ?_)))
  obtain rfl := oi_ r190
  obtain rfl := it_inr hn83
  exact k65 _ _ ⟨(.slice a86 n87 c88), f74, ha_, (FrS.step e46.wf (FrS.refl (W := [b22]) e46.wf) e70 Inn.refl'), m72, m76, (i77.fresh (Nat.le_refl _))⟩
 obtain ⟨s60, f61, hh66, e57, m59, m63, i64⟩ := hM
 obtain ⟨β, rfl⟩ := has_ex hh66
 clear hh66
 obtain ⟨a191, n192, c193, rfl⟩ := m59.form
 refine k32 _ _ (w_seqk fun _ k194 => g_' ?_)
 refine l_' (.agg #[i_ (Node.length : Int), .slice a191 n192 c193]) (aL_ 59 (pt_ b22 0) H56) (m63.l_) ?_
 obtain ⟨y195, hy196, r197⟩ := bind_some r55
 refine s_ck 82 #[.agg #[i_ (Node.length : Int), .slice a191 n192 c193]] (by kernel_rfl) (c_viaductref04_Of e57.wf m59.sq hy196) ?_
 rintro _ H200 ⟨s198, f199, rfl, e201, m202, i203⟩
 obtain ⟨a205, n206, c207, rfl⟩ := m202.form
 have u212 := (((((r17.ext e24).frS e30 (hb25.djn r17.ltF)).frS e46 Dj.nil_l).frS e57 (hb25.djn r17.ltF)).frS e201 Dj.nil_l)
 obtain ⟨H208, q209, e210, r211⟩ := Row.store (P := Try.prog) (t := 59) (p := 0) e201.wf u212 (.agg #[i_ y195.1, .slice a205 n206 c207]) [i_ y195.1, .slice a205 n206 c207] (by kernel_rfl) (by kernel_rfl) (one_cons (rfl) (one_cons (m202.one1) (one_nil))) (Nat.le_of_ble_eq_true (by kernel_rfl)) [i_ y195.1, .slice a205 n206 c207] (by kernel_rfl)
 refine s_ek (undef) (by kernel_rfl) (map_ok q209) ?_
 refine s_nil (k194 _ _ ?_)
 refine w_ret ?_
 refine b_ret (fn := Try.f104) (vs := [.agg #[i_ y195.1, .slice a205 n206 c207]]) (aRes_cell (Eq.trans (b := aL_ 59 (pt_ b13 0) H208) (by kernel_rfl) (r211.l_)) (rfl)) ?_
 have u213 := (m202.fr e210 (Dj.symm (i203.djn (r17.ltF.le (t_ (t_ (t_ e24.n e30.n) e46.n) e57.n)))))
 obtain rfl := oi_ r197
 exact ⟨(.slice a205 n206 c207), f199, rfl, (FrS.step wf (FrS.step wf (FrS.step wf (FrS.step wf (FrS.step wf ((((f0_ wf).extR e9).extR e15).extR e24) e30 (hb25.fresh (t_ e9.n e15.n))) e46 Inn.nil) e57 (hb25.fresh (t_ e9.n e15.n))) e201 Inn.nil) e210 (hb16.fresh e9.n)), u213, (i203.fresh (t_ (t_ (t_ (t_ (t_ e9.n e15.n) e24.n) e30.n) e46.n) e57.n))⟩
theorem c_viaductref10_DocGraph {H : AH} {hd_Node : Value} {fp_Node : Fp} {hd_UpFirst : Value} {fp_UpFirst : Fp} {hd_Up : Value} {fp_Up : Fp} {hd_DownFirst : Value} {fp_DownFirst : Fp} {hd_Down : Value} {fp_Down : Fp} {Node : List (Int)} {UpFirst : List (Int)} {Up : List (Int × Int × Int × Int)} {DownFirst : List (Int)} {Down : List (Int × Int × Int × Int)} {r : Int × List (Int × Int × Int) × Int × List (Int × Int)}
    (wf : WF H) (h_Node : Sq (encI .u32) 1 H hd_Node Node fp_Node) (h_UpFirst : Sq (encI .u32) 1 H hd_UpFirst UpFirst fp_UpFirst) (h_Up : Sq enc_u32_u64_u32_u32 4 H hd_Up Up fp_Up) (h_DownFirst : Sq (encI .u32) 1 H hd_DownFirst DownFirst fp_DownFirst) (h_Down : Sq enc_u32_u64_u32_u32 4 H hd_Down Down fp_Down) (hr : z_viaductref10_DocGraph Node UpFirst Up DownFirst Down = some r) :
    ACalls Try.prog 43 #[.agg #[hd_Node, hd_UpFirst, hd_Up, hd_DownFirst, hd_Down]] H fun v H' => ∃ (s3 : Value) (f4 : Fp) (s7 : Value) (f8 : Fp), v = .tuple #[.agg #[i_ r.1, s3], .agg #[i_ r.2.2.1, s7]] ∧ FrS [] H H' ∧ Ow enc_i64_i64_i64 3 H' s3 r.2.1 f4 ∧ Sq enc_i64_i64 2 H' s7 r.2.2.2 f8 ∧ Inn [] H f4 ∧ Inn [] H f8 ∧ Dj f4 f8 := by
 refine acalls_of_body mixed Try.func43 rfl (Nat.le_of_ble_eq_true rfl) ?_
 unfold z_viaductref10_DocGraph at hr
 refine w_seqk fun _ k12 => g_' ?_
 refine s_rwl wf [hd_Node, hd_UpFirst, hd_Up, hd_DownFirst, hd_Down] (one_cons (h_Node.one1) (one_cons (h_UpFirst.one1) (one_cons (h_Up.one1) (one_cons (h_DownFirst.one1) (one_cons (h_Down.one1) (one_nil)))))) (by kernel_rfl) fun b13 H14 e15 hb16 r17 => ?_
 refine s_rwk e15.wf [i_ 0, .slice none 0 0] (by kernel_rfl) fun b19 H20 e21 hb22 r23 => ?_
 refine s_rwk e21.wf [i_ 0, .slice none 0 0] (by kernel_rfl) fun b25 H26 e27 hb28 r29 => ?_
 refine s_nil (k12 _ _ (w_seqk fun _ k31 => w_seqk fun _ k32 => g_' ?_))
 have u33 := ((r17.ext e21).ext e27)
 refine l_' (.agg #[hd_Node, hd_UpFirst, hd_Up, hd_DownFirst, hd_Down]) (aL_ 81 (pt_ b13 0) H26) (u33.l_) ?_
 have u34 := (((h_Node.ext e15).ext e21).ext e27)
 have u35 := (((h_UpFirst.ext e15).ext e21).ext e27)
 have u36 := (((h_Up.ext e15).ext e21).ext e27)
 have u37 := (((h_DownFirst.ext e15).ext e21).ext e27)
 have u38 := (((h_Down.ext e15).ext e21).ext e27)
 obtain ⟨y39, hy40, r41⟩ := bind_some hr
 refine s_ck 102 #[.agg #[hd_Node, hd_UpFirst, hd_Up, hd_DownFirst, hd_Down]] (by kernel_rfl) (c_viaductref10_DocCheck e27.wf u34 u35 u36 u37 u38 hy40) ?_
 rintro _ H44 ⟨s42, f43, rfl, e45, m46, i47⟩
 obtain ⟨a49, n50, c51, rfl⟩ := m46.form
 refine s_rwk e45.wf [i_ 0, .slice none 0 0] (by kernel_rfl) fun b52 H53 e54 hb55 r56 => ?_
 have u62 := (m46.ext e54)
 obtain ⟨H58, q59, e60, r61⟩ := Row.store (P := Try.prog) (t := 46) (p := 0) e54.wf r56 (.agg #[i_ y39.1, .slice a49 n50 c51]) [i_ y39.1, .slice a49 n50 c51] (by kernel_rfl) (by kernel_rfl) (one_cons (rfl) (one_cons (u62.one1) (one_nil))) (Nat.le_of_ble_eq_true (by kernel_rfl)) [i_ y39.1, .slice a49 n50 c51] (by kernel_rfl)
 refine s_ek (undef) (by kernel_rfl) (map_ok q59) ?_
 refine s_nil (k32 _ _ (w_seqk fun _ k63 => g_' ?_))
 refine l_' (.agg #[i_ y39.1, .slice a49 n50 c51]) (aL_ 46 (pt_ b52 0) H58) (r61.l_) ?_
 have u64 := (u62.fr e60 (hb55.djn m46.lt))
 obtain ⟨y65, hy66, r67⟩ := bind_some r41
 refine s_ck 56 #[.agg #[i_ y39.1, .slice a49 n50 c51]] (by kernel_rfl) (c_viaductref01_Err_Bad e60.wf u64 hy66) ?_
 rintro _ H68 ⟨rfl, e69⟩
 refine s_nil (k63 _ _ ?_)
 refine w_cond (y65) (by kernel_rfl) rfl (fun h70 => ?_) (fun h70 => ?_)
 ·have r71 := ite_t h70 r67
  refine w_seqk fun _ k72 => ?_
  refine w_draw [0, 1, 2, 3] (by kernel_rfl) ?_
  refine e_' (.agg #[i_ 0, .slice none 0 0]) ?_
  have u73 := (r61.frS e69 Dj.nil_l)
  refine d_fl (.agg #[i_ y39.1, .slice a49 n50 c51]) (x := aL_ 46 (pt_ b52 0) H68) (by kernel_rfl) (u73.l_) ?_
  have u78 := (((((r23.ext e27).frS e45 Dj.nil_l).ext e54).frS e60 (hb55.djn (r23.ltF.le (t_ e27.n e45.n)))).frS e69 Dj.nil_l)
  obtain ⟨H74, q75, e76, r77⟩ := Row.store (P := Try.prog) (t := 59) (p := 0) e69.wf u78 (.agg #[i_ 0, .slice none 0 0]) [i_ 0, .slice none 0 0] (by kernel_rfl) (by kernel_rfl) (one_cons (rfl) (one_cons (rfl) (one_nil))) (Nat.le_of_ble_eq_true (by kernel_rfl)) [i_ 0, .slice none 0 0] (by kernel_rfl)
  have u79 := (u73.frS e76 (Dj.symm (hb55.djn (r23.ltF.le (t_ e27.n e45.n)))))
  refine d_ek (undef) (by kernel_rfl) (map_ok q75) (st_ql (y := aL_ 46 (pt_ b52 0) H74) (by kernel_rfl) (u79.l_) (st_nil)) ?_
  have u84 := (((((r29.frS e45 Dj.nil_l).ext e54).frS e60 (hb55.djn (r29.ltF.le e45.n))).frS e69 Dj.nil_l).frS e76 (Dj.symm (hb28.djn r23.ltF)))
  have u85 := ((u64.fr e69 Dj.nil_l).fr e76 (Dj.symm (i47.djn (r23.ltF.le e27.n))))
  obtain ⟨H80, q81, e82, r83⟩ := Row.store (P := Try.prog) (t := 46) (p := 0) e76.wf u84 (.agg #[i_ y39.1, .slice a49 n50 c51]) [i_ y39.1, .slice a49 n50 c51] (by kernel_rfl) (by kernel_rfl) (one_cons (rfl) (one_cons (u85.one1) (one_nil))) (Nat.le_of_ble_eq_true (by kernel_rfl)) [i_ y39.1, .slice a49 n50 c51] (by kernel_rfl)
  refine d_ek (undef) (by kernel_rfl) (map_ok q81) (st_anc (by kernel_rfl) (st_nil)) ?_
  refine d_nil ?_
  refine k72 _ _ ?_
  refine w_ret (th_ret ?_)
  have u86 := (r77.frS e82 (hb28.djn r23.ltF))
  refine b_ret (fn := Try.f43) (vs := [.agg #[i_ 0, .slice none 0 0], .agg #[i_ y39.1, .slice a49 n50 c51]]) (aRes_cell (Eq.trans (b := aL_ 59 (pt_ b19 0) H80) (by kernel_rfl) (u86.l_)) (aRes_cell (Eq.trans (b := aL_ 46 (pt_ b25 0) H80) (by kernel_rfl) (r83.l_)) (rfl))) ?_
  have u87 := (u85.fr e82 (Dj.symm (i47.djn r29.ltF)))
  obtain rfl := oi_ r71
  exact ⟨(.slice none 0 0), [], (.slice a49 n50 c51), f43, rfl, (FrS.step wf (FrS.step wf (FrS.step wf (FrS.step wf ((FrS.step wf ((((f0_ wf).extR e15).extR e21).extR e27) e45 Inn.nil).extR e54) e60 (hb55.fresh (t_ (t_ (t_ e15.n e21.n) e27.n) e45.n))) e69 Inn.nil) e76 (hb22.fresh e15.n)) e82 (hb28.fresh (t_ e15.n e21.n))), (Ow.nil (by decide)), u87, Inn.nil, (i47.fresh (t_ (t_ e15.n e21.n) e27.n)), Dj.nil_l⟩
 have r88 := ite_bf h70 r67
 refine w_skip (k31 _ _ (w_seqk fun _ k89 => g_' ?_))
 have u90 := ((((u33.frS e45 Dj.nil_l).ext e54).frS e60 (hb55.djn (r17.ltF.le (t_ (t_ e21.n e27.n) e45.n)))).frS e69 Dj.nil_l)
 refine l_' (.agg #[hd_Node, hd_UpFirst, hd_Up, hd_DownFirst, hd_Down]) (aL_ 81 (pt_ b13 0) H68) (u90.l_) ?_
 have u91 := ((((u34.fr e45 Dj.nil_l).ext e54).fr e60 (hb55.djn (h_Node.lt.le (t_ (t_ (t_ e15.n e21.n) e27.n) e45.n)))).fr e69 Dj.nil_l)
 have u92 := ((((u35.fr e45 Dj.nil_l).ext e54).fr e60 (hb55.djn (h_UpFirst.lt.le (t_ (t_ (t_ e15.n e21.n) e27.n) e45.n)))).fr e69 Dj.nil_l)
 have u93 := ((((u36.fr e45 Dj.nil_l).ext e54).fr e60 (hb55.djn (h_Up.lt.le (t_ (t_ (t_ e15.n e21.n) e27.n) e45.n)))).fr e69 Dj.nil_l)
 have u94 := ((((u37.fr e45 Dj.nil_l).ext e54).fr e60 (hb55.djn (h_DownFirst.lt.le (t_ (t_ (t_ e15.n e21.n) e27.n) e45.n)))).fr e69 Dj.nil_l)
 have u95 := ((((u38.fr e45 Dj.nil_l).ext e54).fr e60 (hb55.djn (h_Down.lt.le (t_ (t_ (t_ e15.n e21.n) e27.n) e45.n)))).fr e69 Dj.nil_l)
 obtain ⟨y96, hy97, r98⟩ := bind_some r88
 refine s_ck 104 #[.agg #[hd_Node, hd_UpFirst, hd_Up, hd_DownFirst, hd_Down]] (by kernel_rfl) (c_viaductref10_Graph e69.wf u91 u92 u93 u94 u95 hy97) ?_
 rintro _ H101 ⟨s99, f100, rfl, e102, m103, i104⟩
 obtain ⟨a106, n107, c108, rfl⟩ := m103.form
 refine q_ (.agg #[i_ 0, .slice none 0 0]) ?_
 have u113 := ((((((r23.ext e27).frS e45 Dj.nil_l).ext e54).frS e60 (hb55.djn (r23.ltF.le (t_ e27.n e45.n)))).frS e69 Dj.nil_l).frS e102 Dj.nil_l)
 obtain ⟨H109, q110, e111, r112⟩ := Row.store (P := Try.prog) (t := 59) (p := 0) e102.wf u113 (.agg #[i_ y96.1, .slice a106 n107 c108]) [i_ y96.1, .slice a106 n107 c108] (by kernel_rfl) (by kernel_rfl) (one_cons (rfl) (one_cons (m103.one1) (one_nil))) (Nat.le_of_ble_eq_true (by kernel_rfl)) [i_ y96.1, .slice a106 n107 c108] (by kernel_rfl)
 refine s_ek (undef) (by kernel_rfl) (map_ok q110) ?_
 have u118 := ((((((r29.frS e45 Dj.nil_l).ext e54).frS e60 (hb55.djn (r29.ltF.le e45.n))).frS e69 Dj.nil_l).frS e102 Dj.nil_l).frS e111 (Dj.symm (hb28.djn r23.ltF)))
 obtain ⟨H114, q115, e116, r117⟩ := Row.store (P := Try.prog) (t := 46) (p := 0) e111.wf u118 (.agg #[i_ 0, .slice none 0 0]) [i_ 0, .slice none 0 0] (by kernel_rfl) (by kernel_rfl) (one_cons (rfl) (one_cons (rfl) (one_nil))) (Nat.le_of_ble_eq_true (by kernel_rfl)) [i_ 0, .slice none 0 0] (by kernel_rfl)
 refine s_ek (undef) (by kernel_rfl) (map_ok q115) ?_
 refine s_nil (k89 _ _ ?_)
 refine w_ret ?_
 have u119 := (r112.frS e116 (hb28.djn r23.ltF))
 refine b_ret (fn := Try.f43) (vs := [.agg #[i_ y96.1, .slice a106 n107 c108], .agg #[i_ 0, .slice none 0 0]]) (aRes_cell (Eq.trans (b := aL_ 59 (pt_ b19 0) H114) (by kernel_rfl) (u119.l_)) (aRes_cell (Eq.trans (b := aL_ 46 (pt_ b25 0) H114) (by kernel_rfl) (r117.l_)) (rfl))) ?_
 have u120 := ((m103.fr e111 (Dj.symm (i104.djn (r23.ltF.le (t_ (t_ (t_ (t_ e27.n e45.n) e54.n) e60.n) e69.n))))).fr e116 (Dj.symm (i104.djn (r29.ltF.le (t_ (t_ (t_ e45.n e54.n) e60.n) e69.n)))))
 obtain rfl := oi_ r98
 exact ⟨(.slice a106 n107 c108), f100, (.slice none 0 0), [], rfl, (FrS.step wf (FrS.step wf (FrS.step wf (FrS.step wf (FrS.step wf ((FrS.step wf ((((f0_ wf).extR e15).extR e21).extR e27) e45 Inn.nil).extR e54) e60 (hb55.fresh (t_ (t_ (t_ e15.n e21.n) e27.n) e45.n))) e69 Inn.nil) e102 Inn.nil) e111 (hb22.fresh e15.n)) e116 (hb28.fresh (t_ e15.n e21.n))), u120, (Sq.nil (by decide)), (i104.fresh (t_ (t_ (t_ (t_ (t_ (t_ e15.n e21.n) e27.n) e45.n) e54.n) e60.n) e69.n)), Inn.nil, Dj.nil_r⟩
end Go.Vd

/-! (KHm8) -/

set_option maxRecDepth 100000
set_option maxHeartbeats 4000000
set_option linter.unusedVariables false
namespace Go.Vd
open Go.Proofs
attribute [local irreducible] wpSeq wpOrd aWp
theorem c_viaductref10_DocRanks {H : AH} {hd_Node : Value} {fp_Node : Fp} {hd_UpFirst : Value} {fp_UpFirst : Fp} {hd_Up : Value} {fp_Up : Fp} {hd_DownFirst : Value} {fp_DownFirst : Fp} {hd_Down : Value} {fp_Down : Fp} {Node : List (Int)} {UpFirst : List (Int)} {Up : List (Int × Int × Int × Int)} {DownFirst : List (Int)} {Down : List (Int × Int × Int × Int)} {r : List (Int) × Int × List (Int × Int)}
    (wf : WF H) (h_Node : Sq (encI .u32) 1 H hd_Node Node fp_Node) (h_UpFirst : Sq (encI .u32) 1 H hd_UpFirst UpFirst fp_UpFirst) (h_Up : Sq enc_u32_u64_u32_u32 4 H hd_Up Up fp_Up) (h_DownFirst : Sq (encI .u32) 1 H hd_DownFirst DownFirst fp_DownFirst) (h_Down : Sq enc_u32_u64_u32_u32 4 H hd_Down Down fp_Down) (hr : z_viaductref10_DocRanks Node UpFirst Up DownFirst Down = some r) :
    ACalls Try.prog 44 #[.agg #[hd_Node, hd_UpFirst, hd_Up, hd_DownFirst, hd_Down]] H fun v H' => ∃ (s3 : Value) (f4 : Fp) (s7 : Value) (f8 : Fp), v = .tuple #[s3, .agg #[i_ r.2.1, s7]] ∧ FrS [] H H' ∧ Ow (encI .i64) 1 H' s3 r.1 f4 ∧ Sq enc_i64_i64 2 H' s7 r.2.2 f8 ∧ Inn [] H f4 ∧ Inn [] H f8 ∧ Dj f4 f8 := by
 refine acalls_of_body mixed Try.func44 rfl (Nat.le_of_ble_eq_true rfl) ?_
 unfold z_viaductref10_DocRanks at hr
 refine w_seqk fun _ k12 => g_' ?_
 refine s_rwl wf [hd_Node, hd_UpFirst, hd_Up, hd_DownFirst, hd_Down] (one_cons (h_Node.one1) (one_cons (h_UpFirst.one1) (one_cons (h_Up.one1) (one_cons (h_DownFirst.one1) (one_cons (h_Down.one1) (one_nil)))))) (by kernel_rfl) fun b13 H14 e15 hb16 r17 => ?_
 refine q_ (.slice none 0 0) ?_
 refine s_rwk e15.wf [i_ 0, .slice none 0 0] (by kernel_rfl) fun b19 H20 e21 hb22 r23 => ?_
 refine s_nil (k12 _ _ (w_seqk fun _ k25 => w_seqk fun _ k26 => g_' ?_))
 have u27 := (r17.ext e21)
 refine l_' (.agg #[hd_Node, hd_UpFirst, hd_Up, hd_DownFirst, hd_Down]) (aL_ 81 (pt_ b13 0) H20) (u27.l_) ?_
 have u28 := ((h_Node.ext e15).ext e21)
 have u29 := ((h_UpFirst.ext e15).ext e21)
 have u30 := ((h_Up.ext e15).ext e21)
 have u31 := ((h_DownFirst.ext e15).ext e21)
 have u32 := ((h_Down.ext e15).ext e21)
 obtain ⟨y33, hy34, r35⟩ := bind_some hr
 refine s_ck 102 #[.agg #[hd_Node, hd_UpFirst, hd_Up, hd_DownFirst, hd_Down]] (by kernel_rfl) (c_viaductref10_DocCheck e21.wf u28 u29 u30 u31 u32 hy34) ?_
 rintro _ H38 ⟨s36, f37, rfl, e39, m40, i41⟩
 obtain ⟨a43, n44, c45, rfl⟩ := m40.form
 refine s_rwk e39.wf [i_ 0, .slice none 0 0] (by kernel_rfl) fun b46 H47 e48 hb49 r50 => ?_
 have u56 := (m40.ext e48)
 obtain ⟨H52, q53, e54, r55⟩ := Row.store (P := Try.prog) (t := 46) (p := 0) e48.wf r50 (.agg #[i_ y33.1, .slice a43 n44 c45]) [i_ y33.1, .slice a43 n44 c45] (by kernel_rfl) (by kernel_rfl) (one_cons (rfl) (one_cons (u56.one1) (one_nil))) (Nat.le_of_ble_eq_true (by kernel_rfl)) [i_ y33.1, .slice a43 n44 c45] (by kernel_rfl)
 refine s_ek (undef) (by kernel_rfl) (map_ok q53) ?_
 refine s_nil (k26 _ _ (w_seqk fun _ k57 => g_' ?_))
 refine l_' (.agg #[i_ y33.1, .slice a43 n44 c45]) (aL_ 46 (pt_ b46 0) H52) (r55.l_) ?_
 have u58 := (u56.fr e54 (hb49.djn m40.lt))
 obtain ⟨y59, hy60, r61⟩ := bind_some r35
 refine s_ck 56 #[.agg #[i_ y33.1, .slice a43 n44 c45]] (by kernel_rfl) (c_viaductref01_Err_Bad e54.wf u58 hy60) ?_
 rintro _ H62 ⟨rfl, e63⟩
 refine s_nil (k57 _ _ ?_)
 refine w_cond (y59) (by kernel_rfl) rfl (fun h64 => ?_) (fun h64 => ?_)
 ·have r65 := ite_t h64 r61
  refine w_seqk fun _ k66 => ?_
  refine w_draw [0, 1, 2] (by kernel_rfl) ?_
  have u67 := (r55.frS e63 Dj.nil_l)
  refine m_' (.agg #[i_ y33.1, .slice a43 n44 c45]) (aL_ 46 (pt_ b46 0) H62) (u67.l_) ?_
  refine e_' (.slice none 0 0) ?_
  have u72 := ((((r23.frS e39 Dj.nil_l).ext e48).frS e54 (hb49.djn (r23.ltF.le e39.n))).frS e63 Dj.nil_l)
  have u73 := (u58.fr e63 Dj.nil_l)
  obtain ⟨H68, q69, e70, r71⟩ := Row.store (P := Try.prog) (t := 46) (p := 0) e63.wf u72 (.agg #[i_ y33.1, .slice a43 n44 c45]) [i_ y33.1, .slice a43 n44 c45] (by kernel_rfl) (by kernel_rfl) (one_cons (rfl) (one_cons (u73.one1) (one_nil))) (Nat.le_of_ble_eq_true (by kernel_rfl)) [i_ y33.1, .slice a43 n44 c45] (by kernel_rfl)
  refine d_ek (undef) (by kernel_rfl) (map_ok q69) (st_nil) ?_
  refine d_nil ?_
  refine k66 _ _ ?_
  refine w_ret (th_ret ?_)
  refine b_ret (fn := Try.f44) (vs := [.slice none 0 0, .agg #[i_ y33.1, .slice a43 n44 c45]]) (aRes_tmp (by kernel_rfl) (aRes_cell (Eq.trans (b := aL_ 46 (pt_ b19 0) H68) (by kernel_rfl) (r71.l_)) (rfl))) ?_
  have u74 := (u73.fr e70 (Dj.symm (i41.djn r23.ltF)))
  obtain rfl := oi_ r65
  exact ⟨(.slice none 0 0), [], (.slice a43 n44 c45), f37, rfl, (FrS.step wf (FrS.step wf (FrS.step wf ((FrS.step wf (((f0_ wf).extR e15).extR e21) e39 Inn.nil).extR e48) e54 (hb49.fresh (t_ (t_ e15.n e21.n) e39.n))) e63 Inn.nil) e70 (hb22.fresh e15.n)), (Ow.nil (by decide)), u74, Inn.nil, (i41.fresh (t_ e15.n e21.n)), Dj.nil_l⟩
 have r75 := ite_bf h64 r61
 refine w_skip (k25 _ _ (w_seqk fun _ k76 => g_' (q_ (pt_ b13 0) ?_)))
 have u77 := ((((u27.frS e39 Dj.nil_l).ext e48).frS e54 (hb49.djn (r17.ltF.le (t_ e21.n e39.n)))).frS e63 Dj.nil_l)
 refine l_' (hd_Node) (aL_ 78 (pt_ b13 0) H62) (u77.l_) ?_
 have u78 := ((((u28.fr e39 Dj.nil_l).ext e48).fr e54 (hb49.djn (h_Node.lt.le (t_ (t_ e15.n e21.n) e39.n)))).fr e63 Dj.nil_l)
 refine l_' (i_ (Node.length : Int)) (aLen Try.prog 78 hd_Node H62) (u78.lenb (by kernel_rfl)) ?_
 obtain ⟨g79, r80⟩ := G_some r75
 refine s_mks (t := 22) (m := 8) (l := (Node.length : Int)) (c := (Node.length : Int)) (enc := (encI .i64)) (sz := 1) e63.wf (0 : Int) (by kernel_rfl) (by decide) g79.1 (Int.le_refl _) (by omega) (by have := g79; omega) (by kernel_rfl) fun s81 f82 H83 e84 hf85 hm86 => ?_
 obtain ⟨a87, n88, c89, rfl⟩ := hm86.form
 have hm86 : Ow (encI .i64) 1 H83 (.slice a87 n88 c89) (List.replicate Node.length (0 : Int)) f82 := hm86
 refine q_ (.slice a87 n88 c89) (s_nil (k76 _ _ (w_seqk fun _ k91 => w_seqk fun _ k92 => g_' (q_ (pt_ b13 0) ?_))))
 have u93 := (u77.ext e84)
 refine l_' (hd_Node) (aL_ 78 (pt_ b13 0) H83) (u93.l_) ?_
 have u94 := (u78.ext e84)
 refine l_' (i_ (Node.length : Int)) (aLen Try.prog 78 hd_Node H83) (u94.lenb (by kernel_rfl)) ?_
 refine q_ (i_ 0) (s_nil (k92 _ _ ?_))
 obtain ⟨o95, hx96, r97⟩ := bind_some r80
 refine w_mid (fun α H98 => Has α [(3, pt_ b19 0), (5, .slice a87 n88 c89)] ∧ FrS f82 H83 H98 ∧ Ow (encI .i64) 1 H98 (.slice a87 n88 c89) o95 f82) (fun _ k102 => ?_) (fun α H98 hM => ?_)
 ·refine w_block ?_
  obtain ⟨n104, hn105⟩ := loopO_iff.1 hx96
  refine w_loopn (fun n α H106 => ∃ (i0 : Int), ∃ (l1 : List (Int)), iterO (fun zz_ => z_viaductref10_DocRanks_l0 Node zz_.1 zz_.2) n (i0, l1) = some o95 ∧ Has α [(3, pt_ b19 0), (5, .slice a87 n88 c89), (18, hd_Node), (19, i_ (Node.length : Int)), (20, i_ i0)] ∧ FrS f82 H83 H106 ∧ Ow (encI .i64) 1 H106 (.slice a87 n88 c89) l1 f82) n104 ⟨0, (List.replicate Node.length (0 : Int)), hn105, ha_, (FrS.refl (W := f82) e84.wf), hm86⟩ ?_
  rintro n104 α H106 ⟨i0, l1, hi111, hh110, e107, m109⟩ K116 k116
  obtain ⟨n112, z113, rfl, hz114, hn115⟩ := iter_succ hi111
  obtain ⟨β, rfl⟩ := has_ex hh110
  clear hh110
  replace hz114 : z_viaductref10_DocRanks_l0 Node i0 l1 = some z113 := hz114
  unfold z_viaductref10_DocRanks_l0 at hz114
  refine w_seqk fun _ k117 => g_' (q_ (.bool (decide (i0 < (Node.length : Int)))) (s_nil (k117 _ _ (w_seqk fun _ k118 => ?_))))
  refine w_condp (i0 < (Node.length : Int)) (by kernel_rfl) rfl (fun h119 => ?_) (fun h119 => ?_)
  ·have r120 := ite_t h119 hz114
   refine w_skip (k118 _ _ (w_seqk fun _ k121 => w_block (w_seqk fun _ k122 => g_' (q_ (i_ i0) ?_))))
   obtain ⟨g123, r124⟩ := G_some r120
   have u125 := (u94.fr e107 (hf85.djn (h_Node.lt.le (t_ (t_ (t_ (t_ (t_ e15.n e21.n) e39.n) e48.n) e54.n) e63.n))))
   refine l_' (elp hd_Node 1 i0.toNat 0) (aIndexAddr Try.prog 78 hd_Node (i_ i0)) (u125.idxb (by kernel_rfl) g123 h119) ?_
   refine l_' (.int .u32 (gt Node i0)) (aL_ 90 (elp hd_Node 1 i0.toNat 0) H106) (u125.ld g123 h119 (by kernel_rfl)) ?_
   refine q_ (i_ i0) (q_ (.int .u32 (gt Node i0)) (s_nil (k122 _ _ (g_' (q_ (.slice a87 n88 c89) (q_ (.int .u32 (gt Node i0)) (q_ (i_ i0) ?_)))))))
   obtain ⟨g126, r127⟩ := G_some r124
   refine l_' (elp (.slice a87 n88 c89) 1 (gt Node i0).toNat 0) (aIndexAddr Try.prog 22 (.slice a87 n88 c89) (.int .u32 (gt Node i0))) (m109.sq.idxb (by kernel_rfl) g126.1 g126.2) ?_
   obtain ⟨H128, q129, e130, hm131⟩ := Ow.store (P := Try.prog) (t := 3) (off := 0) e107.wf m109 g126.1 g126.2 (i_ i0) [i_ i0] (by kernel_rfl) (by kernel_rfl) rfl i0 (Nat.le_of_ble_eq_true rfl) (by kernel_rfl)
   refine s_ek (undef) (by kernel_rfl) (map_ok q129) ?_
   refine s_nil (k121 _ _ (g_' ?_))
   obtain ⟨g132, r133⟩ := G_some r127
   refine w_' (i0 + 1) (wrap64 (by have := g132; omega)) ?_
   refine q_ (i_ (i0 + 1)) (s_nil ?_)
   obtain rfl := oi_ r133
   exact k116 n112 _ _ (Nat.lt_succ_self _) ⟨(i0 + 1), (l1.set (gt Node i0).toNat i0), hn115, ha_, (FrS.step e84.wf (FrS.step e84.wf (FrS.refl (W := f82) e84.wf) e107 Inn.refl') e130 Inn.refl'), hm131⟩
  have r134 := ite_f h119 hz114
  refine w_exit (th_exit (th_exit (bl_eq ?_)))
  obtain rfl := oi_ r134
  obtain rfl := it_inr hn115
  exact k102 _ _ ⟨ha_, (FrS.step e84.wf (FrS.refl (W := f82) e84.wf) e107 Inn.refl'), m109⟩
 obtain ⟨hh103, e99, m101⟩ := hM
 obtain ⟨β, rfl⟩ := has_ex hh103
 clear hh103
 refine k91 _ _ (w_seqk fun _ k135 => g_' (q_ (.slice a87 n88 c89) (q_ (.agg #[i_ 0, .slice none 0 0]) (q_ (.slice a87 n88 c89) ?_))))
 have u140 := ((((((r23.frS e39 Dj.nil_l).ext e48).frS e54 (hb49.djn (r23.ltF.le e39.n))).frS e63 Dj.nil_l).ext e84).frS e99 (hf85.djn (r23.ltF.le (t_ (t_ (t_ e39.n e48.n) e54.n) e63.n))))
 obtain ⟨H136, q137, e138, r139⟩ := Row.store (P := Try.prog) (t := 46) (p := 0) e99.wf u140 (.agg #[i_ 0, .slice none 0 0]) [i_ 0, .slice none 0 0] (by kernel_rfl) (by kernel_rfl) (one_cons (rfl) (one_cons (rfl) (one_nil))) (Nat.le_of_ble_eq_true (by kernel_rfl)) [i_ 0, .slice none 0 0] (by kernel_rfl)
 refine s_ek (undef) (by kernel_rfl) (map_ok q137) ?_
 refine s_nil (k135 _ _ ?_)
 refine w_ret ?_
 refine b_ret (fn := Try.f44) (vs := [.slice a87 n88 c89, .agg #[i_ 0, .slice none 0 0]]) (aRes_tmp (by kernel_rfl) (aRes_cell (Eq.trans (b := aL_ 46 (pt_ b19 0) H136) (by kernel_rfl) (r139.l_)) (rfl))) ?_
 have u141 := (m101.fr e138 (Dj.symm (hf85.djn (r23.ltF.le (t_ (t_ (t_ e39.n e48.n) e54.n) e63.n)))))
 obtain rfl := oi_ r97
 exact ⟨(.slice a87 n88 c89), f82, (.slice none 0 0), [], rfl, (FrS.step wf (FrS.step wf ((FrS.step wf (FrS.step wf ((FrS.step wf (((f0_ wf).extR e15).extR e21) e39 Inn.nil).extR e48) e54 (hb49.fresh (t_ (t_ e15.n e21.n) e39.n))) e63 Inn.nil).extR e84) e99 (hf85.fresh (t_ (t_ (t_ (t_ (t_ e15.n e21.n) e39.n) e48.n) e54.n) e63.n))) e138 (hb22.fresh e15.n)), u141, (Sq.nil (by decide)), (hf85.fresh (t_ (t_ (t_ (t_ (t_ e15.n e21.n) e39.n) e48.n) e54.n) e63.n)), Inn.nil, Dj.nil_r⟩
theorem c_viaductref02_SameInts {H : AH} {hd_a : Value} {fp_a : Fp} {hd_b : Value} {fp_b : Fp} {a : List (Int)} {b : List (Int)} {r : Bool}
    (wf : WF H) (h_a : Sq (encI .i64) 1 H hd_a a fp_a) (h_b : Sq (encI .i64) 1 H hd_b b fp_b) (hr : z_viaductref02_SameInts a b = some r) :
    ACalls Try.prog 45 #[hd_a, hd_b] H fun v H' => v = .bool r ∧ H = H' := by
 refine acalls_of_body mixed Try.func45 rfl (Nat.le_of_ble_eq_true rfl) ?_
 unfold z_viaductref02_SameInts at hr
 refine w_seqk fun _ k1 => g_' (q_ (.bool false) (s_nil (k1 _ _ (w_seqk fun _ k2 => w_seqk fun _ k3 => g_' (q_ (hd_a) ?_)))))
 refine l_' (i_ (a.length : Int)) (aLen Try.prog 22 hd_a H) (h_a.lenb (by kernel_rfl)) ?_
 refine q_ (hd_b) ?_
 refine l_' (i_ (b.length : Int)) (aLen Try.prog 22 hd_b H) (h_b.lenb (by kernel_rfl)) ?_
 refine q_ (.bool (!decide ((a.length : Int) = (b.length : Int)))) (s_nil (k3 _ _ ?_))
 refine w_condn ((a.length : Int) = (b.length : Int)) (by kernel_rfl) rfl (fun h4 => ?_) (fun h4 => ?_)
 ·have r5 := ite_f h4 hr
  refine w_seqk fun _ k6 => g_' (q_ (.bool false) (s_nil (k6 _ _ ?_)))
  refine w_ret (th_ret ?_)
  refine b_ret (fn := Try.f45) (vs := [.bool false]) (rt_ (rfl)) ?_
  obtain rfl := oi_ r5
  exact ⟨rfl, rfl⟩
 have r7 := ite_t h4 hr
 refine w_skip (k2 _ _ (w_seqk fun _ k8 => w_seqk fun _ k9 => g_' (q_ (hd_a) ?_)))
 refine l_' (i_ (a.length : Int)) (aLen Try.prog 22 hd_a H) (h_a.lenb (by kernel_rfl)) ?_
 refine q_ (i_ 0) (s_nil (k9 _ _ ?_))
 obtain ⟨z13, hx11, r12⟩ := bind_some r7
 refine w_mid (fun α H14 => ∃ o10, z13 = Sum.inr o10 ∧ Has α [] ∧ H = H14) (fun _ k16 => ?_) (fun α H14 hM => ?_)
 ·refine w_block ?_
  obtain ⟨n18, hn19⟩ := loopO_iff.1 hx11
  refine w_loopn (fun n α H20 => ∃ (i0 : Int), iterO (fun zz_ => z_viaductref02_SameInts_l0 a b zz_) n i0 = some z13 ∧ Has α [(0, hd_a), (1, hd_b), (12, i_ (a.length : Int)), (13, i_ i0)] ∧ H = H20) n18 ⟨0, hn19, ha_, rfl⟩ ?_
  rintro n18 α H20 ⟨i0, hi23, hh22, rfl⟩ K28 k28
  obtain ⟨n24, z25, rfl, hz26, hn27⟩ := iter_succ hi23
  obtain ⟨β, rfl⟩ := has_ex hh22
  clear hh22
  replace hz26 : z_viaductref02_SameInts_l0 a b i0 = some z25 := hz26
  unfold z_viaductref02_SameInts_l0 at hz26
  refine w_seqk fun _ k29 => g_' (q_ (.bool (decide (i0 < (a.length : Int)))) (s_nil (k29 _ _ (w_seqk fun _ k30 => ?_))))
  refine w_condp (i0 < (a.length : Int)) (by kernel_rfl) rfl (fun h31 => ?_) (fun h31 => ?_)
  ·have r32 := ite_t h31 hz26
   refine w_skip (k30 _ _ (w_seqk fun _ k33 => w_block (w_seqk fun _ k34 => g_' (q_ (i_ i0) (q_ (i_ i0) (s_nil (k34 _ _ (w_seqk fun _ k35 => ?_))))))))
   refine w_draw [0, 1, 2, 3, 4, 5, 6, 7, 8] (by kernel_rfl) ?_
   refine e_' (hd_a) (e_' (i_ i0) ?_)
   obtain ⟨g36, r37⟩ := G_some r32
   refine m_' (elp hd_a 1 i0.toNat 0) (aIndexAddr Try.prog 22 hd_a (i_ i0)) (h_a.idxb (by kernel_rfl) g36 h31) ?_
   refine m_' (i_ (gt a i0)) (aL_ 3 (elp hd_a 1 i0.toNat 0) H) (h_a.ld g36 h31 (by kernel_rfl)) ?_
   refine e_' (hd_b) (e_' (i_ i0) ?_)
   obtain ⟨g38, r39⟩ := G_some r37
   refine m_' (elp hd_b 1 i0.toNat 0) (aIndexAddr Try.prog 22 hd_b (i_ i0)) (h_b.idxb (by kernel_rfl) g36 g38) ?_
   refine m_' (i_ (gt b i0)) (aL_ 3 (elp hd_b 1 i0.toNat 0) H) (h_b.ld g36 g38 (by kernel_rfl)) ?_
   refine e_' (.bool (!decide ((gt a i0) = (gt b i0)))) ?_
   refine d_nil ?_
   refine k35 _ _ ?_
   refine w_condn ((gt a i0) = (gt b i0)) (by kernel_rfl) rfl (fun h40 => ?_) (fun h40 => ?_)
   ·have r41 := ite_f h40 r39
    refine w_seqk fun _ k42 => g_' (q_ (.bool false) (s_nil (k42 _ _ ?_)))
    refine w_ret (bl_ret (th_ret (th_ret (bl_ret (th_ret (th_ret ?_))))))
    obtain ⟨v43, hv44, hz45⟩ := map_some r41
    subst hz45
    obtain rfl := it_inr hn27
    have hq46 := elim_inl r12
    rw [hq46] at hv44
    refine b_ret (fn := Try.f45) (vs := [.bool false]) (rt_ (rfl)) ?_
    obtain rfl := oi_ hv44
    exact ⟨rfl, rfl⟩
   have r47 := ite_t h40 r39
   refine w_skip (k33 _ _ (g_' ?_))
   obtain ⟨g48, r49⟩ := G_some r47
   refine w_' (i0 + 1) (wrap64 (by have := g48; omega)) ?_
   refine q_ (i_ (i0 + 1)) (s_nil ?_)
   obtain rfl := oi_ r49
   exact k28 n24 _ _ (Nat.lt_succ_self _) ⟨(i0 + 1), hn27, ha_, rfl⟩
  have r50 := ite_f h31 hz26
  refine w_exit (th_exit (th_exit (bl_eq ?_)))
  obtain rfl := oi_ r50
  obtain rfl := it_inr hn27
  exact k16 _ _ ⟨_, rfl, trivial, rfl⟩
 obtain ⟨o10, rfl, hh17, rfl⟩ := hM
 have r51 := elim_inr r12
 obtain ⟨β, rfl⟩ := has_ex hh17
 clear hh17
 refine k8 _ _ (w_seqk fun _ k52 => g_' (q_ (.bool true) (s_nil (k52 _ _ ?_))))
 refine w_ret ?_
 refine b_ret (fn := Try.f45) (vs := [.bool true]) (rt_ (rfl)) ?_
 obtain rfl := oi_ r51
 exact ⟨rfl, rfl⟩
end Go.Vd
