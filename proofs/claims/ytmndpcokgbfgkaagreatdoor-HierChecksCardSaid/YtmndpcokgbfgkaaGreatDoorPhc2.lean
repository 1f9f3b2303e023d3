/- The walks of the functions (printed by a program of ours). -/
import Derived.Test.YtmndpcokgbfgkaaGreatDoorPhc1
import Derived.Test.YtmndpcokgbfgkaaGreatDoorPhcDrG
import Derived.Test.YtmndpcokgbfgkaaGreatDoorPhcIHc
import Derived.Test.YtmndpcokgbfgkaaGreatDoorPhcVeN
import Derived.Test.YtmndpcokgbfgkaaGreatDoorPhcSoA
import Derived.Test.YtmndpcokgbfgkaaGreatDoorPhcVeT
set_option linter.unusedVariables false
set_option linter.unusedSimpArgs false
set_option linter.unusedSectionVars false
/-! (KHc4) -/

set_option maxRecDepth 100000
set_option maxHeartbeats 4000000
set_option linter.unusedVariables false
namespace Go.Vd
open Go.Proofs
attribute [local irreducible] wpSeq wpOrd aWp
theorem c_viaductref10_link {H : AH} {hd_Node : Value} {fp_Node : Fp} {hd_UpFirst : Value} {fp_UpFirst : Fp} {hd_Up : Value} {fp_Up : Fp} {hd_DownFirst : Value} {fp_DownFirst : Fp} {hd_Down : Value} {fp_Down : Fp} {hd_ranks : Value} {fp_ranks : Fp} {Node : List (Int)} {UpFirst : List (Int)} {Up : List (Int × Int × Int × Int)} {DownFirst : List (Int)} {Down : List (Int × Int × Int × Int)} {ranks : List (Int)} {i : Int} {r : Int × List (Int × Int)}
    (wf : WF H) (h_Node : Sq (encI .u32) 1 H hd_Node Node fp_Node) (h_UpFirst : Sq (encI .u32) 1 H hd_UpFirst UpFirst fp_UpFirst) (h_Up : Sq enc_u32_u64_u32_u32 4 H hd_Up Up fp_Up) (h_DownFirst : Sq (encI .u32) 1 H hd_DownFirst DownFirst fp_DownFirst) (h_Down : Sq enc_u32_u64_u32_u32 4 H hd_Down Down fp_Down) (h_ranks : Sq (encI .i64) 1 H hd_ranks ranks fp_ranks) (hr : z_viaductref10_link Node UpFirst Up DownFirst Down ranks i = some r) :
    ACalls Tryz.prog 34 #[.agg #[hd_Node, hd_UpFirst, hd_Up, hd_DownFirst, hd_Down], hd_ranks, i_ i] H fun v H' => ∃ (s3 : Value) (f4 : Fp), v = .agg #[i_ r.1, s3] ∧ FrS [] H H' ∧ Ow enc_i64_i64 2 H' s3 r.2 f4 ∧ Inn [] H f4 := by
 refine acalls_of_body mixed Tryz.func34 rfl (Nat.le_of_ble_eq_true rfl) ?_
 unfold z_viaductref10_link at hr
 refine w_seqk fun _ k6 => g_' ?_
 refine s_rwl wf [hd_Node, hd_UpFirst, hd_Up, hd_DownFirst, hd_Down] (one_cons (h_Node.one1) (one_cons (h_UpFirst.one1) (one_cons (h_Up.one1) (one_cons (h_DownFirst.one1) (one_cons (h_Down.one1) (one_nil)))))) (by kernel_rfl) fun b7 H8 e9 hb10 r11 => ?_
 refine s_rwk e9.wf [i_ 0, .slice none 0 0] (by kernel_rfl) fun b13 H14 e15 hb16 r17 => ?_
 refine s_nil (k6 _ _ (w_seqk fun _ k19 => ?_))
 refine w_draw [0, 1, 3, 4, 5, 6, 7, 8, 9, 10, 11, 12, 13, 2, 14, 15, 16] (by kernel_rfl) ?_
 have u20 := (r11.ext e15)
 refine m_' (.agg #[hd_Node, hd_UpFirst, hd_Up, hd_DownFirst, hd_Down]) (aLoad Tryz.prog 25 (pt_ b7 0) H14) (u20.ld (by kernel_rfl)) ?_
 refine e_' (i_ i) (e_' (pt_ b7 0) ?_)
 refine d_fl (hd_Node) (x := aLoad Tryz.prog 22 (pt_ b7 0) H14) (by kernel_rfl) (u20.ld (by kernel_rfl)) ?_
 have u21 := ((h_Node.ext e9).ext e15)
 refine m_' (i_ (Node.length : Int)) (aLen Tryz.prog 22 hd_Node H14) (u21.lenb (by kernel_rfl)) ?_
 refine e_' (pt_ b7 2) ?_
 refine d_fl (hd_Up) (x := aLoad Tryz.prog 23 (pt_ b7 2) H14) (by kernel_rfl) (u20.ld (by kernel_rfl)) ?_
 have u22 := ((h_Up.ext e9).ext e15)
 refine m_' (i_ (Up.length : Int)) (aLen Tryz.prog 23 hd_Up H14) (u22.lenb (by kernel_rfl)) ?_
 refine e_' (pt_ b7 4) ?_
 refine d_fl (hd_Down) (x := aLoad Tryz.prog 23 (pt_ b7 4) H14) (by kernel_rfl) (u20.ld (by kernel_rfl)) ?_
 have u23 := ((h_Down.ext e9).ext e15)
 refine m_' (i_ (Down.length : Int)) (aLen Tryz.prog 23 hd_Down H14) (u23.lenb (by kernel_rfl)) ?_
 obtain ⟨g24, r25⟩ := G_some hr
 refine d_w (((Up.length : Int) + (Down.length : Int))) (k := .i64) (x := ((Up.length : Int) + (Down.length : Int))) (by kernel_rfl) (wrap64 g24) ?_
 refine d_rwk e15.wf [.int .u32 0, .int .u64 0, .int .u32 0, .int .u32 0] (by kernel_rfl) fun b26 H27 e28 hb29 r30 => ?_
 have u32 := (u21.ext e28)
 have u33 := (((h_UpFirst.ext e9).ext e15).ext e28)
 have u34 := (u22.ext e28)
 have u35 := (((h_DownFirst.ext e9).ext e15).ext e28)
 have u36 := (u23.ext e28)
 obtain ⟨y37, hy38, r39⟩ := bind_some r25
 refine d_ck 59 #[.agg #[hd_Node, hd_UpFirst, hd_Up, hd_DownFirst, hd_Down], i_ i] (by kernel_rfl) (c_viaductref10_Link e28.wf u32 u33 u34 u35 u36 hy38) ?_
 rintro _ H40 ⟨rfl, e41⟩
 have u42 := ((u20.ext e28).frS e41 Dj.nil_l)
 refine ⟨st_ql (y := aLoad Tryz.prog 23 (pt_ b7 4) H40) (by kernel_rfl) (u42.ld (by kernel_rfl)) (st_ql (y := aLoad Tryz.prog 23 (pt_ b7 2) H40) (by kernel_rfl) (u42.ld (by kernel_rfl)) (st_ql (y := aLoad Tryz.prog 22 (pt_ b7 0) H40) (by kernel_rfl) (u42.ld (by kernel_rfl)) (st_nil))), ?_⟩
 have u47 := (r30.frS e41 Dj.nil_l)
 obtain ⟨H43, q44, e45, r46⟩ := Row.store (P := Tryz.prog) (t := 92) (p := 0) e41.wf u47 (.agg #[.int .u32 y37.1, .int .u64 y37.2.1, .int .u32 y37.2.2.1, .int .u32 y37.2.2.2]) [.int .u32 y37.1, .int .u64 y37.2.1, .int .u32 y37.2.2.1, .int .u32 y37.2.2.2] (by kernel_rfl) (by kernel_rfl) (one_cons (rfl) (one_cons (rfl) (one_cons (rfl) (one_cons (rfl) (one_nil))))) (Nat.le_of_ble_eq_true (by kernel_rfl)) [.int .u32 y37.1, .int .u64 y37.2.1, .int .u32 y37.2.2.1, .int .u32 y37.2.2.2] (by kernel_rfl)
 have u48 := (u42.frS e45 (hb29.djn (r11.ltF.le e15.next)))
 refine d_ek (undef) (by kernel_rfl) (map_ok q44) (st_ql (y := aLoad Tryz.prog 23 (pt_ b7 4) H43) (by kernel_rfl) (u48.ld (by kernel_rfl)) (st_ql (y := aLoad Tryz.prog 23 (pt_ b7 2) H43) (by kernel_rfl) (u48.ld (by kernel_rfl)) (st_ql (y := aLoad Tryz.prog 22 (pt_ b7 0) H43) (by kernel_rfl) (u48.ld (by kernel_rfl)) (st_nil)))) ?_
 refine e_' (i_ (Node.length : Int)) (e_' (i_ ((Up.length : Int) + (Down.length : Int))) ?_)
 refine d_nil ?_
 refine k19 _ _ (w_seqk fun _ k49 => g_' (q_ (i_ i) ?_))
 obtain ⟨y50, hy51, r52⟩ := bind_some r39
 refine s_ck 29 #[i_ 14] (by kernel_rfl) (c_viaductref01_E e45.wf hy51) ?_
 rintro _ H53 ⟨rfl, e54⟩
 obtain ⟨y55, hy56, r57⟩ := bind_some r52
 refine s_ck 32 #[i_ 4, i_ i, .agg #[i_ y50, .slice none 0 0]] (by kernel_rfl) (c_viaductref01_At e54.wf (Sq.nil (enc := enc_i64_i64) (sz := 2) (by decide)) hy56) ?_
 rintro _ H60 ⟨s58, f59, rfl, e61, m62, i63⟩
 obtain ⟨a65, n66, c67, rfl⟩ := m62.form
 refine s_rwk e61.wf [i_ 0, .slice none 0 0] (by kernel_rfl) fun b68 H69 e70 hb71 r72 => ?_
 have u78 := (m62.ext e70)
 obtain ⟨H74, q75, e76, r77⟩ := Row.store (P := Tryz.prog) (t := 35) (p := 0) e70.wf r72 (.agg #[i_ y55.1, .slice a65 n66 c67]) [i_ y55.1, .slice a65 n66 c67] (by kernel_rfl) (by kernel_rfl) (one_cons (rfl) (one_cons (u78.one1) (one_nil))) (Nat.le_of_ble_eq_true (by kernel_rfl)) [i_ y55.1, .slice a65 n66 c67] (by kernel_rfl)
 refine s_ek (undef) (by kernel_rfl) (map_ok q75) ?_
 refine s_nil (k49 _ _ (w_seqk fun _ k79 => w_seqk fun _ k80 => ?_))
 obtain ⟨o81, hx82, r83⟩ := bind_some r57
 refine w_mid (fun α H84 => Has α [(1, hd_ranks), (2, i_ i), (3, pt_ b7 0), (6, pt_ b13 0), (7, pt_ b26 0), (9, i_ ((Up.length : Int) + (Down.length : Int))), (10, pt_ b68 0), (48, .bool o81)] ∧ H74 = H84) (fun _ k86 => ?_) (fun α H84 hM => ?_)
 ·refine w_draw [0, 1, 2, 3, 4, 5, 6, 7, 8, 9, 10, 11, 12, 13, 14, 15] (by kernel_rfl) ?_
  refine e_' (pt_ b26 0) ?_
  have u88 := ((((r46.frS e54 Dj.nil_l).frS e61 Dj.nil_l).ext e70).frS e76 (hb71.djn (r30.ltF.le (ntr (ntr (ntr e41.next e45.next) e54.next) e61.next))))
  refine m_' (.int .u32 y37.1) (aLoad Tryz.prog 86 (pt_ b26 0) H74) (u88.ld (by kernel_rfl)) ?_
  obtain ⟨g89, r90⟩ := G_some hx82
  refine d_w (y37.1) (k := .u64) (x := y37.1) (by kernel_rfl) (wrapu64 g89) ?_
  refine e_' (i_ (Node.length : Int)) ?_
  obtain ⟨g91, r92⟩ := G_some r90
  refine d_w ((Node.length : Int)) (k := .u64) (x := (Node.length : Int)) (by kernel_rfl) (wrapu64 (by have := g91; omega)) ?_
  refine d_b (y37.1 ≥ (Node.length : Int)) (by kernel_rfl) (fun h93 => ?_) (fun h93 => ?_)
  ·have r94 := ite_t h93 r92
   refine e_' (.bool true) (j_' (j_' (j_' (j_' (j_' (j_' (j_' (j_' (e_' (.bool true) ?_)))))))))
   refine d_nil ?_
   obtain rfl := Option.some.inj r94
   exact k86 _ _ ⟨ha_, rfl⟩
  have r95 := ite_f h93 r92
  refine e_' (.bool false) (e_' (pt_ b26 0) ?_)
  refine m_' (.int .u32 y37.1) (aLoad Tryz.prog 86 (pt_ b26 0) H74) (u88.ld (by kernel_rfl)) ?_
  obtain ⟨g96, r97⟩ := G_some r95
  refine d_w (y37.1) (k := .i64) (x := y37.1) (by kernel_rfl) (wrap64 (by have := g96; omega)) ?_
  refine e_' (hd_ranks) (e_' (i_ i) ?_)
  obtain ⟨g98, r99⟩ := G_some r97
  have u100 := (((((((((h_ranks.ext e9).ext e15).ext e28).fr e41 Dj.nil_l).fr e45 (hb29.djn (h_ranks.lt.le (ntr e9.next e15.next)))).fr e54 Dj.nil_l).fr e61 Dj.nil_l).ext e70).fr e76 (hb71.djn (h_ranks.lt.le (ntr (ntr (ntr (ntr (ntr (ntr e9.next e15.next) e28.next) e41.next) e45.next) e54.next) e61.next))))
  refine m_' (elp hd_ranks 1 i.toNat 0) (aIndexAddr Tryz.prog 49 hd_ranks (i_ i)) (u100.idxb (by kernel_rfl) g98.1 g98.2) ?_
  refine m_' (i_ (gt ranks i)) (aLoad Tryz.prog 3 (elp hd_ranks 1 i.toNat 0) H74) (u100.ld g98.1 g98.2 (by kernel_rfl)) ?_
  refine e_' (.bool (decide (y37.1 ≤ (gt ranks i)))) (e_' (.bool (decide (y37.1 ≤ (gt ranks i)))) ?_)
  refine d_nil ?_
  obtain rfl := Option.some.inj r99
  exact k86 _ _ ⟨ha_, rfl⟩
 obtain ⟨hh87, rfl⟩ := hM
 obtain ⟨β, rfl⟩ := has_ex hh87
 clear hh87
 refine k80 _ _ ?_
 refine w_cond (o81) (by kernel_rfl) rfl (fun h101 => ?_) (fun h101 => ?_)
 ·have r102 := ite_t h101 r83
  refine w_seqk fun _ k103 => g_' ?_
  refine l_' (.agg #[i_ y55.1, .slice a65 n66 c67]) (aLoad Tryz.prog 35 (pt_ b68 0) H74) (r77.ld (by kernel_rfl)) ?_
  have u108 := (((((((r17.ext e28).frS e41 Dj.nil_l).frS e45 (hb29.djn r17.ltF)).frS e54 Dj.nil_l).frS e61 Dj.nil_l).ext e70).frS e76 (hb71.djn (r17.ltF.le (ntr (ntr (ntr (ntr e28.next e41.next) e45.next) e54.next) e61.next))))
  have u109 := (u78.fr e76 (hb71.djn m62.lt))
  obtain ⟨H104, q105, e106, r107⟩ := Row.store (P := Tryz.prog) (t := 35) (p := 0) e76.wf u108 (.agg #[i_ y55.1, .slice a65 n66 c67]) [i_ y55.1, .slice a65 n66 c67] (by kernel_rfl) (by kernel_rfl) (one_cons (rfl) (one_cons (u109.one1) (one_nil))) (Nat.le_of_ble_eq_true (by kernel_rfl)) [i_ y55.1, .slice a65 n66 c67] (by kernel_rfl)
  refine s_ek (undef) (by kernel_rfl) (map_ok q105) ?_
  refine s_nil (k103 _ _ ?_)
  refine w_ret (th_ret ?_)
  refine b_ret (fn := Tryz.f34) (vs := [.agg #[i_ y55.1, .slice a65 n66 c67]]) (aRes_cell (Eq.trans (b := aLoad Tryz.prog 35 (pt_ b13 0) H104) (by kernel_rfl) (r107.ld (by kernel_rfl))) (rfl)) ?_
  have u110 := (u109.fr e106 (Dj.symm (i63.djn (r17.ltF.le (ntr (ntr (ntr e28.next e41.next) e45.next) e54.next)))))
  obtain rfl := Option.some.inj r102
  exact ⟨(.slice a65 n66 c67), f59, rfl, (FrS.step wf (FrS.step wf ((FrS.step wf (FrS.step wf (FrS.step wf (FrS.step wf ((((FrS.refl (W := []) wf).extR e9).extR e15).extR e28) e41 Inn.nil) e45 (hb29.fresh (ntr e9.next e15.next))) e54 Inn.nil) e61 Inn.nil).extR e70) e76 (hb71.fresh (ntr (ntr (ntr (ntr (ntr (ntr e9.next e15.next) e28.next) e41.next) e45.next) e54.next) e61.next))) e106 (hb16.fresh e9.next)), u110, (i63.fresh (ntr (ntr (ntr (ntr (ntr e9.next e15.next) e28.next) e41.next) e45.next) e54.next))⟩
 have r111 := ite_bf h101 r83
 refine w_skip (k79 _ _ (w_seqk fun _ k112 => w_seqk fun _ k113 => ?_))
 obtain ⟨o114, hx115, r116⟩ := bind_some r111
 refine w_mid (fun α H117 => Has α [(1, hd_ranks), (2, i_ i), (3, pt_ b7 0), (6, pt_ b13 0), (7, pt_ b26 0), (9, i_ ((Up.length : Int) + (Down.length : Int))), (10, pt_ b68 0), (80, .bool o114)] ∧ FrS [] H74 H117) (fun _ k119 => ?_) (fun α H117 hM => ?_)
 ·refine w_draw [0, 1, 2, 3, 4, 5, 6, 7, 8, 9, 10, 11, 12, 13, 14, 15, 16, 17, 18, 19, 20, 21, 22, 23, 24, 25, 26, 27, 28, 29, 30] (by kernel_rfl) ?_
  refine e_' (i_ i) ?_
  refine d_bn (i = 0) (by kernel_rfl) (fun h121 => ?_) (fun h121 => ?_)
  ·have r122 := ite_t h121 hx115
   refine e_' (.bool false) (j_' (j_' (j_' (j_' (j_' (e_' (.bool false) (e_' (.bool false) (j_' (j_' (j_' (j_' (j_' (j_' (j_' (j_' (j_' (j_' (e_' (.bool false) (e_' (.bool false) (j_' (j_' (j_' (j_' (j_' (j_' (j_' (j_' (e_' (.bool false) ?_))))))))))))))))))))))))))))
   refine d_nil ?_
   obtain rfl := Option.some.inj r122
   exact k119 _ _ ⟨ha_, (FrS.refl (W := []) e76.wf)⟩
  have r123 := ite_f h121 hx115
  refine e_' (.bool true) (e_' (i_ i) (e_' (pt_ b7 2) ?_))
  have u124 := ((((u48.frS e54 Dj.nil_l).frS e61 Dj.nil_l).ext e70).frS e76 (hb71.djn (r11.ltF.le (ntr (ntr (ntr (ntr (ntr e15.next e28.next) e41.next) e45.next) e54.next) e61.next))))
  refine m_' (hd_Up) (aLoad Tryz.prog 23 (pt_ b7 2) H74) (u124.ld (by kernel_rfl)) ?_
  have u125 := ((((((u34.fr e41 Dj.nil_l).fr e45 (hb29.djn (h_Up.lt.le (ntr e9.next e15.next)))).fr e54 Dj.nil_l).fr e61 Dj.nil_l).ext e70).fr e76 (hb71.djn (h_Up.lt.le (ntr (ntr (ntr (ntr (ntr (ntr e9.next e15.next) e28.next) e41.next) e45.next) e54.next) e61.next))))
  refine m_' (i_ (Up.length : Int)) (aLen Tryz.prog 23 hd_Up H74) (u125.lenb (by kernel_rfl)) ?_
  refine d_bn (i = (Up.length : Int)) (by kernel_rfl) (fun h126 => ?_) (fun h126 => ?_)
  ·have r127 := ite_t h126 r123
   refine e_' (.bool false) (e_' (.bool false) (j_' (j_' (j_' (j_' (j_' (j_' (j_' (j_' (j_' (j_' (e_' (.bool false) (e_' (.bool false) (j_' (j_' (j_' (j_' (j_' (j_' (j_' (j_' (e_' (.bool false) ?_))))))))))))))))))))))
   refine d_nil ?_
   obtain rfl := Option.some.inj r127
   exact k119 _ _ ⟨ha_, (FrS.refl (W := []) e76.wf)⟩
  have r128 := ite_f h126 r123
  refine e_' (.bool true) (e_' (.bool true) (e_' (hd_ranks) (e_' (i_ i) ?_)))
  obtain ⟨g129, r130⟩ := G_some r128
  refine d_w ((i - 1)) (k := .i64) (x := (i - 1)) (by kernel_rfl) (wrap64 g129) ?_
  obtain ⟨g131, r132⟩ := G_some r130
  have u133 := (((((((((h_ranks.ext e9).ext e15).ext e28).fr e41 Dj.nil_l).fr e45 (hb29.djn (h_ranks.lt.le (ntr e9.next e15.next)))).fr e54 Dj.nil_l).fr e61 Dj.nil_l).ext e70).fr e76 (hb71.djn (h_ranks.lt.le (ntr (ntr (ntr (ntr (ntr (ntr e9.next e15.next) e28.next) e41.next) e45.next) e54.next) e61.next))))
  refine m_' (elp hd_ranks 1 (i - 1).toNat 0) (aIndexAddr Tryz.prog 49 hd_ranks (i_ (i - 1))) (u133.idxb (by kernel_rfl) g131.1 g131.2) ?_
  refine m_' (i_ (gt ranks (i - 1))) (aLoad Tryz.prog 3 (elp hd_ranks 1 (i - 1).toNat 0) H74) (u133.ld g131.1 g131.2 (by kernel_rfl)) ?_
  refine e_' (hd_ranks) (e_' (i_ i) ?_)
  obtain ⟨g134, r135⟩ := G_some r132
  refine m_' (elp hd_ranks 1 i.toNat 0) (aIndexAddr Tryz.prog 49 hd_ranks (i_ i)) (u133.idxb (by kernel_rfl) g134.1 g134.2) ?_
  refine m_' (i_ (gt ranks i)) (aLoad Tryz.prog 3 (elp hd_ranks 1 i.toNat 0) H74) (u133.ld g134.1 g134.2 (by kernel_rfl)) ?_
  refine d_b ((gt ranks (i - 1)) = (gt ranks i)) (by kernel_rfl) (fun h136 => ?_) (fun h136 => ?_)
  ·have r137 := ite_t h136 r135
   refine e_' (.bool true) (e_' (.bool true) (e_' (pt_ b26 0) ?_))
   have u138 := ((((r46.frS e54 Dj.nil_l).frS e61 Dj.nil_l).ext e70).frS e76 (hb71.djn (r30.ltF.le (ntr (ntr (ntr e41.next e45.next) e54.next) e61.next))))
   refine d_fl (.int .u32 y37.1) (x := aLoad Tryz.prog 86 (pt_ b26 0) H74) (by kernel_rfl) (u138.ld (by kernel_rfl)) ?_
   refine m_' (.agg #[hd_Node, hd_UpFirst, hd_Up, hd_DownFirst, hd_Down]) (aLoad Tryz.prog 25 (pt_ b7 0) H74) (u124.ld (by kernel_rfl)) ?_
   refine e_' (i_ i) ?_
   obtain ⟨g139, r140⟩ := G_some r137
   refine d_w ((i - 1)) (k := .i64) (x := (i - 1)) (by kernel_rfl) (wrap64 (by have := g139; omega)) ?_
   have u141 := ((((((u32.fr e41 Dj.nil_l).fr e45 (hb29.djn (h_Node.lt.le (ntr e9.next e15.next)))).fr e54 Dj.nil_l).fr e61 Dj.nil_l).ext e70).fr e76 (hb71.djn (h_Node.lt.le (ntr (ntr (ntr (ntr (ntr (ntr e9.next e15.next) e28.next) e41.next) e45.next) e54.next) e61.next))))
   have u142 := ((((((u33.fr e41 Dj.nil_l).fr e45 (hb29.djn (h_UpFirst.lt.le (ntr e9.next e15.next)))).fr e54 Dj.nil_l).fr e61 Dj.nil_l).ext e70).fr e76 (hb71.djn (h_UpFirst.lt.le (ntr (ntr (ntr (ntr (ntr (ntr e9.next e15.next) e28.next) e41.next) e45.next) e54.next) e61.next))))
   have u143 := ((((((u35.fr e41 Dj.nil_l).fr e45 (hb29.djn (h_DownFirst.lt.le (ntr e9.next e15.next)))).fr e54 Dj.nil_l).fr e61 Dj.nil_l).ext e70).fr e76 (hb71.djn (h_DownFirst.lt.le (ntr (ntr (ntr (ntr (ntr (ntr e9.next e15.next) e28.next) e41.next) e45.next) e54.next) e61.next))))
   have u144 := ((((((u36.fr e41 Dj.nil_l).fr e45 (hb29.djn (h_Down.lt.le (ntr e9.next e15.next)))).fr e54 Dj.nil_l).fr e61 Dj.nil_l).ext e70).fr e76 (hb71.djn (h_Down.lt.le (ntr (ntr (ntr (ntr (ntr (ntr e9.next e15.next) e28.next) e41.next) e45.next) e54.next) e61.next))))
   obtain ⟨y145, hy146, r147⟩ := bind_some r140
   refine d_ck 59 #[.agg #[hd_Node, hd_UpFirst, hd_Up, hd_DownFirst, hd_Down], i_ (i - 1)] (by kernel_rfl) (c_viaductref10_Link e76.wf u141 u142 u125 u143 u144 hy146) ?_
   rintro _ H148 ⟨rfl, e149⟩
   have u150 := (u138.frS e149 Dj.nil_l)
   refine ⟨st_ql (y := aLoad Tryz.prog 86 (pt_ b26 0) H148) (by kernel_rfl) (u150.ld (by kernel_rfl)) (st_nil), ?_⟩
   refine e_' (.int .u32 y145.1) (e_' (.bool (decide (y37.1 ≤ y145.1))) (e_' (.bool (decide (y37.1 ≤ y145.1))) ?_))
   refine d_nil ?_
   obtain rfl := Option.some.inj r147
   exact k119 _ _ ⟨ha_, (FrS.step e76.wf (FrS.refl (W := []) e76.wf) e149 Inn.nil)⟩
  have r151 := ite_f h136 r135
  refine e_' (.bool false) (e_' (.bool false) (j_' (j_' (j_' (j_' (j_' (j_' (j_' (j_' (e_' (.bool false) ?_))))))))))
  refine d_nil ?_
  obtain rfl := Option.some.inj r151
  exact k119 _ _ ⟨ha_, (FrS.refl (W := []) e76.wf)⟩
 obtain ⟨hh120, e118⟩ := hM
 obtain ⟨β, rfl⟩ := has_ex hh120
 clear hh120
 refine k113 _ _ ?_
 refine w_cond (o114) (by kernel_rfl) rfl (fun h152 => ?_) (fun h152 => ?_)
 ·have r153 := ite_t h152 r116
  refine w_seqk fun _ k154 => g_' ?_
  have u155 := (r77.frS e118 Dj.nil_l)
  refine l_' (.agg #[i_ y55.1, .slice a65 n66 c67]) (aLoad Tryz.prog 35 (pt_ b68 0) H117) (u155.ld (by kernel_rfl)) ?_
  have u160 := ((((((((r17.ext e28).frS e41 Dj.nil_l).frS e45 (hb29.djn r17.ltF)).frS e54 Dj.nil_l).frS e61 Dj.nil_l).ext e70).frS e76 (hb71.djn (r17.ltF.le (ntr (ntr (ntr (ntr e28.next e41.next) e45.next) e54.next) e61.next)))).frS e118 Dj.nil_l)
  have u161 := ((u78.fr e76 (hb71.djn m62.lt)).fr e118 Dj.nil_l)
  obtain ⟨H156, q157, e158, r159⟩ := Row.store (P := Tryz.prog) (t := 35) (p := 0) e118.wf u160 (.agg #[i_ y55.1, .slice a65 n66 c67]) [i_ y55.1, .slice a65 n66 c67] (by kernel_rfl) (by kernel_rfl) (one_cons (rfl) (one_cons (u161.one1) (one_nil))) (Nat.le_of_ble_eq_true (by kernel_rfl)) [i_ y55.1, .slice a65 n66 c67] (by kernel_rfl)
  refine s_ek (undef) (by kernel_rfl) (map_ok q157) ?_
  refine s_nil (k154 _ _ ?_)
  refine w_ret (th_ret ?_)
  refine b_ret (fn := Tryz.f34) (vs := [.agg #[i_ y55.1, .slice a65 n66 c67]]) (aRes_cell (Eq.trans (b := aLoad Tryz.prog 35 (pt_ b13 0) H156) (by kernel_rfl) (r159.ld (by kernel_rfl))) (rfl)) ?_
  have u162 := (u161.fr e158 (Dj.symm (i63.djn (r17.ltF.le (ntr (ntr (ntr e28.next e41.next) e45.next) e54.next)))))
  obtain rfl := Option.some.inj r153
  exact ⟨(.slice a65 n66 c67), f59, rfl, (FrS.step wf (FrS.step wf (FrS.step wf ((FrS.step wf (FrS.step wf (FrS.step wf (FrS.step wf ((((FrS.refl (W := []) wf).extR e9).extR e15).extR e28) e41 Inn.nil) e45 (hb29.fresh (ntr e9.next e15.next))) e54 Inn.nil) e61 Inn.nil).extR e70) e76 (hb71.fresh (ntr (ntr (ntr (ntr (ntr (ntr e9.next e15.next) e28.next) e41.next) e45.next) e54.next) e61.next))) e118 Inn.nil) e158 (hb16.fresh e9.next)), u162, (i63.fresh (ntr (ntr (ntr (ntr (ntr e9.next e15.next) e28.next) e41.next) e45.next) e54.next))⟩
 have r163 := ite_bf h152 r116
 refine w_skip (k112 _ _ (w_seqk fun _ k164 => g_' (q_ (i_ i) ?_)))
 obtain ⟨y165, hy166, r167⟩ := bind_some r163
 refine s_ck 29 #[i_ 8] (by kernel_rfl) (c_viaductref01_E e118.wf hy166) ?_
 rintro _ H168 ⟨rfl, e169⟩
 obtain ⟨y170, hy171, r172⟩ := bind_some r167
 refine s_ck 32 #[i_ 4, i_ i, .agg #[i_ y165, .slice none 0 0]] (by kernel_rfl) (c_viaductref01_At e169.wf (Sq.nil (enc := enc_i64_i64) (sz := 2) (by decide)) hy171) ?_
 rintro _ H175 ⟨s173, f174, rfl, e176, m177, i178⟩
 obtain ⟨a180, n181, c182, rfl⟩ := m177.form
 refine s_rwk e176.wf [i_ 0, .slice none 0 0] (by kernel_rfl) fun b183 H184 e185 hb186 r187 => ?_
 have u193 := (m177.ext e185)
 obtain ⟨H189, q190, e191, r192⟩ := Row.store (P := Tryz.prog) (t := 35) (p := 0) e185.wf r187 (.agg #[i_ y170.1, .slice a180 n181 c182]) [i_ y170.1, .slice a180 n181 c182] (by kernel_rfl) (by kernel_rfl) (one_cons (rfl) (one_cons (u193.one1) (one_nil))) (Nat.le_of_ble_eq_true (by kernel_rfl)) [i_ y170.1, .slice a180 n181 c182] (by kernel_rfl)
 refine s_ek (undef) (by kernel_rfl) (map_ok q190) ?_
 refine s_nil (k164 _ _ (w_seqk fun _ k194 => w_seqk fun _ k195 => g_' ?_))
 have u196 := (((((((((r46.frS e54 Dj.nil_l).frS e61 Dj.nil_l).ext e70).frS e76 (hb71.djn (r30.ltF.le (ntr (ntr (ntr e41.next e45.next) e54.next) e61.next)))).frS e118 Dj.nil_l).frS e169 Dj.nil_l).frS e176 Dj.nil_l).ext e185).frS e191 (hb186.djn (r30.ltF.le (ntr (ntr (ntr (ntr (ntr (ntr (ntr (ntr e41.next e45.next) e54.next) e61.next) e70.next) e76.next) e118.next) e169.next) e176.next))))
 refine l_' (.agg #[.int .u32 y37.1, .int .u64 y37.2.1, .int .u32 y37.2.2.1, .int .u32 y37.2.2.2]) (aLoad Tryz.prog 92 (pt_ b26 0) H189) (u196.ld (by kernel_rfl)) ?_
 obtain ⟨y197, hy198, r199⟩ := bind_some r172
 refine s_ck 60 #[.agg #[.int .u32 y37.1, .int .u64 y37.2.1, .int .u32 y37.2.2.1, .int .u32 y37.2.2.2]] (by kernel_rfl) (c_viaductref10_Plain e191.wf hy198) ?_
 rintro _ H200 ⟨rfl, e201⟩
 refine s_nil (k195 _ _ ?_)
 refine w_cond (y197) (by kernel_rfl) rfl (fun h202 => ?_) (fun h202 => ?_)
 ·have r203 := ite_t h202 r199
  refine w_seqk fun _ k204 => w_seqk fun _ k205 => g_' (q_ (pt_ b26 1) ?_)
  have u206 := (u196.frS e201 Dj.nil_l)
  refine l_' (.int .u64 y37.2.1) (aLoad Tryz.prog 87 (pt_ b26 1) H200) (u206.ld (by kernel_rfl)) ?_
  refine q_ (.bool (decide (y37.2.1 > 2147483647))) (s_nil (k205 _ _ ?_))
  refine w_condp (y37.2.1 > 2147483647) (by kernel_rfl) rfl (fun h207 => ?_) (fun h207 => ?_)
  ·have r208 := ite_t h207 r203
   refine w_seqk fun _ k209 => g_' ?_
   have u210 := (r192.frS e201 Dj.nil_l)
   refine l_' (.agg #[i_ y170.1, .slice a180 n181 c182]) (aLoad Tryz.prog 35 (pt_ b183 0) H200) (u210.ld (by kernel_rfl)) ?_
   have u215 := (((((((((((((r17.ext e28).frS e41 Dj.nil_l).frS e45 (hb29.djn r17.ltF)).frS e54 Dj.nil_l).frS e61 Dj.nil_l).ext e70).frS e76 (hb71.djn (r17.ltF.le (ntr (ntr (ntr (ntr e28.next e41.next) e45.next) e54.next) e61.next)))).frS e118 Dj.nil_l).frS e169 Dj.nil_l).frS e176 Dj.nil_l).ext e185).frS e191 (hb186.djn (r17.ltF.le (ntr (ntr (ntr (ntr (ntr (ntr (ntr (ntr (ntr e28.next e41.next) e45.next) e54.next) e61.next) e70.next) e76.next) e118.next) e169.next) e176.next)))).frS e201 Dj.nil_l)
   have u216 := ((u193.fr e191 (hb186.djn m177.lt)).fr e201 Dj.nil_l)
   obtain ⟨H211, q212, e213, r214⟩ := Row.store (P := Tryz.prog) (t := 35) (p := 0) e201.wf u215 (.agg #[i_ y170.1, .slice a180 n181 c182]) [i_ y170.1, .slice a180 n181 c182] (by kernel_rfl) (by kernel_rfl) (one_cons (rfl) (one_cons (u216.one1) (one_nil))) (Nat.le_of_ble_eq_true (by kernel_rfl)) [i_ y170.1, .slice a180 n181 c182] (by kernel_rfl)
   refine s_ek (undef) (by kernel_rfl) (map_ok q212) ?_
   refine s_nil (k209 _ _ ?_)
   refine w_ret (th_ret (th_ret ?_))
   refine b_ret (fn := Tryz.f34) (vs := [.agg #[i_ y170.1, .slice a180 n181 c182]]) (aRes_cell (Eq.trans (b := aLoad Tryz.prog 35 (pt_ b13 0) H211) (by kernel_rfl) (r214.ld (by kernel_rfl))) (rfl)) ?_
   have u217 := (u216.fr e213 (Dj.symm (i178.djn (r17.ltF.le (ntr (ntr (ntr (ntr (ntr (ntr (ntr (ntr e28.next e41.next) e45.next) e54.next) e61.next) e70.next) e76.next) e118.next) e169.next)))))
   obtain rfl := Option.some.inj r208
   exact ⟨(.slice a180 n181 c182), f174, rfl, (FrS.step wf (FrS.step wf (FrS.step wf ((FrS.step wf (FrS.step wf (FrS.step wf (FrS.step wf ((FrS.step wf (FrS.step wf (FrS.step wf (FrS.step wf ((((FrS.refl (W := []) wf).extR e9).extR e15).extR e28) e41 Inn.nil) e45 (hb29.fresh (ntr e9.next e15.next))) e54 Inn.nil) e61 Inn.nil).extR e70) e76 (hb71.fresh (ntr (ntr (ntr (ntr (ntr (ntr e9.next e15.next) e28.next) e41.next) e45.next) e54.next) e61.next))) e118 Inn.nil) e169 Inn.nil) e176 Inn.nil).extR e185) e191 (hb186.fresh (ntr (ntr (ntr (ntr (ntr (ntr (ntr (ntr (ntr (ntr (ntr e9.next e15.next) e28.next) e41.next) e45.next) e54.next) e61.next) e70.next) e76.next) e118.next) e169.next) e176.next))) e201 Inn.nil) e213 (hb16.fresh e9.next)), u217, (i178.fresh (ntr (ntr (ntr (ntr (ntr (ntr (ntr (ntr (ntr (ntr e9.next e15.next) e28.next) e41.next) e45.next) e54.next) e61.next) e70.next) e76.next) e118.next) e169.next))⟩
  have r218 := ite_f h207 r203
  refine w_skip (k204 _ _ (w_seqk fun _ k219 => g_' (q_ (.agg #[i_ 0, .slice none 0 0]) ?_)))
  have u224 := (((((((((((((r17.ext e28).frS e41 Dj.nil_l).frS e45 (hb29.djn r17.ltF)).frS e54 Dj.nil_l).frS e61 Dj.nil_l).ext e70).frS e76 (hb71.djn (r17.ltF.le (ntr (ntr (ntr (ntr e28.next e41.next) e45.next) e54.next) e61.next)))).frS e118 Dj.nil_l).frS e169 Dj.nil_l).frS e176 Dj.nil_l).ext e185).frS e191 (hb186.djn (r17.ltF.le (ntr (ntr (ntr (ntr (ntr (ntr (ntr (ntr (ntr e28.next e41.next) e45.next) e54.next) e61.next) e70.next) e76.next) e118.next) e169.next) e176.next)))).frS e201 Dj.nil_l)
  obtain ⟨H220, q221, e222, r223⟩ := Row.store (P := Tryz.prog) (t := 35) (p := 0) e201.wf u224 (.agg #[i_ 0, .slice none 0 0]) [i_ 0, .slice none 0 0] (by kernel_rfl) (by kernel_rfl) (one_cons (rfl) (one_cons (rfl) (one_nil))) (Nat.le_of_ble_eq_true (by kernel_rfl)) [i_ 0, .slice none 0 0] (by kernel_rfl)
  refine s_ek (undef) (by kernel_rfl) (map_ok q221) ?_
  refine s_nil (k219 _ _ ?_)
  refine w_ret (th_ret ?_)
  refine b_ret (fn := Tryz.f34) (vs := [.agg #[i_ 0, .slice none 0 0]]) (aRes_cell (Eq.trans (b := aLoad Tryz.prog 35 (pt_ b13 0) H220) (by kernel_rfl) (r223.ld (by kernel_rfl))) (rfl)) ?_
  obtain rfl := Option.some.inj r218
  exact ⟨(.slice none 0 0), [], rfl, (FrS.step wf (FrS.step wf (FrS.step wf ((FrS.step wf (FrS.step wf (FrS.step wf (FrS.step wf ((FrS.step wf (FrS.step wf (FrS.step wf (FrS.step wf ((((FrS.refl (W := []) wf).extR e9).extR e15).extR e28) e41 Inn.nil) e45 (hb29.fresh (ntr e9.next e15.next))) e54 Inn.nil) e61 Inn.nil).extR e70) e76 (hb71.fresh (ntr (ntr (ntr (ntr (ntr (ntr e9.next e15.next) e28.next) e41.next) e45.next) e54.next) e61.next))) e118 Inn.nil) e169 Inn.nil) e176 Inn.nil).extR e185) e191 (hb186.fresh (ntr (ntr (ntr (ntr (ntr (ntr (ntr (ntr (ntr (ntr (ntr e9.next e15.next) e28.next) e41.next) e45.next) e54.next) e61.next) e70.next) e76.next) e118.next) e169.next) e176.next))) e201 Inn.nil) e222 (hb16.fresh e9.next)), (Ow.nil (by decide)), Inn.nil⟩
 have r225 := ite_bf h202 r199
 refine w_skip (k194 _ _ (w_seqk fun _ k226 => w_seqk fun _ k227 => ?_))
 obtain ⟨o228, hx229, r230⟩ := bind_some r225
 refine w_mid (fun α H231 => Has α [(1, hd_ranks), (2, i_ i), (3, pt_ b7 0), (6, pt_ b13 0), (7, pt_ b26 0), (10, pt_ b68 0), (11, pt_ b183 0), (123, .bool o228)] ∧ H200 = H231) (fun _ k233 => ?_) (fun α H231 hM => ?_)
 ·refine g_' (q_ (pt_ b26 2) ?_)
  have u235 := (u196.frS e201 Dj.nil_l)
  refine l_' (.int .u32 y37.2.2.1) (aLoad Tryz.prog 86 (pt_ b26 2) H200) (u235.ld (by kernel_rfl)) ?_
  obtain ⟨g236, r237⟩ := G_some hx229
  refine s_w (y37.2.2.1) (k := .u64) (x := y37.2.2.1) (by kernel_rfl) (wrapu64 g236) ?_
  refine q_ (i_ ((Up.length : Int) + (Down.length : Int))) ?_
  obtain ⟨g238, r239⟩ := G_some r237
  refine s_w (((Up.length : Int) + (Down.length : Int))) (k := .u64) (x := ((Up.length : Int) + (Down.length : Int))) (by kernel_rfl) (wrapu64 g238) ?_
  refine s_b (y37.2.2.1 ≥ ((Up.length : Int) + (Down.length : Int))) (by kernel_rfl) (fun h240 => ?_) (fun h240 => ?_)
  ·have r241 := ite_t h240 r239
   refine q_ (.bool true) (n_' (n_' (n_' (n_' (n_' (n_' (q_ (.bool true) (q_ (.bool true) (n_' (n_' (n_' (n_' (n_' (n_' (n_' (q_ (.bool true) (q_ (.bool true) (n_' (n_' (n_' (n_' (n_' (n_' (n_' (q_ (.bool true) (s_nil ?_))))))))))))))))))))))))))
   obtain rfl := Option.some.inj r241
   exact k233 _ _ ⟨ha_, rfl⟩
  have r242 := ite_f h240 r239
  refine q_ (.bool false) (q_ (pt_ b26 3) ?_)
  refine l_' (.int .u32 y37.2.2.2) (aLoad Tryz.prog 86 (pt_ b26 3) H200) (u235.ld (by kernel_rfl)) ?_
  obtain ⟨g243, r244⟩ := G_some r242
  refine s_w (y37.2.2.2) (k := .u64) (x := y37.2.2.2) (by kernel_rfl) (wrapu64 g243) ?_
  refine q_ (i_ ((Up.length : Int) + (Down.length : Int))) ?_
  obtain ⟨g245, r246⟩ := G_some r244
  refine s_w (((Up.length : Int) + (Down.length : Int))) (k := .u64) (x := ((Up.length : Int) + (Down.length : Int))) (by kernel_rfl) (wrapu64 (by have := g245; omega)) ?_
  refine s_b (y37.2.2.2 ≥ ((Up.length : Int) + (Down.length : Int))) (by kernel_rfl) (fun h247 => ?_) (fun h247 => ?_)
  ·have r248 := ite_t h247 r246
   refine q_ (.bool true) (q_ (.bool true) (n_' (n_' (n_' (n_' (n_' (n_' (n_' (q_ (.bool true) (q_ (.bool true) (n_' (n_' (n_' (n_' (n_' (n_' (n_' (q_ (.bool true) (s_nil ?_)))))))))))))))))))
   obtain rfl := Option.some.inj r248
   exact k233 _ _ ⟨ha_, rfl⟩
  have r249 := ite_f h247 r246
  refine q_ (.bool false) (q_ (.bool false) (q_ (pt_ b26 2) ?_))
  refine l_' (.int .u32 y37.2.2.1) (aLoad Tryz.prog 86 (pt_ b26 2) H200) (u235.ld (by kernel_rfl)) ?_
  obtain ⟨g250, r251⟩ := G_some r249
  refine w_' y37.2.2.1 (wrap64 (by have := g250; omega)) ?_
  refine q_ (pt_ b7 2) ?_
  have u252 := ((((((((((u48.frS e54 Dj.nil_l).frS e61 Dj.nil_l).ext e70).frS e76 (hb71.djn (r11.ltF.le (ntr (ntr (ntr (ntr (ntr e15.next e28.next) e41.next) e45.next) e54.next) e61.next)))).frS e118 Dj.nil_l).frS e169 Dj.nil_l).frS e176 Dj.nil_l).ext e185).frS e191 (hb186.djn (r11.ltF.le (ntr (ntr (ntr (ntr (ntr (ntr (ntr (ntr (ntr (ntr e15.next e28.next) e41.next) e45.next) e54.next) e61.next) e70.next) e76.next) e118.next) e169.next) e176.next)))).frS e201 Dj.nil_l)
  refine l_' (hd_Up) (aLoad Tryz.prog 23 (pt_ b7 2) H200) (u252.ld (by kernel_rfl)) ?_
  have u253 := ((((((((((((u34.fr e41 Dj.nil_l).fr e45 (hb29.djn (h_Up.lt.le (ntr e9.next e15.next)))).fr e54 Dj.nil_l).fr e61 Dj.nil_l).ext e70).fr e76 (hb71.djn (h_Up.lt.le (ntr (ntr (ntr (ntr (ntr (ntr e9.next e15.next) e28.next) e41.next) e45.next) e54.next) e61.next)))).fr e118 Dj.nil_l).fr e169 Dj.nil_l).fr e176 Dj.nil_l).ext e185).fr e191 (hb186.djn (h_Up.lt.le (ntr (ntr (ntr (ntr (ntr (ntr (ntr (ntr (ntr (ntr (ntr e9.next e15.next) e28.next) e41.next) e45.next) e54.next) e61.next) e70.next) e76.next) e118.next) e169.next) e176.next)))).fr e201 Dj.nil_l)
  refine l_' (i_ (Up.length : Int)) (aLen Tryz.prog 23 hd_Up H200) (u253.lenb (by kernel_rfl)) ?_
  refine s_b (y37.2.2.1 < (Up.length : Int)) (by kernel_rfl) (fun h254 => ?_) (fun h254 => ?_)
  ·have r255 := ite_t h254 r251
   refine q_ (.bool true) (q_ (.bool true) (n_' (n_' (n_' (n_' (n_' (n_' (n_' (q_ (.bool true) (s_nil ?_))))))))))
   obtain rfl := Option.some.inj r255
   exact k233 _ _ ⟨ha_, rfl⟩
  have r256 := ite_f h254 r251
  refine q_ (.bool false) (q_ (.bool false) (q_ (pt_ b26 3) ?_))
  refine l_' (.int .u32 y37.2.2.2) (aLoad Tryz.prog 86 (pt_ b26 3) H200) (u235.ld (by kernel_rfl)) ?_
  obtain ⟨g257, r258⟩ := G_some r256
  refine w_' y37.2.2.2 (wrap64 (by have := g257; omega)) ?_
  refine q_ (pt_ b7 2) ?_
  refine l_' (hd_Up) (aLoad Tryz.prog 23 (pt_ b7 2) H200) (u252.ld (by kernel_rfl)) ?_
  refine l_' (i_ (Up.length : Int)) (aLen Tryz.prog 23 hd_Up H200) (u253.lenb (by kernel_rfl)) ?_
  refine q_ (.bool (decide (y37.2.2.2 ≥ (Up.length : Int)))) (q_ (.bool (decide (y37.2.2.2 ≥ (Up.length : Int)))) (s_nil ?_))
  obtain rfl := Option.some.inj r258
  exact k233 _ _ ⟨ha_, rfl⟩
 obtain ⟨hh234, rfl⟩ := hM
 obtain ⟨β, rfl⟩ := has_ex hh234
 clear hh234
 refine k227 _ _ ?_
 refine w_cond (o228) (by kernel_rfl) rfl (fun h259 => ?_) (fun h259 => ?_)
 ·have r260 := ite_t h259 r230
  refine w_seqk fun _ k261 => g_' ?_
  have u262 := ((((((r77.frS e118 Dj.nil_l).frS e169 Dj.nil_l).frS e176 Dj.nil_l).ext e185).frS e191 (hb186.djn (r72.ltF.le (ntr (ntr (ntr e76.next e118.next) e169.next) e176.next)))).frS e201 Dj.nil_l)
  refine l_' (.agg #[i_ y55.1, .slice a65 n66 c67]) (aLoad Tryz.prog 35 (pt_ b68 0) H200) (u262.ld (by kernel_rfl)) ?_
  have u267 := (((((((((((((r17.ext e28).frS e41 Dj.nil_l).frS e45 (hb29.djn r17.ltF)).frS e54 Dj.nil_l).frS e61 Dj.nil_l).ext e70).frS e76 (hb71.djn (r17.ltF.le (ntr (ntr (ntr (ntr e28.next e41.next) e45.next) e54.next) e61.next)))).frS e118 Dj.nil_l).frS e169 Dj.nil_l).frS e176 Dj.nil_l).ext e185).frS e191 (hb186.djn (r17.ltF.le (ntr (ntr (ntr (ntr (ntr (ntr (ntr (ntr (ntr e28.next e41.next) e45.next) e54.next) e61.next) e70.next) e76.next) e118.next) e169.next) e176.next)))).frS e201 Dj.nil_l)
  have u268 := (((((((u78.fr e76 (hb71.djn m62.lt)).fr e118 Dj.nil_l).fr e169 Dj.nil_l).fr e176 Dj.nil_l).ext e185).fr e191 (hb186.djn (m62.lt.le (ntr (ntr (ntr (ntr e70.next e76.next) e118.next) e169.next) e176.next)))).fr e201 Dj.nil_l)
  obtain ⟨H263, q264, e265, r266⟩ := Row.store (P := Tryz.prog) (t := 35) (p := 0) e201.wf u267 (.agg #[i_ y55.1, .slice a65 n66 c67]) [i_ y55.1, .slice a65 n66 c67] (by kernel_rfl) (by kernel_rfl) (one_cons (rfl) (one_cons (u268.one1) (one_nil))) (Nat.le_of_ble_eq_true (by kernel_rfl)) [i_ y55.1, .slice a65 n66 c67] (by kernel_rfl)
  refine s_ek (undef) (by kernel_rfl) (map_ok q264) ?_
  refine s_nil (k261 _ _ ?_)
  refine w_ret (th_ret ?_)
  refine b_ret (fn := Tryz.f34) (vs := [.agg #[i_ y55.1, .slice a65 n66 c67]]) (aRes_cell (Eq.trans (b := aLoad Tryz.prog 35 (pt_ b13 0) H263) (by kernel_rfl) (r266.ld (by kernel_rfl))) (rfl)) ?_
  have u269 := (u268.fr e265 (Dj.symm (i63.djn (r17.ltF.le (ntr (ntr (ntr e28.next e41.next) e45.next) e54.next)))))
  obtain rfl := Option.some.inj r260
  exact ⟨(.slice a65 n66 c67), f59, rfl, (FrS.step wf (FrS.step wf (FrS.step wf ((FrS.step wf (FrS.step wf (FrS.step wf (FrS.step wf ((FrS.step wf (FrS.step wf (FrS.step wf (FrS.step wf ((((FrS.refl (W := []) wf).extR e9).extR e15).extR e28) e41 Inn.nil) e45 (hb29.fresh (ntr e9.next e15.next))) e54 Inn.nil) e61 Inn.nil).extR e70) e76 (hb71.fresh (ntr (ntr (ntr (ntr (ntr (ntr e9.next e15.next) e28.next) e41.next) e45.next) e54.next) e61.next))) e118 Inn.nil) e169 Inn.nil) e176 Inn.nil).extR e185) e191 (hb186.fresh (ntr (ntr (ntr (ntr (ntr (ntr (ntr (ntr (ntr (ntr (ntr e9.next e15.next) e28.next) e41.next) e45.next) e54.next) e61.next) e70.next) e76.next) e118.next) e169.next) e176.next))) e201 Inn.nil) e265 (hb16.fresh e9.next)), u269, (i63.fresh (ntr (ntr (ntr (ntr (ntr e9.next e15.next) e28.next) e41.next) e45.next) e54.next))⟩
 have r270 := ite_bf h259 r230
 refine w_skip (k226 _ _ (w_seqk fun _ k271 => ?_))
 refine w_draw [0, 1, 2, 4, 5, 6, 7, 8, 10, 11, 12, 13, 14, 16, 17, 18, 3, 9, 15, 19, 20, 21] (by kernel_rfl) ?_
 have u272 := ((((((((((u48.frS e54 Dj.nil_l).frS e61 Dj.nil_l).ext e70).frS e76 (hb71.djn (r11.ltF.le (ntr (ntr (ntr (ntr (ntr e15.next e28.next) e41.next) e45.next) e54.next) e61.next)))).frS e118 Dj.nil_l).frS e169 Dj.nil_l).frS e176 Dj.nil_l).ext e185).frS e191 (hb186.djn (r11.ltF.le (ntr (ntr (ntr (ntr (ntr (ntr (ntr (ntr (ntr (ntr e15.next e28.next) e41.next) e45.next) e54.next) e61.next) e70.next) e76.next) e118.next) e169.next) e176.next)))).frS e201 Dj.nil_l)
 refine m_' (.agg #[hd_Node, hd_UpFirst, hd_Up, hd_DownFirst, hd_Down]) (aLoad Tryz.prog 25 (pt_ b7 0) H200) (u272.ld (by kernel_rfl)) ?_
 refine e_' (hd_ranks) (e_' (i_ i) ?_)
 refine d_fl (.agg #[hd_Node, hd_UpFirst, hd_Up, hd_DownFirst, hd_Down]) (x := aLoad Tryz.prog 25 (pt_ b7 0) H200) (by kernel_rfl) (u272.ld (by kernel_rfl)) ?_
 refine e_' (hd_ranks) (e_' (pt_ b26 2) ?_)
 have u273 := (u196.frS e201 Dj.nil_l)
 refine d_fl (.int .u32 y37.2.2.1) (x := aLoad Tryz.prog 86 (pt_ b26 2) H200) (by kernel_rfl) (u273.ld (by kernel_rfl)) ?_
 obtain ⟨g274, r275⟩ := G_some r270
 refine d_w (y37.2.2.1) (k := .i64) (x := y37.2.2.1) (by kernel_rfl) (wrap64 g274) ?_
 refine d_fl (.agg #[hd_Node, hd_UpFirst, hd_Up, hd_DownFirst, hd_Down]) (x := aLoad Tryz.prog 25 (pt_ b7 0) H200) (by kernel_rfl) (u272.ld (by kernel_rfl)) ?_
 refine e_' (hd_ranks) (e_' (pt_ b26 3) ?_)
 refine d_fl (.int .u32 y37.2.2.2) (x := aLoad Tryz.prog 86 (pt_ b26 3) H200) (by kernel_rfl) (u273.ld (by kernel_rfl)) ?_
 obtain ⟨g276, r277⟩ := G_some r275
 refine d_w (y37.2.2.2) (k := .i64) (x := y37.2.2.2) (by kernel_rfl) (wrap64 g276) ?_
 refine d_rwk e201.wf [i_ 0, i_ 0, i_ 0] (by kernel_rfl) fun b278 H279 e280 hb281 r282 => ?_
 refine d_rwk e280.wf [i_ 0, i_ 0, i_ 0] (by kernel_rfl) fun b284 H285 e286 hb287 r288 => ?_
 refine d_rwk e286.wf [i_ 0, i_ 0, i_ 0] (by kernel_rfl) fun b290 H291 e292 hb293 r294 => ?_
 have u296 := (((((((((((((((u32.fr e41 Dj.nil_l).fr e45 (hb29.djn (h_Node.lt.le (ntr e9.next e15.next)))).fr e54 Dj.nil_l).fr e61 Dj.nil_l).ext e70).fr e76 (hb71.djn (h_Node.lt.le (ntr (ntr (ntr (ntr (ntr (ntr e9.next e15.next) e28.next) e41.next) e45.next) e54.next) e61.next)))).fr e118 Dj.nil_l).fr e169 Dj.nil_l).fr e176 Dj.nil_l).ext e185).fr e191 (hb186.djn (h_Node.lt.le (ntr (ntr (ntr (ntr (ntr (ntr (ntr (ntr (ntr (ntr (ntr e9.next e15.next) e28.next) e41.next) e45.next) e54.next) e61.next) e70.next) e76.next) e118.next) e169.next) e176.next)))).fr e201 Dj.nil_l).ext e280).ext e286).ext e292)
 have u297 := (((((((((((((((u33.fr e41 Dj.nil_l).fr e45 (hb29.djn (h_UpFirst.lt.le (ntr e9.next e15.next)))).fr e54 Dj.nil_l).fr e61 Dj.nil_l).ext e70).fr e76 (hb71.djn (h_UpFirst.lt.le (ntr (ntr (ntr (ntr (ntr (ntr e9.next e15.next) e28.next) e41.next) e45.next) e54.next) e61.next)))).fr e118 Dj.nil_l).fr e169 Dj.nil_l).fr e176 Dj.nil_l).ext e185).fr e191 (hb186.djn (h_UpFirst.lt.le (ntr (ntr (ntr (ntr (ntr (ntr (ntr (ntr (ntr (ntr (ntr e9.next e15.next) e28.next) e41.next) e45.next) e54.next) e61.next) e70.next) e76.next) e118.next) e169.next) e176.next)))).fr e201 Dj.nil_l).ext e280).ext e286).ext e292)
 have u298 := (((((((((((((((u34.fr e41 Dj.nil_l).fr e45 (hb29.djn (h_Up.lt.le (ntr e9.next e15.next)))).fr e54 Dj.nil_l).fr e61 Dj.nil_l).ext e70).fr e76 (hb71.djn (h_Up.lt.le (ntr (ntr (ntr (ntr (ntr (ntr e9.next e15.next) e28.next) e41.next) e45.next) e54.next) e61.next)))).fr e118 Dj.nil_l).fr e169 Dj.nil_l).fr e176 Dj.nil_l).ext e185).fr e191 (hb186.djn (h_Up.lt.le (ntr (ntr (ntr (ntr (ntr (ntr (ntr (ntr (ntr (ntr (ntr e9.next e15.next) e28.next) e41.next) e45.next) e54.next) e61.next) e70.next) e76.next) e118.next) e169.next) e176.next)))).fr e201 Dj.nil_l).ext e280).ext e286).ext e292)
 have u299 := (((((((((((((((u35.fr e41 Dj.nil_l).fr e45 (hb29.djn (h_DownFirst.lt.le (ntr e9.next e15.next)))).fr e54 Dj.nil_l).fr e61 Dj.nil_l).ext e70).fr e76 (hb71.djn (h_DownFirst.lt.le (ntr (ntr (ntr (ntr (ntr (ntr e9.next e15.next) e28.next) e41.next) e45.next) e54.next) e61.next)))).fr e118 Dj.nil_l).fr e169 Dj.nil_l).fr e176 Dj.nil_l).ext e185).fr e191 (hb186.djn (h_DownFirst.lt.le (ntr (ntr (ntr (ntr (ntr (ntr (ntr (ntr (ntr (ntr (ntr e9.next e15.next) e28.next) e41.next) e45.next) e54.next) e61.next) e70.next) e76.next) e118.next) e169.next) e176.next)))).fr e201 Dj.nil_l).ext e280).ext e286).ext e292)
 have u300 := (((((((((((((((u36.fr e41 Dj.nil_l).fr e45 (hb29.djn (h_Down.lt.le (ntr e9.next e15.next)))).fr e54 Dj.nil_l).fr e61 Dj.nil_l).ext e70).fr e76 (hb71.djn (h_Down.lt.le (ntr (ntr (ntr (ntr (ntr (ntr e9.next e15.next) e28.next) e41.next) e45.next) e54.next) e61.next)))).fr e118 Dj.nil_l).fr e169 Dj.nil_l).fr e176 Dj.nil_l).ext e185).fr e191 (hb186.djn (h_Down.lt.le (ntr (ntr (ntr (ntr (ntr (ntr (ntr (ntr (ntr (ntr (ntr e9.next e15.next) e28.next) e41.next) e45.next) e54.next) e61.next) e70.next) e76.next) e118.next) e169.next) e176.next)))).fr e201 Dj.nil_l).ext e280).ext e286).ext e292)
 have u301 := ((((((((((((((((((h_ranks.ext e9).ext e15).ext e28).fr e41 Dj.nil_l).fr e45 (hb29.djn (h_ranks.lt.le (ntr e9.next e15.next)))).fr e54 Dj.nil_l).fr e61 Dj.nil_l).ext e70).fr e76 (hb71.djn (h_ranks.lt.le (ntr (ntr (ntr (ntr (ntr (ntr e9.next e15.next) e28.next) e41.next) e45.next) e54.next) e61.next)))).fr e118 Dj.nil_l).fr e169 Dj.nil_l).fr e176 Dj.nil_l).ext e185).fr e191 (hb186.djn (h_ranks.lt.le (ntr (ntr (ntr (ntr (ntr (ntr (ntr (ntr (ntr (ntr (ntr e9.next e15.next) e28.next) e41.next) e45.next) e54.next) e61.next) e70.next) e76.next) e118.next) e169.next) e176.next)))).fr e201 Dj.nil_l).ext e280).ext e286).ext e292)
 obtain ⟨y302, hy303, r304⟩ := bind_some r277
 refine d_ck 35 #[.agg #[hd_Node, hd_UpFirst, hd_Up, hd_DownFirst, hd_Down], hd_ranks, i_ i] (by kernel_rfl) (c_viaductref10_EndOf e292.wf u296 u297 u298 u299 u300 u301 hy303) ?_
 rintro _ H305 ⟨rfl, e306⟩
 have u307 := ((((u272.ext e280).ext e286).ext e292).frS e306 Dj.nil_l)
 have u308 := ((((u273.ext e280).ext e286).ext e292).frS e306 Dj.nil_l)
 refine ⟨st_ql (y := aLoad Tryz.prog 86 (pt_ b26 3) H305) (by kernel_rfl) (u308.ld (by kernel_rfl)) (st_ql (y := aLoad Tryz.prog 25 (pt_ b7 0) H305) (by kernel_rfl) (u307.ld (by kernel_rfl)) (st_ql (y := aLoad Tryz.prog 86 (pt_ b26 2) H305) (by kernel_rfl) (u308.ld (by kernel_rfl)) (st_ql (y := aLoad Tryz.prog 25 (pt_ b7 0) H305) (by kernel_rfl) (u307.ld (by kernel_rfl)) (st_nil)))), ?_⟩
 have u309 := (u296.fr e306 Dj.nil_l)
 have u310 := (u297.fr e306 Dj.nil_l)
 have u311 := (u298.fr e306 Dj.nil_l)
 have u312 := (u299.fr e306 Dj.nil_l)
 have u313 := (u300.fr e306 Dj.nil_l)
 have u314 := (u301.fr e306 Dj.nil_l)
 obtain ⟨y315, hy316, r317⟩ := bind_some r304
 refine d_ck 35 #[.agg #[hd_Node, hd_UpFirst, hd_Up, hd_DownFirst, hd_Down], hd_ranks, i_ y37.2.2.1] (by kernel_rfl) (c_viaductref10_EndOf e306.wf u309 u310 u311 u312 u313 u314 hy316) ?_
 rintro _ H318 ⟨rfl, e319⟩
 have u320 := (u307.frS e319 Dj.nil_l)
 have u321 := (u308.frS e319 Dj.nil_l)
 refine ⟨st_ql (y := aLoad Tryz.prog 86 (pt_ b26 3) H318) (by kernel_rfl) (u321.ld (by kernel_rfl)) (st_ql (y := aLoad Tryz.prog 25 (pt_ b7 0) H318) (by kernel_rfl) (u320.ld (by kernel_rfl)) (st_anc (by kernel_rfl) (st_anc (by kernel_rfl) (st_nil)))), ?_⟩
 have u322 := (u309.fr e319 Dj.nil_l)
 have u323 := (u310.fr e319 Dj.nil_l)
 have u324 := (u311.fr e319 Dj.nil_l)
 have u325 := (u312.fr e319 Dj.nil_l)
 have u326 := (u313.fr e319 Dj.nil_l)
 have u327 := (u314.fr e319 Dj.nil_l)
 obtain ⟨y328, hy329, r330⟩ := bind_some r317
 refine d_ck 35 #[.agg #[hd_Node, hd_UpFirst, hd_Up, hd_DownFirst, hd_Down], hd_ranks, i_ y37.2.2.2] (by kernel_rfl) (c_viaductref10_EndOf e319.wf u322 u323 u324 u325 u326 u327 hy329) ?_
 rintro _ H331 ⟨rfl, e332⟩
 refine ⟨st_anc (by kernel_rfl) (st_anc (by kernel_rfl) (st_anc (by kernel_rfl) (st_anc (by kernel_rfl) (st_nil)))), ?_⟩
 have u337 := (((((r282.ext e286).ext e292).frS e306 Dj.nil_l).frS e319 Dj.nil_l).frS e332 Dj.nil_l)
 obtain ⟨H333, q334, e335, r336⟩ := Row.store (P := Tryz.prog) (t := 96) (p := 0) e332.wf u337 (.agg #[i_ y302.1, i_ y302.2.1, i_ y302.2.2]) [i_ y302.1, i_ y302.2.1, i_ y302.2.2] (by kernel_rfl) (by kernel_rfl) (one_cons (rfl) (one_cons (rfl) (one_cons (rfl) (one_nil)))) (Nat.le_of_ble_eq_true (by kernel_rfl)) [i_ y302.1, i_ y302.2.1, i_ y302.2.2] (by kernel_rfl)
 refine d_ek (undef) (by kernel_rfl) (map_ok q334) (st_anc (by kernel_rfl) (st_anc (by kernel_rfl) (st_anc (by kernel_rfl) (st_anc (by kernel_rfl) (st_nil))))) ?_
 have u342 := (((((r288.ext e292).frS e306 Dj.nil_l).frS e319 Dj.nil_l).frS e332 Dj.nil_l).frS e335 (Dj.symm (hb287.djn r282.ltF)))
 obtain ⟨H338, q339, e340, r341⟩ := Row.store (P := Tryz.prog) (t := 96) (p := 0) e335.wf u342 (.agg #[i_ y315.1, i_ y315.2.1, i_ y315.2.2]) [i_ y315.1, i_ y315.2.1, i_ y315.2.2] (by kernel_rfl) (by kernel_rfl) (one_cons (rfl) (one_cons (rfl) (one_cons (rfl) (one_nil)))) (Nat.le_of_ble_eq_true (by kernel_rfl)) [i_ y315.1, i_ y315.2.1, i_ y315.2.2] (by kernel_rfl)
 refine d_ek (undef) (by kernel_rfl) (map_ok q339) (st_anc (by kernel_rfl) (st_anc (by kernel_rfl) (st_anc (by kernel_rfl) (st_anc (by kernel_rfl) (st_nil))))) ?_
 have u347 := (((((r294.frS e306 Dj.nil_l).frS e319 Dj.nil_l).frS e332 Dj.nil_l).frS e335 (Dj.symm (hb293.djn (r282.ltF.le e286.next)))).frS e340 (Dj.symm (hb293.djn r288.ltF)))
 obtain ⟨H343, q344, e345, r346⟩ := Row.store (P := Tryz.prog) (t := 96) (p := 0) e340.wf u347 (.agg #[i_ y328.1, i_ y328.2.1, i_ y328.2.2]) [i_ y328.1, i_ y328.2.1, i_ y328.2.2] (by kernel_rfl) (by kernel_rfl) (one_cons (rfl) (one_cons (rfl) (one_cons (rfl) (one_nil)))) (Nat.le_of_ble_eq_true (by kernel_rfl)) [i_ y328.1, i_ y328.2.1, i_ y328.2.2] (by kernel_rfl)
 refine d_ek (undef) (by kernel_rfl) (map_ok q344) (st_anc (by kernel_rfl) (st_anc (by kernel_rfl) (st_anc (by kernel_rfl) (st_anc (by kernel_rfl) (st_nil))))) ?_
 refine d_nil ?_
 refine k271 _ _ (w_seqk fun _ k348 => w_seqk fun _ k349 => ?_)
 obtain ⟨o350, hx351, r352⟩ := bind_some r330
 refine w_mid (fun α H353 => Has α [(3, pt_ b7 0), (6, pt_ b13 0), (7, pt_ b26 0), (10, pt_ b68 0), (11, pt_ b183 0), (159, .bool o350)] ∧ H343 = H353) (fun _ k355 => ?_) (fun α H353 hM => ?_)
 ·refine g_' (q_ (pt_ b284 0) ?_)
  have u357 := (r341.frS e345 (hb293.djn r288.ltF))
  refine l_' (i_ y315.1) (aLoad Tryz.prog 3 (pt_ b284 0) H343) (u357.ld (by kernel_rfl)) ?_
  refine q_ (pt_ b278 0) ?_
  have u358 := ((r336.frS e340 (hb287.djn r282.ltF)).frS e345 (hb293.djn (r282.ltF.le e286.next)))
  refine l_' (i_ y302.1) (aLoad Tryz.prog 3 (pt_ b278 0) H343) (u358.ld (by kernel_rfl)) ?_
  refine s_bn (y315.1 = y302.1) (by kernel_rfl) (fun h359 => ?_) (fun h359 => ?_)
  ·have r360 := ite_t h359 hx351
   refine q_ (.bool false) (q_ (pt_ b290 1) ?_)
   refine l_' (i_ y328.2.1) (aLoad Tryz.prog 3 (pt_ b290 1) H343) (r346.ld (by kernel_rfl)) ?_
   refine q_ (pt_ b278 1) ?_
   refine l_' (i_ y302.2.1) (aLoad Tryz.prog 3 (pt_ b278 1) H343) (u358.ld (by kernel_rfl)) ?_
   refine s_bn (y328.2.1 = y302.2.1) (by kernel_rfl) (fun h361 => ?_) (fun h361 => ?_)
   ·have r362 := ite_t h361 r360
    refine q_ (.bool false) (q_ (.bool false) (q_ (pt_ b284 2) ?_))
    refine l_' (i_ y315.2.2) (aLoad Tryz.prog 3 (pt_ b284 2) H343) (u357.ld (by kernel_rfl)) ?_
    refine q_ (pt_ b290 2) ?_
    refine l_' (i_ y328.2.2) (aLoad Tryz.prog 3 (pt_ b290 2) H343) (r346.ld (by kernel_rfl)) ?_
    refine q_ (.bool (!decide (y315.2.2 = y328.2.2))) (q_ (.bool (!decide (y315.2.2 = y328.2.2))) (s_nil ?_))
    obtain rfl := Option.some.inj r362
    exact k355 _ _ ⟨ha_, rfl⟩
   have r363 := ite_f h361 r360
   refine q_ (.bool true) (q_ (.bool true) (n_' (n_' (n_' (n_' (n_' (q_ (.bool true) (s_nil ?_))))))))
   obtain rfl := Option.some.inj r363
   exact k355 _ _ ⟨ha_, rfl⟩
  have r364 := ite_f h359 hx351
  refine q_ (.bool true) (n_' (n_' (n_' (n_' (n_' (q_ (.bool true) (q_ (.bool true) (n_' (n_' (n_' (n_' (n_' (q_ (.bool true) (s_nil ?_))))))))))))))
  obtain rfl := Option.some.inj r364
  exact k355 _ _ ⟨ha_, rfl⟩
 obtain ⟨hh356, rfl⟩ := hM
 obtain ⟨β, rfl⟩ := has_ex hh356
 clear hh356
 refine k349 _ _ ?_
 refine w_cond (o350) (by kernel_rfl) rfl (fun h365 => ?_) (fun h365 => ?_)
 ·have r366 := ite_t h365 r352
  refine w_seqk fun _ k367 => g_' ?_
  have u368 := (((((((((((((((r77.frS e118 Dj.nil_l).frS e169 Dj.nil_l).frS e176 Dj.nil_l).ext e185).frS e191 (hb186.djn (r72.ltF.le (ntr (ntr (ntr e76.next e118.next) e169.next) e176.next)))).frS e201 Dj.nil_l).ext e280).ext e286).ext e292).frS e306 Dj.nil_l).frS e319 Dj.nil_l).frS e332 Dj.nil_l).frS e335 (hb281.djn (r72.ltF.le (ntr (ntr (ntr (ntr (ntr (ntr e76.next e118.next) e169.next) e176.next) e185.next) e191.next) e201.next)))).frS e340 (hb287.djn (r72.ltF.le (ntr (ntr (ntr (ntr (ntr (ntr (ntr e76.next e118.next) e169.next) e176.next) e185.next) e191.next) e201.next) e280.next)))).frS e345 (hb293.djn (r72.ltF.le (ntr (ntr (ntr (ntr (ntr (ntr (ntr (ntr e76.next e118.next) e169.next) e176.next) e185.next) e191.next) e201.next) e280.next) e286.next))))
  refine l_' (.agg #[i_ y55.1, .slice a65 n66 c67]) (aLoad Tryz.prog 35 (pt_ b68 0) H343) (u368.ld (by kernel_rfl)) ?_
  have u373 := ((((((((((((((((((((((r17.ext e28).frS e41 Dj.nil_l).frS e45 (hb29.djn r17.ltF)).frS e54 Dj.nil_l).frS e61 Dj.nil_l).ext e70).frS e76 (hb71.djn (r17.ltF.le (ntr (ntr (ntr (ntr e28.next e41.next) e45.next) e54.next) e61.next)))).frS e118 Dj.nil_l).frS e169 Dj.nil_l).frS e176 Dj.nil_l).ext e185).frS e191 (hb186.djn (r17.ltF.le (ntr (ntr (ntr (ntr (ntr (ntr (ntr (ntr (ntr e28.next e41.next) e45.next) e54.next) e61.next) e70.next) e76.next) e118.next) e169.next) e176.next)))).frS e201 Dj.nil_l).ext e280).ext e286).ext e292).frS e306 Dj.nil_l).frS e319 Dj.nil_l).frS e332 Dj.nil_l).frS e335 (hb281.djn (r17.ltF.le (ntr (ntr (ntr (ntr (ntr (ntr (ntr (ntr (ntr (ntr (ntr (ntr e28.next e41.next) e45.next) e54.next) e61.next) e70.next) e76.next) e118.next) e169.next) e176.next) e185.next) e191.next) e201.next)))).frS e340 (hb287.djn (r17.ltF.le (ntr (ntr (ntr (ntr (ntr (ntr (ntr (ntr (ntr (ntr (ntr (ntr (ntr e28.next e41.next) e45.next) e54.next) e61.next) e70.next) e76.next) e118.next) e169.next) e176.next) e185.next) e191.next) e201.next) e280.next)))).frS e345 (hb293.djn (r17.ltF.le (ntr (ntr (ntr (ntr (ntr (ntr (ntr (ntr (ntr (ntr (ntr (ntr (ntr (ntr e28.next e41.next) e45.next) e54.next) e61.next) e70.next) e76.next) e118.next) e169.next) e176.next) e185.next) e191.next) e201.next) e280.next) e286.next))))
  have u374 := ((((((((((((((((u78.fr e76 (hb71.djn m62.lt)).fr e118 Dj.nil_l).fr e169 Dj.nil_l).fr e176 Dj.nil_l).ext e185).fr e191 (hb186.djn (m62.lt.le (ntr (ntr (ntr (ntr e70.next e76.next) e118.next) e169.next) e176.next)))).fr e201 Dj.nil_l).ext e280).ext e286).ext e292).fr e306 Dj.nil_l).fr e319 Dj.nil_l).fr e332 Dj.nil_l).fr e335 (hb281.djn (m62.lt.le (ntr (ntr (ntr (ntr (ntr (ntr (ntr e70.next e76.next) e118.next) e169.next) e176.next) e185.next) e191.next) e201.next)))).fr e340 (hb287.djn (m62.lt.le (ntr (ntr (ntr (ntr (ntr (ntr (ntr (ntr e70.next e76.next) e118.next) e169.next) e176.next) e185.next) e191.next) e201.next) e280.next)))).fr e345 (hb293.djn (m62.lt.le (ntr (ntr (ntr (ntr (ntr (ntr (ntr (ntr (ntr e70.next e76.next) e118.next) e169.next) e176.next) e185.next) e191.next) e201.next) e280.next) e286.next))))
  obtain ⟨H369, q370, e371, r372⟩ := Row.store (P := Tryz.prog) (t := 35) (p := 0) e345.wf u373 (.agg #[i_ y55.1, .slice a65 n66 c67]) [i_ y55.1, .slice a65 n66 c67] (by kernel_rfl) (by kernel_rfl) (one_cons (rfl) (one_cons (u374.one1) (one_nil))) (Nat.le_of_ble_eq_true (by kernel_rfl)) [i_ y55.1, .slice a65 n66 c67] (by kernel_rfl)
  refine s_ek (undef) (by kernel_rfl) (map_ok q370) ?_
  refine s_nil (k367 _ _ ?_)
  refine w_ret (th_ret ?_)
  refine b_ret (fn := Tryz.f34) (vs := [.agg #[i_ y55.1, .slice a65 n66 c67]]) (aRes_cell (Eq.trans (b := aLoad Tryz.prog 35 (pt_ b13 0) H369) (by kernel_rfl) (r372.ld (by kernel_rfl))) (rfl)) ?_
  have c375 := ((FrS.step wf (FrS.step wf (FrS.step wf (FrS.step wf ((((FrS.refl (W := []) wf).extR e9).extR e15).extR e28) e41 Inn.nil) e45 (hb29.fresh (ntr e9.next e15.next))) e54 Inn.nil) e61 Inn.nil).extR e70)
  have n376 := (ntr (ntr (ntr (ntr (ntr (ntr (ntr e9.next e15.next) e28.next) e41.next) e45.next) e54.next) e61.next) e70.next)
  have n377 := (ntr (ntr (ntr (ntr (ntr (ntr (ntr e76.next e118.next) e169.next) e176.next) e185.next) e191.next) e201.next) e280.next)
  have u378 := (u374.fr e371 (Dj.symm (i63.djn (r17.ltF.le (ntr (ntr (ntr e28.next e41.next) e45.next) e54.next)))))
  obtain rfl := Option.some.inj r366
  exact ⟨(.slice a65 n66 c67), f59, rfl, (FrS.step wf (FrS.step wf (FrS.step wf (FrS.step wf (FrS.step wf (FrS.step wf (FrS.step wf ((((FrS.step wf (FrS.step wf ((FrS.step wf (FrS.step wf (FrS.step wf (FrS.step wf (FrS.step wf (FrS.refl (W := []) wf) c375 Inn.nil) e76 (hb71.fresh (ntr (ntr (ntr (ntr (ntr (ntr e9.next e15.next) e28.next) e41.next) e45.next) e54.next) e61.next))) e118 Inn.nil) e169 Inn.nil) e176 Inn.nil).extR e185) e191 (hb186.fresh (ntr (ntr (ntr (ntr (ntr (ntr (ntr (ntr (ntr (ntr (ntr e9.next e15.next) e28.next) e41.next) e45.next) e54.next) e61.next) e70.next) e76.next) e118.next) e169.next) e176.next))) e201 Inn.nil).extR e280).extR e286).extR e292) e306 Inn.nil) e319 Inn.nil) e332 Inn.nil) e335 (hb281.fresh (ntr (ntr (ntr (ntr (ntr (ntr (ntr (ntr (ntr (ntr (ntr (ntr (ntr (ntr e9.next e15.next) e28.next) e41.next) e45.next) e54.next) e61.next) e70.next) e76.next) e118.next) e169.next) e176.next) e185.next) e191.next) e201.next))) e340 (hb287.fresh (ntr n376 n377))) e345 (hb293.fresh (ntr (ntr n376 n377) e286.next))) e371 (hb16.fresh e9.next)), u378, (i63.fresh (ntr (ntr (ntr (ntr (ntr e9.next e15.next) e28.next) e41.next) e45.next) e54.next))⟩
 have r379 := ite_bf h365 r352
 refine w_skip (k348 _ _ (w_seqk fun _ k380 => ?_))
 refine w_draw [0, 1, 2, 3, 6, 7, 8, 9, 4, 5, 10, 11, 12, 13] (by kernel_rfl) ?_
 have n381 := (ntr (ntr (ntr (ntr (ntr (ntr (ntr e76.next e118.next) e169.next) e176.next) e185.next) e191.next) e201.next) e280.next)
 have u382 := ((((u320.frS e332 Dj.nil_l).frS e335 (hb281.djn (r11.ltF.le (ntr (ntr (ntr (ntr (ntr (ntr (ntr (ntr (ntr (ntr (ntr (ntr (ntr e15.next e28.next) e41.next) e45.next) e54.next) e61.next) e70.next) e76.next) e118.next) e169.next) e176.next) e185.next) e191.next) e201.next)))).frS e340 (hb287.djn (r11.ltF.le (ntr (ntr (ntr (ntr (ntr (ntr (ntr (ntr (ntr (ntr (ntr (ntr (ntr (ntr e15.next e28.next) e41.next) e45.next) e54.next) e61.next) e70.next) e76.next) e118.next) e169.next) e176.next) e185.next) e191.next) e201.next) e280.next)))).frS e345 (hb293.djn (r11.ltF.le (ntr (ntr (ntr (ntr (ntr (ntr (ntr (ntr e15.next e28.next) e41.next) e45.next) e54.next) e61.next) e70.next) n381) e286.next))))
 refine m_' (.agg #[hd_Node, hd_UpFirst, hd_Up, hd_DownFirst, hd_Down]) (aLoad Tryz.prog 25 (pt_ b7 0) H343) (u382.ld (by kernel_rfl)) ?_
 refine e_' (pt_ b26 2) ?_
 have u383 := ((((u321.frS e332 Dj.nil_l).frS e335 (hb281.djn (r30.ltF.le (ntr (ntr (ntr (ntr (ntr (ntr (ntr (ntr (ntr (ntr (ntr e41.next e45.next) e54.next) e61.next) e70.next) e76.next) e118.next) e169.next) e176.next) e185.next) e191.next) e201.next)))).frS e340 (hb287.djn (r30.ltF.le (ntr (ntr (ntr (ntr (ntr (ntr (ntr (ntr (ntr (ntr (ntr (ntr e41.next e45.next) e54.next) e61.next) e70.next) e76.next) e118.next) e169.next) e176.next) e185.next) e191.next) e201.next) e280.next)))).frS e345 (hb293.djn (r30.ltF.le (ntr (ntr (ntr (ntr (ntr (ntr (ntr (ntr (ntr (ntr (ntr (ntr (ntr e41.next e45.next) e54.next) e61.next) e70.next) e76.next) e118.next) e169.next) e176.next) e185.next) e191.next) e201.next) e280.next) e286.next))))
 refine m_' (.int .u32 y37.2.2.1) (aLoad Tryz.prog 86 (pt_ b26 2) H343) (u383.ld (by kernel_rfl)) ?_
 refine d_w (y37.2.2.1) (k := .i64) (x := y37.2.2.1) (by kernel_rfl) (wrap64 g274) ?_
 refine d_fl (.agg #[hd_Node, hd_UpFirst, hd_Up, hd_DownFirst, hd_Down]) (x := aLoad Tryz.prog 25 (pt_ b7 0) H343) (by kernel_rfl) (u382.ld (by kernel_rfl)) ?_
 refine e_' (pt_ b26 3) ?_
 refine d_fl (.int .u32 y37.2.2.2) (x := aLoad Tryz.prog 86 (pt_ b26 3) H343) (by kernel_rfl) (u383.ld (by kernel_rfl)) ?_
 refine d_w (y37.2.2.2) (k := .i64) (x := y37.2.2.2) (by kernel_rfl) (wrap64 g276) ?_
 have n384 := (ntr (ntr (ntr (ntr (ntr (ntr (ntr e9.next e15.next) e28.next) e41.next) e45.next) e54.next) e61.next) e70.next)
 have u385 := ((((u322.fr e332 Dj.nil_l).fr e335 (hb281.djn (h_Node.lt.le (ntr (ntr (ntr (ntr (ntr (ntr (ntr (ntr (ntr (ntr (ntr (ntr (ntr (ntr e9.next e15.next) e28.next) e41.next) e45.next) e54.next) e61.next) e70.next) e76.next) e118.next) e169.next) e176.next) e185.next) e191.next) e201.next)))).fr e340 (hb287.djn (h_Node.lt.le (ntr n384 n381)))).fr e345 (hb293.djn (h_Node.lt.le (ntr (ntr n384 n381) e286.next))))
 have u386 := ((((u323.fr e332 Dj.nil_l).fr e335 (hb281.djn (h_UpFirst.lt.le (ntr (ntr (ntr (ntr (ntr (ntr (ntr (ntr (ntr (ntr (ntr (ntr (ntr (ntr e9.next e15.next) e28.next) e41.next) e45.next) e54.next) e61.next) e70.next) e76.next) e118.next) e169.next) e176.next) e185.next) e191.next) e201.next)))).fr e340 (hb287.djn (h_UpFirst.lt.le (ntr n384 n381)))).fr e345 (hb293.djn (h_UpFirst.lt.le (ntr (ntr n384 n381) e286.next))))
 have u387 := ((((u324.fr e332 Dj.nil_l).fr e335 (hb281.djn (h_Up.lt.le (ntr (ntr (ntr (ntr (ntr (ntr (ntr (ntr (ntr (ntr (ntr (ntr (ntr (ntr e9.next e15.next) e28.next) e41.next) e45.next) e54.next) e61.next) e70.next) e76.next) e118.next) e169.next) e176.next) e185.next) e191.next) e201.next)))).fr e340 (hb287.djn (h_Up.lt.le (ntr n384 n381)))).fr e345 (hb293.djn (h_Up.lt.le (ntr (ntr n384 n381) e286.next))))
 have u388 := ((((u325.fr e332 Dj.nil_l).fr e335 (hb281.djn (h_DownFirst.lt.le (ntr (ntr (ntr (ntr (ntr (ntr (ntr (ntr (ntr (ntr (ntr (ntr (ntr (ntr e9.next e15.next) e28.next) e41.next) e45.next) e54.next) e61.next) e70.next) e76.next) e118.next) e169.next) e176.next) e185.next) e191.next) e201.next)))).fr e340 (hb287.djn (h_DownFirst.lt.le (ntr n384 n381)))).fr e345 (hb293.djn (h_DownFirst.lt.le (ntr (ntr n384 n381) e286.next))))
 have u389 := ((((u326.fr e332 Dj.nil_l).fr e335 (hb281.djn (h_Down.lt.le (ntr (ntr (ntr (ntr (ntr (ntr (ntr (ntr (ntr (ntr (ntr (ntr (ntr (ntr e9.next e15.next) e28.next) e41.next) e45.next) e54.next) e61.next) e70.next) e76.next) e118.next) e169.next) e176.next) e185.next) e191.next) e201.next)))).fr e340 (hb287.djn (h_Down.lt.le (ntr n384 n381)))).fr e345 (hb293.djn (h_Down.lt.le (ntr (ntr n384 n381) e286.next))))
 obtain ⟨y390, hy391, r392⟩ := bind_some r379
 refine d_ck 59 #[.agg #[hd_Node, hd_UpFirst, hd_Up, hd_DownFirst, hd_Down], i_ y37.2.2.1] (by kernel_rfl) (c_viaductref10_Link e345.wf u385 u386 u387 u388 u389 hy391) ?_
 rintro _ H393 ⟨rfl, e394⟩
 have u395 := (u382.frS e394 Dj.nil_l)
 have u396 := (u383.frS e394 Dj.nil_l)
 refine ⟨st_ql (y := aLoad Tryz.prog 86 (pt_ b26 3) H393) (by kernel_rfl) (u396.ld (by kernel_rfl)) (st_ql (y := aLoad Tryz.prog 25 (pt_ b7 0) H393) (by kernel_rfl) (u395.ld (by kernel_rfl)) (st_nil)), ?_⟩
 refine e_' (.int .u64 y390.2.1) ?_
 have u397 := (u385.fr e394 Dj.nil_l)
 have u398 := (u386.fr e394 Dj.nil_l)
 have u399 := (u387.fr e394 Dj.nil_l)
 have u400 := (u388.fr e394 Dj.nil_l)
 have u401 := (u389.fr e394 Dj.nil_l)
 obtain ⟨y402, hy403, r404⟩ := bind_some r392
 refine d_ck 59 #[.agg #[hd_Node, hd_UpFirst, hd_Up, hd_DownFirst, hd_Down], i_ y37.2.2.2] (by kernel_rfl) (c_viaductref10_Link e394.wf u397 u398 u399 u400 u401 hy403) ?_
 rintro _ H405 ⟨rfl, e406⟩
 refine ⟨st_anc (by kernel_rfl) (st_anc (by kernel_rfl) (st_nil)), ?_⟩
 refine e_' (.int .u64 y402.2.1) (e_' (.int .u64 y390.2.1) (e_' (.int .u64 y402.2.1) ?_))
 refine d_nil ?_
 refine k380 _ _ (w_seqk fun _ k407 => w_seqk fun _ k408 => g_' (q_ (pt_ b26 1) ?_))
 have u409 := (u396.frS e406 Dj.nil_l)
 refine l_' (.int .u64 y37.2.1) (aLoad Tryz.prog 87 (pt_ b26 1) H405) (u409.ld (by kernel_rfl)) ?_
 refine s_b (y37.2.1 > 140737488355328) (by kernel_rfl) (fun h410 => ?_) (fun h410 => ?_)
 ·have r411 := ite_t h410 r404
  refine q_ (.bool true) (n_' (n_' (q_ (.bool true) (q_ (.bool true) (n_' (n_' (q_ (.bool true) (q_ (.bool true) (n_' (n_' (n_' (n_' (n_' (n_' (q_ (.bool true) (s_nil (k408 _ _ ?_)))))))))))))))))
  refine w_cond true (by kernel_rfl) rfl (fun _ => ?_) (fun h => by cases h)
  refine w_seqk fun _ k412 => g_' ?_
  have u413 := ((((((((((((r192.frS e201 Dj.nil_l).ext e280).ext e286).ext e292).frS e306 Dj.nil_l).frS e319 Dj.nil_l).frS e332 Dj.nil_l).frS e335 (hb281.djn (r187.ltF.le (ntr e191.next e201.next)))).frS e340 (hb287.djn (r187.ltF.le (ntr (ntr e191.next e201.next) e280.next)))).frS e345 (hb293.djn (r187.ltF.le (ntr (ntr (ntr e191.next e201.next) e280.next) e286.next)))).frS e394 Dj.nil_l).frS e406 Dj.nil_l)
  refine l_' (.agg #[i_ y170.1, .slice a180 n181 c182]) (aLoad Tryz.prog 35 (pt_ b183 0) H405) (u413.ld (by kernel_rfl)) ?_
  have u418 := ((((((((((((((((((((((((r17.ext e28).frS e41 Dj.nil_l).frS e45 (hb29.djn r17.ltF)).frS e54 Dj.nil_l).frS e61 Dj.nil_l).ext e70).frS e76 (hb71.djn (r17.ltF.le (ntr (ntr (ntr (ntr e28.next e41.next) e45.next) e54.next) e61.next)))).frS e118 Dj.nil_l).frS e169 Dj.nil_l).frS e176 Dj.nil_l).ext e185).frS e191 (hb186.djn (r17.ltF.le (ntr (ntr (ntr (ntr (ntr (ntr (ntr (ntr (ntr e28.next e41.next) e45.next) e54.next) e61.next) e70.next) e76.next) e118.next) e169.next) e176.next)))).frS e201 Dj.nil_l).ext e280).ext e286).ext e292).frS e306 Dj.nil_l).frS e319 Dj.nil_l).frS e332 Dj.nil_l).frS e335 (hb281.djn (r17.ltF.le (ntr (ntr (ntr (ntr (ntr (ntr (ntr (ntr (ntr (ntr (ntr (ntr e28.next e41.next) e45.next) e54.next) e61.next) e70.next) e76.next) e118.next) e169.next) e176.next) e185.next) e191.next) e201.next)))).frS e340 (hb287.djn (r17.ltF.le (ntr (ntr (ntr (ntr (ntr (ntr (ntr (ntr (ntr (ntr (ntr (ntr (ntr e28.next e41.next) e45.next) e54.next) e61.next) e70.next) e76.next) e118.next) e169.next) e176.next) e185.next) e191.next) e201.next) e280.next)))).frS e345 (hb293.djn (r17.ltF.le (ntr (ntr (ntr (ntr (ntr (ntr (ntr (ntr (ntr (ntr (ntr (ntr (ntr (ntr e28.next e41.next) e45.next) e54.next) e61.next) e70.next) e76.next) e118.next) e169.next) e176.next) e185.next) e191.next) e201.next) e280.next) e286.next)))).frS e394 Dj.nil_l).frS e406 Dj.nil_l)
  have u419 := (((((((((((((u193.fr e191 (hb186.djn m177.lt)).fr e201 Dj.nil_l).ext e280).ext e286).ext e292).fr e306 Dj.nil_l).fr e319 Dj.nil_l).fr e332 Dj.nil_l).fr e335 (hb281.djn (m177.lt.le (ntr (ntr e185.next e191.next) e201.next)))).fr e340 (hb287.djn (m177.lt.le (ntr (ntr (ntr e185.next e191.next) e201.next) e280.next)))).fr e345 (hb293.djn (m177.lt.le (ntr (ntr (ntr (ntr e185.next e191.next) e201.next) e280.next) e286.next)))).fr e394 Dj.nil_l).fr e406 Dj.nil_l)
  obtain ⟨H414, q415, e416, r417⟩ := Row.store (P := Tryz.prog) (t := 35) (p := 0) e406.wf u418 (.agg #[i_ y170.1, .slice a180 n181 c182]) [i_ y170.1, .slice a180 n181 c182] (by kernel_rfl) (by kernel_rfl) (one_cons (rfl) (one_cons (u419.one1) (one_nil))) (Nat.le_of_ble_eq_true (by kernel_rfl)) [i_ y170.1, .slice a180 n181 c182] (by kernel_rfl)
  refine s_ek (undef) (by kernel_rfl) (map_ok q415) ?_
  refine s_nil (k412 _ _ ?_)
  refine w_ret (th_ret ?_)
  refine b_ret (fn := Tryz.f34) (vs := [.agg #[i_ y170.1, .slice a180 n181 c182]]) (aRes_cell (Eq.trans (b := aLoad Tryz.prog 35 (pt_ b13 0) H414) (by kernel_rfl) (r417.ld (by kernel_rfl))) (rfl)) ?_
  have c420 := ((FrS.step wf (FrS.step wf (FrS.step wf (FrS.step wf ((((FrS.refl (W := []) wf).extR e9).extR e15).extR e28) e41 Inn.nil) e45 (hb29.fresh (ntr e9.next e15.next))) e54 Inn.nil) e61 Inn.nil).extR e70)
  have u421 := (u419.fr e416 (Dj.symm (i178.djn (r17.ltF.le (ntr (ntr (ntr (ntr (ntr (ntr (ntr (ntr e28.next e41.next) e45.next) e54.next) e61.next) e70.next) e76.next) e118.next) e169.next)))))
  obtain rfl := Option.some.inj r411
  exact ⟨(.slice a180 n181 c182), f174, rfl, (FrS.step wf (FrS.step wf (FrS.step wf (FrS.step wf (FrS.step wf (FrS.step wf (FrS.step wf (FrS.step wf (FrS.step wf ((((FrS.step wf (FrS.step wf ((FrS.step wf (FrS.step wf (FrS.step wf (FrS.step wf (FrS.step wf (FrS.refl (W := []) wf) c420 Inn.nil) e76 (hb71.fresh (ntr (ntr (ntr (ntr (ntr (ntr e9.next e15.next) e28.next) e41.next) e45.next) e54.next) e61.next))) e118 Inn.nil) e169 Inn.nil) e176 Inn.nil).extR e185) e191 (hb186.fresh (ntr (ntr (ntr (ntr (ntr (ntr (ntr (ntr (ntr (ntr (ntr e9.next e15.next) e28.next) e41.next) e45.next) e54.next) e61.next) e70.next) e76.next) e118.next) e169.next) e176.next))) e201 Inn.nil).extR e280).extR e286).extR e292) e306 Inn.nil) e319 Inn.nil) e332 Inn.nil) e335 (hb281.fresh (ntr (ntr (ntr (ntr (ntr (ntr (ntr (ntr (ntr (ntr (ntr (ntr (ntr (ntr e9.next e15.next) e28.next) e41.next) e45.next) e54.next) e61.next) e70.next) e76.next) e118.next) e169.next) e176.next) e185.next) e191.next) e201.next))) e340 (hb287.fresh (ntr n384 n381))) e345 (hb293.fresh (ntr (ntr n384 n381) e286.next))) e394 Inn.nil) e406 Inn.nil) e416 (hb16.fresh e9.next)), u421, (i178.fresh (ntr (ntr (ntr (ntr (ntr (ntr (ntr (ntr (ntr (ntr e9.next e15.next) e28.next) e41.next) e45.next) e54.next) e61.next) e70.next) e76.next) e118.next) e169.next))⟩
 have r422 := ite_f h410 r404
 refine q_ (.bool false) (q_ (.int .u64 y390.2.1) ?_)
 refine s_b (y390.2.1 > 140737488355328) (by kernel_rfl) (fun h423 => ?_) (fun h423 => ?_)
 ·have r424 := ite_t h423 r422
  refine q_ (.bool true) (q_ (.bool true) (n_' (n_' (q_ (.bool true) (q_ (.bool true) (n_' (n_' (n_' (n_' (n_' (n_' (q_ (.bool true) (s_nil (k408 _ _ ?_))))))))))))))
  refine w_cond true (by kernel_rfl) rfl (fun _ => ?_) (fun h => by cases h)
  refine w_seqk fun _ k425 => g_' ?_
  have u426 := ((((((((((((r192.frS e201 Dj.nil_l).ext e280).ext e286).ext e292).frS e306 Dj.nil_l).frS e319 Dj.nil_l).frS e332 Dj.nil_l).frS e335 (hb281.djn (r187.ltF.le (ntr e191.next e201.next)))).frS e340 (hb287.djn (r187.ltF.le (ntr (ntr e191.next e201.next) e280.next)))).frS e345 (hb293.djn (r187.ltF.le (ntr (ntr (ntr e191.next e201.next) e280.next) e286.next)))).frS e394 Dj.nil_l).frS e406 Dj.nil_l)
  refine l_' (.agg #[i_ y170.1, .slice a180 n181 c182]) (aLoad Tryz.prog 35 (pt_ b183 0) H405) (u426.ld (by kernel_rfl)) ?_
  have u431 := ((((((((((((((((((((((((r17.ext e28).frS e41 Dj.nil_l).frS e45 (hb29.djn r17.ltF)).frS e54 Dj.nil_l).frS e61 Dj.nil_l).ext e70).frS e76 (hb71.djn (r17.ltF.le (ntr (ntr (ntr (ntr e28.next e41.next) e45.next) e54.next) e61.next)))).frS e118 Dj.nil_l).frS e169 Dj.nil_l).frS e176 Dj.nil_l).ext e185).frS e191 (hb186.djn (r17.ltF.le (ntr (ntr (ntr (ntr (ntr (ntr (ntr (ntr (ntr e28.next e41.next) e45.next) e54.next) e61.next) e70.next) e76.next) e118.next) e169.next) e176.next)))).frS e201 Dj.nil_l).ext e280).ext e286).ext e292).frS e306 Dj.nil_l).frS e319 Dj.nil_l).frS e332 Dj.nil_l).frS e335 (hb281.djn (r17.ltF.le (ntr (ntr (ntr (ntr (ntr (ntr (ntr (ntr (ntr (ntr (ntr (ntr e28.next e41.next) e45.next) e54.next) e61.next) e70.next) e76.next) e118.next) e169.next) e176.next) e185.next) e191.next) e201.next)))).frS e340 (hb287.djn (r17.ltF.le (ntr (ntr (ntr (ntr (ntr (ntr (ntr (ntr (ntr (ntr (ntr (ntr (ntr e28.next e41.next) e45.next) e54.next) e61.next) e70.next) e76.next) e118.next) e169.next) e176.next) e185.next) e191.next) e201.next) e280.next)))).frS e345 (hb293.djn (r17.ltF.le (ntr (ntr (ntr (ntr (ntr (ntr (ntr (ntr (ntr (ntr (ntr (ntr (ntr (ntr e28.next e41.next) e45.next) e54.next) e61.next) e70.next) e76.next) e118.next) e169.next) e176.next) e185.next) e191.next) e201.next) e280.next) e286.next)))).frS e394 Dj.nil_l).frS e406 Dj.nil_l)
  have u432 := (((((((((((((u193.fr e191 (hb186.djn m177.lt)).fr e201 Dj.nil_l).ext e280).ext e286).ext e292).fr e306 Dj.nil_l).fr e319 Dj.nil_l).fr e332 Dj.nil_l).fr e335 (hb281.djn (m177.lt.le (ntr (ntr e185.next e191.next) e201.next)))).fr e340 (hb287.djn (m177.lt.le (ntr (ntr (ntr e185.next e191.next) e201.next) e280.next)))).fr e345 (hb293.djn (m177.lt.le (ntr (ntr (ntr (ntr e185.next e191.next) e201.next) e280.next) e286.next)))).fr e394 Dj.nil_l).fr e406 Dj.nil_l)
  obtain ⟨H427, q428, e429, r430⟩ := Row.store (P := Tryz.prog) (t := 35) (p := 0) e406.wf u431 (.agg #[i_ y170.1, .slice a180 n181 c182]) [i_ y170.1, .slice a180 n181 c182] (by kernel_rfl) (by kernel_rfl) (one_cons (rfl) (one_cons (u432.one1) (one_nil))) (Nat.le_of_ble_eq_true (by kernel_rfl)) [i_ y170.1, .slice a180 n181 c182] (by kernel_rfl)
  refine s_ek (undef) (by kernel_rfl) (map_ok q428) ?_
  refine s_nil (k425 _ _ ?_)
  refine w_ret (th_ret ?_)
  refine b_ret (fn := Tryz.f34) (vs := [.agg #[i_ y170.1, .slice a180 n181 c182]]) (aRes_cell (Eq.trans (b := aLoad Tryz.prog 35 (pt_ b13 0) H427) (by kernel_rfl) (r430.ld (by kernel_rfl))) (rfl)) ?_
  have c433 := ((FrS.step wf (FrS.step wf (FrS.step wf (FrS.step wf ((((FrS.refl (W := []) wf).extR e9).extR e15).extR e28) e41 Inn.nil) e45 (hb29.fresh (ntr e9.next e15.next))) e54 Inn.nil) e61 Inn.nil).extR e70)
  have u434 := (u432.fr e429 (Dj.symm (i178.djn (r17.ltF.le (ntr (ntr (ntr (ntr (ntr (ntr (ntr (ntr e28.next e41.next) e45.next) e54.next) e61.next) e70.next) e76.next) e118.next) e169.next)))))
  obtain rfl := Option.some.inj r424
  exact ⟨(.slice a180 n181 c182), f174, rfl, (FrS.step wf (FrS.step wf (FrS.step wf (FrS.step wf (FrS.step wf (FrS.step wf (FrS.step wf (FrS.step wf (FrS.step wf ((((FrS.step wf (FrS.step wf ((FrS.step wf (FrS.step wf (FrS.step wf (FrS.step wf (FrS.step wf (FrS.refl (W := []) wf) c433 Inn.nil) e76 (hb71.fresh (ntr (ntr (ntr (ntr (ntr (ntr e9.next e15.next) e28.next) e41.next) e45.next) e54.next) e61.next))) e118 Inn.nil) e169 Inn.nil) e176 Inn.nil).extR e185) e191 (hb186.fresh (ntr (ntr (ntr (ntr (ntr (ntr (ntr (ntr (ntr (ntr (ntr e9.next e15.next) e28.next) e41.next) e45.next) e54.next) e61.next) e70.next) e76.next) e118.next) e169.next) e176.next))) e201 Inn.nil).extR e280).extR e286).extR e292) e306 Inn.nil) e319 Inn.nil) e332 Inn.nil) e335 (hb281.fresh (ntr (ntr (ntr (ntr (ntr (ntr (ntr (ntr (ntr (ntr (ntr (ntr (ntr (ntr e9.next e15.next) e28.next) e41.next) e45.next) e54.next) e61.next) e70.next) e76.next) e118.next) e169.next) e176.next) e185.next) e191.next) e201.next))) e340 (hb287.fresh (ntr n384 n381))) e345 (hb293.fresh (ntr (ntr n384 n381) e286.next))) e394 Inn.nil) e406 Inn.nil) e429 (hb16.fresh e9.next)), u434, (i178.fresh (ntr (ntr (ntr (ntr (ntr (ntr (ntr (ntr (ntr (ntr e9.next e15.next) e28.next) e41.next) e45.next) e54.next) e61.next) e70.next) e76.next) e118.next) e169.next))⟩
 have r435 := ite_f h423 r422
 refine q_ (.bool false) (q_ (.bool false) (q_ (.int .u64 y402.2.1) ?_))
 refine s_b (y402.2.1 > 140737488355328) (by kernel_rfl) (fun h436 => ?_) (fun h436 => ?_)
 ·have r437 := ite_t h436 r435
  refine q_ (.bool true) (q_ (.bool true) (n_' (n_' (n_' (n_' (n_' (n_' (q_ (.bool true) (s_nil (k408 _ _ ?_))))))))))
  refine w_cond true (by kernel_rfl) rfl (fun _ => ?_) (fun h => by cases h)
  refine w_seqk fun _ k438 => g_' ?_
  have u439 := ((((((((((((r192.frS e201 Dj.nil_l).ext e280).ext e286).ext e292).frS e306 Dj.nil_l).frS e319 Dj.nil_l).frS e332 Dj.nil_l).frS e335 (hb281.djn (r187.ltF.le (ntr e191.next e201.next)))).frS e340 (hb287.djn (r187.ltF.le (ntr (ntr e191.next e201.next) e280.next)))).frS e345 (hb293.djn (r187.ltF.le (ntr (ntr (ntr e191.next e201.next) e280.next) e286.next)))).frS e394 Dj.nil_l).frS e406 Dj.nil_l)
  refine l_' (.agg #[i_ y170.1, .slice a180 n181 c182]) (aLoad Tryz.prog 35 (pt_ b183 0) H405) (u439.ld (by kernel_rfl)) ?_
  have u444 := ((((((((((((((((((((((((r17.ext e28).frS e41 Dj.nil_l).frS e45 (hb29.djn r17.ltF)).frS e54 Dj.nil_l).frS e61 Dj.nil_l).ext e70).frS e76 (hb71.djn (r17.ltF.le (ntr (ntr (ntr (ntr e28.next e41.next) e45.next) e54.next) e61.next)))).frS e118 Dj.nil_l).frS e169 Dj.nil_l).frS e176 Dj.nil_l).ext e185).frS e191 (hb186.djn (r17.ltF.le (ntr (ntr (ntr (ntr (ntr (ntr (ntr (ntr (ntr e28.next e41.next) e45.next) e54.next) e61.next) e70.next) e76.next) e118.next) e169.next) e176.next)))).frS e201 Dj.nil_l).ext e280).ext e286).ext e292).frS e306 Dj.nil_l).frS e319 Dj.nil_l).frS e332 Dj.nil_l).frS e335 (hb281.djn (r17.ltF.le (ntr (ntr (ntr (ntr (ntr (ntr (ntr (ntr (ntr (ntr (ntr (ntr e28.next e41.next) e45.next) e54.next) e61.next) e70.next) e76.next) e118.next) e169.next) e176.next) e185.next) e191.next) e201.next)))).frS e340 (hb287.djn (r17.ltF.le (ntr (ntr (ntr (ntr (ntr (ntr (ntr (ntr (ntr (ntr (ntr (ntr (ntr e28.next e41.next) e45.next) e54.next) e61.next) e70.next) e76.next) e118.next) e169.next) e176.next) e185.next) e191.next) e201.next) e280.next)))).frS e345 (hb293.djn (r17.ltF.le (ntr (ntr (ntr (ntr (ntr (ntr (ntr (ntr (ntr (ntr (ntr (ntr (ntr (ntr e28.next e41.next) e45.next) e54.next) e61.next) e70.next) e76.next) e118.next) e169.next) e176.next) e185.next) e191.next) e201.next) e280.next) e286.next)))).frS e394 Dj.nil_l).frS e406 Dj.nil_l)
  have u445 := (((((((((((((u193.fr e191 (hb186.djn m177.lt)).fr e201 Dj.nil_l).ext e280).ext e286).ext e292).fr e306 Dj.nil_l).fr e319 Dj.nil_l).fr e332 Dj.nil_l).fr e335 (hb281.djn (m177.lt.le (ntr (ntr e185.next e191.next) e201.next)))).fr e340 (hb287.djn (m177.lt.le (ntr (ntr (ntr e185.next e191.next) e201.next) e280.next)))).fr e345 (hb293.djn (m177.lt.le (ntr (ntr (ntr (ntr e185.next e191.next) e201.next) e280.next) e286.next)))).fr e394 Dj.nil_l).fr e406 Dj.nil_l)
  obtain ⟨H440, q441, e442, r443⟩ := Row.store (P := Tryz.prog) (t := 35) (p := 0) e406.wf u444 (.agg #[i_ y170.1, .slice a180 n181 c182]) [i_ y170.1, .slice a180 n181 c182] (by kernel_rfl) (by kernel_rfl) (one_cons (rfl) (one_cons (u445.one1) (one_nil))) (Nat.le_of_ble_eq_true (by kernel_rfl)) [i_ y170.1, .slice a180 n181 c182] (by kernel_rfl)
  refine s_ek (undef) (by kernel_rfl) (map_ok q441) ?_
  refine s_nil (k438 _ _ ?_)
  refine w_ret (th_ret ?_)
  refine b_ret (fn := Tryz.f34) (vs := [.agg #[i_ y170.1, .slice a180 n181 c182]]) (aRes_cell (Eq.trans (b := aLoad Tryz.prog 35 (pt_ b13 0) H440) (by kernel_rfl) (r443.ld (by kernel_rfl))) (rfl)) ?_
  have c446 := ((FrS.step wf (FrS.step wf (FrS.step wf (FrS.step wf ((((FrS.refl (W := []) wf).extR e9).extR e15).extR e28) e41 Inn.nil) e45 (hb29.fresh (ntr e9.next e15.next))) e54 Inn.nil) e61 Inn.nil).extR e70)
  have u447 := (u445.fr e442 (Dj.symm (i178.djn (r17.ltF.le (ntr (ntr (ntr (ntr (ntr (ntr (ntr (ntr e28.next e41.next) e45.next) e54.next) e61.next) e70.next) e76.next) e118.next) e169.next)))))
  obtain rfl := Option.some.inj r437
  exact ⟨(.slice a180 n181 c182), f174, rfl, (FrS.step wf (FrS.step wf (FrS.step wf (FrS.step wf (FrS.step wf (FrS.step wf (FrS.step wf (FrS.step wf (FrS.step wf ((((FrS.step wf (FrS.step wf ((FrS.step wf (FrS.step wf (FrS.step wf (FrS.step wf (FrS.step wf (FrS.refl (W := []) wf) c446 Inn.nil) e76 (hb71.fresh (ntr (ntr (ntr (ntr (ntr (ntr e9.next e15.next) e28.next) e41.next) e45.next) e54.next) e61.next))) e118 Inn.nil) e169 Inn.nil) e176 Inn.nil).extR e185) e191 (hb186.fresh (ntr (ntr (ntr (ntr (ntr (ntr (ntr (ntr (ntr (ntr (ntr e9.next e15.next) e28.next) e41.next) e45.next) e54.next) e61.next) e70.next) e76.next) e118.next) e169.next) e176.next))) e201 Inn.nil).extR e280).extR e286).extR e292) e306 Inn.nil) e319 Inn.nil) e332 Inn.nil) e335 (hb281.fresh (ntr (ntr (ntr (ntr (ntr (ntr (ntr (ntr (ntr (ntr (ntr (ntr (ntr (ntr e9.next e15.next) e28.next) e41.next) e45.next) e54.next) e61.next) e70.next) e76.next) e118.next) e169.next) e176.next) e185.next) e191.next) e201.next))) e340 (hb287.fresh (ntr n384 n381))) e345 (hb293.fresh (ntr (ntr n384 n381) e286.next))) e394 Inn.nil) e406 Inn.nil) e442 (hb16.fresh e9.next)), u447, (i178.fresh (ntr (ntr (ntr (ntr (ntr (ntr (ntr (ntr (ntr (ntr e9.next e15.next) e28.next) e41.next) e45.next) e54.next) e61.next) e70.next) e76.next) e118.next) e169.next))⟩
 have r448 := ite_f h436 r435
 refine q_ (.bool false) (q_ (.bool false) (q_ (.int .u64 y390.2.1) (q_ (.int .u64 y402.2.1) ?_)))
 obtain ⟨g449, r450⟩ := G_some r448
 refine s_w ((y390.2.1 + y402.2.1)) (k := .u64) (x := (y390.2.1 + y402.2.1)) (by kernel_rfl) (wrapu64 g449) ?_
 refine q_ (pt_ b26 1) ?_
 refine l_' (.int .u64 y37.2.1) (aLoad Tryz.prog 87 (pt_ b26 1) H405) (u409.ld (by kernel_rfl)) ?_
 refine q_ (.bool (!decide ((y390.2.1 + y402.2.1) = y37.2.1))) (q_ (.bool (!decide ((y390.2.1 + y402.2.1) = y37.2.1))) (s_nil (k408 _ _ ?_)))
 refine w_condn ((y390.2.1 + y402.2.1) = y37.2.1) (by kernel_rfl) rfl (fun h451 => ?_) (fun h451 => ?_)
 ·have r452 := ite_f h451 r450
  refine w_seqk fun _ k453 => g_' ?_
  have u454 := ((((((((((((r192.frS e201 Dj.nil_l).ext e280).ext e286).ext e292).frS e306 Dj.nil_l).frS e319 Dj.nil_l).frS e332 Dj.nil_l).frS e335 (hb281.djn (r187.ltF.le (ntr e191.next e201.next)))).frS e340 (hb287.djn (r187.ltF.le (ntr (ntr e191.next e201.next) e280.next)))).frS e345 (hb293.djn (r187.ltF.le (ntr (ntr (ntr e191.next e201.next) e280.next) e286.next)))).frS e394 Dj.nil_l).frS e406 Dj.nil_l)
  refine l_' (.agg #[i_ y170.1, .slice a180 n181 c182]) (aLoad Tryz.prog 35 (pt_ b183 0) H405) (u454.ld (by kernel_rfl)) ?_
  have u459 := ((((((((((((((((((((((((r17.ext e28).frS e41 Dj.nil_l).frS e45 (hb29.djn r17.ltF)).frS e54 Dj.nil_l).frS e61 Dj.nil_l).ext e70).frS e76 (hb71.djn (r17.ltF.le (ntr (ntr (ntr (ntr e28.next e41.next) e45.next) e54.next) e61.next)))).frS e118 Dj.nil_l).frS e169 Dj.nil_l).frS e176 Dj.nil_l).ext e185).frS e191 (hb186.djn (r17.ltF.le (ntr (ntr (ntr (ntr (ntr (ntr (ntr (ntr (ntr e28.next e41.next) e45.next) e54.next) e61.next) e70.next) e76.next) e118.next) e169.next) e176.next)))).frS e201 Dj.nil_l).ext e280).ext e286).ext e292).frS e306 Dj.nil_l).frS e319 Dj.nil_l).frS e332 Dj.nil_l).frS e335 (hb281.djn (r17.ltF.le (ntr (ntr (ntr (ntr (ntr (ntr (ntr (ntr (ntr (ntr (ntr (ntr e28.next e41.next) e45.next) e54.next) e61.next) e70.next) e76.next) e118.next) e169.next) e176.next) e185.next) e191.next) e201.next)))).frS e340 (hb287.djn (r17.ltF.le (ntr (ntr (ntr (ntr (ntr (ntr (ntr (ntr (ntr (ntr (ntr (ntr (ntr e28.next e41.next) e45.next) e54.next) e61.next) e70.next) e76.next) e118.next) e169.next) e176.next) e185.next) e191.next) e201.next) e280.next)))).frS e345 (hb293.djn (r17.ltF.le (ntr (ntr (ntr (ntr (ntr (ntr (ntr (ntr (ntr (ntr (ntr (ntr (ntr (ntr e28.next e41.next) e45.next) e54.next) e61.next) e70.next) e76.next) e118.next) e169.next) e176.next) e185.next) e191.next) e201.next) e280.next) e286.next)))).frS e394 Dj.nil_l).frS e406 Dj.nil_l)
  have u460 := (((((((((((((u193.fr e191 (hb186.djn m177.lt)).fr e201 Dj.nil_l).ext e280).ext e286).ext e292).fr e306 Dj.nil_l).fr e319 Dj.nil_l).fr e332 Dj.nil_l).fr e335 (hb281.djn (m177.lt.le (ntr (ntr e185.next e191.next) e201.next)))).fr e340 (hb287.djn (m177.lt.le (ntr (ntr (ntr e185.next e191.next) e201.next) e280.next)))).fr e345 (hb293.djn (m177.lt.le (ntr (ntr (ntr (ntr e185.next e191.next) e201.next) e280.next) e286.next)))).fr e394 Dj.nil_l).fr e406 Dj.nil_l)
  obtain ⟨H455, q456, e457, r458⟩ := Row.store (P := Tryz.prog) (t := 35) (p := 0) e406.wf u459 (.agg #[i_ y170.1, .slice a180 n181 c182]) [i_ y170.1, .slice a180 n181 c182] (by kernel_rfl) (by kernel_rfl) (one_cons (rfl) (one_cons (u460.one1) (one_nil))) (Nat.le_of_ble_eq_true (by kernel_rfl)) [i_ y170.1, .slice a180 n181 c182] (by kernel_rfl)
  refine s_ek (undef) (by kernel_rfl) (map_ok q456) ?_
  refine s_nil (k453 _ _ ?_)
  refine w_ret (th_ret ?_)
  refine b_ret (fn := Tryz.f34) (vs := [.agg #[i_ y170.1, .slice a180 n181 c182]]) (aRes_cell (Eq.trans (b := aLoad Tryz.prog 35 (pt_ b13 0) H455) (by kernel_rfl) (r458.ld (by kernel_rfl))) (rfl)) ?_
  have c461 := ((FrS.step wf (FrS.step wf (FrS.step wf (FrS.step wf ((((FrS.refl (W := []) wf).extR e9).extR e15).extR e28) e41 Inn.nil) e45 (hb29.fresh (ntr e9.next e15.next))) e54 Inn.nil) e61 Inn.nil).extR e70)
  have u462 := (u460.fr e457 (Dj.symm (i178.djn (r17.ltF.le (ntr (ntr (ntr (ntr (ntr (ntr (ntr (ntr e28.next e41.next) e45.next) e54.next) e61.next) e70.next) e76.next) e118.next) e169.next)))))
  obtain rfl := Option.some.inj r452
  exact ⟨(.slice a180 n181 c182), f174, rfl, (FrS.step wf (FrS.step wf (FrS.step wf (FrS.step wf (FrS.step wf (FrS.step wf (FrS.step wf (FrS.step wf (FrS.step wf ((((FrS.step wf (FrS.step wf ((FrS.step wf (FrS.step wf (FrS.step wf (FrS.step wf (FrS.step wf (FrS.refl (W := []) wf) c461 Inn.nil) e76 (hb71.fresh (ntr (ntr (ntr (ntr (ntr (ntr e9.next e15.next) e28.next) e41.next) e45.next) e54.next) e61.next))) e118 Inn.nil) e169 Inn.nil) e176 Inn.nil).extR e185) e191 (hb186.fresh (ntr (ntr (ntr (ntr (ntr (ntr (ntr (ntr (ntr (ntr (ntr e9.next e15.next) e28.next) e41.next) e45.next) e54.next) e61.next) e70.next) e76.next) e118.next) e169.next) e176.next))) e201 Inn.nil).extR e280).extR e286).extR e292) e306 Inn.nil) e319 Inn.nil) e332 Inn.nil) e335 (hb281.fresh (ntr (ntr (ntr (ntr (ntr (ntr (ntr (ntr (ntr (ntr (ntr (ntr (ntr (ntr e9.next e15.next) e28.next) e41.next) e45.next) e54.next) e61.next) e70.next) e76.next) e118.next) e169.next) e176.next) e185.next) e191.next) e201.next))) e340 (hb287.fresh (ntr n384 n381))) e345 (hb293.fresh (ntr (ntr n384 n381) e286.next))) e394 Inn.nil) e406 Inn.nil) e457 (hb16.fresh e9.next)), u462, (i178.fresh (ntr (ntr (ntr (ntr (ntr (ntr (ntr (ntr (ntr (ntr e9.next e15.next) e28.next) e41.next) e45.next) e54.next) e61.next) e70.next) e76.next) e118.next) e169.next))⟩
 have r463 := ite_t h451 r450
 refine w_skip (k407 _ _ (w_seqk fun _ k464 => g_' (q_ (.agg #[i_ 0, .slice none 0 0]) ?_)))
 have u469 := ((((((((((((((((((((((((r17.ext e28).frS e41 Dj.nil_l).frS e45 (hb29.djn r17.ltF)).frS e54 Dj.nil_l).frS e61 Dj.nil_l).ext e70).frS e76 (hb71.djn (r17.ltF.le (ntr (ntr (ntr (ntr e28.next e41.next) e45.next) e54.next) e61.next)))).frS e118 Dj.nil_l).frS e169 Dj.nil_l).frS e176 Dj.nil_l).ext e185).frS e191 (hb186.djn (r17.ltF.le (ntr (ntr (ntr (ntr (ntr (ntr (ntr (ntr (ntr e28.next e41.next) e45.next) e54.next) e61.next) e70.next) e76.next) e118.next) e169.next) e176.next)))).frS e201 Dj.nil_l).ext e280).ext e286).ext e292).frS e306 Dj.nil_l).frS e319 Dj.nil_l).frS e332 Dj.nil_l).frS e335 (hb281.djn (r17.ltF.le (ntr (ntr (ntr (ntr (ntr (ntr (ntr (ntr (ntr (ntr (ntr (ntr e28.next e41.next) e45.next) e54.next) e61.next) e70.next) e76.next) e118.next) e169.next) e176.next) e185.next) e191.next) e201.next)))).frS e340 (hb287.djn (r17.ltF.le (ntr (ntr (ntr (ntr (ntr (ntr (ntr (ntr (ntr (ntr (ntr (ntr (ntr e28.next e41.next) e45.next) e54.next) e61.next) e70.next) e76.next) e118.next) e169.next) e176.next) e185.next) e191.next) e201.next) e280.next)))).frS e345 (hb293.djn (r17.ltF.le (ntr (ntr (ntr (ntr (ntr (ntr (ntr (ntr (ntr (ntr (ntr (ntr (ntr (ntr e28.next e41.next) e45.next) e54.next) e61.next) e70.next) e76.next) e118.next) e169.next) e176.next) e185.next) e191.next) e201.next) e280.next) e286.next)))).frS e394 Dj.nil_l).frS e406 Dj.nil_l)
 obtain ⟨H465, q466, e467, r468⟩ := Row.store (P := Tryz.prog) (t := 35) (p := 0) e406.wf u469 (.agg #[i_ 0, .slice none 0 0]) [i_ 0, .slice none 0 0] (by kernel_rfl) (by kernel_rfl) (one_cons (rfl) (one_cons (rfl) (one_nil))) (Nat.le_of_ble_eq_true (by kernel_rfl)) [i_ 0, .slice none 0 0] (by kernel_rfl)
 refine s_ek (undef) (by kernel_rfl) (map_ok q466) ?_
 refine s_nil (k464 _ _ ?_)
 refine w_ret ?_
 refine b_ret (fn := Tryz.f34) (vs := [.agg #[i_ 0, .slice none 0 0]]) (aRes_cell (Eq.trans (b := aLoad Tryz.prog 35 (pt_ b13 0) H465) (by kernel_rfl) (r468.ld (by kernel_rfl))) (rfl)) ?_
 have c470 := ((FrS.step wf (FrS.step wf (FrS.step wf (FrS.step wf ((((FrS.refl (W := []) wf).extR e9).extR e15).extR e28) e41 Inn.nil) e45 (hb29.fresh (ntr e9.next e15.next))) e54 Inn.nil) e61 Inn.nil).extR e70)
 obtain rfl := Option.some.inj r463
 exact ⟨(.slice none 0 0), [], rfl, (FrS.step wf (FrS.step wf (FrS.step wf (FrS.step wf (FrS.step wf (FrS.step wf (FrS.step wf (FrS.step wf (FrS.step wf ((((FrS.step wf (FrS.step wf ((FrS.step wf (FrS.step wf (FrS.step wf (FrS.step wf (FrS.step wf (FrS.refl (W := []) wf) c470 Inn.nil) e76 (hb71.fresh (ntr (ntr (ntr (ntr (ntr (ntr e9.next e15.next) e28.next) e41.next) e45.next) e54.next) e61.next))) e118 Inn.nil) e169 Inn.nil) e176 Inn.nil).extR e185) e191 (hb186.fresh (ntr (ntr (ntr (ntr (ntr (ntr (ntr (ntr (ntr (ntr (ntr e9.next e15.next) e28.next) e41.next) e45.next) e54.next) e61.next) e70.next) e76.next) e118.next) e169.next) e176.next))) e201 Inn.nil).extR e280).extR e286).extR e292) e306 Inn.nil) e319 Inn.nil) e332 Inn.nil) e335 (hb281.fresh (ntr (ntr (ntr (ntr (ntr (ntr (ntr (ntr (ntr (ntr (ntr (ntr (ntr (ntr e9.next e15.next) e28.next) e41.next) e45.next) e54.next) e61.next) e70.next) e76.next) e118.next) e169.next) e176.next) e185.next) e191.next) e201.next))) e340 (hb287.fresh (ntr n384 n381))) e345 (hb293.fresh (ntr (ntr n384 n381) e286.next))) e394 Inn.nil) e406 Inn.nil) e467 (hb16.fresh e9.next)), (Ow.nil (by decide)), Inn.nil⟩
end Go.Vd

/-! (KHc5) -/

set_option maxRecDepth 100000
set_option maxHeartbeats 4000000
set_option linter.unusedVariables false
namespace Go.Vd
open Go.Proofs
attribute [local irreducible] wpSeq wpOrd aWp
theorem c_viaductref10_DocCheck {H : AH} {hd_Node : Value} {fp_Node : Fp} {hd_UpFirst : Value} {fp_UpFirst : Fp} {hd_Up : Value} {fp_Up : Fp} {hd_DownFirst : Value} {fp_DownFirst : Fp} {hd_Down : Value} {fp_Down : Fp} {Node : List (Int)} {UpFirst : List (Int)} {Up : List (Int × Int × Int × Int)} {DownFirst : List (Int)} {Down : List (Int × Int × Int × Int)} {r : Int × List (Int × Int)}
    (wf : WF H) (h_Node : Sq (encI .u32) 1 H hd_Node Node fp_Node) (h_UpFirst : Sq (encI .u32) 1 H hd_UpFirst UpFirst fp_UpFirst) (h_Up : Sq enc_u32_u64_u32_u32 4 H hd_Up Up fp_Up) (h_DownFirst : Sq (encI .u32) 1 H hd_DownFirst DownFirst fp_DownFirst) (h_Down : Sq enc_u32_u64_u32_u32 4 H hd_Down Down fp_Down) (hr : z_viaductref10_DocCheck Node UpFirst Up DownFirst Down = some r) :
    ACalls Tryz.prog 9 #[.agg #[hd_Node, hd_UpFirst, hd_Up, hd_DownFirst, hd_Down]] H fun v H' => ∃ (s3 : Value) (f4 : Fp), v = .agg #[i_ r.1, s3] ∧ FrS [] H H' ∧ Sq enc_i64_i64 2 H' s3 r.2 f4 ∧ Inn [] H f4 := by
 refine acalls_of_body mixed Tryz.func9 rfl (Nat.le_of_ble_eq_true rfl) ?_
 unfold z_viaductref10_DocCheck at hr
 refine w_seqk fun _ k6 => g_' ?_
 refine s_rwl wf [hd_Node, hd_UpFirst, hd_Up, hd_DownFirst, hd_Down] (one_cons (h_Node.one1) (one_cons (h_UpFirst.one1) (one_cons (h_Up.one1) (one_cons (h_DownFirst.one1) (one_cons (h_Down.one1) (one_nil)))))) (by kernel_rfl) fun b7 H8 e9 hb10 r11 => ?_
 refine s_rwk e9.wf [i_ 0, .slice none 0 0] (by kernel_rfl) fun b13 H14 e15 hb16 r17 => ?_
 refine s_nil (k6 _ _ (w_seqk fun _ k19 => g_' (q_ (pt_ b7 0) ?_)))
 have u20 := (r11.ext e15)
 refine l_' (hd_Node) (aLoad Tryz.prog 22 (pt_ b7 0) H14) (u20.ld (by kernel_rfl)) ?_
 have u21 := ((h_Node.ext e9).ext e15)
 refine l_' (i_ (Node.length : Int)) (aLen Tryz.prog 22 hd_Node H14) (u21.lenb (by kernel_rfl)) ?_
 refine q_ (i_ (Node.length : Int)) (s_nil (k19 _ _ (w_seqk fun _ k22 => w_block (w_seqk fun _ k23 => ?_))))
 obtain ⟨o24, hx25, r26⟩ := bind_some hr
 refine w_mid (fun α H27 => Has α [(1, pt_ b7 0), (2, pt_ b13 0), (3, i_ (Node.length : Int)), (14, .bool o24)] ∧ H14 = H27) (fun _ k29 => ?_) (fun α H27 hM => ?_)
 ·refine g_' (q_ (i_ (Node.length : Int)) ?_)
  refine s_b ((Node.length : Int) > 65536) (by kernel_rfl) (fun h31 => ?_) (fun h31 => ?_)
  ·have r32 := ite_t h31 hx25
   refine q_ (.bool true) (n_' (n_' (n_' (n_' (n_' (n_' (n_' (n_' (q_ (.bool true) (q_ (.bool true) (s_nil ?_)))))))))))
   obtain rfl := Option.some.inj r32
   exact k29 _ _ ⟨ha_, rfl⟩
  have r33 := ite_f h31 hx25
  refine q_ (.bool false) (q_ (pt_ b7 2) ?_)
  refine l_' (hd_Up) (aLoad Tryz.prog 23 (pt_ b7 2) H14) (u20.ld (by kernel_rfl)) ?_
  have u34 := ((h_Up.ext e9).ext e15)
  refine l_' (i_ (Up.length : Int)) (aLen Tryz.prog 23 hd_Up H14) (u34.lenb (by kernel_rfl)) ?_
  refine q_ (pt_ b7 4) ?_
  refine l_' (hd_Down) (aLoad Tryz.prog 23 (pt_ b7 4) H14) (u20.ld (by kernel_rfl)) ?_
  have u35 := ((h_Down.ext e9).ext e15)
  refine l_' (i_ (Down.length : Int)) (aLen Tryz.prog 23 hd_Down H14) (u35.lenb (by kernel_rfl)) ?_
  obtain ⟨g36, r37⟩ := G_some r33
  refine w_' ((Up.length : Int) + (Down.length : Int)) (wrap64 g36) ?_
  refine q_ (.bool (decide (((Up.length : Int) + (Down.length : Int)) > 1048576))) (q_ (.bool (decide (((Up.length : Int) + (Down.length : Int)) > 1048576))) (q_ (.bool (decide (((Up.length : Int) + (Down.length : Int)) > 1048576))) (s_nil ?_)))
  obtain rfl := Option.some.inj r37
  exact k29 _ _ ⟨ha_, rfl⟩
 obtain ⟨hh30, rfl⟩ := hM
 obtain ⟨β, rfl⟩ := has_ex hh30
 clear hh30
 refine k23 _ _ ?_
 refine w_cond (o24) (by kernel_rfl) rfl (fun h38 => ?_) (fun h38 => ?_)
 ·have r39 := ite_t h38 r26
  refine w_seqk fun _ k40 => g_' ?_
  obtain ⟨y41, hy42, r43⟩ := bind_some r39
  refine s_ck 29 #[i_ 9] (by kernel_rfl) (c_viaductref01_E e15.wf hy42) ?_
  rintro _ H44 ⟨rfl, e45⟩
  have u50 := (r17.frS e45 Dj.nil_l)
  obtain ⟨H46, q47, e48, r49⟩ := Row.store (P := Tryz.prog) (t := 35) (p := 0) e45.wf u50 (.agg #[i_ y41, .slice none 0 0]) [i_ y41, .slice none 0 0] (by kernel_rfl) (by kernel_rfl) (one_cons (rfl) (one_cons (rfl) (one_nil))) (Nat.le_of_ble_eq_true (by kernel_rfl)) [i_ y41, .slice none 0 0] (by kernel_rfl)
  refine s_ek (undef) (by kernel_rfl) (map_ok q47) ?_
  refine s_nil (k40 _ _ ?_)
  refine w_ret (bl_ret (th_ret ?_))
  refine b_ret (fn := Tryz.f9) (vs := [.agg #[i_ y41, .slice none 0 0]]) (aRes_cell (Eq.trans (b := aLoad Tryz.prog 35 (pt_ b13 0) H46) (by kernel_rfl) (r49.ld (by kernel_rfl))) (rfl)) ?_
  obtain rfl := Option.some.inj r43
  exact ⟨(.slice none 0 0), [], rfl, (FrS.step wf (FrS.step wf (((FrS.refl (W := []) wf).extR e9).extR e15) e45 Inn.nil) e48 (hb16.fresh e9.next)), (Sq.nil (by decide)), Inn.nil⟩
 have r51 := ite_bf h38 r26
 refine w_seqk fun _ k52 => ?_
 obtain ⟨o53, hx54, r55⟩ := bind_some r51
 refine w_mid (fun α H56 => Has α [(1, pt_ b7 0), (2, pt_ b13 0), (3, i_ (Node.length : Int)), (28, .bool o53)] ∧ H14 = H56) (fun _ k58 => ?_) (fun α H56 hM => ?_)
 ·refine g_' (q_ (pt_ b7 1) ?_)
  refine l_' (hd_UpFirst) (aLoad Tryz.prog 22 (pt_ b7 1) H14) (u20.ld (by kernel_rfl)) ?_
  have u60 := ((h_UpFirst.ext e9).ext e15)
  refine l_' (i_ (UpFirst.length : Int)) (aLen Tryz.prog 22 hd_UpFirst H14) (u60.lenb (by kernel_rfl)) ?_
  refine q_ (i_ (Node.length : Int)) ?_
  obtain ⟨g61, r62⟩ := G_some hx54
  refine w_' ((Node.length : Int) + 1) (wrap64 (by have := g61; omega)) ?_
  refine s_bn ((UpFirst.length : Int) = ((Node.length : Int) + 1)) (by kernel_rfl) (fun h63 => ?_) (fun h63 => ?_)
  ·have r64 := ite_t h63 r62
   refine q_ (.bool false) (q_ (pt_ b7 3) ?_)
   refine l_' (hd_DownFirst) (aLoad Tryz.prog 22 (pt_ b7 3) H14) (u20.ld (by kernel_rfl)) ?_
   have u65 := ((h_DownFirst.ext e9).ext e15)
   refine l_' (i_ (DownFirst.length : Int)) (aLen Tryz.prog 22 hd_DownFirst H14) (u65.lenb (by kernel_rfl)) ?_
   refine q_ (i_ (Node.length : Int)) ?_
   refine w_' ((Node.length : Int) + 1) (wrap64 (by have := g61; omega)) ?_
   refine q_ (.bool (!decide ((DownFirst.length : Int) = ((Node.length : Int) + 1)))) (q_ (.bool (!decide ((DownFirst.length : Int) = ((Node.length : Int) + 1)))) (q_ (.bool (!decide ((DownFirst.length : Int) = ((Node.length : Int) + 1)))) (s_nil ?_)))
   obtain rfl := Option.some.inj r64
   exact k58 _ _ ⟨ha_, rfl⟩
  have r66 := ite_f h63 r62
  refine q_ (.bool true) (n_' (n_' (n_' (n_' (n_' (n_' (q_ (.bool true) (q_ (.bool true) (s_nil ?_)))))))))
  obtain rfl := Option.some.inj r66
  exact k58 _ _ ⟨ha_, rfl⟩
 obtain ⟨hh59, rfl⟩ := hM
 obtain ⟨β, rfl⟩ := has_ex hh59
 clear hh59
 refine k52 _ _ ?_
 refine w_cond (o53) (by kernel_rfl) rfl (fun h67 => ?_) (fun h67 => ?_)
 ·have r68 := ite_t h67 r55
  refine w_seqk fun _ k69 => g_' ?_
  obtain ⟨y70, hy71, r72⟩ := bind_some r68
  refine s_ck 29 #[i_ 14] (by kernel_rfl) (c_viaductref01_E e15.wf hy71) ?_
  rintro _ H73 ⟨rfl, e74⟩
  have u79 := (r17.frS e74 Dj.nil_l)
  obtain ⟨H75, q76, e77, r78⟩ := Row.store (P := Tryz.prog) (t := 35) (p := 0) e74.wf u79 (.agg #[i_ y70, .slice none 0 0]) [i_ y70, .slice none 0 0] (by kernel_rfl) (by kernel_rfl) (one_cons (rfl) (one_cons (rfl) (one_nil))) (Nat.le_of_ble_eq_true (by kernel_rfl)) [i_ y70, .slice none 0 0] (by kernel_rfl)
  refine s_ek (undef) (by kernel_rfl) (map_ok q76) ?_
  refine s_nil (k69 _ _ ?_)
  refine w_ret (bl_ret (th_ret ?_))
  refine b_ret (fn := Tryz.f9) (vs := [.agg #[i_ y70, .slice none 0 0]]) (aRes_cell (Eq.trans (b := aLoad Tryz.prog 35 (pt_ b13 0) H75) (by kernel_rfl) (r78.ld (by kernel_rfl))) (rfl)) ?_
  obtain rfl := Option.some.inj r72
  exact ⟨(.slice none 0 0), [], rfl, (FrS.step wf (FrS.step wf (((FrS.refl (W := []) wf).extR e9).extR e15) e74 Inn.nil) e77 (hb16.fresh e9.next)), (Sq.nil (by decide)), Inn.nil⟩
 have r80 := ite_bf h67 r55
 refine w_skip (k22 _ _ (w_seqk fun _ k81 => ?_))
 refine w_draw [0, 1, 2, 3, 4, 5, 7, 8, 9, 10, 11, 12, 16, 6, 13, 14, 15, 17] (by kernel_rfl) ?_
 refine e_' (pt_ b7 1) ?_
 refine m_' (hd_UpFirst) (aLoad Tryz.prog 22 (pt_ b7 1) H14) (u20.ld (by kernel_rfl)) ?_
 refine e_' (i_ (Node.length : Int)) (e_' (pt_ b7 2) ?_)
 refine m_' (hd_Up) (aLoad Tryz.prog 23 (pt_ b7 2) H14) (u20.ld (by kernel_rfl)) ?_
 have u82 := ((h_Up.ext e9).ext e15)
 refine m_' (i_ (Up.length : Int)) (aLen Tryz.prog 23 hd_Up H14) (u82.lenb (by kernel_rfl)) ?_
 refine e_' (pt_ b7 3) ?_
 refine d_fl (hd_DownFirst) (x := aLoad Tryz.prog 22 (pt_ b7 3) H14) (by kernel_rfl) (u20.ld (by kernel_rfl)) ?_
 refine e_' (i_ (Node.length : Int)) (e_' (pt_ b7 4) ?_)
 refine d_fl (hd_Down) (x := aLoad Tryz.prog 23 (pt_ b7 4) H14) (by kernel_rfl) (u20.ld (by kernel_rfl)) ?_
 have u83 := ((h_Down.ext e9).ext e15)
 refine m_' (i_ (Down.length : Int)) (aLen Tryz.prog 23 hd_Down H14) (u83.lenb (by kernel_rfl)) ?_
 refine d_rwk e15.wf [i_ 0, .slice none 0 0] (by kernel_rfl) fun b84 H85 e86 hb87 r88 => ?_
 have u90 := (((h_UpFirst.ext e9).ext e15).ext e86)
 obtain ⟨y91, hy92, r93⟩ := bind_some r80
 refine d_ck 31 #[hd_UpFirst, i_ (Node.length : Int), i_ (Up.length : Int)] (by kernel_rfl) (c_viaductref10_firsts e86.wf u90 hy92) ?_
 rintro _ H96 ⟨s94, f95, rfl, e97, m98, i99⟩
 obtain ⟨a101, n102, c103, rfl⟩ := m98.form
 have u104 := ((u20.ext e86).frS e97 Dj.nil_l)
 refine ⟨st_ql (y := aLoad Tryz.prog 23 (pt_ b7 4) H96) (by kernel_rfl) (u104.ld (by kernel_rfl)) (st_ql (y := aLoad Tryz.prog 22 (pt_ b7 3) H96) (by kernel_rfl) (u104.ld (by kernel_rfl)) (st_nil)), ?_⟩
 have u105 := ((((h_DownFirst.ext e9).ext e15).ext e86).fr e97 Dj.nil_l)
 obtain ⟨y106, hy107, r108⟩ := bind_some r93
 refine d_ck 31 #[hd_DownFirst, i_ (Node.length : Int), i_ (Down.length : Int)] (by kernel_rfl) (c_viaductref10_firsts e97.wf u105 hy107) ?_
 rintro _ H111 ⟨s109, f110, rfl, e112, m113, i114⟩
 obtain ⟨a116, n117, c118, rfl⟩ := m113.form
 refine ⟨st_anc (by kernel_rfl) (st_anc (by kernel_rfl) (st_nil)), ?_⟩
 have u124 := (m98.fr e112 Dj.nil_l)
 refine d_lsl e112.wf [i_ y91.1, .slice a101 n102 c103, i_ y106.1, .slice a116 n117 c118] 2 (one_cons (rfl) (one_cons (u124.one1) (one_cons (rfl) (one_cons (m113.one1) (one_nil))))) (by kernel_rfl) fun b119 H120 e121 hb122 r123 => ?_
 have u126 := (u124.ext e121)
 have u127 := (m113.ext e121)
 obtain ⟨y128, hy129, r130⟩ := bind_some r108
 refine d_ck 30 #[.slice (some ⟨b119, 0, none⟩) 2 2] (by kernel_rfl) (c_viaductref01_First e121.wf u126.sq u127.sq r123 hy129) ?_
 rintro _ H133 ⟨s131, f132, rfl, e134, m135, i136⟩
 obtain ⟨a138, n139, c140, rfl⟩ := m135.form
 refine ⟨st_anc (by kernel_rfl) (st_anc (by kernel_rfl) (st_nil)), ?_⟩
 have u145 := ((((r88.frS e97 Dj.nil_l).frS e112 Dj.nil_l).ext e121).frS e134 Dj.nil_l)
 obtain ⟨H141, q142, e143, r144⟩ := Row.store (P := Tryz.prog) (t := 35) (p := 0) e134.wf u145 (.agg #[i_ y128.1, .slice a138 n139 c140]) [i_ y128.1, .slice a138 n139 c140] (by kernel_rfl) (by kernel_rfl) (one_cons (rfl) (one_cons (m135.one1) (one_nil))) (Nat.le_of_ble_eq_true (by kernel_rfl)) [i_ y128.1, .slice a138 n139 c140] (by kernel_rfl)
 refine d_ek (undef) (by kernel_rfl) (map_ok q142) (st_anc (by kernel_rfl) (st_anc (by kernel_rfl) (st_nil))) ?_
 refine d_nil ?_
 refine k81 _ _ (w_seqk fun _ k146 => w_seqk fun _ k147 => g_' ?_)
 refine l_' (.agg #[i_ y128.1, .slice a138 n139 c140]) (aLoad Tryz.prog 35 (pt_ b84 0) H141) (r144.ld (by kernel_rfl)) ?_
 have u148 := (m135.fr e143 (Dj.symm (i136.dj (Dj.app (i99.djn r88.ltF) (i114.djn (r88.ltF.le e97.next))) (r88.ltF.le (ntr (ntr e97.next e112.next) e121.next)))))
 obtain ⟨y149, hy150, r151⟩ := bind_some r130
 refine s_ck 23 #[.agg #[i_ y128.1, .slice a138 n139 c140]] (by kernel_rfl) (c_viaductref01_Err_Bad e143.wf u148 hy150) ?_
 rintro _ H152 ⟨rfl, e153⟩
 refine s_nil (k147 _ _ ?_)
 refine w_cond (y149) (by kernel_rfl) rfl (fun h154 => ?_) (fun h154 => ?_)
 ·have r155 := ite_t h154 r151
  refine w_seqk fun _ k156 => g_' ?_
  have u157 := (r144.frS e153 Dj.nil_l)
  refine l_' (.agg #[i_ y128.1, .slice a138 n139 c140]) (aLoad Tryz.prog 35 (pt_ b84 0) H152) (u157.ld (by kernel_rfl)) ?_
  have u162 := (((((((r17.ext e86).frS e97 Dj.nil_l).frS e112 Dj.nil_l).ext e121).frS e134 Dj.nil_l).frS e143 (hb87.djn r17.ltF)).frS e153 Dj.nil_l)
  have u163 := (u148.fr e153 Dj.nil_l)
  obtain ⟨H158, q159, e160, r161⟩ := Row.store (P := Tryz.prog) (t := 35) (p := 0) e153.wf u162 (.agg #[i_ y128.1, .slice a138 n139 c140]) [i_ y128.1, .slice a138 n139 c140] (by kernel_rfl) (by kernel_rfl) (one_cons (rfl) (one_cons (u163.one1) (one_nil))) (Nat.le_of_ble_eq_true (by kernel_rfl)) [i_ y128.1, .slice a138 n139 c140] (by kernel_rfl)
  refine s_ek (undef) (by kernel_rfl) (map_ok q159) ?_
  refine s_nil (k156 _ _ ?_)
  refine w_ret (th_ret ?_)
  refine b_ret (fn := Tryz.f9) (vs := [.agg #[i_ y128.1, .slice a138 n139 c140]]) (aRes_cell (Eq.trans (b := aLoad Tryz.prog 35 (pt_ b13 0) H158) (by kernel_rfl) (r161.ld (by kernel_rfl))) (rfl)) ?_
  have u164 := (u163.fr e160 (Dj.symm (i136.dj (Dj.app (i99.djn (r17.ltF.le e86.next)) (i114.djn (r17.ltF.le (ntr e86.next e97.next)))) (r17.ltF.le (ntr (ntr (ntr e86.next e97.next) e112.next) e121.next)))))
  obtain rfl := Option.some.inj r155
  exact ⟨(.slice a138 n139 c140), f132, rfl, (FrS.step wf (FrS.step wf (FrS.step wf (FrS.step wf ((FrS.step wf (FrS.step wf ((((FrS.refl (W := []) wf).extR e9).extR e15).extR e86) e97 Inn.nil) e112 Inn.nil).extR e121) e134 Inn.nil) e143 (hb87.fresh (ntr e9.next e15.next))) e153 Inn.nil) e160 (hb16.fresh e9.next)), u164, (Inn.trans (Inn.app (i99.fresh (ntr (ntr e9.next e15.next) e86.next)) (i114.fresh (ntr (ntr (ntr e9.next e15.next) e86.next) e97.next))) (ntr (ntr (ntr (ntr (ntr e9.next e15.next) e86.next) e97.next) e112.next) e121.next) i136)⟩
 have r165 := ite_bf h154 r151
 refine w_skip (k146 _ _ (w_seqk fun _ k166 => g_' (q_ (i_ (Node.length : Int)) ?_)))
 obtain ⟨g167, r168⟩ := G_some r165
 refine s_mks (t := 85) (m := 1) (l := (Node.length : Int)) (c := (Node.length : Int)) (enc := encB) (sz := 1) e153.wf (false : Bool) (by kernel_rfl) (by decide) g167.1 (Int.le_refl _) (by omega) (by have := g167; omega) (by kernel_rfl) fun s169 f170 H171 e172 hf173 hm174 => ?_
 obtain ⟨a175, n176, c177, rfl⟩ := hm174.form
 have hm174 : Ow encB 1 H171 (.slice a175 n176 c177) (List.replicate Node.length (false : Bool)) f170 := hm174
 refine q_ (.slice a175 n176 c177) (s_nil (k166 _ _ (w_seqk fun _ k179 => w_seqk fun _ k180 => g_' (q_ (pt_ b7 0) ?_))))
 have u181 := ((((((u104.frS e112 Dj.nil_l).ext e121).frS e134 Dj.nil_l).frS e143 (hb87.djn (r11.ltF.le e15.next))).frS e153 Dj.nil_l).ext e172)
 refine l_' (hd_Node) (aLoad Tryz.prog 22 (pt_ b7 0) H171) (u181.ld (by kernel_rfl)) ?_
 have u182 := ((((((((u21.ext e86).fr e97 Dj.nil_l).fr e112 Dj.nil_l).ext e121).fr e134 Dj.nil_l).fr e143 (hb87.djn (h_Node.lt.le (ntr e9.next e15.next)))).fr e153 Dj.nil_l).ext e172)
 refine l_' (i_ (Node.length : Int)) (aLen Tryz.prog 22 hd_Node H171) (u182.lenb (by kernel_rfl)) ?_
 refine q_ (i_ 0) (s_nil (k180 _ _ ?_))
 obtain ⟨z186, hx184, r185⟩ := bind_some r168
 refine w_mid (fun α H187 => ∃ o183, z186 = Sum.inr o183 ∧ Has α [(1, pt_ b7 0), (2, pt_ b13 0)] ∧ FrS f170 H171 H187) (fun _ k189 => ?_) (fun α H187 hM => ?_)
 ·refine w_block ?_
  obtain ⟨n191, hn192⟩ := loopO_iff.1 hx184
  refine w_loopn (fun n α H193 => ∃ (seen0 : List (Bool)), ∃ (i1 : Int), iterO (fun zz_ => z_viaductref10_DocCheck_l0 Node zz_.1 zz_.2) n (seen0, i1) = some z186 ∧ Has α [(1, pt_ b7 0), (2, pt_ b13 0), (3, i_ (Node.length : Int)), (5, .slice a175 n176 c177), (66, hd_Node), (67, i_ (Node.length : Int)), (68, i_ i1)] ∧ FrS f170 H171 H193 ∧ Ow encB 1 H193 (.slice a175 n176 c177) seen0 f170) n191 ⟨(List.replicate Node.length (false : Bool)), 0, hn192, ha_, (FrS.refl (W := f170) e172.wf), hm174⟩ ?_
  rintro n191 α H193 ⟨seen0, i1, hi198, hh197, e194, m196⟩ K203 k203
  obtain ⟨n199, z200, rfl, hz201, hn202⟩ := iter_succ hi198
  obtain ⟨β, rfl⟩ := has_ex hh197
  clear hh197
  replace hz201 : z_viaductref10_DocCheck_l0 Node seen0 i1 = some z200 := hz201
  unfold z_viaductref10_DocCheck_l0 at hz201
  refine w_seqk fun _ k204 => g_' (q_ (.bool (decide (i1 < (Node.length : Int)))) (s_nil (k204 _ _ (w_seqk fun _ k205 => ?_))))
  refine w_condp (i1 < (Node.length : Int)) (by kernel_rfl) rfl (fun h206 => ?_) (fun h206 => ?_)
  ·have r207 := ite_t h206 hz201
   refine w_skip (k205 _ _ (w_seqk fun _ k208 => w_block (w_seqk fun _ k209 => g_' (q_ (i_ i1) ?_))))
   obtain ⟨g210, r211⟩ := G_some r207
   have u212 := (u182.fr e194 (hf173.djn (h_Node.lt.le (ntr (ntr (ntr (ntr (ntr (ntr (ntr (ntr e9.next e15.next) e86.next) e97.next) e112.next) e121.next) e134.next) e143.next) e153.next))))
   refine l_' (elp hd_Node 1 i1.toNat 0) (aIndexAddr Tryz.prog 22 hd_Node (i_ i1)) (u212.idxb (by kernel_rfl) g210 h206) ?_
   refine l_' (.int .u32 (gt Node i1)) (aLoad Tryz.prog 86 (elp hd_Node 1 i1.toNat 0) H193) (u212.ld g210 h206 (by kernel_rfl)) ?_
   refine q_ (i_ i1) (q_ (.int .u32 (gt Node i1)) (s_nil (k209 _ _ (w_seqk fun _ k213 => w_seqk fun _ k214 => ?_))))
   obtain ⟨o215, hx216, r217⟩ := bind_some r211
   refine w_mid (fun α H218 => Has α [(1, pt_ b7 0), (2, pt_ b13 0), (3, i_ (Node.length : Int)), (5, .slice a175 n176 c177), (6, i_ i1), (7, .int .u32 (gt Node i1)), (66, hd_Node), (67, i_ (Node.length : Int)), (68, i_ i1), (83, .bool o215)] ∧ H193 = H218) (fun _ k220 => ?_) (fun α H218 hM => ?_)
   ·refine g_' (q_ (.int .u32 (gt Node i1)) ?_)
    obtain ⟨g222, r223⟩ := G_some hx216
    refine s_w ((gt Node i1)) (k := .u64) (x := (gt Node i1)) (by kernel_rfl) (wrapu64 g222) ?_
    refine q_ (i_ (Node.length : Int)) ?_
    obtain ⟨g224, r225⟩ := G_some r223
    refine s_w ((Node.length : Int)) (k := .u64) (x := (Node.length : Int)) (by kernel_rfl) (wrapu64 (by have := g224; omega)) ?_
    refine s_b ((gt Node i1) ≥ (Node.length : Int)) (by kernel_rfl) (fun h226 => ?_) (fun h226 => ?_)
    ·have r227 := ite_t h226 r225
     refine q_ (.bool true) (n_' (n_' (n_' (n_' (q_ (.bool true) (s_nil ?_))))))
     obtain rfl := Option.some.inj r227
     exact k220 _ _ ⟨ha_, rfl⟩
    have r228 := ite_f h226 r225
    refine q_ (.bool false) (q_ (.slice a175 n176 c177) (q_ (.int .u32 (gt Node i1)) ?_))
    obtain ⟨g229, r230⟩ := G_some r228
    refine l_' (elp (.slice a175 n176 c177) 1 (gt Node i1).toNat 0) (aIndexAddr Tryz.prog 85 (.slice a175 n176 c177) (.int .u32 (gt Node i1))) (m196.sq.idxb (by kernel_rfl) g229.1 g229.2) ?_
    refine l_' (.bool (gt seen0 (gt Node i1))) (aLoad Tryz.prog 4 (elp (.slice a175 n176 c177) 1 (gt Node i1).toNat 0) H193) (m196.sq.ld g229.1 g229.2 (by kernel_rfl)) ?_
    refine q_ (.bool (gt seen0 (gt Node i1))) (s_nil ?_)
    obtain rfl := Option.some.inj r230
    exact k220 _ _ ⟨ha_, rfl⟩
   obtain ⟨hh221, rfl⟩ := hM
   obtain ⟨β, rfl⟩ := has_ex hh221
   clear hh221
   refine k214 _ _ ?_
   refine w_cond (o215) (by kernel_rfl) rfl (fun h231 => ?_) (fun h231 => ?_)
   ·have r232 := ite_t h231 r217
    refine w_seqk fun _ k233 => g_' (q_ (i_ i1) ?_)
    obtain ⟨y234, hy235, r236⟩ := bind_some r232
    refine s_ck 29 #[i_ 20] (by kernel_rfl) (c_viaductref01_E e194.wf hy235) ?_
    rintro _ H237 ⟨rfl, e238⟩
    obtain ⟨y239, hy240, r241⟩ := bind_some r236
    refine s_ck 32 #[i_ 3, i_ i1, .agg #[i_ y234, .slice none 0 0]] (by kernel_rfl) (c_viaductref01_At e238.wf (Sq.nil (enc := enc_i64_i64) (sz := 2) (by decide)) hy240) ?_
    rintro _ H244 ⟨s242, f243, rfl, e245, m246, i247⟩
    obtain ⟨a249, n250, c251, rfl⟩ := m246.form
    have u256 := (((((((((((r17.ext e86).frS e97 Dj.nil_l).frS e112 Dj.nil_l).ext e121).frS e134 Dj.nil_l).frS e143 (hb87.djn r17.ltF)).frS e153 Dj.nil_l).ext e172).frS e194 (hf173.djn (r17.ltF.le (ntr (ntr (ntr (ntr (ntr (ntr e86.next e97.next) e112.next) e121.next) e134.next) e143.next) e153.next)))).frS e238 Dj.nil_l).frS e245 Dj.nil_l)
    obtain ⟨H252, q253, e254, r255⟩ := Row.store (P := Tryz.prog) (t := 35) (p := 0) e245.wf u256 (.agg #[i_ y239.1, .slice a249 n250 c251]) [i_ y239.1, .slice a249 n250 c251] (by kernel_rfl) (by kernel_rfl) (one_cons (rfl) (one_cons (m246.one1) (one_nil))) (Nat.le_of_ble_eq_true (by kernel_rfl)) [i_ y239.1, .slice a249 n250 c251] (by kernel_rfl)
    refine s_ek (undef) (by kernel_rfl) (map_ok q253) ?_
    refine s_nil (k233 _ _ ?_)
    refine w_ret (th_ret (bl_ret (th_ret (th_ret (bl_ret (th_ret (th_ret ?_)))))))
    obtain ⟨v257, hv258, hz259⟩ := map_some r241
    subst hz259
    obtain rfl := it_inr hn202
    have hq260 := elim_inl r185
    rw [hq260] at hv258
    refine b_ret (fn := Tryz.f9) (vs := [.agg #[i_ y239.1, .slice a249 n250 c251]]) (aRes_cell (Eq.trans (b := aLoad Tryz.prog 35 (pt_ b13 0) H252) (by kernel_rfl) (r255.ld (by kernel_rfl))) (rfl)) ?_
    have u261 := (m246.fr e254 (Dj.symm (i247.djn (r17.ltF.le (ntr (ntr (ntr (ntr (ntr (ntr (ntr (ntr (ntr e86.next e97.next) e112.next) e121.next) e134.next) e143.next) e153.next) e172.next) e194.next) e238.next)))))
    obtain rfl := Option.some.inj hv258
    exact ⟨(.slice a249 n250 c251), f243, rfl, (FrS.step wf (FrS.step wf (FrS.step wf (FrS.step wf ((FrS.step wf (FrS.step wf (FrS.step wf ((FrS.step wf (FrS.step wf ((((FrS.refl (W := []) wf).extR e9).extR e15).extR e86) e97 Inn.nil) e112 Inn.nil).extR e121) e134 Inn.nil) e143 (hb87.fresh (ntr e9.next e15.next))) e153 Inn.nil).extR e172) e194 (hf173.fresh (ntr (ntr (ntr (ntr (ntr (ntr (ntr (ntr e9.next e15.next) e86.next) e97.next) e112.next) e121.next) e134.next) e143.next) e153.next))) e238 Inn.nil) e245 Inn.nil) e254 (hb16.fresh e9.next)), u261.sq, (i247.fresh (ntr (ntr (ntr (ntr (ntr (ntr (ntr (ntr (ntr (ntr (ntr e9.next e15.next) e86.next) e97.next) e112.next) e121.next) e134.next) e143.next) e153.next) e172.next) e194.next) e238.next))⟩
   have r262 := ite_bf h231 r217
   refine w_skip (k213 _ _ (g_' (q_ (.slice a175 n176 c177) (q_ (.int .u32 (gt Node i1)) ?_))))
   obtain ⟨g263, r264⟩ := G_some r262
   refine l_' (elp (.slice a175 n176 c177) 1 (gt Node i1).toNat 0) (aIndexAddr Tryz.prog 85 (.slice a175 n176 c177) (.int .u32 (gt Node i1))) (m196.sq.idxb (by kernel_rfl) g263.1 g263.2) ?_
   obtain ⟨H265, q266, e267, hm268⟩ := Ow.store (P := Tryz.prog) (t := 4) (off := 0) e194.wf m196 g263.1 g263.2 (.bool true) [.bool true] (by kernel_rfl) (by kernel_rfl) rfl true (Nat.le_of_ble_eq_true rfl) (by kernel_rfl)
   refine s_ek (undef) (by kernel_rfl) (map_ok q266) ?_
   refine s_nil (k208 _ _ (g_' ?_))
   obtain ⟨g269, r270⟩ := G_some r264
   refine w_' (i1 + 1) (wrap64 (by have := g269; omega)) ?_
   refine q_ (i_ (i1 + 1)) (s_nil ?_)
   obtain rfl := Option.some.inj r270
   exact k203 n199 _ _ (Nat.lt_succ_self _) ⟨(seen0.set (gt Node i1).toNat true), (i1 + 1), hn202, ha_, (FrS.step e172.wf (FrS.step e172.wf (FrS.refl (W := f170) e172.wf) e194 Inn.refl') e267 Inn.refl'), hm268⟩
  have r271 := ite_f h206 hz201
  refine w_exit (th_exit (th_exit (bl_eq ?_)))
  obtain rfl := Option.some.inj r271
  obtain rfl := it_inr hn202
  exact k189 _ _ ⟨_, rfl, ha_, (FrS.step e172.wf (FrS.refl (W := f170) e172.wf) e194 Inn.refl')⟩
 obtain ⟨o183, rfl, hh190, e188⟩ := hM
 have r272 := elim_inr r185
 obtain ⟨β, rfl⟩ := has_ex hh190
 clear hh190
 refine k179 _ _ (w_seqk fun _ k273 => g_' ?_)
 have u274 := (u181.frS e188 (hf173.djn (r11.ltF.le (ntr (ntr (ntr (ntr (ntr (ntr (ntr e15.next e86.next) e97.next) e112.next) e121.next) e134.next) e143.next) e153.next))))
 refine l_' (.agg #[hd_Node, hd_UpFirst, hd_Up, hd_DownFirst, hd_Down]) (aLoad Tryz.prog 25 (pt_ b7 0) H187) (u274.ld (by kernel_rfl)) ?_
 have u275 := (u182.fr e188 (hf173.djn (h_Node.lt.le (ntr (ntr (ntr (ntr (ntr (ntr (ntr (ntr e9.next e15.next) e86.next) e97.next) e112.next) e121.next) e134.next) e143.next) e153.next))))
 have u276 := ((((((((u90.fr e97 Dj.nil_l).fr e112 Dj.nil_l).ext e121).fr e134 Dj.nil_l).fr e143 (hb87.djn (h_UpFirst.lt.le (ntr e9.next e15.next)))).fr e153 Dj.nil_l).ext e172).fr e188 (hf173.djn (h_UpFirst.lt.le (ntr (ntr (ntr (ntr (ntr (ntr (ntr (ntr e9.next e15.next) e86.next) e97.next) e112.next) e121.next) e134.next) e143.next) e153.next))))
 have u277 := (((((((((u82.ext e86).fr e97 Dj.nil_l).fr e112 Dj.nil_l).ext e121).fr e134 Dj.nil_l).fr e143 (hb87.djn (h_Up.lt.le (ntr e9.next e15.next)))).fr e153 Dj.nil_l).ext e172).fr e188 (hf173.djn (h_Up.lt.le (ntr (ntr (ntr (ntr (ntr (ntr (ntr (ntr e9.next e15.next) e86.next) e97.next) e112.next) e121.next) e134.next) e143.next) e153.next))))
 have u278 := (((((((u105.fr e112 Dj.nil_l).ext e121).fr e134 Dj.nil_l).fr e143 (hb87.djn (h_DownFirst.lt.le (ntr e9.next e15.next)))).fr e153 Dj.nil_l).ext e172).fr e188 (hf173.djn (h_DownFirst.lt.le (ntr (ntr (ntr (ntr (ntr (ntr (ntr (ntr e9.next e15.next) e86.next) e97.next) e112.next) e121.next) e134.next) e143.next) e153.next))))
 have u279 := (((((((((u83.ext e86).fr e97 Dj.nil_l).fr e112 Dj.nil_l).ext e121).fr e134 Dj.nil_l).fr e143 (hb87.djn (h_Down.lt.le (ntr e9.next e15.next)))).fr e153 Dj.nil_l).ext e172).fr e188 (hf173.djn (h_Down.lt.le (ntr (ntr (ntr (ntr (ntr (ntr (ntr (ntr e9.next e15.next) e86.next) e97.next) e112.next) e121.next) e134.next) e143.next) e153.next))))
 obtain ⟨y280, hy281, r282⟩ := bind_some r272
 refine s_ck 33 #[.agg #[hd_Node, hd_UpFirst, hd_Up, hd_DownFirst, hd_Down]] (by kernel_rfl) (c_viaductref10_Ranks e188.wf u275 u276 u277 u278 u279 hy281) ?_
 rintro s283 H285 ⟨_, f284, rfl, e286, m287, i288⟩
 obtain ⟨a290, n291, c292, rfl⟩ := m287.form
 refine q_ (.slice a290 n291 c292) (s_nil (k273 _ _ (w_seqk fun _ k293 => w_seqk fun _ k294 => g_' (q_ (.slice a290 n291 c292) ?_))))
 refine l_' (i_ (y280.length : Int)) (aLen Tryz.prog 49 (.slice a290 n291 c292) H285) (m287.sq.lenb (by kernel_rfl)) ?_
 refine q_ (i_ 0) (s_nil (k294 _ _ ?_))
 obtain ⟨z298, hx296, r297⟩ := bind_some r282
 refine w_mid (fun α H299 => ∃ o295, z298 = Sum.inr o295 ∧ Has α [(2, pt_ b13 0)] ∧ FrS [] H285 H299) (fun _ k301 => ?_) (fun α H299 hM => ?_)
 ·refine w_block ?_
  obtain ⟨n303, hn304⟩ := loopO_iff.1 hx296
  refine w_loopn (fun n α H305 => ∃ (i2 : Int), iterO (fun zz_ => z_viaductref10_DocCheck_l1 Node UpFirst Up DownFirst Down y280 zz_) n i2 = some z298 ∧ Has α [(1, pt_ b7 0), (2, pt_ b13 0), (8, .slice a290 n291 c292), (94, i_ (y280.length : Int)), (95, i_ i2)] ∧ FrS [] H285 H305) n303 ⟨0, hn304, ha_, (FrS.refl (W := []) e286.wf)⟩ ?_
  rintro n303 α H305 ⟨i2, hi308, hh307, e306⟩ K313 k313
  obtain ⟨n309, z310, rfl, hz311, hn312⟩ := iter_succ hi308
  obtain ⟨β, rfl⟩ := has_ex hh307
  clear hh307
  replace hz311 : z_viaductref10_DocCheck_l1 Node UpFirst Up DownFirst Down y280 i2 = some z310 := hz311
  unfold z_viaductref10_DocCheck_l1 at hz311
  refine w_seqk fun _ k314 => g_' (q_ (.bool (decide (i2 < (y280.length : Int)))) (s_nil (k314 _ _ (w_seqk fun _ k315 => ?_))))
  refine w_condp (i2 < (y280.length : Int)) (by kernel_rfl) rfl (fun h316 => ?_) (fun h316 => ?_)
  ·have r317 := ite_t h316 hz311
   refine w_skip (k315 _ _ (w_seqk fun _ k318 => w_block (w_seqk fun _ k319 => g_' (q_ (i_ i2) (q_ (i_ i2) (s_nil (k319 _ _ (w_seqk fun _ k320 => g_' ?_))))))))
   have u321 := ((u274.frS e286 Dj.nil_l).frS e306 Dj.nil_l)
   refine l_' (.agg #[hd_Node, hd_UpFirst, hd_Up, hd_DownFirst, hd_Down]) (aLoad Tryz.prog 25 (pt_ b7 0) H305) (u321.ld (by kernel_rfl)) ?_
   refine q_ (.slice a290 n291 c292) (q_ (i_ i2) ?_)
   have u322 := ((u275.fr e286 Dj.nil_l).fr e306 Dj.nil_l)
   have u323 := ((u276.fr e286 Dj.nil_l).fr e306 Dj.nil_l)
   have u324 := ((u277.fr e286 Dj.nil_l).fr e306 Dj.nil_l)
   have u325 := ((u278.fr e286 Dj.nil_l).fr e306 Dj.nil_l)
   have u326 := ((u279.fr e286 Dj.nil_l).fr e306 Dj.nil_l)
   have u327 := (m287.fr e306 Dj.nil_l)
   obtain ⟨y328, hy329, r330⟩ := bind_some r317
   refine s_ck 34 #[.agg #[hd_Node, hd_UpFirst, hd_Up, hd_DownFirst, hd_Down], .slice a290 n291 c292, i_ i2] (by kernel_rfl) (c_viaductref10_link e306.wf u322 u323 u324 u325 u326 u327.sq hy329) ?_
   rintro _ H333 ⟨s331, f332, rfl, e334, m335, i336⟩
   obtain ⟨a338, n339, c340, rfl⟩ := m335.form
   refine s_rwk e334.wf [i_ 0, .slice none 0 0] (by kernel_rfl) fun b341 H342 e343 hb344 r345 => ?_
   have u351 := (m335.ext e343)
   obtain ⟨H347, q348, e349, r350⟩ := Row.store (P := Tryz.prog) (t := 35) (p := 0) e343.wf r345 (.agg #[i_ y328.1, .slice a338 n339 c340]) [i_ y328.1, .slice a338 n339 c340] (by kernel_rfl) (by kernel_rfl) (one_cons (rfl) (one_cons (u351.one1) (one_nil))) (Nat.le_of_ble_eq_true (by kernel_rfl)) [i_ y328.1, .slice a338 n339 c340] (by kernel_rfl)
   refine s_ek (undef) (by kernel_rfl) (map_ok q348) ?_
   refine s_nil (k320 _ _ (w_seqk fun _ k352 => g_' ?_))
   refine l_' (.agg #[i_ y328.1, .slice a338 n339 c340]) (aLoad Tryz.prog 35 (pt_ b341 0) H347) (r350.ld (by kernel_rfl)) ?_
   have u353 := (u351.fr e349 (hb344.djn m335.lt))
   obtain ⟨y354, hy355, r356⟩ := bind_some r330
   refine s_ck 23 #[.agg #[i_ y328.1, .slice a338 n339 c340]] (by kernel_rfl) (c_viaductref01_Err_Bad e349.wf u353.sq hy355) ?_
   rintro _ H357 ⟨rfl, e358⟩
   refine s_nil (k352 _ _ ?_)
   refine w_cond (y354) (by kernel_rfl) rfl (fun h359 => ?_) (fun h359 => ?_)
   ·have r360 := ite_t h359 r356
    refine w_seqk fun _ k361 => g_' ?_
    have u362 := (r350.frS e358 Dj.nil_l)
    refine l_' (.agg #[i_ y328.1, .slice a338 n339 c340]) (aLoad Tryz.prog 35 (pt_ b341 0) H357) (u362.ld (by kernel_rfl)) ?_
    have u367 := (((((((((((((((r17.ext e86).frS e97 Dj.nil_l).frS e112 Dj.nil_l).ext e121).frS e134 Dj.nil_l).frS e143 (hb87.djn r17.ltF)).frS e153 Dj.nil_l).ext e172).frS e188 (hf173.djn (r17.ltF.le (ntr (ntr (ntr (ntr (ntr (ntr e86.next e97.next) e112.next) e121.next) e134.next) e143.next) e153.next)))).frS e286 Dj.nil_l).frS e306 Dj.nil_l).frS e334 Dj.nil_l).ext e343).frS e349 (hb344.djn (r17.ltF.le (ntr (ntr (ntr (ntr (ntr (ntr (ntr (ntr (ntr (ntr (ntr e86.next e97.next) e112.next) e121.next) e134.next) e143.next) e153.next) e172.next) e188.next) e286.next) e306.next) e334.next)))).frS e358 Dj.nil_l)
    have u368 := (u353.fr e358 Dj.nil_l)
    obtain ⟨H363, q364, e365, r366⟩ := Row.store (P := Tryz.prog) (t := 35) (p := 0) e358.wf u367 (.agg #[i_ y328.1, .slice a338 n339 c340]) [i_ y328.1, .slice a338 n339 c340] (by kernel_rfl) (by kernel_rfl) (one_cons (rfl) (one_cons (u368.one1) (one_nil))) (Nat.le_of_ble_eq_true (by kernel_rfl)) [i_ y328.1, .slice a338 n339 c340] (by kernel_rfl)
    refine s_ek (undef) (by kernel_rfl) (map_ok q364) ?_
    refine s_nil (k361 _ _ ?_)
    refine w_ret (bl_ret (th_ret (th_ret (bl_ret (th_ret (th_ret ?_))))))
    obtain ⟨v369, hv370, hz371⟩ := map_some r360
    subst hz371
    obtain rfl := it_inr hn312
    have hq372 := elim_inl r297
    rw [hq372] at hv370
    refine b_ret (fn := Tryz.f9) (vs := [.agg #[i_ y328.1, .slice a338 n339 c340]]) (aRes_cell (Eq.trans (b := aLoad Tryz.prog 35 (pt_ b13 0) H363) (by kernel_rfl) (r366.ld (by kernel_rfl))) (rfl)) ?_
    have u373 := (u368.fr e365 (Dj.symm (i336.djn (r17.ltF.le (ntr (ntr (ntr (ntr (ntr (ntr (ntr (ntr (ntr (ntr e86.next e97.next) e112.next) e121.next) e134.next) e143.next) e153.next) e172.next) e188.next) e286.next) e306.next)))))
    obtain rfl := Option.some.inj hv370
    exact ⟨(.slice a338 n339 c340), f332, rfl, (FrS.step wf (FrS.step wf (FrS.step wf ((FrS.step wf (FrS.step wf (FrS.step wf (FrS.step wf ((FrS.step wf (FrS.step wf (FrS.step wf ((FrS.step wf (FrS.step wf ((((FrS.refl (W := []) wf).extR e9).extR e15).extR e86) e97 Inn.nil) e112 Inn.nil).extR e121) e134 Inn.nil) e143 (hb87.fresh (ntr e9.next e15.next))) e153 Inn.nil).extR e172) e188 (hf173.fresh (ntr (ntr (ntr (ntr (ntr (ntr (ntr (ntr e9.next e15.next) e86.next) e97.next) e112.next) e121.next) e134.next) e143.next) e153.next))) e286 Inn.nil) e306 Inn.nil) e334 Inn.nil).extR e343) e349 (hb344.fresh (ntr (ntr (ntr (ntr (ntr (ntr (ntr (ntr (ntr (ntr (ntr (ntr (ntr e9.next e15.next) e86.next) e97.next) e112.next) e121.next) e134.next) e143.next) e153.next) e172.next) e188.next) e286.next) e306.next) e334.next))) e358 Inn.nil) e365 (hb16.fresh e9.next)), u373.sq, (i336.fresh (ntr (ntr (ntr (ntr (ntr (ntr (ntr (ntr (ntr (ntr (ntr (ntr e9.next e15.next) e86.next) e97.next) e112.next) e121.next) e134.next) e143.next) e153.next) e172.next) e188.next) e286.next) e306.next))⟩
   have r374 := ite_bf h359 r356
   refine w_skip (k318 _ _ (g_' ?_))
   obtain ⟨g375, r376⟩ := G_some r374
   refine w_' (i2 + 1) (wrap64 g375) ?_
   refine q_ (i_ (i2 + 1)) (s_nil ?_)
   obtain rfl := Option.some.inj r376
   exact k313 n309 _ _ (Nat.lt_succ_self _) ⟨(i2 + 1), hn312, ha_, (FrS.step e286.wf (FrS.step e286.wf ((FrS.step e286.wf (FrS.step e286.wf (FrS.refl (W := []) e286.wf) e306 Inn.nil) e334 Inn.nil).extR e343) e349 (hb344.fresh (ntr e306.next e334.next))) e358 Inn.nil)⟩
  have r377 := ite_f h316 hz311
  refine w_exit (th_exit (th_exit (bl_eq ?_)))
  obtain rfl := Option.some.inj r377
  obtain rfl := it_inr hn312
  exact k301 _ _ ⟨_, rfl, ha_, (FrS.step e286.wf (FrS.refl (W := []) e286.wf) e306 Inn.nil)⟩
 obtain ⟨o295, rfl, hh302, e300⟩ := hM
 have r378 := elim_inr r297
 obtain ⟨β, rfl⟩ := has_ex hh302
 clear hh302
 refine k293 _ _ (w_seqk fun _ k379 => g_' (q_ (.agg #[i_ 0, .slice none 0 0]) ?_))
 have u384 := (((((((((((r17.ext e86).frS e97 Dj.nil_l).frS e112 Dj.nil_l).ext e121).frS e134 Dj.nil_l).frS e143 (hb87.djn r17.ltF)).frS e153 Dj.nil_l).ext e172).frS e188 (hf173.djn (r17.ltF.le (ntr (ntr (ntr (ntr (ntr (ntr e86.next e97.next) e112.next) e121.next) e134.next) e143.next) e153.next)))).frS e286 Dj.nil_l).frS e300 Dj.nil_l)
 obtain ⟨H380, q381, e382, r383⟩ := Row.store (P := Tryz.prog) (t := 35) (p := 0) e300.wf u384 (.agg #[i_ 0, .slice none 0 0]) [i_ 0, .slice none 0 0] (by kernel_rfl) (by kernel_rfl) (one_cons (rfl) (one_cons (rfl) (one_nil))) (Nat.le_of_ble_eq_true (by kernel_rfl)) [i_ 0, .slice none 0 0] (by kernel_rfl)
 refine s_ek (undef) (by kernel_rfl) (map_ok q381) ?_
 refine s_nil (k379 _ _ ?_)
 refine w_ret ?_
 refine b_ret (fn := Tryz.f9) (vs := [.agg #[i_ 0, .slice none 0 0]]) (aRes_cell (Eq.trans (b := aLoad Tryz.prog 35 (pt_ b13 0) H380) (by kernel_rfl) (r383.ld (by kernel_rfl))) (rfl)) ?_
 obtain rfl := Option.some.inj r378
 exact ⟨(.slice none 0 0), [], rfl, (FrS.step wf (FrS.step wf (FrS.step wf (FrS.step wf ((FrS.step wf (FrS.step wf (FrS.step wf ((FrS.step wf (FrS.step wf ((((FrS.refl (W := []) wf).extR e9).extR e15).extR e86) e97 Inn.nil) e112 Inn.nil).extR e121) e134 Inn.nil) e143 (hb87.fresh (ntr e9.next e15.next))) e153 Inn.nil).extR e172) e188 (hf173.fresh (ntr (ntr (ntr (ntr (ntr (ntr (ntr (ntr e9.next e15.next) e86.next) e97.next) e112.next) e121.next) e134.next) e143.next) e153.next))) e286 Inn.nil) e300 Inn.nil) e382 (hb16.fresh e9.next)), (Sq.nil (by decide)), Inn.nil⟩
theorem c_viaductseen_Same {H : AH} {ev_err : Value} {fp_err : Fp} {hd_Places : Value} {fp_Places : Fp} {err : Er} {Code : Int} {Places : List (Int × Int)} {r : Bool}
    (wf : WF H) (h_err : Ev 73 68 H ev_err err fp_err) (h_Places : Sq enc_i64_i64 2 H hd_Places Places fp_Places) (hr : z_viaductseen_Same err Code Places = some r) :
    ACalls Tryz.prog 6 #[ev_err, .agg #[i_ Code, hd_Places]] H fun v H' => v = .bool r ∧ FrS [] H H' := by
 refine acalls_of_body mixed Tryz.func6 rfl (Nat.le_of_ble_eq_true rfl) ?_
 unfold z_viaductseen_Same at hr
 refine w_seqk fun _ k1 => g_' ?_
 refine s_rwl wf [i_ Code, hd_Places] (one_cons (rfl) (one_cons (h_Places.one1) (one_nil))) (by kernel_rfl) fun b2 H3 e4 hb5 r6 => ?_
 refine q_ (.bool false) (s_nil (k1 _ _ (w_seqk fun _ k8 => w_seqk fun _ k9 => g_' ?_)))
 refine l_' (.agg #[i_ Code, hd_Places]) (aLoad Tryz.prog 35 (pt_ b2 0) H3) (r6.ld (by kernel_rfl)) ?_
 have u10 := (h_Places.ext e4)
 obtain ⟨y11, hy12, r13⟩ := bind_some hr
 refine s_ck 23 #[.agg #[i_ Code, hd_Places]] (by kernel_rfl) (c_viaductref01_Err_Bad e4.wf u10 hy12) ?_
 rintro _ H14 ⟨rfl, e15⟩
 refine q_ (.bool (!y11)) (s_nil (k9 _ _ ?_))
 refine w_cond ((!y11)) (by kernel_rfl) rfl (fun h16 => ?_) (fun h16 => ?_)
 ·have r17 := ite_t h16 r13
  refine w_seqk fun _ k18 => g_' (q_ (ev_err) ?_)
  have u22 := ((h_err.ext e4).fr e15 Dj.nil_l)
  rcases (u22).cases with ⟨h19, rfl⟩ | ⟨h19, t20, x21, rfl⟩
  ·have r23 := ite_t h19 r17
   refine q_ (.bool true) (q_ (.bool true) (s_nil (k18 _ _ ?_)))
   refine w_ret (th_ret ?_)
   refine b_ret (fn := Tryz.f6) (vs := [.bool true]) (aRes_tmp (by kernel_rfl) (rfl)) ?_
   obtain rfl := Option.some.inj r23
   exact ⟨rfl, (FrS.step wf ((FrS.refl (W := []) wf).extR e4) e15 Inn.nil)⟩
  have r24 := ite_f h19 r17
  refine l_' (.bool false) (aBin Tryz.prog .eql 30 (.tmp 15) (.const .nilIface) (.iface t20 x21) .nilIface) (aBin_nil (by kernel_rfl)) ?_
  refine q_ (.bool false) (s_nil (k18 _ _ ?_))
  refine w_ret (th_ret ?_)
  refine b_ret (fn := Tryz.f6) (vs := [.bool false]) (aRes_tmp (by kernel_rfl) (rfl)) ?_
  obtain rfl := Option.some.inj r24
  exact ⟨rfl, (FrS.step wf ((FrS.refl (W := []) wf).extR e4) e15 Inn.nil)⟩
 have r25 := ite_bf h16 r13
 refine w_skip (k8 _ _ (w_seqk fun _ k26 => w_seqk fun _ k27 => g_' (q_ (ev_err) ?_)))
 have u31 := ((h_err.ext e4).fr e15 Dj.nil_l)
 rcases (u31).cases with ⟨h28, rfl⟩ | ⟨h28, t29, x30, rfl⟩
 ·have r32 := ite_t h28 r25
  refine q_ (.bool true) (s_nil (k27 _ _ ?_))
  refine w_cond true (by kernel_rfl) rfl (fun _ => ?_) (fun h => by cases h)
  refine w_seqk fun _ k33 => g_' (q_ (.bool false) (s_nil (k33 _ _ ?_)))
  refine w_ret (th_ret ?_)
  refine b_ret (fn := Tryz.f6) (vs := [.bool false]) (aRes_tmp (by kernel_rfl) (rfl)) ?_
  obtain rfl := Option.some.inj r32
  exact ⟨rfl, (FrS.step wf ((FrS.refl (W := []) wf).extR e4) e15 Inn.nil)⟩
 have r34 := ite_f h28 r25
 refine l_' (.bool false) (aBin Tryz.prog .eql 30 (.tmp 17) (.const .nilIface) (.iface t29 x30) .nilIface) (aBin_nil (by kernel_rfl)) ?_
 refine s_nil (k27 _ _ ?_)
 refine w_cond false (by kernel_rfl) rfl (fun h => by cases h) (fun _ => ?_)
 refine w_skip (k26 _ _ (w_seqk fun _ k35 => g_' (q_ (.iface t29 x30) (q_ (.iface t29 x30) (s_nil (k35 _ _ (w_seqk fun _ k36 => w_seqk fun _ k37 => g_' (q_ (pt_ b2 1) ?_))))))))
 have u38 := (r6.frS e15 Dj.nil_l)
 refine l_' (hd_Places) (aLoad Tryz.prog 33 (pt_ b2 1) H14) (u38.ld (by kernel_rfl)) ?_
 have u39 := (u10.fr e15 Dj.nil_l)
 refine l_' (i_ (Places.length : Int)) (aLen Tryz.prog 33 hd_Places H14) (u39.lenb (by kernel_rfl)) ?_
 refine q_ (i_ 0) (s_nil (k37 _ _ ?_))
 obtain ⟨z43, hx41, r42⟩ := bind_some r34
 refine w_mid (fun α H44 => ∃ o40, z43 = Sum.inr o40 ∧ ∃ (v48 : Value), Has α [(0, .iface t29 x30), (3, pt_ b2 0), (5, v48)] ∧ FrS [] H14 H44 ∧ Ev 73 68 H44 v48 o40 fp_err) (fun _ k49 => ?_) (fun α H44 hM => ?_)
 ·refine w_block ?_
  obtain ⟨n51, hn52⟩ := loopO_iff.1 hx41
  refine w_loopn (fun n α H53 => ∃ (i0 : Int), ∃ (e1 : Er), ∃ (v57 : Value), iterO (fun zz_ => z_viaductseen_Same_l0 Places zz_.1 zz_.2) n (i0, e1) = some z43 ∧ Has α [(0, .iface t29 x30), (3, pt_ b2 0), (5, v57), (21, hd_Places), (22, i_ (Places.length : Int)), (23, i_ i0)] ∧ FrS [] H14 H53 ∧ Ev 73 68 H53 v57 e1 fp_err) n51 ⟨0, err, (.iface t29 x30), hn52, ha_, (FrS.refl (W := []) e15.wf), u31⟩ ?_
  rintro n51 α H53 ⟨i0, e1, v57, hi59, hh58, e54, m56⟩ K64 k64
  obtain ⟨n60, z61, rfl, hz62, hn63⟩ := iter_succ hi59
  obtain ⟨β, rfl⟩ := has_ex hh58
  clear hh58
  replace hz62 : z_viaductseen_Same_l0 Places i0 e1 = some z61 := hz62
  unfold z_viaductseen_Same_l0 at hz62
  refine w_seqk fun _ k65 => g_' (q_ (.bool (decide (i0 < (Places.length : Int)))) (s_nil (k65 _ _ (w_seqk fun _ k66 => ?_))))
  refine w_condp (i0 < (Places.length : Int)) (by kernel_rfl) rfl (fun h67 => ?_) (fun h67 => ?_)
  ·have r68 := ite_t h67 hz62
   refine w_skip (k66 _ _ (w_seqk fun _ k69 => w_block (w_seqk fun _ k70 => g_' ?_)))
   obtain ⟨g71, r72⟩ := G_some r68
   have u73 := (u39.fr e54 Dj.nil_l)
   refine l_' (elp hd_Places 2 i0.toNat 0) (aIndexAddr Tryz.prog 33 hd_Places (i_ i0)) (u73.idxb (by kernel_rfl) g71 h67) ?_
   refine l_' (.agg #[i_ ((gt Places i0).1), i_ ((gt Places i0).2)]) (aLoad Tryz.prog 67 (elp hd_Places 2 i0.toNat 0) H53) (u73.ld g71 h67 (by kernel_rfl)) ?_
   refine s_rwk e54.wf [i_ 0, i_ 0] (by kernel_rfl) fun b74 H75 e76 hb77 r78 => ?_
   obtain ⟨H80, q81, e82, r83⟩ := Row.store (P := Tryz.prog) (t := 67) (p := 0) e76.wf r78 (.agg #[i_ ((gt Places i0).1), i_ ((gt Places i0).2)]) [i_ ((gt Places i0).1), i_ ((gt Places i0).2)] (by kernel_rfl) (by kernel_rfl) (one_cons (rfl) (one_cons (rfl) (one_nil))) (Nat.le_of_ble_eq_true (by kernel_rfl)) [i_ ((gt Places i0).1), i_ ((gt Places i0).2)] (by kernel_rfl)
   refine s_ek (undef) (by kernel_rfl) (map_ok q81) ?_
   refine s_nil (k70 _ _ (w_seqk fun _ k84 => g_' ?_))
   refine s_rwk e82.wf [.pointer none] (by kernel_rfl) fun b85 H86 e87 hb88 r89 => ?_
   refine s_nil (k84 _ _ (w_seqk fun _ k91 => w_seqk fun _ k92 => ?_))
   refine w_draw [0, 1, 2, 3, 4, 5, 6, 7, 8, 9, 10, 11, 12, 13, 14, 15] (by kernel_rfl) ?_
   refine e_' (v57) (e_' (.iface 70 (pt_ b85 0)) ?_)
   by_cases h93 : Er.isAt e1 = true
   ·have r94 := ite_t h93 r72
    have u103 := (((m56.ext e76).fr e82 (hb77.djn (h_err.lt.le (ntr (ntr e4.next e15.next) e54.next)))).ext e87)
    refine d_ck 24 #[v57, .iface 70 (pt_ b85 0)] (by kernel_rfl) (a_asF_at e87.wf r89 (hb88.djn (h_err.lt.le (ntr (ntr (ntr (ntr e4.next e15.next) e54.next) e76.next) e82.next))) u103 h93) ?_
    rintro _ H95 ⟨rfl, e96, b98, u99, -, i100, r97, r101, v102⟩
    refine ⟨st_nil, ?_⟩
    refine e_' (.bool false) (e_' (.bool false) ?_)
    refine m_' (pt_ b98 0) (aLoad Tryz.prog 68 (pt_ b85 0) H95) (r97.ld (by kernel_rfl)) ?_
    refine e_' (.bool false) (e_' (.bool false) (e_' (.bool false) ?_))
    refine m_' (pt_ b98 0) (aLoad Tryz.prog 68 (pt_ b85 0) H95) (r97.ld (by kernel_rfl)) ?_
    refine e_' (pt_ b98 0) (e_' (pt_ b98 0) ?_)
    refine m_' (.agg #[i_ (Er.fk e1), i_ (Er.fi e1)]) (aLoad Tryz.prog 67 (pt_ b98 0) H95) (r101.ld (by kernel_rfl)) ?_
    have u106 := ((r83.ext e87).frS e96 (hb88.djn (r78.ltF.le e82.next)))
    refine m_' (.agg #[i_ ((gt Places i0).1), i_ ((gt Places i0).2)]) (aLoad Tryz.prog 67 (pt_ b74 0) H95) (u106.ld (by kernel_rfl)) ?_
    refine m_' (.bool (!decide ((Er.fk e1) = ((gt Places i0).1) ∧ (Er.fi e1) = ((gt Places i0).2)))) (aBin Tryz.prog .neq 67 (.tmp 39) (.tmp 40) (.agg #[i_ (Er.fk e1), i_ (Er.fi e1)]) (.agg #[i_ ((gt Places i0).1), i_ ((gt Places i0).2)])) (aBin_neq67 _ _ (Er.fk e1) (Er.fi e1) ((gt Places i0).1) ((gt Places i0).2)) ?_
    refine e_' (.bool (!decide ((Er.fk e1) = ((gt Places i0).1) ∧ (Er.fi e1) = ((gt Places i0).2)))) ?_
    refine d_nil ?_
    refine k92 _ _ ?_
    refine w_condn ((Er.fk e1) = ((gt Places i0).1) ∧ (Er.fi e1) = ((gt Places i0).2)) (by kernel_rfl) rfl (fun h107 => ?_) (fun h107 => ?_)
    ·have r108 := ite_f h107 r94
     refine w_seqk fun _ k109 => g_' (q_ (.bool false) (s_nil (k109 _ _ ?_)))
     refine w_ret (th_ret (bl_ret (th_ret (th_ret (bl_ret (th_ret (th_ret ?_)))))))
     obtain ⟨v110, hv111, hz112⟩ := map_some r108
     subst hz112
     obtain rfl := it_inr hn63
     have hq113 := elim_inl r42
     rw [hq113] at hv111
     refine b_ret (fn := Tryz.f6) (vs := [.bool false]) (aRes_tmp (by kernel_rfl) (rfl)) ?_
     obtain rfl := Option.some.inj hv111
     exact ⟨rfl, (FrS.step wf ((FrS.step wf ((FrS.step wf (FrS.step wf ((FrS.refl (W := []) wf).extR e4) e15 Inn.nil) e54 Inn.nil).extR e76) e82 (hb77.fresh (ntr (ntr e4.next e15.next) e54.next))).extR e87) e96 (hb88.fresh (ntr (ntr (ntr (ntr e4.next e15.next) e54.next) e76.next) e82.next)))⟩
    have r114 := ite_t h107 r94
    refine w_skip (k91 _ _ (g_' ?_))
    refine l_' (pt_ b98 0) (aLoad Tryz.prog 68 (pt_ b85 0) H95) (r97.ld (by kernel_rfl)) ?_
    refine q_ (pt_ b98 0) (q_ (pt_ b98 2) ?_)
    refine l_' (u99) (aLoad Tryz.prog 30 (pt_ b98 2) H95) (r101.ld (by kernel_rfl)) ?_
    refine q_ (u99) (s_nil (k69 _ _ (g_' ?_)))
    obtain ⟨g115, r116⟩ := G_some r114
    refine w_' (i0 + 1) (wrap64 (by have := g115; omega)) ?_
    refine q_ (i_ (i0 + 1)) (s_nil ?_)
    obtain rfl := Option.some.inj r116
    exact k64 n60 _ _ (Nat.lt_succ_self _) ⟨(i0 + 1), (Er.fe e1), (u99), hn63, ha_, (FrS.step e15.wf ((FrS.step e15.wf ((FrS.step e15.wf (FrS.refl (W := []) e15.wf) e54 Inn.nil).extR e76) e82 (hb77.fresh e54.next)).extR e87) e96 (hb88.fresh (ntr (ntr e54.next e76.next) e82.next))), v102⟩
   have r117 := ite_f h93 r72
   have u118 := (((m56.ext e76).fr e82 (hb77.djn (h_err.lt.le (ntr (ntr e4.next e15.next) e54.next)))).ext e87)
   refine d_ck 24 #[v57, .iface 70 (pt_ b85 0)] (by kernel_rfl) (a_asF_no r89 u118 h93) ?_
   rintro _ _ ⟨rfl, rfl⟩
   refine ⟨st_nil, ?_⟩
   refine e_' (.bool true) (e_' (.bool true) (j_' (j_' (e_' (.bool true) (e_' (.bool true) (j_' (j_' (j_' (j_' (j_' (j_' (e_' (.bool true) ?_))))))))))))
   refine d_nil ?_
   refine k92 _ _ ?_
   refine w_cond true (by kernel_rfl) rfl (fun _ => ?_) (fun h => by cases h)
   refine w_seqk fun _ k119 => g_' (q_ (.bool false) (s_nil (k119 _ _ ?_)))
   refine w_ret (th_ret (bl_ret (th_ret (th_ret (bl_ret (th_ret (th_ret ?_)))))))
   obtain ⟨v120, hv121, hz122⟩ := map_some r117
   subst hz122
   obtain rfl := it_inr hn63
   have hq123 := elim_inl r42
   rw [hq123] at hv121
   refine b_ret (fn := Tryz.f6) (vs := [.bool false]) (aRes_tmp (by kernel_rfl) (rfl)) ?_
   obtain rfl := Option.some.inj hv121
   exact ⟨rfl, ((FrS.step wf ((FrS.step wf (FrS.step wf ((FrS.refl (W := []) wf).extR e4) e15 Inn.nil) e54 Inn.nil).extR e76) e82 (hb77.fresh (ntr (ntr e4.next e15.next) e54.next))).extR e87)⟩
  have r124 := ite_f h67 hz62
  refine w_exit (th_exit (th_exit (bl_eq ?_)))
  obtain rfl := Option.some.inj r124
  obtain rfl := it_inr hn63
  exact k49 _ _ ⟨_, rfl, (v57), ha_, (FrS.step e15.wf (FrS.refl (W := []) e15.wf) e54 Inn.nil), m56⟩
 obtain ⟨o40, rfl, v48, hh50, e45, m47⟩ := hM
 have r125 := elim_inr r42
 obtain ⟨β, rfl⟩ := has_ex hh50
 clear hh50
 refine k36 _ _ (w_seqk fun _ k126 => g_' ?_)
 refine s_rwk e45.wf [.pointer none] (by kernel_rfl) fun b127 H128 e129 hb130 r131 => ?_
 refine s_nil (k126 _ _ (w_seqk fun _ k133 => w_seqk fun _ k134 => g_' (q_ (v48) (q_ (.iface 70 (pt_ b127 0)) ?_))))
 by_cases h135 : Er.isAt o40 = true
 ·have r136 := ite_t h135 r125
  have u145 := (m47.ext e129)
  refine s_ck 24 #[v48, .iface 70 (pt_ b127 0)] (by kernel_rfl) (a_asF_at e129.wf r131 (hb130.djn (h_err.lt.le (ntr (ntr e4.next e15.next) e45.next))) u145 h135) ?_
  rintro _ H137 ⟨rfl, e138, b140, u141, -, i142, r139, r143, v144⟩
  refine s_nil (k134 _ _ ?_)
  refine w_cond true (by kernel_rfl) rfl (fun _ => ?_) (fun h => by cases h)
  refine w_seqk fun _ k148 => g_' (q_ (.bool false) (s_nil (k148 _ _ ?_)))
  refine w_ret (th_ret ?_)
  refine b_ret (fn := Tryz.f6) (vs := [.bool false]) (aRes_tmp (by kernel_rfl) (rfl)) ?_
  obtain rfl := Option.some.inj r136
  exact ⟨rfl, (FrS.step wf ((FrS.step wf (FrS.step wf ((FrS.refl (W := []) wf).extR e4) e15 Inn.nil) e45 Inn.nil).extR e129) e138 (hb130.fresh (ntr (ntr e4.next e15.next) e45.next)))⟩
 have r149 := ite_f h135 r125
 have u150 := (m47.ext e129)
 refine s_ck 24 #[v48, .iface 70 (pt_ b127 0)] (by kernel_rfl) (a_asF_no r131 u150 h135) ?_
 rintro _ _ ⟨rfl, rfl⟩
 refine s_nil (k134 _ _ ?_)
 refine w_cond false (by kernel_rfl) rfl (fun h => by cases h) (fun _ => ?_)
 refine w_skip (k133 _ _ (w_seqk fun _ k151 => g_' ?_))
 refine s_rwk e129.wf [i_ 0] (by kernel_rfl) fun b152 H153 e154 hb155 r156 => ?_
 refine s_nil (k151 _ _ (w_seqk fun _ k158 => w_seqk fun _ k159 => ?_))
 obtain ⟨o160, hx161, r162⟩ := bind_some r149
 refine w_mid (fun α H163 => Has α [(0, .iface t29 x30), (3, pt_ b2 0), (60, .bool o160)] ∧ FrS [b152] H153 H163) (fun _ k165 => ?_) (fun α H163 hM => ?_)
 ·refine g_' (q_ (.iface t29 x30) (q_ (.iface 74 (pt_ b152 0)) ?_))
  by_cases h167 : (Er.num err).isSome = true
  ·have r168 := ite_t h167 hx161
   have u172 := (((u31.fr e45 Dj.nil_l).ext e129).ext e154)
   refine s_ck 24 #[.iface t29 x30, .iface 74 (pt_ b152 0)] (by kernel_rfl) (a_asN_y e154.wf r156 u172 h28 h167) ?_
   rintro _ H169 ⟨rfl, e170, r171⟩
   refine q_ (.bool false) (q_ (.bool false) ?_)
   refine l_' (i_ ((Er.num err).getD 0)) (aLoad Tryz.prog 73 (pt_ b152 0) H169) (r171.ld (by kernel_rfl)) ?_
   refine q_ (pt_ b2 0) ?_
   have u173 := ((((u38.frS e45 Dj.nil_l).ext e129).ext e154).frS e170 (hb155.djn (r6.ltF.le (ntr (ntr e15.next e45.next) e129.next))))
   refine l_' (i_ Code) (aLoad Tryz.prog 3 (pt_ b2 0) H169) (u173.ld (by kernel_rfl)) ?_
   refine q_ (.bool (!decide (((Er.num err).getD 0) = Code))) (q_ (.bool (!decide (((Er.num err).getD 0) = Code))) (s_nil ?_))
   obtain rfl := Option.some.inj r168
   exact k165 _ _ ⟨ha_, (FrS.step e154.wf (FrS.refl (W := [b152]) e154.wf) e170 Inn.refl')⟩
  have r174 := ite_f h167 hx161
  have u178 := (((u31.fr e45 Dj.nil_l).ext e129).ext e154)
  refine s_ck 24 #[.iface t29 x30, .iface 74 (pt_ b152 0)] (by kernel_rfl) (a_asN_n e154.wf r156 u178 h28 h167) ?_
  rintro _ H175 ⟨rfl, e176, r177⟩
  refine q_ (.bool true) (q_ (.bool true) (n_' (n_' (n_' (n_' (q_ (.bool true) (s_nil ?_)))))))
  obtain rfl := Option.some.inj r174
  exact k165 _ _ ⟨ha_, (FrS.step e154.wf (FrS.refl (W := [b152]) e154.wf) e176 Inn.refl')⟩
 obtain ⟨hh166, e164⟩ := hM
 obtain ⟨β, rfl⟩ := has_ex hh166
 clear hh166
 refine k159 _ _ ?_
 refine w_cond (o160) (by kernel_rfl) rfl (fun h179 => ?_) (fun h179 => ?_)
 ·have r180 := ite_t h179 r162
  refine w_seqk fun _ k181 => g_' (q_ (.bool false) (s_nil (k181 _ _ ?_)))
  refine w_ret (th_ret ?_)
  refine b_ret (fn := Tryz.f6) (vs := [.bool false]) (aRes_tmp (by kernel_rfl) (rfl)) ?_
  obtain rfl := Option.some.inj r180
  exact ⟨rfl, (FrS.step wf (((FrS.step wf (FrS.step wf ((FrS.refl (W := []) wf).extR e4) e15 Inn.nil) e45 Inn.nil).extR e129).extR e154) e164 (hb155.fresh (ntr (ntr (ntr e4.next e15.next) e45.next) e129.next)))⟩
 have r182 := ite_bf h179 r162
 refine w_skip (k158 _ _ (w_seqk fun _ k183 => w_seqk fun _ k184 => g_' (q_ (i_ 1) (s_nil (k184 _ _ ?_)))))
 obtain ⟨z188, hx186, r187⟩ := bind_some r182
 refine w_mid (fun α H189 => ∃ o185, z188 = Sum.inr o185 ∧ Has α [] ∧ H163 = H189) (fun _ k191 => ?_) (fun α H189 hM => ?_)
 ·refine w_block ?_
  obtain ⟨n193, hn194⟩ := loopO_iff.1 hx186
  refine w_loopn (fun n α H195 => ∃ (i2 : Int), iterO (fun zz_ => z_viaductseen_Same_l1 err Code zz_) n i2 = some z188 ∧ Has α [(0, .iface t29 x30), (3, pt_ b2 0), (11, i_ i2)] ∧ H163 = H195) n193 ⟨1, hn194, ha_, rfl⟩ ?_
  rintro n193 α H195 ⟨i2, hi198, hh197, rfl⟩ K203 k203
  obtain ⟨n199, z200, rfl, hz201, hn202⟩ := iter_succ hi198
  obtain ⟨β, rfl⟩ := has_ex hh197
  clear hh197
  replace hz201 : z_viaductseen_Same_l1 err Code i2 = some z200 := hz201
  unfold z_viaductseen_Same_l1 at hz201
  refine w_seqk fun _ k204 => w_seqk fun _ k205 => g_' (q_ (i_ i2) (q_ (.bool (decide (i2 ≤ 20))) (s_nil (k205 _ _ ?_))))
  refine w_condp (i2 ≤ 20) (by kernel_rfl) rfl (fun h206 => ?_) (fun h206 => ?_)
  ·have r207 := ite_t h206 hz201
   refine w_skip (k204 _ _ (w_seqk fun _ k208 => w_block (w_seqk fun _ k209 => ?_)))
   refine w_draw [0, 1, 2, 4, 5, 6, 7, 3, 8] (by kernel_rfl) ?_
   refine e_' (.iface t29 x30) (e_' (i_ i2) (e_' (.iface 73 (i_ i2)) (e_' (i_ i2) (e_' (pt_ b2 0) ?_))))
   have u210 := ((((u38.frS e45 Dj.nil_l).ext e129).ext e154).frS e164 (hb155.djn (r6.ltF.le (ntr (ntr e15.next e45.next) e129.next))))
   refine d_fl (i_ Code) (x := aLoad Tryz.prog 3 (pt_ b2 0) H163) (by kernel_rfl) (u210.ld (by kernel_rfl)) ?_
   refine e_' (.bool (decide (i2 = Code))) ?_
   have u211 := ((((u31.fr e45 Dj.nil_l).ext e129).ext e154).fr e164 (hb155.djn (h_err.lt.le (ntr (ntr (ntr e4.next e15.next) e45.next) e129.next))))
   refine d_ck 25 #[.iface t29 x30, .iface 73 (i_ i2)] (by kernel_rfl) (a_isN u211 h28) ?_
   rintro _ _ ⟨rfl, rfl⟩
   refine ⟨st_ql (y := aLoad Tryz.prog 3 (pt_ b2 0) H163) (by kernel_rfl) (u210.ld (by kernel_rfl)) (st_nil), ?_⟩
   refine e_' (.bool (!decide ((decide (Er.num err = some i2)) = (decide (i2 = Code))))) ?_
   refine d_nil ?_
   refine k209 _ _ ?_
   refine w_condn ((decide (Er.num err = some i2)) = (decide (i2 = Code))) (by kernel_rfl) rfl (fun h212 => ?_) (fun h212 => ?_)
   ·have r213 := ite_f h212 r207
    refine w_seqk fun _ k214 => g_' (q_ (.bool false) (s_nil (k214 _ _ ?_)))
    refine w_ret (bl_ret (th_ret (th_ret (bl_ret (th_ret (th_ret ?_))))))
    obtain ⟨v215, hv216, hz217⟩ := map_some r213
    subst hz217
    obtain rfl := it_inr hn202
    have hq218 := elim_inl r187
    rw [hq218] at hv216
    refine b_ret (fn := Tryz.f6) (vs := [.bool false]) (aRes_tmp (by kernel_rfl) (rfl)) ?_
    obtain rfl := Option.some.inj hv216
    exact ⟨rfl, (FrS.step wf (((FrS.step wf (FrS.step wf ((FrS.refl (W := []) wf).extR e4) e15 Inn.nil) e45 Inn.nil).extR e129).extR e154) e164 (hb155.fresh (ntr (ntr (ntr e4.next e15.next) e45.next) e129.next)))⟩
   have r219 := ite_t h212 r207
   refine w_skip (k208 _ _ (g_' (q_ (i_ i2) ?_)))
   obtain ⟨g220, r221⟩ := G_some r219
   refine w_' (i2 + 1) (wrap64 g220) ?_
   refine q_ (i_ (i2 + 1)) (s_nil ?_)
   obtain rfl := Option.some.inj r221
   exact k203 n199 _ _ (Nat.lt_succ_self _) ⟨(i2 + 1), hn202, ha_, rfl⟩
  have r222 := ite_f h206 hz201
  refine w_exit (th_exit (th_exit (bl_eq ?_)))
  obtain rfl := Option.some.inj r222
  obtain rfl := it_inr hn202
  exact k191 _ _ ⟨_, rfl, trivial, rfl⟩
 obtain ⟨o185, rfl, hh192, rfl⟩ := hM
 have r223 := elim_inr r187
 obtain ⟨β, rfl⟩ := has_ex hh192
 clear hh192
 refine k183 _ _ (w_seqk fun _ k224 => g_' (q_ (.bool true) (s_nil (k224 _ _ ?_))))
 refine w_ret ?_
 refine b_ret (fn := Tryz.f6) (vs := [.bool true]) (aRes_tmp (by kernel_rfl) (rfl)) ?_
 obtain rfl := Option.some.inj r223
 exact ⟨rfl, (FrS.step wf (((FrS.step wf (FrS.step wf ((FrS.refl (W := []) wf).extR e4) e15 Inn.nil) e45 Inn.nil).extR e129).extR e154) e164 (hb155.fresh (ntr (ntr (ntr e4.next e15.next) e45.next) e129.next)))⟩
theorem c_viaductref10_DocEnds {H : AH} {hd_Node : Value} {fp_Node : Fp} {hd_UpFirst : Value} {fp_UpFirst : Fp} {hd_Up : Value} {fp_Up : Fp} {hd_DownFirst : Value} {fp_DownFirst : Fp} {hd_Down : Value} {fp_Down : Fp} {Node : List (Int)} {UpFirst : List (Int)} {Up : List (Int × Int × Int × Int)} {DownFirst : List (Int)} {Down : List (Int × Int × Int × Int)} {i : Int} {r : Int × Int × Int × List (Int × Int)}
    (wf : WF H) (h_Node : Sq (encI .u32) 1 H hd_Node Node fp_Node) (h_UpFirst : Sq (encI .u32) 1 H hd_UpFirst UpFirst fp_UpFirst) (h_Up : Sq enc_u32_u64_u32_u32 4 H hd_Up Up fp_Up) (h_DownFirst : Sq (encI .u32) 1 H hd_DownFirst DownFirst fp_DownFirst) (h_Down : Sq enc_u32_u64_u32_u32 4 H hd_Down Down fp_Down) (hr : z_viaductref10_DocEnds Node UpFirst Up DownFirst Down i = some r) :
    ACalls Tryz.prog 11 #[.agg #[hd_Node, hd_UpFirst, hd_Up, hd_DownFirst, hd_Down], i_ i] H fun v H' => ∃ (s3 : Value) (f4 : Fp), v = .tuple #[i_ r.1, i_ r.2.1, .agg #[i_ r.2.2.1, s3]] ∧ FrS [] H H' ∧ Sq enc_i64_i64 2 H' s3 r.2.2.2 f4 ∧ Inn [] H f4 := by
 refine acalls_of_body mixed Tryz.func11 rfl (Nat.le_of_ble_eq_true rfl) ?_
 unfold z_viaductref10_DocEnds at hr
 refine w_seqk fun _ k6 => g_' ?_
 refine s_rwl wf [hd_Node, hd_UpFirst, hd_Up, hd_DownFirst, hd_Down] (one_cons (h_Node.one1) (one_cons (h_UpFirst.one1) (one_cons (h_Up.one1) (one_cons (h_DownFirst.one1) (one_cons (h_Down.one1) (one_nil)))))) (by kernel_rfl) fun b7 H8 e9 hb10 r11 => ?_
 refine q_ (i_ 0) (q_ (i_ 0) ?_)
 refine s_rwk e9.wf [i_ 0, .slice none 0 0] (by kernel_rfl) fun b13 H14 e15 hb16 r17 => ?_
 refine s_nil (k6 _ _ (w_seqk fun _ k19 => g_' ?_))
 have u20 := (r11.ext e15)
 refine l_' (.agg #[hd_Node, hd_UpFirst, hd_Up, hd_DownFirst, hd_Down]) (aLoad Tryz.prog 25 (pt_ b7 0) H14) (u20.ld (by kernel_rfl)) ?_
 have u21 := ((h_Node.ext e9).ext e15)
 have u22 := ((h_UpFirst.ext e9).ext e15)
 have u23 := ((h_Up.ext e9).ext e15)
 have u24 := ((h_DownFirst.ext e9).ext e15)
 have u25 := ((h_Down.ext e9).ext e15)
 obtain ⟨y26, hy27, r28⟩ := bind_some hr
 refine s_ck 9 #[.agg #[hd_Node, hd_UpFirst, hd_Up, hd_DownFirst, hd_Down]] (by kernel_rfl) (c_viaductref10_DocCheck e15.wf u21 u22 u23 u24 u25 hy27) ?_
 rintro _ H31 ⟨s29, f30, rfl, e32, m33, i34⟩
 obtain ⟨a36, n37, c38, rfl⟩ := m33.form
 refine s_rwk e32.wf [i_ 0, .slice none 0 0] (by kernel_rfl) fun b39 H40 e41 hb42 r43 => ?_
 have u49 := (m33.ext e41)
 obtain ⟨H45, q46, e47, r48⟩ := Row.store (P := Tryz.prog) (t := 35) (p := 0) e41.wf r43 (.agg #[i_ y26.1, .slice a36 n37 c38]) [i_ y26.1, .slice a36 n37 c38] (by kernel_rfl) (by kernel_rfl) (one_cons (rfl) (one_cons (u49.one1) (one_nil))) (Nat.le_of_ble_eq_true (by kernel_rfl)) [i_ y26.1, .slice a36 n37 c38] (by kernel_rfl)
 refine s_ek (undef) (by kernel_rfl) (map_ok q46) ?_
 refine s_nil (k19 _ _ (w_seqk fun _ k50 => w_seqk fun _ k51 => ?_))
 obtain ⟨o52, hx53, r54⟩ := bind_some r28
 refine w_mid (fun α H55 => Has α [(1, i_ i), (2, pt_ b7 0), (6, pt_ b13 0), (7, pt_ b39 0), (23, .bool o52)] ∧ FrS [] H45 H55) (fun _ k57 => ?_) (fun α H55 hM => ?_)
 ·refine g_' ?_
  refine l_' (.agg #[i_ y26.1, .slice a36 n37 c38]) (aLoad Tryz.prog 35 (pt_ b39 0) H45) (r48.ld (by kernel_rfl)) ?_
  have u59 := (u49.fr e47 (hb42.djn m33.lt))
  obtain ⟨y60, hy61, r62⟩ := bind_some hx53
  refine s_ck 23 #[.agg #[i_ y26.1, .slice a36 n37 c38]] (by kernel_rfl) (c_viaductref01_Err_Bad e47.wf u59 hy61) ?_
  rintro _ H63 ⟨rfl, e64⟩
  by_cases h65 : y60 = true
  ·have r66 := ite_t h65 r62
   rw [h65]
   refine q_ (.bool false) (q_ (.bool false) (n_' (n_' (n_' (n_' (n_' (n_' (n_' (n_' (q_ (.bool false) (s_nil ?_)))))))))))
   obtain rfl := Option.some.inj r66
   exact k57 _ _ ⟨ha_, (FrS.step e47.wf (FrS.refl (W := []) e47.wf) e64 Inn.nil)⟩
  have r68 := ite_f h65 r62
  rw [nb h65]
  refine q_ (.bool true) (q_ (.bool true) (q_ (i_ i) ?_))
  refine s_b (i < 0) (by kernel_rfl) (fun h70 => ?_) (fun h70 => ?_)
  ·have r71 := ite_t h70 r68
   refine q_ (.bool true) (n_' (n_' (n_' (n_' (q_ (.bool true) (q_ (.bool true) (s_nil ?_)))))))
   obtain rfl := Option.some.inj r71
   exact k57 _ _ ⟨ha_, (FrS.step e47.wf (FrS.refl (W := []) e47.wf) e64 Inn.nil)⟩
  have r72 := ite_f h70 r68
  refine q_ (.bool false) (q_ (i_ i) ?_)
  have u73 := ((((u20.frS e32 Dj.nil_l).ext e41).frS e47 (hb42.djn (r11.ltF.le (ntr e15.next e32.next)))).frS e64 Dj.nil_l)
  refine l_' (.agg #[hd_Node, hd_UpFirst, hd_Up, hd_DownFirst, hd_Down]) (aLoad Tryz.prog 25 (pt_ b7 0) H63) (u73.ld (by kernel_rfl)) ?_
  have u74 := ((((u21.fr e32 Dj.nil_l).ext e41).fr e47 (hb42.djn (h_Node.lt.le (ntr (ntr e9.next e15.next) e32.next)))).fr e64 Dj.nil_l)
  have u75 := ((((u22.fr e32 Dj.nil_l).ext e41).fr e47 (hb42.djn (h_UpFirst.lt.le (ntr (ntr e9.next e15.next) e32.next)))).fr e64 Dj.nil_l)
  have u76 := ((((u23.fr e32 Dj.nil_l).ext e41).fr e47 (hb42.djn (h_Up.lt.le (ntr (ntr e9.next e15.next) e32.next)))).fr e64 Dj.nil_l)
  have u77 := ((((u24.fr e32 Dj.nil_l).ext e41).fr e47 (hb42.djn (h_DownFirst.lt.le (ntr (ntr e9.next e15.next) e32.next)))).fr e64 Dj.nil_l)
  have u78 := ((((u25.fr e32 Dj.nil_l).ext e41).fr e47 (hb42.djn (h_Down.lt.le (ntr (ntr e9.next e15.next) e32.next)))).fr e64 Dj.nil_l)
  obtain ⟨y79, hy80, r81⟩ := bind_some r72
  refine s_ck 22 #[.agg #[hd_Node, hd_UpFirst, hd_Up, hd_DownFirst, hd_Down]] (by kernel_rfl) (c_viaductref10_Count e64.wf u74 u75 u76 u77 u78 hy80) ?_
  rintro _ H82 ⟨rfl, e83⟩
  refine q_ (.bool (decide (i ≥ y79))) (q_ (.bool (decide (i ≥ y79))) (q_ (.bool (decide (i ≥ y79))) (s_nil ?_)))
  obtain rfl := Option.some.inj r81
  exact k57 _ _ ⟨ha_, (FrS.step e47.wf (FrS.step e47.wf (FrS.refl (W := []) e47.wf) e64 Inn.nil) e83 Inn.nil)⟩
 obtain ⟨hh58, e56⟩ := hM
 obtain ⟨β, rfl⟩ := has_ex hh58
 clear hh58
 refine k51 _ _ ?_
 obtain ⟨o84, hx85, r86⟩ := bind_some r54
 refine w_mid (fun α H87 => ∃ (s91 : Value) (f92 : Fp), Has α [(1, i_ i), (2, pt_ b7 0), (6, pt_ b13 0), (7, pt_ b39 0)] ∧ FrS [b39] H55 H87 ∧ Sq enc_i64_i64 2 H87 s91 o84.2 f92 ∧ Row H87 b39 [i_ o84.1, s91] ∧ Inn f30 H55 f92) (fun _ k96 => ?_) (fun α H87 hM => ?_)
 ·refine w_cond (o52) (by kernel_rfl) rfl (fun h98 => ?_) (fun h98 => ?_)
  ·have r99 := ite_t h98 hx85
   refine g_' ?_
   obtain ⟨y100, hy101, r102⟩ := bind_some r99
   refine s_ck 29 #[i_ 1] (by kernel_rfl) (c_viaductref01_E e56.wf hy101) ?_
   rintro _ H103 ⟨rfl, e104⟩
   have u109 := ((r48.frS e56 Dj.nil_l).frS e104 Dj.nil_l)
   obtain ⟨H105, q106, e107, r108⟩ := Row.store (P := Tryz.prog) (t := 35) (p := 0) e104.wf u109 (.agg #[i_ y100, .slice none 0 0]) [i_ y100, .slice none 0 0] (by kernel_rfl) (by kernel_rfl) (one_cons (rfl) (one_cons (rfl) (one_nil))) (Nat.le_of_ble_eq_true (by kernel_rfl)) [i_ y100, .slice none 0 0] (by kernel_rfl)
   refine s_ek (undef) (by kernel_rfl) (map_ok q106) ?_
   refine s_nil ?_
   obtain rfl := Option.some.inj r102
   exact k96 _ _ ⟨(.slice none 0 0), [], ha_, (FrS.step e56.wf (FrS.step e56.wf (FrS.refl (W := [b39]) e56.wf) e104 Inn.nil) e107 Inn.refl'), (Sq.nil (by decide)), r108, Inn.nil⟩
  have r110 := ite_bf h98 hx85
  refine w_skip ?_
  have u111 := ((u49.fr e47 (hb42.djn m33.lt)).fr e56 Dj.nil_l)
  have u112 := (r48.frS e56 Dj.nil_l)
  obtain rfl := Option.some.inj r110
  exact k96 _ _ ⟨(.slice a36 n37 c38), f30, ha_, (FrS.refl (W := [b39]) e56.wf), u111, u112, Inn.refl'⟩
 obtain ⟨s91, f92, hh97, e88, m90, m94, i95⟩ := hM
 obtain ⟨β, rfl⟩ := has_ex hh97
 clear hh97
 obtain ⟨a113, n114, c115, rfl⟩ := m90.form
 refine k50 _ _ (w_seqk fun _ k116 => w_seqk fun _ k117 => g_' ?_)
 refine l_' (.agg #[i_ o84.1, .slice a113 n114 c115]) (aLoad Tryz.prog 35 (pt_ b39 0) H87) (m94.ld (by kernel_rfl)) ?_
 obtain ⟨y118, hy119, r120⟩ := bind_some r86
 refine s_ck 23 #[.agg #[i_ o84.1, .slice a113 n114 c115]] (by kernel_rfl) (c_viaductref01_Err_Bad e88.wf m90 hy119) ?_
 rintro _ H121 ⟨rfl, e122⟩
 refine s_nil (k117 _ _ ?_)
 refine w_cond (y118) (by kernel_rfl) rfl (fun h123 => ?_) (fun h123 => ?_)
 ·have r124 := ite_t h123 r120
  refine w_seqk fun _ k125 => ?_
  refine w_draw [0, 1, 2, 3] (by kernel_rfl) ?_
  have u126 := (m94.frS e122 Dj.nil_l)
  refine m_' (.agg #[i_ o84.1, .slice a113 n114 c115]) (aLoad Tryz.prog 35 (pt_ b39 0) H121) (u126.ld (by kernel_rfl)) ?_
  refine e_' (i_ 0) (e_' (i_ 0) ?_)
  have u131 := ((((((r17.frS e32 Dj.nil_l).ext e41).frS e47 (hb42.djn (r17.ltF.le e32.next))).frS e56 Dj.nil_l).frS e88 (hb42.djn (r17.ltF.le e32.next))).frS e122 Dj.nil_l)
  have u132 := (m90.fr e122 Dj.nil_l)
  obtain ⟨H127, q128, e129, r130⟩ := Row.store (P := Tryz.prog) (t := 35) (p := 0) e122.wf u131 (.agg #[i_ o84.1, .slice a113 n114 c115]) [i_ o84.1, .slice a113 n114 c115] (by kernel_rfl) (by kernel_rfl) (one_cons (rfl) (one_cons (u132.one1) (one_nil))) (Nat.le_of_ble_eq_true (by kernel_rfl)) [i_ o84.1, .slice a113 n114 c115] (by kernel_rfl)
  refine d_ek (undef) (by kernel_rfl) (map_ok q128) (st_nil) ?_
  refine d_nil ?_
  refine k125 _ _ ?_
  refine w_ret (th_ret ?_)
  refine b_ret (fn := Tryz.f11) (vs := [i_ 0, i_ 0, .agg #[i_ o84.1, .slice a113 n114 c115]]) (aRes_tmp (by kernel_rfl) (aRes_tmp (by kernel_rfl) (aRes_cell (Eq.trans (b := aLoad Tryz.prog 35 (pt_ b13 0) H127) (by kernel_rfl) (r130.ld (by kernel_rfl))) (rfl)))) ?_
  have u133 := (u132.fr e129 (Dj.symm (i95.dj (i34.djn r17.ltF) (r17.ltF.le (ntr (ntr (ntr e32.next e41.next) e47.next) e56.next)))))
  obtain rfl := Option.some.inj r124
  exact ⟨(.slice a113 n114 c115), f92, rfl, (FrS.step wf (FrS.step wf (FrS.step wf (FrS.step wf (FrS.step wf ((FrS.step wf (((FrS.refl (W := []) wf).extR e9).extR e15) e32 Inn.nil).extR e41) e47 (hb42.fresh (ntr (ntr e9.next e15.next) e32.next))) e56 Inn.nil) e88 (hb42.fresh (ntr (ntr e9.next e15.next) e32.next))) e122 Inn.nil) e129 (hb16.fresh e9.next)), u133, (Inn.trans (i34.fresh (ntr e9.next e15.next)) (ntr (ntr (ntr (ntr (ntr e9.next e15.next) e32.next) e41.next) e47.next) e56.next) i95)⟩
 have r134 := ite_bf h123 r120
 refine w_skip (k116 _ _ (w_seqk fun _ k135 => ?_))
 refine w_draw [0, 1, 3, 5, 2, 4, 6] (by kernel_rfl) ?_
 have u136 := ((((((u20.frS e32 Dj.nil_l).ext e41).frS e47 (hb42.djn (r11.ltF.le (ntr e15.next e32.next)))).frS e56 Dj.nil_l).frS e88 (hb42.djn (r11.ltF.le (ntr e15.next e32.next)))).frS e122 Dj.nil_l)
 refine d_fl (.agg #[hd_Node, hd_UpFirst, hd_Up, hd_DownFirst, hd_Down]) (x := aLoad Tryz.prog 25 (pt_ b7 0) H121) (by kernel_rfl) (u136.ld (by kernel_rfl)) ?_
 refine m_' (.agg #[hd_Node, hd_UpFirst, hd_Up, hd_DownFirst, hd_Down]) (aLoad Tryz.prog 25 (pt_ b7 0) H121) (u136.ld (by kernel_rfl)) ?_
 refine e_' (i_ i) ?_
 refine d_rwk e122.wf [i_ 0, i_ 0, i_ 0] (by kernel_rfl) fun b137 H138 e139 hb140 r141 => ?_
 have u143 := (((((((u21.fr e32 Dj.nil_l).ext e41).fr e47 (hb42.djn (h_Node.lt.le (ntr (ntr e9.next e15.next) e32.next)))).fr e56 Dj.nil_l).fr e88 (hb42.djn (h_Node.lt.le (ntr (ntr e9.next e15.next) e32.next)))).fr e122 Dj.nil_l).ext e139)
 have u144 := (((((((u22.fr e32 Dj.nil_l).ext e41).fr e47 (hb42.djn (h_UpFirst.lt.le (ntr (ntr e9.next e15.next) e32.next)))).fr e56 Dj.nil_l).fr e88 (hb42.djn (h_UpFirst.lt.le (ntr (ntr e9.next e15.next) e32.next)))).fr e122 Dj.nil_l).ext e139)
 have u145 := (((((((u23.fr e32 Dj.nil_l).ext e41).fr e47 (hb42.djn (h_Up.lt.le (ntr (ntr e9.next e15.next) e32.next)))).fr e56 Dj.nil_l).fr e88 (hb42.djn (h_Up.lt.le (ntr (ntr e9.next e15.next) e32.next)))).fr e122 Dj.nil_l).ext e139)
 have u146 := (((((((u24.fr e32 Dj.nil_l).ext e41).fr e47 (hb42.djn (h_DownFirst.lt.le (ntr (ntr e9.next e15.next) e32.next)))).fr e56 Dj.nil_l).fr e88 (hb42.djn (h_DownFirst.lt.le (ntr (ntr e9.next e15.next) e32.next)))).fr e122 Dj.nil_l).ext e139)
 have u147 := (((((((u25.fr e32 Dj.nil_l).ext e41).fr e47 (hb42.djn (h_Down.lt.le (ntr (ntr e9.next e15.next) e32.next)))).fr e56 Dj.nil_l).fr e88 (hb42.djn (h_Down.lt.le (ntr (ntr e9.next e15.next) e32.next)))).fr e122 Dj.nil_l).ext e139)
 obtain ⟨y148, hy149, r150⟩ := bind_some r134
 refine d_ck 33 #[.agg #[hd_Node, hd_UpFirst, hd_Up, hd_DownFirst, hd_Down]] (by kernel_rfl) (c_viaductref10_Ranks e139.wf u143 u144 u145 u146 u147 hy149) ?_
 rintro s151 H153 ⟨_, f152, rfl, e154, m155, i156⟩
 obtain ⟨a158, n159, c160, rfl⟩ := m155.form
 have u161 := ((u136.ext e139).frS e154 Dj.nil_l)
 refine ⟨st_ql (y := aLoad Tryz.prog 25 (pt_ b7 0) H153) (by kernel_rfl) (u161.ld (by kernel_rfl)) (st_nil), ?_⟩
 have u162 := (u143.fr e154 Dj.nil_l)
 have u163 := (u144.fr e154 Dj.nil_l)
 have u164 := (u145.fr e154 Dj.nil_l)
 have u165 := (u146.fr e154 Dj.nil_l)
 have u166 := (u147.fr e154 Dj.nil_l)
 obtain ⟨y167, hy168, r169⟩ := bind_some r150
 refine d_ck 35 #[.agg #[hd_Node, hd_UpFirst, hd_Up, hd_DownFirst, hd_Down], .slice a158 n159 c160, i_ i] (by kernel_rfl) (c_viaductref10_EndOf e154.wf u162 u163 u164 u165 u166 m155.sq hy168) ?_
 rintro _ H170 ⟨rfl, e171⟩
 refine ⟨st_anc (by kernel_rfl) (st_nil), ?_⟩
 have u176 := ((r141.frS e154 Dj.nil_l).frS e171 Dj.nil_l)
 obtain ⟨H172, q173, e174, r175⟩ := Row.store (P := Tryz.prog) (t := 96) (p := 0) e171.wf u176 (.agg #[i_ y167.1, i_ y167.2.1, i_ y167.2.2]) [i_ y167.1, i_ y167.2.1, i_ y167.2.2] (by kernel_rfl) (by kernel_rfl) (one_cons (rfl) (one_cons (rfl) (one_cons (rfl) (one_nil)))) (Nat.le_of_ble_eq_true (by kernel_rfl)) [i_ y167.1, i_ y167.2.1, i_ y167.2.2] (by kernel_rfl)
 refine d_ek (undef) (by kernel_rfl) (map_ok q173) (st_anc (by kernel_rfl) (st_nil)) ?_
 refine d_nil ?_
 refine k135 _ _ (w_seqk fun _ k177 => ?_)
 refine w_draw [0, 1, 2, 3, 4, 5, 6, 7] (by kernel_rfl) ?_
 refine e_' (pt_ b137 0) ?_
 refine m_' (i_ y167.1) (aLoad Tryz.prog 3 (pt_ b137 0) H172) (r175.ld (by kernel_rfl)) ?_
 refine e_' (pt_ b137 1) ?_
 refine m_' (i_ y167.2.1) (aLoad Tryz.prog 3 (pt_ b137 1) H172) (r175.ld (by kernel_rfl)) ?_
 have u178 := (((((m94.frS e122 Dj.nil_l).ext e139).frS e154 Dj.nil_l).frS e171 Dj.nil_l).frS e174 (hb140.djn (r43.ltF.le (ntr (ntr (ntr e47.next e56.next) e88.next) e122.next))))
 refine m_' (.agg #[i_ o84.1, .slice a113 n114 c115]) (aLoad Tryz.prog 35 (pt_ b39 0) H172) (u178.ld (by kernel_rfl)) ?_
 refine e_' (i_ y167.1) (e_' (i_ y167.2.1) ?_)
 have u183 := ((((((((((r17.frS e32 Dj.nil_l).ext e41).frS e47 (hb42.djn (r17.ltF.le e32.next))).frS e56 Dj.nil_l).frS e88 (hb42.djn (r17.ltF.le e32.next))).frS e122 Dj.nil_l).ext e139).frS e154 Dj.nil_l).frS e171 Dj.nil_l).frS e174 (hb140.djn (r17.ltF.le (ntr (ntr (ntr (ntr (ntr e32.next e41.next) e47.next) e56.next) e88.next) e122.next))))
 have u184 := (((((m90.fr e122 Dj.nil_l).ext e139).fr e154 Dj.nil_l).fr e171 Dj.nil_l).fr e174 (hb140.djn (m90.lt.le e122.next)))
 obtain ⟨H179, q180, e181, r182⟩ := Row.store (P := Tryz.prog) (t := 35) (p := 0) e174.wf u183 (.agg #[i_ o84.1, .slice a113 n114 c115]) [i_ o84.1, .slice a113 n114 c115] (by kernel_rfl) (by kernel_rfl) (one_cons (rfl) (one_cons (u184.one1) (one_nil))) (Nat.le_of_ble_eq_true (by kernel_rfl)) [i_ o84.1, .slice a113 n114 c115] (by kernel_rfl)
 refine d_ek (undef) (by kernel_rfl) (map_ok q180) (st_nil) ?_
 refine d_nil ?_
 refine k177 _ _ ?_
 refine w_ret ?_
 refine b_ret (fn := Tryz.f11) (vs := [i_ y167.1, i_ y167.2.1, .agg #[i_ o84.1, .slice a113 n114 c115]]) (aRes_tmp (by kernel_rfl) (aRes_tmp (by kernel_rfl) (aRes_cell (Eq.trans (b := aLoad Tryz.prog 35 (pt_ b13 0) H179) (by kernel_rfl) (r182.ld (by kernel_rfl))) (rfl)))) ?_
 have u185 := (u184.fr e181 (Dj.symm (i95.dj (i34.djn r17.ltF) (r17.ltF.le (ntr (ntr (ntr e32.next e41.next) e47.next) e56.next)))))
 obtain rfl := Option.some.inj r169
 exact ⟨(.slice a113 n114 c115), f92, rfl, (FrS.step wf (FrS.step wf (FrS.step wf (FrS.step wf ((FrS.step wf (FrS.step wf (FrS.step wf (FrS.step wf ((FrS.step wf (((FrS.refl (W := []) wf).extR e9).extR e15) e32 Inn.nil).extR e41) e47 (hb42.fresh (ntr (ntr e9.next e15.next) e32.next))) e56 Inn.nil) e88 (hb42.fresh (ntr (ntr e9.next e15.next) e32.next))) e122 Inn.nil).extR e139) e154 Inn.nil) e171 Inn.nil) e174 (hb140.fresh (ntr (ntr (ntr (ntr (ntr (ntr (ntr e9.next e15.next) e32.next) e41.next) e47.next) e56.next) e88.next) e122.next))) e181 (hb16.fresh e9.next)), u185, (Inn.trans (i34.fresh (ntr e9.next e15.next)) (ntr (ntr (ntr (ntr (ntr e9.next e15.next) e32.next) e41.next) e47.next) e56.next) i95)⟩
end Go.Vd

/-! (KHc6) -/

set_option maxRecDepth 100000
set_option maxHeartbeats 4000000
set_option linter.unusedVariables false
namespace Go.Vd
open Go.Proofs
attribute [local irreducible] wpSeq wpOrd aWp
theorem c_viaductref10_Arcs {H : AH} {hd_Node : Value} {fp_Node : Fp} {hd_UpFirst : Value} {fp_UpFirst : Fp} {hd_Up : Value} {fp_Up : Fp} {hd_DownFirst : Value} {fp_DownFirst : Fp} {hd_Down : Value} {fp_Down : Fp} {Node : List (Int)} {UpFirst : List (Int)} {Up : List (Int × Int × Int × Int)} {DownFirst : List (Int)} {Down : List (Int × Int × Int × Int)} {r : List (Int × Int × Int)}
    (wf : WF H) (h_Node : Sq (encI .u32) 1 H hd_Node Node fp_Node) (h_UpFirst : Sq (encI .u32) 1 H hd_UpFirst UpFirst fp_UpFirst) (h_Up : Sq enc_u32_u64_u32_u32 4 H hd_Up Up fp_Up) (h_DownFirst : Sq (encI .u32) 1 H hd_DownFirst DownFirst fp_DownFirst) (h_Down : Sq enc_u32_u64_u32_u32 4 H hd_Down Down fp_Down) (hr : z_viaductref10_Arcs Node UpFirst Up DownFirst Down = some r) :
    ACalls Tryz.prog 63 #[.agg #[hd_Node, hd_UpFirst, hd_Up, hd_DownFirst, hd_Down]] H fun v H' => ∃ (s3 : Value) (f4 : Fp), v = s3 ∧ FrS [] H H' ∧ Ow enc_i64_i64_i64 3 H' s3 r f4 ∧ Inn [] H f4 := by
 refine acalls_of_body mixed Tryz.func63 rfl (Nat.le_of_ble_eq_true rfl) ?_
 unfold z_viaductref10_Arcs at hr
 refine w_seqk fun _ k6 => g_' ?_
 refine s_rwl wf [hd_Node, hd_UpFirst, hd_Up, hd_DownFirst, hd_Down] (one_cons (h_Node.one1) (one_cons (h_UpFirst.one1) (one_cons (h_Up.one1) (one_cons (h_DownFirst.one1) (one_cons (h_Down.one1) (one_nil)))))) (by kernel_rfl) fun b7 H8 e9 hb10 r11 => ?_
 refine q_ (.slice none 0 0) (s_nil (k6 _ _ (w_seqk fun _ k13 => g_' ?_)))
 refine l_' (.agg #[hd_Node, hd_UpFirst, hd_Up, hd_DownFirst, hd_Down]) (aLoad Tryz.prog 25 (pt_ b7 0) H8) (r11.ld (by kernel_rfl)) ?_
 have u14 := (h_Node.ext e9)
 have u15 := (h_UpFirst.ext e9)
 have u16 := (h_Up.ext e9)
 have u17 := (h_DownFirst.ext e9)
 have u18 := (h_Down.ext e9)
 obtain ⟨y19, hy20, r21⟩ := bind_some hr
 refine s_ck 33 #[.agg #[hd_Node, hd_UpFirst, hd_Up, hd_DownFirst, hd_Down]] (by kernel_rfl) (c_viaductref10_Ranks e9.wf u14 u15 u16 u17 u18 hy20) ?_
 rintro s22 H24 ⟨_, f23, rfl, e25, m26, i27⟩
 obtain ⟨a29, n30, c31, rfl⟩ := m26.form
 refine q_ (.slice a29 n30 c31) (s_nil (k13 _ _ (w_seqk fun _ k32 => g_' (q_ (.slice none 0 0) (s_nil (k32 _ _ (w_seqk fun _ k33 => w_seqk fun _ k34 => g_' (q_ (.slice a29 n30 c31) ?_))))))))
 refine l_' (i_ (y19.length : Int)) (aLen Tryz.prog 49 (.slice a29 n30 c31) H24) (m26.sq.lenb (by kernel_rfl)) ?_
 refine q_ (i_ 0) (s_nil (k34 _ _ ?_))
 obtain ⟨o35, hx36, r37⟩ := bind_some r21
 refine w_mid (fun α H38 => ∃ (s42 : Value) (f43 : Fp), Has α [(4, s42)] ∧ FrS [] H24 H38 ∧ Ow enc_i64_i64_i64 3 H38 s42 o35 f43 ∧ Inn [] H24 f43) (fun _ k45 => ?_) (fun α H38 hM => ?_)
 ·refine w_block ?_
  obtain ⟨n47, hn48⟩ := loopO_iff.1 hx36
  refine w_loopn (fun n α H49 => ∃ (i0 : Int), ∃ (l1 : List (Int × Int × Int)), ∃ (s53 : Value), ∃ (f54 : Fp), iterO (fun zz_ => z_viaductref10_Arcs_l0 Node UpFirst Up DownFirst Down y19 zz_.1 zz_.2) n (i0, l1) = some o35 ∧ Has α [(1, pt_ b7 0), (3, .slice a29 n30 c31), (4, s53), (9, i_ (y19.length : Int)), (10, i_ i0)] ∧ FrS [] H24 H49 ∧ Ow enc_i64_i64_i64 3 H49 s53 l1 f54 ∧ Inn [] H24 f54) n47 ⟨0, [], (.slice none 0 0), [], hn48, ha_, (FrS.refl (W := []) e25.wf), (Ow.nil (by decide)), Inn.nil⟩ ?_
  rintro n47 α H49 ⟨i0, l1, s53, f54, hi57, hh56, e50, m52, i55⟩ K62 k62
  obtain ⟨n58, z59, rfl, hz60, hn61⟩ := iter_succ hi57
  obtain ⟨β, rfl⟩ := has_ex hh56
  clear hh56
  replace hz60 : z_viaductref10_Arcs_l0 Node UpFirst Up DownFirst Down y19 i0 l1 = some z59 := hz60
  unfold z_viaductref10_Arcs_l0 at hz60
  obtain ⟨a63, n64, c65, rfl⟩ := m52.form
  refine w_seqk fun _ k66 => g_' (q_ (.bool (decide (i0 < (y19.length : Int)))) (s_nil (k66 _ _ (w_seqk fun _ k67 => ?_))))
  refine w_condp (i0 < (y19.length : Int)) (by kernel_rfl) rfl (fun h68 => ?_) (fun h68 => ?_)
  ·have r69 := ite_t h68 hz60
   refine w_skip (k67 _ _ (w_seqk fun _ k70 => w_block (w_seqk fun _ k71 => g_' (q_ (i_ i0) (q_ (i_ i0) (s_nil (k71 _ _ (g_' (q_ (.slice a63 n64 c65) ?_)))))))))
   have u72 := ((r11.frS e25 Dj.nil_l).frS e50 Dj.nil_l)
   refine l_' (.agg #[hd_Node, hd_UpFirst, hd_Up, hd_DownFirst, hd_Down]) (aLoad Tryz.prog 25 (pt_ b7 0) H49) (u72.ld (by kernel_rfl)) ?_
   refine q_ (.slice a29 n30 c31) (q_ (i_ i0) ?_)
   have u73 := ((u14.fr e25 Dj.nil_l).fr e50 Dj.nil_l)
   have u74 := ((u15.fr e25 Dj.nil_l).fr e50 Dj.nil_l)
   have u75 := ((u16.fr e25 Dj.nil_l).fr e50 Dj.nil_l)
   have u76 := ((u17.fr e25 Dj.nil_l).fr e50 Dj.nil_l)
   have u77 := ((u18.fr e25 Dj.nil_l).fr e50 Dj.nil_l)
   have u78 := (m26.fr e50 Dj.nil_l)
   obtain ⟨y79, hy80, r81⟩ := bind_some r69
   refine s_ck 35 #[.agg #[hd_Node, hd_UpFirst, hd_Up, hd_DownFirst, hd_Down], .slice a29 n30 c31, i_ i0] (by kernel_rfl) (c_viaductref10_EndOf e50.wf u73 u74 u75 u76 u77 u78.sq hy80) ?_
   rintro _ H82 ⟨rfl, e83⟩
   refine s_owk (enc := enc_i64_i64_i64) (sz := 3) e83.wf [(y79.1, y79.2.1, y79.2.2)] 1 (by decide) (fun _ _ => rfl) (fun _ _ => rfl) rfl (by kernel_rfl) fun s84 f85 H86 e87 hf88 hm89 => ?_
   obtain ⟨a90, n91, c92, rfl⟩ := hm89.form
   have u94 := ((m52.fr e83 Dj.nil_l).ext e87)
   obtain ⟨g95, r96⟩ := G_some r81
   obtain ⟨s97, H98, f99, q103, e100, hm101, hf102⟩ := Ow.append (P := Tryz.prog) 24 e87.wf u94 hm89.sq (fun _ _ => rfl) (at_ := #[132, 132]) rfl rfl (by kernel_rfl) (by kernel_rfl) (by decide) (by have := g95; first | omega | (simp only [List.length_cons, List.length_nil] at this ⊢; omega) | (simp at this ⊢; omega))
   obtain ⟨a104, n105, c106, rfl⟩ := hm101.form
   refine s_ek (.slice a104 n105 c106) (by kernel_rfl) (q103) ?_
   refine q_ (.slice a104 n105 c106) (s_nil (k70 _ _ (g_' ?_)))
   obtain ⟨g108, r109⟩ := G_some r96
   refine w_' (i0 + 1) (wrap64 g108) ?_
   refine q_ (i_ (i0 + 1)) (s_nil ?_)
   obtain rfl := Option.some.inj r109
   exact k62 n58 _ _ (Nat.lt_succ_self _) ⟨(i0 + 1), (l1 ++ [(y79.1, y79.2.1, y79.2.2)]), (.slice a104 n105 c106), f99, hn61, ha_, (FrS.step e25.wf ((FrS.step e25.wf (FrS.step e25.wf (FrS.refl (W := []) e25.wf) e50 Inn.nil) e83 Inn.nil).extR e87) e100 (i55.fresh (Nat.le_refl _))), hm101, (Inn.trans (i55.fresh (Nat.le_refl _)) (ntr (ntr e50.next e83.next) e87.next) hf102)⟩
  have r110 := ite_f h68 hz60
  refine w_exit (th_exit (th_exit (bl_eq ?_)))
  obtain rfl := Option.some.inj r110
  obtain rfl := it_inr hn61
  exact k45 _ _ ⟨(.slice a63 n64 c65), f54, ha_, (FrS.step e25.wf (FrS.refl (W := []) e25.wf) e50 Inn.nil), m52, (i55.fresh (Nat.le_refl _))⟩
 obtain ⟨s42, f43, hh46, e39, m41, i44⟩ := hM
 obtain ⟨β, rfl⟩ := has_ex hh46
 clear hh46
 obtain ⟨a111, n112, c113, rfl⟩ := m41.form
 refine k33 _ _ (w_seqk fun _ k114 => g_' (q_ (.slice a111 n112 c113) (q_ (.slice a111 n112 c113) (s_nil (k114 _ _ ?_)))))
 refine w_ret ?_
 refine b_ret (fn := Tryz.f63) (vs := [.slice a111 n112 c113]) (aRes_tmp (by kernel_rfl) (rfl)) ?_
 obtain rfl := Option.some.inj r37
 exact ⟨(.slice a111 n112 c113), f43, rfl, (FrS.step wf (FrS.step wf ((FrS.refl (W := []) wf).extR e9) e25 Inn.nil) e39 Inn.nil), m41, (i44.fresh (ntr e9.next e25.next))⟩
theorem c_viaductref04_less {H : AH} {From : Int} {To : Int} {Weight : Int} {From_ : Int} {To_ : Int} {Weight_ : Int} {r : Bool}
    (wf : WF H) (hr : z_viaductref04_less From To Weight From_ To_ Weight_ = some r) :
    ACalls Tryz.prog 86 #[.agg #[i_ From, i_ To, i_ Weight], .agg #[i_ From_, i_ To_, i_ Weight_]] H fun v H' => v = .bool r ∧ FrS [] H H' := by
 refine acalls_of_body mixed Tryz.func86 rfl (Nat.le_of_ble_eq_true rfl) ?_
 unfold z_viaductref04_less at hr
 refine w_seqk fun _ k1 => g_' ?_
 refine s_rwl wf [i_ From, i_ To, i_ Weight] (one_cons (rfl) (one_cons (rfl) (one_cons (rfl) (one_nil)))) (by kernel_rfl) fun b2 H3 e4 hb5 r6 => ?_
 refine s_rwl e4.wf [i_ From_, i_ To_, i_ Weight_] (one_cons (rfl) (one_cons (rfl) (one_cons (rfl) (one_nil)))) (by kernel_rfl) fun b8 H9 e10 hb11 r12 => ?_
 refine q_ (.bool false) (s_nil (k1 _ _ (w_seqk fun _ k14 => g_' (q_ (pt_ b2 0) ?_))))
 have u15 := (r6.ext e10)
 refine l_' (i_ From) (aLoad Tryz.prog 3 (pt_ b2 0) H9) (u15.ld (by kernel_rfl)) ?_
 refine q_ (pt_ b8 0) ?_
 refine l_' (i_ From_) (aLoad Tryz.prog 3 (pt_ b8 0) H9) (r12.ld (by kernel_rfl)) ?_
 refine s_b (From < From_) (by kernel_rfl) (fun h16 => ?_) (fun h16 => ?_)
 ·have r17 := ite_t h16 hr
  refine q_ (.bool true) (n_' (n_' (n_' (n_' (n_' (n_' (n_' (n_' (n_' (n_' (n_' (n_' (q_ (.bool true) (q_ (.bool true) (s_nil (k14 _ _ ?_))))))))))))))))
  refine w_ret ?_
  refine b_ret (fn := Tryz.f86) (vs := [.bool true]) (aRes_tmp (by kernel_rfl) (rfl)) ?_
  obtain rfl := Option.some.inj r17
  exact ⟨rfl, (((FrS.refl (W := []) wf).extR e4).extR e10)⟩
 have r18 := ite_f h16 hr
 refine q_ (.bool false) (q_ (pt_ b2 0) ?_)
 refine l_' (i_ From) (aLoad Tryz.prog 3 (pt_ b2 0) H9) (u15.ld (by kernel_rfl)) ?_
 refine q_ (pt_ b8 0) ?_
 refine l_' (i_ From_) (aLoad Tryz.prog 3 (pt_ b8 0) H9) (r12.ld (by kernel_rfl)) ?_
 refine s_b (From = From_) (by kernel_rfl) (fun h19 => ?_) (fun h19 => ?_)
 ·have r20 := ite_t h19 r18
  refine q_ (.bool true) (q_ (pt_ b2 1) ?_)
  refine l_' (i_ To) (aLoad Tryz.prog 3 (pt_ b2 1) H9) (u15.ld (by kernel_rfl)) ?_
  refine q_ (pt_ b8 1) ?_
  refine l_' (i_ To_) (aLoad Tryz.prog 3 (pt_ b8 1) H9) (r12.ld (by kernel_rfl)) ?_
  refine q_ (.bool (decide (To < To_))) (q_ (.bool (decide (To < To_))) (q_ (.bool (decide (To < To_))) (q_ (.bool (decide (To < To_))) (s_nil (k14 _ _ ?_)))))
  refine w_ret ?_
  refine b_ret (fn := Tryz.f86) (vs := [.bool (decide (To < To_))]) (aRes_tmp (by kernel_rfl) (rfl)) ?_
  obtain rfl := Option.some.inj r20
  exact ⟨rfl, (((FrS.refl (W := []) wf).extR e4).extR e10)⟩
 have r21 := ite_f h19 r18
 refine q_ (.bool false) (n_' (n_' (n_' (n_' (n_' (q_ (.bool false) (q_ (.bool false) (q_ (.bool false) (s_nil (k14 _ _ ?_))))))))))
 refine w_ret ?_
 refine b_ret (fn := Tryz.f86) (vs := [.bool false]) (aRes_tmp (by kernel_rfl) (rfl)) ?_
 obtain rfl := Option.some.inj r21
 exact ⟨rfl, (((FrS.refl (W := []) wf).extR e4).extR e10)⟩
theorem c_viaductref04_Put {H : AH} {hd_l : Value} {fp_l : Fp} {l : List (Int × Int × Int)} {From : Int} {To : Int} {Weight : Int} {r : List (Int × Int × Int)}
    (wf : WF H) (h_l : Sq enc_i64_i64_i64 3 H hd_l l fp_l) (hr : z_viaductref04_Put l From To Weight = some r) :
    ACalls Tryz.prog 79 #[hd_l, .agg #[i_ From, i_ To, i_ Weight]] H fun v H' => ∃ (s3 : Value) (f4 : Fp), v = s3 ∧ FrS [] H H' ∧ Ow enc_i64_i64_i64 3 H' s3 r f4 ∧ Inn [] H f4 := by
 refine acalls_of_body mixed Tryz.func79 rfl (Nat.le_of_ble_eq_true rfl) ?_
 unfold z_viaductref04_Put at hr
 refine w_seqk fun _ k6 => g_' ?_
 refine s_rwl wf [i_ From, i_ To, i_ Weight] (one_cons (rfl) (one_cons (rfl) (one_cons (rfl) (one_nil)))) (by kernel_rfl) fun b7 H8 e9 hb10 r11 => ?_
 refine q_ (.slice none 0 0) (s_nil (k6 _ _ (w_seqk fun _ k13 => g_' (q_ (i_ 0) (s_nil (k13 _ _ (w_seqk fun _ k14 => ?_)))))))
 obtain ⟨o15, hx16, r17⟩ := bind_some hr
 refine w_mid (fun α H18 => Has α [(0, hd_l), (3, pt_ b7 0), (5, i_ o15)] ∧ FrS [] H8 H18) (fun _ k20 => ?_) (fun α H18 hM => ?_)
 ·refine w_block ?_
  obtain ⟨n22, hn23⟩ := loopO_iff.1 hx16
  refine w_loopn (fun n α H24 => ∃ (i0 : Int), iterO (fun zz_ => z_viaductref04_Put_l0 l From To Weight zz_) n i0 = some o15 ∧ Has α [(0, hd_l), (3, pt_ b7 0), (5, i_ i0)] ∧ FrS [] H8 H24) n22 ⟨0, hn23, ha_, (FrS.refl (W := []) e9.wf)⟩ ?_
  rintro n22 α H24 ⟨i0, hi27, hh26, e25⟩ K32 k32
  obtain ⟨n28, z29, rfl, hz30, hn31⟩ := iter_succ hi27
  obtain ⟨β, rfl⟩ := has_ex hh26
  clear hh26
  replace hz30 : z_viaductref04_Put_l0 l From To Weight i0 = some z29 := hz30
  unfold z_viaductref04_Put_l0 at hz30
  refine w_seqk fun _ k33 => w_seqk fun _ k34 => ?_
  refine w_draw [0, 1, 2, 3, 4, 5, 6, 7, 8, 9, 10, 11] (by kernel_rfl) ?_
  refine e_' (i_ i0) (e_' (hd_l) ?_)
  have u35 := ((h_l.ext e9).fr e25 Dj.nil_l)
  refine m_' (i_ (l.length : Int)) (aLen Tryz.prog 41 hd_l H24) (u35.lenb (by kernel_rfl)) ?_
  refine d_b (i0 < (l.length : Int)) (by kernel_rfl) (fun h36 => ?_) (fun h36 => ?_)
  ·have r37 := ite_t h36 hz30
   refine e_' (.bool true) (e_' (hd_l) (e_' (i_ i0) ?_))
   obtain ⟨g38, r39⟩ := G_some r37
   refine m_' (elp hd_l 3 i0.toNat 0) (aIndexAddr Tryz.prog 41 hd_l (i_ i0)) (u35.idxb (by kernel_rfl) g38 h36) ?_
   refine m_' (.agg #[i_ ((gt l i0).1), i_ ((gt l i0).2.1), i_ ((gt l i0).2.2)]) (aLoad Tryz.prog 63 (elp hd_l 3 i0.toNat 0) H24) (u35.ld g38 h36 (by kernel_rfl)) ?_
   have u40 := (r11.frS e25 Dj.nil_l)
   refine m_' (.agg #[i_ From, i_ To, i_ Weight]) (aLoad Tryz.prog 63 (pt_ b7 0) H24) (u40.ld (by kernel_rfl)) ?_
   obtain ⟨y41, hy42, r43⟩ := bind_some r39
   refine d_ck 86 #[.agg #[i_ ((gt l i0).1), i_ ((gt l i0).2.1), i_ ((gt l i0).2.2)], .agg #[i_ From, i_ To, i_ Weight]] (by kernel_rfl) (c_viaductref04_less e25.wf hy42) ?_
   rintro _ H44 ⟨rfl, e45⟩
   refine ⟨st_nil, ?_⟩
   refine e_' (.bool y41) ?_
   refine d_nil ?_
   refine k34 _ _ ?_
   refine w_cond (y41) (by kernel_rfl) rfl (fun h46 => ?_) (fun h46 => ?_)
   ·have r47 := ite_t h46 r43
    refine w_skip (k33 _ _ (w_block (g_' (q_ (i_ i0) ?_))))
    obtain ⟨g48, r49⟩ := G_some r47
    refine w_' (i0 + 1) (wrap64 (by have := g48; omega)) ?_
    refine q_ (i_ (i0 + 1)) (s_nil ?_)
    obtain rfl := Option.some.inj r49
    exact k32 n28 _ _ (Nat.lt_succ_self _) ⟨(i0 + 1), hn31, ha_, (FrS.step e9.wf (FrS.step e9.wf (FrS.refl (W := []) e9.wf) e25 Inn.nil) e45 Inn.nil)⟩
   have r50 := ite_bf h46 r43
   refine w_exit (th_exit (th_exit (bl_eq ?_)))
   obtain rfl := Option.some.inj r50
   obtain rfl := it_inr hn31
   exact k20 _ _ ⟨ha_, (FrS.step e9.wf (FrS.step e9.wf (FrS.refl (W := []) e9.wf) e25 Inn.nil) e45 Inn.nil)⟩
  have r51 := ite_f h36 hz30
  refine e_' (.bool false) (j_' (j_' (j_' (j_' (j_' (j_' (e_' (.bool false) ?_)))))))
  refine d_nil ?_
  refine k34 _ _ ?_
  refine w_cond false (by kernel_rfl) rfl (fun h => by cases h) (fun _ => ?_)
  refine w_exit (th_exit (th_exit (bl_eq ?_)))
  obtain rfl := Option.some.inj r51
  obtain rfl := it_inr hn31
  exact k20 _ _ ⟨ha_, (FrS.step e9.wf (FrS.refl (W := []) e9.wf) e25 Inn.nil)⟩
 obtain ⟨hh21, e19⟩ := hM
 obtain ⟨β, rfl⟩ := has_ex hh21
 clear hh21
 refine k14 _ _ (w_seqk fun _ k52 => g_' (q_ (.slice none 0 0) (s_nil (k52 _ _ (w_seqk fun _ k53 => g_' (q_ (.slice none 0 0) (q_ (hd_l) (q_ (i_ o15) ?_))))))))
 obtain ⟨g54, r55⟩ := G_some r17
 have u59 := ((h_l.ext e9).fr e19 Dj.nil_l)
 obtain ⟨s56, q57, hs58⟩ := Sq.cut (P := Tryz.prog) u59 (t := 41) (by kernel_rfl) (lo := none) (hi := (some (i_ o15))) (l := 0) (r := o15.toNat) (rfl) (aBound_int _ (by have := g54; omega)) (by have := g54; omega) (by have := g54; omega)
 obtain ⟨a60, n61, c62, rfl⟩ := hs58.form
 refine s_ql (.slice a60 n61 c62) (by kernel_rfl) q57 ?_
 obtain ⟨g64, r65⟩ := G_some r55
 obtain ⟨s66, H67, f68, q72, e69, hm70, hf71⟩ := Ow.append (P := Tryz.prog) 24 e19.wf (Ow.nil (enc := enc_i64_i64_i64) (sz := 3) (by decide)) hs58 (fun _ _ => rfl) (at_ := #[41, 41]) rfl rfl (by kernel_rfl) (by kernel_rfl) (by decide) (by have := g64; first | omega | (simp only [List.length_cons, List.length_nil] at this ⊢; omega) | (simp at this ⊢; omega))
 obtain ⟨a73, n74, c75, rfl⟩ := hm70.form
 refine s_ek (.slice a73 n74 c75) (by kernel_rfl) (q72) ?_
 refine q_ (.slice a73 n74 c75) (s_nil (k53 _ _ (w_seqk fun _ k77 => w_seqk fun _ k78 => ?_)))
 obtain ⟨o79, hx80, r81⟩ := bind_some r65
 refine w_mid (fun α H82 => Has α [(0, hd_l), (3, pt_ b7 0), (5, i_ o15), (6, .slice a73 n74 c75), (49, .bool o79)] ∧ H67 = H82) (fun _ k84 => ?_) (fun α H82 hM => ?_)
 ·refine w_draw [0, 1, 2, 3, 4, 5, 6, 7, 8, 9, 10, 11, 12, 13, 14, 15, 16, 17, 18, 19, 20, 21, 22, 23] (by kernel_rfl) ?_
  refine e_' (i_ o15) (e_' (hd_l) ?_)
  have u86 := (u59.fr e69 Dj.nil_l)
  refine m_' (i_ (l.length : Int)) (aLen Tryz.prog 41 hd_l H67) (u86.lenb (by kernel_rfl)) ?_
  refine d_b (o15 < (l.length : Int)) (by kernel_rfl) (fun h87 => ?_) (fun h87 => ?_)
  ·have r88 := ite_t h87 hx80
   refine e_' (.bool true) (e_' (hd_l) (e_' (i_ o15) ?_))
   obtain ⟨g89, r90⟩ := G_some r88
   refine m_' (elp hd_l 3 o15.toNat 0) (aIndexAddr Tryz.prog 41 hd_l (i_ o15)) (u86.idxb (by kernel_rfl) g89 h87) ?_
   refine m_' (elp hd_l 3 o15.toNat 0) (aFieldAddr Tryz.prog 63 (elp hd_l 3 o15.toNat 0) 0) (Sq.fldq (d := 0) u86 g89 h87 (by kernel_rfl)) ?_
   refine m_' (i_ ((gt l o15).1)) (aLoad Tryz.prog 3 (elp hd_l 3 o15.toNat 0) H67) (u86.ld g89 h87 (by kernel_rfl)) ?_
   refine e_' (pt_ b7 0) ?_
   have u91 := ((r11.frS e19 Dj.nil_l).frS e69 Dj.nil_l)
   refine m_' (i_ From) (aLoad Tryz.prog 3 (pt_ b7 0) H67) (u91.ld (by kernel_rfl)) ?_
   refine d_b (((gt l o15).1) = From) (by kernel_rfl) (fun h92 => ?_) (fun h92 => ?_)
   ·have r93 := ite_t h92 r90
    refine e_' (.bool true) (e_' (.bool true) (e_' (hd_l) (e_' (i_ o15) ?_)))
    refine m_' (elp hd_l 3 o15.toNat 0) (aIndexAddr Tryz.prog 41 hd_l (i_ o15)) (u86.idxb (by kernel_rfl) g89 h87) ?_
    refine m_' (elp hd_l 3 o15.toNat 1) (aFieldAddr Tryz.prog 63 (elp hd_l 3 o15.toNat 0) 1) (Sq.fldq (d := 1) u86 g89 h87 (by kernel_rfl)) ?_
    refine m_' (i_ ((gt l o15).2.1)) (aLoad Tryz.prog 3 (elp hd_l 3 o15.toNat 1) H67) (u86.ld g89 h87 (by kernel_rfl)) ?_
    refine e_' (pt_ b7 1) ?_
    refine m_' (i_ To) (aLoad Tryz.prog 3 (pt_ b7 1) H67) (u91.ld (by kernel_rfl)) ?_
    refine e_' (.bool (decide (((gt l o15).2.1) = To))) (e_' (.bool (decide (((gt l o15).2.1) = To))) ?_)
    refine d_nil ?_
    obtain rfl := Option.some.inj r93
    exact k84 _ _ ⟨ha_, rfl⟩
   have r94 := ite_f h92 r90
   refine e_' (.bool false) (e_' (.bool false) (j_' (j_' (j_' (j_' (j_' (j_' (j_' (j_' (e_' (.bool false) ?_))))))))))
   refine d_nil ?_
   obtain rfl := Option.some.inj r94
   exact k84 _ _ ⟨ha_, rfl⟩
  have r95 := ite_f h87 hx80
  refine e_' (.bool false) (j_' (j_' (j_' (j_' (j_' (j_' (j_' (j_' (e_' (.bool false) (e_' (.bool false) (j_' (j_' (j_' (j_' (j_' (j_' (j_' (j_' (e_' (.bool false) ?_)))))))))))))))))))
  refine d_nil ?_
  obtain rfl := Option.some.inj r95
  exact k84 _ _ ⟨ha_, rfl⟩
 obtain ⟨hh85, rfl⟩ := hM
 obtain ⟨β, rfl⟩ := has_ex hh85
 clear hh85
 refine k78 _ _ ?_
 refine w_cond (o79) (by kernel_rfl) rfl (fun h96 => ?_) (fun h96 => ?_)
 ·have r97 := ite_t h96 r81
  refine w_seqk fun _ k98 => ?_
  refine w_draw [0, 1, 2, 3, 4, 5, 6, 7, 8, 9] (by kernel_rfl) ?_
  refine e_' (pt_ b7 2) ?_
  have u99 := ((r11.frS e19 Dj.nil_l).frS e69 Dj.nil_l)
  refine m_' (i_ Weight) (aLoad Tryz.prog 3 (pt_ b7 2) H67) (u99.ld (by kernel_rfl)) ?_
  refine e_' (hd_l) (e_' (i_ o15) ?_)
  obtain ⟨g100, r101⟩ := G_some r97
  have u102 := (u59.fr e69 Dj.nil_l)
  refine m_' (elp hd_l 3 o15.toNat 0) (aIndexAddr Tryz.prog 41 hd_l (i_ o15)) (u102.idxb (by kernel_rfl) g100.1 g100.2) ?_
  refine m_' (elp hd_l 3 o15.toNat 2) (aFieldAddr Tryz.prog 63 (elp hd_l 3 o15.toNat 0) 2) (Sq.fldq (d := 2) u102 g100.1 g100.2 (by kernel_rfl)) ?_
  refine m_' (i_ ((gt l o15).2.2)) (aLoad Tryz.prog 3 (elp hd_l 3 o15.toNat 2) H67) (u102.ld g100.1 g100.2 (by kernel_rfl)) ?_
  refine m_' (i_ (min Weight ((gt l o15).2.2))) (aMin Tryz.prog [i_ Weight, i_ ((gt l o15).2.2)]) (aMin_two _ _) ?_
  refine e_' (pt_ b7 2) ?_
  obtain ⟨H103, q104, e105, r106⟩ := Row.store (P := Tryz.prog) (t := 3) (p := 2) e69.wf u99 (i_ (min Weight ((gt l o15).2.2))) [i_ (min Weight ((gt l o15).2.2))] (by kernel_rfl) (by kernel_rfl) (one_cons (rfl) (one_nil)) (Nat.le_of_ble_eq_true (by kernel_rfl)) [i_ From, i_ To, i_ (min Weight ((gt l o15).2.2))] (by kernel_rfl)
  refine d_ek (undef) (by kernel_rfl) (map_ok q104) (st_nil) ?_
  refine d_nil ?_
  refine k98 _ _ (w_seqk fun _ k107 => g_' (q_ (.slice a73 n74 c75) ?_))
  refine l_' (.agg #[i_ From, i_ To, i_ (min Weight ((gt l o15).2.2))]) (aLoad Tryz.prog 63 (pt_ b7 0) H103) (r106.ld (by kernel_rfl)) ?_
  refine s_owk (enc := enc_i64_i64_i64) (sz := 3) e105.wf [(From, To, (min Weight ((gt l o15).2.2)))] 1 (by decide) (fun _ _ => rfl) (fun _ _ => rfl) rfl (by kernel_rfl) fun s108 f109 H110 e111 hf112 hm113 => ?_
  obtain ⟨a114, n115, c116, rfl⟩ := hm113.form
  have u118 := ((hm70.fr e105 (Dj.symm (hf71.djn (r11.ltF.le e19.next)))).ext e111)
  obtain ⟨g119, r120⟩ := G_some r101
  obtain ⟨s121, H122, f123, q127, e124, hm125, hf126⟩ := Ow.append (P := Tryz.prog) 24 e111.wf u118 hm113.sq (fun _ _ => rfl) (at_ := #[41, 41]) rfl rfl (by kernel_rfl) (by kernel_rfl) (by decide) (by have := g119; first | omega | (simp only [List.length_cons, List.length_nil] at this ⊢; omega) | (simp at this ⊢; omega))
  obtain ⟨a128, n129, c130, rfl⟩ := hm125.form
  refine s_ek (.slice a128 n129 c130) (by kernel_rfl) (q127) ?_
  refine q_ (.slice a128 n129 c130) (s_nil (k107 _ _ (w_seqk fun _ k132 => g_' (q_ (.slice a128 n129 c130) (q_ (hd_l) (q_ (i_ o15) ?_))))))
  obtain ⟨g133, r134⟩ := G_some r120
  refine w_' (o15 + 1) (wrap64 (by have := g133; omega)) ?_
  obtain ⟨g135, r136⟩ := G_some r134
  have u140 := (((u102.fr e105 (hb10.djn h_l.lt)).ext e111).fr e124 (hf71.djn (h_l.lt.le (ntr e9.next e19.next))))
  obtain ⟨s137, q138, hs139⟩ := Sq.cut (P := Tryz.prog) u140 (t := 41) (by kernel_rfl) (lo := (some (i_ (o15 + 1)))) (hi := none) (l := (o15 + 1).toNat) (r := l.length) (aBound_int _ (by have := g135; omega)) (rfl) (by have := g135; omega) (by have := g135; omega)
  obtain ⟨a141, n142, c143, rfl⟩ := hs139.form
  refine s_ql (.slice a141 n142 c143) (by kernel_rfl) q138 ?_
  obtain ⟨g145, r146⟩ := G_some r136
  obtain ⟨s147, H148, f149, q153, e150, hm151, hf152⟩ := Ow.append (P := Tryz.prog) 24 e124.wf hm125 hs139 (fun _ _ => rfl) (at_ := #[41, 41]) rfl rfl (by kernel_rfl) (by kernel_rfl) (by decide) (by have := g145; first | omega | (simp only [List.length_cons, List.length_nil] at this ⊢; omega) | (simp at this ⊢; omega))
  obtain ⟨a154, n155, c156, rfl⟩ := hm151.form
  refine s_ek (.slice a154 n155 c156) (by kernel_rfl) (q153) ?_
  refine q_ (.slice a154 n155 c156) (s_nil (k132 _ _ ?_))
  refine w_ret (th_ret ?_)
  refine b_ret (fn := Tryz.f79) (vs := [.slice a154 n155 c156]) (aRes_tmp (by kernel_rfl) (rfl)) ?_
  obtain rfl := Option.some.inj r146
  exact ⟨(.slice a154 n155 c156), f149, rfl, (FrS.step wf (FrS.step wf ((FrS.step wf (FrS.step wf (FrS.step wf ((FrS.refl (W := []) wf).extR e9) e19 Inn.nil) e69 Inn.nil) e105 (hb10.fresh (Nat.le_refl _))).extR e111) e124 (hf71.fresh (ntr e9.next e19.next))) e150 (Inn.trans (hf71.fresh (ntr e9.next e19.next)) (ntr (ntr (ntr (ntr e9.next e19.next) e69.next) e105.next) e111.next) hf126)), hm151, (Inn.trans (Inn.trans (hf71.fresh (ntr e9.next e19.next)) (ntr (ntr (ntr (ntr e9.next e19.next) e69.next) e105.next) e111.next) hf126) (ntr (ntr (ntr (ntr (ntr e9.next e19.next) e69.next) e105.next) e111.next) e124.next) hf152)⟩
 have r158 := ite_bf h96 r81
 refine w_skip (k77 _ _ (w_seqk fun _ k159 => g_' (q_ (.slice a73 n74 c75) ?_)))
 have u160 := ((r11.frS e19 Dj.nil_l).frS e69 Dj.nil_l)
 refine l_' (.agg #[i_ From, i_ To, i_ Weight]) (aLoad Tryz.prog 63 (pt_ b7 0) H67) (u160.ld (by kernel_rfl)) ?_
 refine s_owk (enc := enc_i64_i64_i64) (sz := 3) e69.wf [(From, To, Weight)] 1 (by decide) (fun _ _ => rfl) (fun _ _ => rfl) rfl (by kernel_rfl) fun s161 f162 H163 e164 hf165 hm166 => ?_
 obtain ⟨a167, n168, c169, rfl⟩ := hm166.form
 have u171 := (hm70.ext e164)
 obtain ⟨g172, r173⟩ := G_some r158
 obtain ⟨s174, H175, f176, q180, e177, hm178, hf179⟩ := Ow.append (P := Tryz.prog) 24 e164.wf u171 hm166.sq (fun _ _ => rfl) (at_ := #[41, 41]) rfl rfl (by kernel_rfl) (by kernel_rfl) (by decide) (by have := g172; first | omega | (simp only [List.length_cons, List.length_nil] at this ⊢; omega) | (simp at this ⊢; omega))
 obtain ⟨a181, n182, c183, rfl⟩ := hm178.form
 refine s_ek (.slice a181 n182 c183) (by kernel_rfl) (q180) ?_
 refine q_ (.slice a181 n182 c183) (s_nil (k159 _ _ (w_seqk fun _ k185 => g_' (q_ (.slice a181 n182 c183) (q_ (hd_l) (q_ (i_ o15) ?_))))))
 have u189 := (((u59.fr e69 Dj.nil_l).ext e164).fr e177 (hf71.djn (h_l.lt.le (ntr e9.next e19.next))))
 obtain ⟨s186, q187, hs188⟩ := Sq.cut (P := Tryz.prog) u189 (t := 41) (by kernel_rfl) (lo := (some (i_ o15))) (hi := none) (l := o15.toNat) (r := l.length) (aBound_int _ (by have := g54; omega)) (rfl) (by have := g54; omega) (by have := g54; omega)
 obtain ⟨a190, n191, c192, rfl⟩ := hs188.form
 refine s_ql (.slice a190 n191 c192) (by kernel_rfl) q187 ?_
 obtain ⟨g194, r195⟩ := G_some r173
 obtain ⟨s196, H197, f198, q202, e199, hm200, hf201⟩ := Ow.append (P := Tryz.prog) 24 e177.wf hm178 hs188 (fun _ _ => rfl) (at_ := #[41, 41]) rfl rfl (by kernel_rfl) (by kernel_rfl) (by decide) (by have := g194; first | omega | (simp only [List.length_cons, List.length_nil] at this ⊢; omega) | (simp at this ⊢; omega))
 obtain ⟨a203, n204, c205, rfl⟩ := hm200.form
 refine s_ek (.slice a203 n204 c205) (by kernel_rfl) (q202) ?_
 refine q_ (.slice a203 n204 c205) (s_nil (k185 _ _ ?_))
 refine w_ret ?_
 refine b_ret (fn := Tryz.f79) (vs := [.slice a203 n204 c205]) (aRes_tmp (by kernel_rfl) (rfl)) ?_
 obtain rfl := Option.some.inj r195
 exact ⟨(.slice a203 n204 c205), f198, rfl, (FrS.step wf (FrS.step wf ((FrS.step wf (FrS.step wf ((FrS.refl (W := []) wf).extR e9) e19 Inn.nil) e69 Inn.nil).extR e164) e177 (hf71.fresh (ntr e9.next e19.next))) e199 (Inn.trans (hf71.fresh (ntr e9.next e19.next)) (ntr (ntr (ntr e9.next e19.next) e69.next) e164.next) hf179)), hm200, (Inn.trans (Inn.trans (hf71.fresh (ntr e9.next e19.next)) (ntr (ntr (ntr e9.next e19.next) e69.next) e164.next) hf179) (ntr (ntr (ntr (ntr e9.next e19.next) e69.next) e164.next) e177.next) hf201)⟩
theorem c_viaductref04_Of {H : AH} {hd_Arcs : Value} {fp_Arcs : Fp} {N_ : Int} {Arcs : List (Int × Int × Int)} {r : Int × List (Int × Int × Int)}
    (wf : WF H) (h_Arcs : Sq enc_i64_i64_i64 3 H hd_Arcs Arcs fp_Arcs) (hr : z_viaductref04_Of N_ Arcs = some r) :
    ACalls Tryz.prog 64 #[.agg #[i_ N_, hd_Arcs]] H fun v H' => ∃ (s3 : Value) (f4 : Fp), v = .agg #[i_ r.1, s3] ∧ FrS [] H H' ∧ Ow enc_i64_i64_i64 3 H' s3 r.2 f4 ∧ Inn [] H f4 := by
 refine acalls_of_body mixed Tryz.func64 rfl (Nat.le_of_ble_eq_true rfl) ?_
 unfold z_viaductref04_Of at hr
 refine w_seqk fun _ k6 => g_' ?_
 refine s_rwl wf [i_ N_, hd_Arcs] (one_cons (rfl) (one_cons (h_Arcs.one1) (one_nil))) (by kernel_rfl) fun b7 H8 e9 hb10 r11 => ?_
 refine s_rwk e9.wf [i_ 0, .slice none 0 0] (by kernel_rfl) fun b13 H14 e15 hb16 r17 => ?_
 refine s_nil (k6 _ _ (w_seqk fun _ k19 => g_' (q_ (pt_ b7 0) ?_)))
 have u20 := (r11.ext e15)
 refine l_' (i_ N_) (aLoad Tryz.prog 3 (pt_ b7 0) H14) (u20.ld (by kernel_rfl)) ?_
 refine q_ (.agg #[i_ N_, .slice none 0 0]) ?_
 refine s_rwk e15.wf [i_ 0, .slice none 0 0] (by kernel_rfl) fun b21 H22 e23 hb24 r25 => ?_
 obtain ⟨H27, q28, e29, r30⟩ := Row.store (P := Tryz.prog) (t := 43) (p := 0) e23.wf r25 (.agg #[i_ N_, .slice none 0 0]) [i_ N_, .slice none 0 0] (by kernel_rfl) (by kernel_rfl) (one_cons (rfl) (one_cons (rfl) (one_nil))) (Nat.le_of_ble_eq_true (by kernel_rfl)) [i_ N_, .slice none 0 0] (by kernel_rfl)
 refine s_ek (undef) (by kernel_rfl) (map_ok q28) ?_
 refine s_nil (k19 _ _ (w_seqk fun _ k31 => w_seqk fun _ k32 => g_' (q_ (pt_ b7 1) ?_)))
 have u33 := ((u20.ext e23).frS e29 (hb24.djn (r11.ltF.le e15.next)))
 refine l_' (hd_Arcs) (aLoad Tryz.prog 41 (pt_ b7 1) H27) (u33.ld (by kernel_rfl)) ?_
 have u34 := ((((h_Arcs.ext e9).ext e15).ext e23).fr e29 (hb24.djn (h_Arcs.lt.le (ntr e9.next e15.next))))
 refine l_' (i_ (Arcs.length : Int)) (aLen Tryz.prog 41 hd_Arcs H27) (u34.lenb (by kernel_rfl)) ?_
 refine q_ (i_ 0) (s_nil (k32 _ _ ?_))
 obtain ⟨o35, hx36, r37⟩ := bind_some hr
 refine w_mid (fun α H38 => ∃ (s42 : Value) (f43 : Fp), Has α [(2, pt_ b13 0), (3, pt_ b21 0)] ∧ FrS [b21] H27 H38 ∧ Ow enc_i64_i64_i64 3 H38 s42 o35 f43 ∧ Row H38 b21 [i_ N_, s42] ∧ Inn [] H27 f43) (fun _ k47 => ?_) (fun α H38 hM => ?_)
 ·refine w_block ?_
  obtain ⟨n49, hn50⟩ := loopO_iff.1 hx36
  refine w_loopn (fun n α H51 => ∃ (i0 : Int), ∃ (c1 : List (Int × Int × Int)), ∃ (s55 : Value), ∃ (f56 : Fp), iterO (fun zz_ => z_viaductref04_Of_l0 Arcs zz_.1 zz_.2) n (i0, c1) = some o35 ∧ Has α [(2, pt_ b13 0), (3, pt_ b21 0), (10, hd_Arcs), (11, i_ (Arcs.length : Int)), (12, i_ i0)] ∧ FrS [b21] H27 H51 ∧ Ow enc_i64_i64_i64 3 H51 s55 c1 f56 ∧ Row H51 b21 [i_ N_, s55] ∧ Inn [] H27 f56) n49 ⟨0, [], (.slice none 0 0), [], hn50, ha_, (FrS.refl (W := [b21]) e29.wf), (Ow.nil (by decide)), r30, Inn.nil⟩ ?_
  rintro n49 α H51 ⟨i0, c1, s55, f56, hi61, hh60, e52, m54, m58, i59⟩ K66 k66
  obtain ⟨n62, z63, rfl, hz64, hn65⟩ := iter_succ hi61
  obtain ⟨β, rfl⟩ := has_ex hh60
  clear hh60
  replace hz64 : z_viaductref04_Of_l0 Arcs i0 c1 = some z63 := hz64
  unfold z_viaductref04_Of_l0 at hz64
  obtain ⟨a67, n68, c69, rfl⟩ := m54.form
  refine w_seqk fun _ k70 => g_' (q_ (.bool (decide (i0 < (Arcs.length : Int)))) (s_nil (k70 _ _ (w_seqk fun _ k71 => ?_))))
  refine w_condp (i0 < (Arcs.length : Int)) (by kernel_rfl) rfl (fun h72 => ?_) (fun h72 => ?_)
  ·have r73 := ite_t h72 hz64
   refine w_skip (k71 _ _ (w_seqk fun _ k74 => w_block (w_seqk fun _ k75 => g_' ?_)))
   obtain ⟨g76, r77⟩ := G_some r73
   have u78 := (u34.fr e52 (hb24.djn (h_Arcs.lt.le (ntr e9.next e15.next))))
   refine l_' (elp hd_Arcs 3 i0.toNat 0) (aIndexAddr Tryz.prog 41 hd_Arcs (i_ i0)) (u78.idxb (by kernel_rfl) g76 h72) ?_
   refine l_' (.agg #[i_ ((gt Arcs i0).1), i_ ((gt Arcs i0).2.1), i_ ((gt Arcs i0).2.2)]) (aLoad Tryz.prog 63 (elp hd_Arcs 3 i0.toNat 0) H51) (u78.ld g76 h72 (by kernel_rfl)) ?_
   refine s_rwk e52.wf [i_ 0, i_ 0, i_ 0] (by kernel_rfl) fun b79 H80 e81 hb82 r83 => ?_
   obtain ⟨H85, q86, e87, r88⟩ := Row.store (P := Tryz.prog) (t := 63) (p := 0) e81.wf r83 (.agg #[i_ ((gt Arcs i0).1), i_ ((gt Arcs i0).2.1), i_ ((gt Arcs i0).2.2)]) [i_ ((gt Arcs i0).1), i_ ((gt Arcs i0).2.1), i_ ((gt Arcs i0).2.2)] (by kernel_rfl) (by kernel_rfl) (one_cons (rfl) (one_cons (rfl) (one_cons (rfl) (one_nil)))) (Nat.le_of_ble_eq_true (by kernel_rfl)) [i_ ((gt Arcs i0).1), i_ ((gt Arcs i0).2.1), i_ ((gt Arcs i0).2.2)] (by kernel_rfl)
   refine s_ek (undef) (by kernel_rfl) (map_ok q86) ?_
   refine s_nil (k75 _ _ (w_seqk fun _ k89 => g_' (q_ (pt_ b79 0) ?_)))
   refine l_' (i_ ((gt Arcs i0).1)) (aLoad Tryz.prog 3 (pt_ b79 0) H85) (r88.ld (by kernel_rfl)) ?_
   refine q_ (pt_ b79 1) ?_
   refine l_' (i_ ((gt Arcs i0).2.1)) (aLoad Tryz.prog 3 (pt_ b79 1) H85) (r88.ld (by kernel_rfl)) ?_
   refine q_ (.bool (!decide (((gt Arcs i0).1) = ((gt Arcs i0).2.1)))) (s_nil (k89 _ _ ?_))
   refine w_condn (((gt Arcs i0).1) = ((gt Arcs i0).2.1)) (by kernel_rfl) rfl (fun h90 => ?_) (fun h90 => ?_)
   ·have r91 := ite_f h90 r77
    refine g_' (q_ (pt_ b21 1) ?_)
    have u92 := ((m58.ext e81).frS e87 (hb82.djn (r25.ltF.le (ntr e29.next e52.next))))
    refine l_' (.slice a67 n68 c69) (aLoad Tryz.prog 41 (pt_ b21 1) H85) (u92.ld (by kernel_rfl)) ?_
    refine l_' (.agg #[i_ ((gt Arcs i0).1), i_ ((gt Arcs i0).2.1), i_ ((gt Arcs i0).2.2)]) (aLoad Tryz.prog 63 (pt_ b79 0) H85) (r88.ld (by kernel_rfl)) ?_
    have u93 := ((m54.ext e81).fr e87 (hb82.djn m54.lt))
    obtain ⟨y94, hy95, r96⟩ := bind_some r91
    refine s_ck 79 #[.slice a67 n68 c69, .agg #[i_ ((gt Arcs i0).1), i_ ((gt Arcs i0).2.1), i_ ((gt Arcs i0).2.2)]] (by kernel_rfl) (c_viaductref04_Put e87.wf u93.sq hy95) ?_
    rintro s97 H99 ⟨_, f98, rfl, e100, m101, i102⟩
    obtain ⟨a104, n105, c106, rfl⟩ := m101.form
    refine q_ (pt_ b21 1) ?_
    have u111 := (u92.frS e100 Dj.nil_l)
    obtain ⟨H107, q108, e109, r110⟩ := Row.store (P := Tryz.prog) (t := 41) (p := 1) e100.wf u111 (.slice a104 n105 c106) [.slice a104 n105 c106] (by kernel_rfl) (by kernel_rfl) (one_cons (m101.one1) (one_nil)) (Nat.le_of_ble_eq_true (by kernel_rfl)) [i_ N_, .slice a104 n105 c106] (by kernel_rfl)
    refine s_ek (undef) (by kernel_rfl) (map_ok q108) ?_
    refine s_nil (k74 _ _ (g_' ?_))
    obtain ⟨g112, r113⟩ := G_some r96
    refine w_' (i0 + 1) (wrap64 (by have := g112; omega)) ?_
    refine q_ (i_ (i0 + 1)) (s_nil ?_)
    have u114 := (m101.fr e109 (Dj.symm (i102.djn (r25.ltF.le (ntr (ntr (ntr e29.next e52.next) e81.next) e87.next)))))
    obtain rfl := Option.some.inj r113
    exact k66 n62 _ _ (Nat.lt_succ_self _) ⟨(i0 + 1), y94, (.slice a104 n105 c106), f98, hn65, ha_, (FrS.step e29.wf (FrS.step e29.wf (FrS.step e29.wf ((FrS.step e29.wf (FrS.refl (W := [b21]) e29.wf) e52 Inn.refl').extR e81) e87 (hb82.fresh e52.next)) e100 Inn.nil) e109 Inn.refl'), u114, r110, (i102.fresh (ntr (ntr e52.next e81.next) e87.next))⟩
   have r115 := ite_t h90 r77
   refine w_skip (k74 _ _ (g_' ?_))
   obtain ⟨g116, r117⟩ := G_some r115
   refine w_' (i0 + 1) (wrap64 (by have := g116; omega)) ?_
   refine q_ (i_ (i0 + 1)) (s_nil ?_)
   have u118 := ((m54.ext e81).fr e87 (hb82.djn m54.lt))
   have u119 := ((m58.ext e81).frS e87 (hb82.djn (r25.ltF.le (ntr e29.next e52.next))))
   obtain rfl := Option.some.inj r117
   exact k66 n62 _ _ (Nat.lt_succ_self _) ⟨(i0 + 1), c1, (.slice a67 n68 c69), f56, hn65, ha_, (FrS.step e29.wf ((FrS.step e29.wf (FrS.refl (W := [b21]) e29.wf) e52 Inn.refl').extR e81) e87 (hb82.fresh e52.next)), u118, u119, (i59.fresh (Nat.le_refl _))⟩
  have r120 := ite_f h72 hz64
  refine w_exit (th_exit (th_exit (bl_eq ?_)))
  obtain rfl := Option.some.inj r120
  obtain rfl := it_inr hn65
  exact k47 _ _ ⟨(.slice a67 n68 c69), f56, ha_, (FrS.step e29.wf (FrS.refl (W := [b21]) e29.wf) e52 Inn.refl'), m54, m58, (i59.fresh (Nat.le_refl _))⟩
 obtain ⟨s42, f43, hh48, e39, m41, m45, i46⟩ := hM
 obtain ⟨β, rfl⟩ := has_ex hh48
 clear hh48
 obtain ⟨a121, n122, c123, rfl⟩ := m41.form
 refine k31 _ _ (w_seqk fun _ k124 => g_' ?_)
 refine l_' (.agg #[i_ N_, .slice a121 n122 c123]) (aLoad Tryz.prog 43 (pt_ b21 0) H38) (m45.ld (by kernel_rfl)) ?_
 have u129 := (((r17.ext e23).frS e29 (hb24.djn r17.ltF)).frS e39 (hb24.djn r17.ltF))
 obtain ⟨H125, q126, e127, r128⟩ := Row.store (P := Tryz.prog) (t := 43) (p := 0) e39.wf u129 (.agg #[i_ N_, .slice a121 n122 c123]) [i_ N_, .slice a121 n122 c123] (by kernel_rfl) (by kernel_rfl) (one_cons (rfl) (one_cons (m41.one1) (one_nil))) (Nat.le_of_ble_eq_true (by kernel_rfl)) [i_ N_, .slice a121 n122 c123] (by kernel_rfl)
 refine s_ek (undef) (by kernel_rfl) (map_ok q126) ?_
 refine s_nil (k124 _ _ ?_)
 refine w_ret ?_
 refine b_ret (fn := Tryz.f64) (vs := [.agg #[i_ N_, .slice a121 n122 c123]]) (aRes_cell (Eq.trans (b := aLoad Tryz.prog 43 (pt_ b13 0) H125) (by kernel_rfl) (r128.ld (by kernel_rfl))) (rfl)) ?_
 have u130 := (m41.fr e127 (Dj.symm (i46.djn (r17.ltF.le (ntr e23.next e29.next)))))
 obtain rfl := Option.some.inj r37
 exact ⟨(.slice a121 n122 c123), f43, rfl, (FrS.step wf (FrS.step wf (FrS.step wf ((((FrS.refl (W := []) wf).extR e9).extR e15).extR e23) e29 (hb24.fresh (ntr e9.next e15.next))) e39 (hb24.fresh (ntr e9.next e15.next))) e127 (hb16.fresh e9.next)), u130, (i46.fresh (ntr (ntr (ntr e9.next e15.next) e23.next) e29.next))⟩
theorem c_viaductref10_Graph {H : AH} {hd_Node : Value} {fp_Node : Fp} {hd_UpFirst : Value} {fp_UpFirst : Fp} {hd_Up : Value} {fp_Up : Fp} {hd_DownFirst : Value} {fp_DownFirst : Fp} {hd_Down : Value} {fp_Down : Fp} {Node : List (Int)} {UpFirst : List (Int)} {Up : List (Int × Int × Int × Int)} {DownFirst : List (Int)} {Down : List (Int × Int × Int × Int)} {r : Int × List (Int × Int × Int)}
    (wf : WF H) (h_Node : Sq (encI .u32) 1 H hd_Node Node fp_Node) (h_UpFirst : Sq (encI .u32) 1 H hd_UpFirst UpFirst fp_UpFirst) (h_Up : Sq enc_u32_u64_u32_u32 4 H hd_Up Up fp_Up) (h_DownFirst : Sq (encI .u32) 1 H hd_DownFirst DownFirst fp_DownFirst) (h_Down : Sq enc_u32_u64_u32_u32 4 H hd_Down Down fp_Down) (hr : z_viaductref10_Graph Node UpFirst Up DownFirst Down = some r) :
    ACalls Tryz.prog 39 #[.agg #[hd_Node, hd_UpFirst, hd_Up, hd_DownFirst, hd_Down]] H fun v H' => ∃ (s3 : Value) (f4 : Fp), v = .agg #[i_ r.1, s3] ∧ FrS [] H H' ∧ Ow enc_i64_i64_i64 3 H' s3 r.2 f4 ∧ Inn [] H f4 := by
 refine acalls_of_body mixed Tryz.func39 rfl (Nat.le_of_ble_eq_true rfl) ?_
 unfold z_viaductref10_Graph at hr
 refine w_seqk fun _ k6 => g_' ?_
 refine s_rwl wf [hd_Node, hd_UpFirst, hd_Up, hd_DownFirst, hd_Down] (one_cons (h_Node.one1) (one_cons (h_UpFirst.one1) (one_cons (h_Up.one1) (one_cons (h_DownFirst.one1) (one_cons (h_Down.one1) (one_nil)))))) (by kernel_rfl) fun b7 H8 e9 hb10 r11 => ?_
 refine s_rwk e9.wf [i_ 0, .slice none 0 0] (by kernel_rfl) fun b13 H14 e15 hb16 r17 => ?_
 refine s_nil (k6 _ _ (w_seqk fun _ k19 => g_' (q_ (pt_ b7 0) ?_)))
 have u20 := (r11.ext e15)
 refine l_' (hd_Node) (aLoad Tryz.prog 22 (pt_ b7 0) H14) (u20.ld (by kernel_rfl)) ?_
 have u21 := ((h_Node.ext e9).ext e15)
 refine l_' (i_ (Node.length : Int)) (aLen Tryz.prog 22 hd_Node H14) (u21.lenb (by kernel_rfl)) ?_
 refine q_ (.agg #[i_ (Node.length : Int), .slice none 0 0]) ?_
 refine s_rwk e15.wf [i_ 0, .slice none 0 0] (by kernel_rfl) fun b22 H23 e24 hb25 r26 => ?_
 obtain ⟨H28, q29, e30, r31⟩ := Row.store (P := Tryz.prog) (t := 43) (p := 0) e24.wf r26 (.agg #[i_ (Node.length : Int), .slice none 0 0]) [i_ (Node.length : Int), .slice none 0 0] (by kernel_rfl) (by kernel_rfl) (one_cons (rfl) (one_cons (rfl) (one_nil))) (Nat.le_of_ble_eq_true (by kernel_rfl)) [i_ (Node.length : Int), .slice none 0 0] (by kernel_rfl)
 refine s_ek (undef) (by kernel_rfl) (map_ok q29) ?_
 refine s_nil (k19 _ _ (w_seqk fun _ k32 => w_seqk fun _ k33 => g_' ?_))
 have u34 := ((u20.ext e24).frS e30 (hb25.djn (r11.ltF.le e15.next)))
 refine l_' (.agg #[hd_Node, hd_UpFirst, hd_Up, hd_DownFirst, hd_Down]) (aLoad Tryz.prog 25 (pt_ b7 0) H28) (u34.ld (by kernel_rfl)) ?_
 have u35 := ((u21.ext e24).fr e30 (hb25.djn (h_Node.lt.le (ntr e9.next e15.next))))
 have u36 := ((((h_UpFirst.ext e9).ext e15).ext e24).fr e30 (hb25.djn (h_UpFirst.lt.le (ntr e9.next e15.next))))
 have u37 := ((((h_Up.ext e9).ext e15).ext e24).fr e30 (hb25.djn (h_Up.lt.le (ntr e9.next e15.next))))
 have u38 := ((((h_DownFirst.ext e9).ext e15).ext e24).fr e30 (hb25.djn (h_DownFirst.lt.le (ntr e9.next e15.next))))
 have u39 := ((((h_Down.ext e9).ext e15).ext e24).fr e30 (hb25.djn (h_Down.lt.le (ntr e9.next e15.next))))
 obtain ⟨y40, hy41, r42⟩ := bind_some hr
 refine s_ck 63 #[.agg #[hd_Node, hd_UpFirst, hd_Up, hd_DownFirst, hd_Down]] (by kernel_rfl) (c_viaductref10_Arcs e30.wf u35 u36 u37 u38 u39 hy41) ?_
 rintro s43 H45 ⟨_, f44, rfl, e46, m47, i48⟩
 obtain ⟨a50, n51, c52, rfl⟩ := m47.form
 refine l_' (i_ (y40.length : Int)) (aLen Tryz.prog 132 (.slice a50 n51 c52) H45) (m47.sq.lenb (by kernel_rfl)) ?_
 refine q_ (i_ 0) (s_nil (k33 _ _ ?_))
 obtain ⟨o53, hx54, r55⟩ := bind_some r42
 refine w_mid (fun α H56 => ∃ (s60 : Value) (f61 : Fp), Has α [(2, pt_ b13 0), (3, pt_ b22 0)] ∧ FrS [b22] H45 H56 ∧ Ow enc_i64_i64_i64 3 H56 s60 o53 f61 ∧ Row H56 b22 [i_ (Node.length : Int), s60] ∧ Inn [] H45 f61) (fun _ k65 => ?_) (fun α H56 hM => ?_)
 ·refine w_block ?_
  obtain ⟨n67, hn68⟩ := loopO_iff.1 hx54
  have u84 := (r31.frS e46 Dj.nil_l)
  refine w_loopn (fun n α H69 => ∃ (i0 : Int), ∃ (g1 : List (Int × Int × Int)), ∃ (s73 : Value), ∃ (f74 : Fp), iterO (fun zz_ => z_viaductref10_Graph_l0 Node UpFirst Up DownFirst Down y40 zz_.1 zz_.2) n (i0, g1) = some o53 ∧ Has α [(1, pt_ b7 0), (2, pt_ b13 0), (3, pt_ b22 0), (12, .slice a50 n51 c52), (13, i_ (y40.length : Int)), (14, i_ i0)] ∧ FrS [b22] H45 H69 ∧ Ow enc_i64_i64_i64 3 H69 s73 g1 f74 ∧ Row H69 b22 [i_ (Node.length : Int), s73] ∧ Inn [] H45 f74) n67 ⟨0, [], (.slice none 0 0), [], hn68, ha_, (FrS.refl (W := [b22]) e46.wf), (Ow.nil (by decide)), u84, Inn.nil⟩ ?_
  rintro n67 α H69 ⟨i0, g1, s73, f74, hi79, hh78, e70, m72, m76, i77⟩ K85 k85
  obtain ⟨n80, z81, rfl, hz82, hn83⟩ := iter_succ hi79
  obtain ⟨β, rfl⟩ := has_ex hh78
  clear hh78
  replace hz82 : z_viaductref10_Graph_l0 Node UpFirst Up DownFirst Down y40 i0 g1 = some z81 := hz82
  unfold z_viaductref10_Graph_l0 at hz82
  obtain ⟨a86, n87, c88, rfl⟩ := m72.form
  refine w_seqk fun _ k89 => g_' (q_ (.bool (decide (i0 < (y40.length : Int)))) (s_nil (k89 _ _ (w_seqk fun _ k90 => ?_))))
  refine w_condp (i0 < (y40.length : Int)) (by kernel_rfl) rfl (fun h91 => ?_) (fun h91 => ?_)
  ·have r92 := ite_t h91 hz82
   refine w_skip (k90 _ _ (w_seqk fun _ k93 => w_block (w_seqk fun _ k94 => g_' (q_ (i_ i0) ?_))))
   obtain ⟨g95, r96⟩ := G_some r92
   have u97 := (m47.fr e70 (Dj.symm (i48.djn (r26.ltF.le e30.next))))
   refine l_' (elp (.slice a50 n51 c52) 3 i0.toNat 0) (aIndexAddr Tryz.prog 132 (.slice a50 n51 c52) (i_ i0)) (u97.sq.idxb (by kernel_rfl) g95 h91) ?_
   refine l_' (.agg #[i_ ((gt y40 i0).1), i_ ((gt y40 i0).2.1), i_ ((gt y40 i0).2.2)]) (aLoad Tryz.prog 96 (elp (.slice a50 n51 c52) 3 i0.toNat 0) H69) (u97.sq.ld g95 h91 (by kernel_rfl)) ?_
   refine s_rwk e70.wf [i_ 0, i_ 0, i_ 0] (by kernel_rfl) fun b98 H99 e100 hb101 r102 => ?_
   refine q_ (i_ i0) ?_
   obtain ⟨H104, q105, e106, r107⟩ := Row.store (P := Tryz.prog) (t := 96) (p := 0) e100.wf r102 (.agg #[i_ ((gt y40 i0).1), i_ ((gt y40 i0).2.1), i_ ((gt y40 i0).2.2)]) [i_ ((gt y40 i0).1), i_ ((gt y40 i0).2.1), i_ ((gt y40 i0).2.2)] (by kernel_rfl) (by kernel_rfl) (one_cons (rfl) (one_cons (rfl) (one_cons (rfl) (one_nil)))) (Nat.le_of_ble_eq_true (by kernel_rfl)) [i_ ((gt y40 i0).1), i_ ((gt y40 i0).2.1), i_ ((gt y40 i0).2.2)] (by kernel_rfl)
   refine s_ek (undef) (by kernel_rfl) (map_ok q105) ?_
   refine s_nil (k94 _ _ (w_seqk fun _ k108 => g_' ?_))
   have u109 := ((((u34.frS e46 Dj.nil_l).frS e70 (hb25.djn (r11.ltF.le e15.next))).ext e100).frS e106 (hb101.djn (r11.ltF.le (ntr (ntr (ntr (ntr e15.next e24.next) e30.next) e46.next) e70.next))))
   refine l_' (.agg #[hd_Node, hd_UpFirst, hd_Up, hd_DownFirst, hd_Down]) (aLoad Tryz.prog 25 (pt_ b7 0) H104) (u109.ld (by kernel_rfl)) ?_
   refine q_ (i_ i0) ?_
   have u110 := ((((u35.fr e46 Dj.nil_l).fr e70 (hb25.djn (h_Node.lt.le (ntr e9.next e15.next)))).ext e100).fr e106 (hb101.djn (h_Node.lt.le (ntr (ntr (ntr (ntr (ntr e9.next e15.next) e24.next) e30.next) e46.next) e70.next))))
   have u111 := ((((u36.fr e46 Dj.nil_l).fr e70 (hb25.djn (h_UpFirst.lt.le (ntr e9.next e15.next)))).ext e100).fr e106 (hb101.djn (h_UpFirst.lt.le (ntr (ntr (ntr (ntr (ntr e9.next e15.next) e24.next) e30.next) e46.next) e70.next))))
   have u112 := ((((u37.fr e46 Dj.nil_l).fr e70 (hb25.djn (h_Up.lt.le (ntr e9.next e15.next)))).ext e100).fr e106 (hb101.djn (h_Up.lt.le (ntr (ntr (ntr (ntr (ntr e9.next e15.next) e24.next) e30.next) e46.next) e70.next))))
   have u113 := ((((u38.fr e46 Dj.nil_l).fr e70 (hb25.djn (h_DownFirst.lt.le (ntr e9.next e15.next)))).ext e100).fr e106 (hb101.djn (h_DownFirst.lt.le (ntr (ntr (ntr (ntr (ntr e9.next e15.next) e24.next) e30.next) e46.next) e70.next))))
   have u114 := ((((u39.fr e46 Dj.nil_l).fr e70 (hb25.djn (h_Down.lt.le (ntr e9.next e15.next)))).ext e100).fr e106 (hb101.djn (h_Down.lt.le (ntr (ntr (ntr (ntr (ntr e9.next e15.next) e24.next) e30.next) e46.next) e70.next))))
   obtain ⟨y115, hy116, r117⟩ := bind_some r96
   refine s_ck 59 #[.agg #[hd_Node, hd_UpFirst, hd_Up, hd_DownFirst, hd_Down], i_ i0] (by kernel_rfl) (c_viaductref10_Link e106.wf u110 u111 u112 u113 u114 hy116) ?_
   rintro _ H118 ⟨rfl, e119⟩
   refine s_rwk e119.wf [.int .u32 0, .int .u64 0, .int .u32 0, .int .u32 0] (by kernel_rfl) fun b120 H121 e122 hb123 r124 => ?_
   obtain ⟨H126, q127, e128, r129⟩ := Row.store (P := Tryz.prog) (t := 92) (p := 0) e122.wf r124 (.agg #[.int .u32 y115.1, .int .u64 y115.2.1, .int .u32 y115.2.2.1, .int .u32 y115.2.2.2]) [.int .u32 y115.1, .int .u64 y115.2.1, .int .u32 y115.2.2.1, .int .u32 y115.2.2.2] (by kernel_rfl) (by kernel_rfl) (one_cons (rfl) (one_cons (rfl) (one_cons (rfl) (one_cons (rfl) (one_nil))))) (Nat.le_of_ble_eq_true (by kernel_rfl)) [.int .u32 y115.1, .int .u64 y115.2.1, .int .u32 y115.2.2.1, .int .u32 y115.2.2.2] (by kernel_rfl)
   refine s_ek (undef) (by kernel_rfl) (map_ok q127) ?_
   refine s_nil (k108 _ _ (w_seqk fun _ k130 => g_' ?_))
   refine l_' (.agg #[.int .u32 y115.1, .int .u64 y115.2.1, .int .u32 y115.2.2.1, .int .u32 y115.2.2.2]) (aLoad Tryz.prog 92 (pt_ b120 0) H126) (r129.ld (by kernel_rfl)) ?_
   obtain ⟨y131, hy132, r133⟩ := bind_some r117
   refine s_ck 60 #[.agg #[.int .u32 y115.1, .int .u64 y115.2.1, .int .u32 y115.2.2.1, .int .u32 y115.2.2.2]] (by kernel_rfl) (c_viaductref10_Plain e128.wf hy132) ?_
   rintro _ H134 ⟨rfl, e135⟩
   refine s_nil (k130 _ _ ?_)
   refine w_cond (y131) (by kernel_rfl) rfl (fun h136 => ?_) (fun h136 => ?_)
   ·have r137 := ite_t h136 r133
    refine w_draw [0, 1, 2, 3, 4, 5, 6, 7, 8, 9, 10, 11, 12, 13, 14, 15, 16, 17, 18, 19, 20, 21, 22, 23] (by kernel_rfl) ?_
    refine e_' (pt_ b22 1) ?_
    have u138 := ((((((m76.ext e100).frS e106 (hb101.djn (r26.ltF.le (ntr (ntr e30.next e46.next) e70.next)))).frS e119 Dj.nil_l).ext e122).frS e128 (hb123.djn (r26.ltF.le (ntr (ntr (ntr (ntr (ntr e30.next e46.next) e70.next) e100.next) e106.next) e119.next)))).frS e135 Dj.nil_l)
    refine m_' (.slice a86 n87 c88) (aLoad Tryz.prog 41 (pt_ b22 1) H134) (u138.ld (by kernel_rfl)) ?_
    refine e_' (pt_ b7 0) ?_
    have u139 := ((((u109.frS e119 Dj.nil_l).ext e122).frS e128 (hb123.djn (r11.ltF.le (ntr (ntr (ntr (ntr (ntr (ntr (ntr e15.next e24.next) e30.next) e46.next) e70.next) e100.next) e106.next) e119.next)))).frS e135 Dj.nil_l)
    refine m_' (hd_Node) (aLoad Tryz.prog 22 (pt_ b7 0) H134) (u139.ld (by kernel_rfl)) ?_
    refine e_' (pt_ b98 0) ?_
    have u140 := ((((r107.frS e119 Dj.nil_l).ext e122).frS e128 (hb123.djn (r102.ltF.le (ntr e106.next e119.next)))).frS e135 Dj.nil_l)
    refine m_' (i_ ((gt y40 i0).1)) (aLoad Tryz.prog 3 (pt_ b98 0) H134) (u140.ld (by kernel_rfl)) ?_
    obtain ⟨g141, r142⟩ := G_some r137
    have u143 := ((((u110.fr e119 Dj.nil_l).ext e122).fr e128 (hb123.djn (h_Node.lt.le (ntr (ntr (ntr (ntr (ntr (ntr (ntr (ntr e9.next e15.next) e24.next) e30.next) e46.next) e70.next) e100.next) e106.next) e119.next)))).fr e135 Dj.nil_l)
    refine m_' (elp hd_Node 1 ((gt y40 i0).1).toNat 0) (aIndexAddr Tryz.prog 22 hd_Node (i_ ((gt y40 i0).1))) (u143.idxb (by kernel_rfl) g141.1 g141.2) ?_
    refine m_' (.int .u32 (gt Node ((gt y40 i0).1))) (aLoad Tryz.prog 86 (elp hd_Node 1 ((gt y40 i0).1).toNat 0) H134) (u143.ld g141.1 g141.2 (by kernel_rfl)) ?_
    obtain ⟨g144, r145⟩ := G_some r142
    refine d_w ((gt Node ((gt y40 i0).1))) (k := .i64) (x := (gt Node ((gt y40 i0).1))) (by kernel_rfl) (wrap64 g144) ?_
    refine e_' (pt_ b7 0) ?_
    refine m_' (hd_Node) (aLoad Tryz.prog 22 (pt_ b7 0) H134) (u139.ld (by kernel_rfl)) ?_
    refine e_' (pt_ b98 1) ?_
    refine m_' (i_ ((gt y40 i0).2.1)) (aLoad Tryz.prog 3 (pt_ b98 1) H134) (u140.ld (by kernel_rfl)) ?_
    obtain ⟨g146, r147⟩ := G_some r145
    refine m_' (elp hd_Node 1 ((gt y40 i0).2.1).toNat 0) (aIndexAddr Tryz.prog 22 hd_Node (i_ ((gt y40 i0).2.1))) (u143.idxb (by kernel_rfl) g146.1 g146.2) ?_
    refine m_' (.int .u32 (gt Node ((gt y40 i0).2.1))) (aLoad Tryz.prog 86 (elp hd_Node 1 ((gt y40 i0).2.1).toNat 0) H134) (u143.ld g146.1 g146.2 (by kernel_rfl)) ?_
    obtain ⟨g148, r149⟩ := G_some r147
    refine d_w ((gt Node ((gt y40 i0).2.1))) (k := .i64) (x := (gt Node ((gt y40 i0).2.1))) (by kernel_rfl) (wrap64 g148) ?_
    refine e_' (pt_ b120 1) ?_
    have u150 := (r129.frS e135 Dj.nil_l)
    refine m_' (.int .u64 y115.2.1) (aLoad Tryz.prog 87 (pt_ b120 1) H134) (u150.ld (by kernel_rfl)) ?_
    obtain ⟨g151, r152⟩ := G_some r149
    refine d_w (y115.2.1) (k := .i64) (x := y115.2.1) (by kernel_rfl) (wrap64 g151) ?_
    refine e_' (.agg #[i_ (gt Node ((gt y40 i0).1)), i_ (gt Node ((gt y40 i0).2.1)), i_ y115.2.1]) ?_
    refine d_owk (enc := enc_i64_i64_i64) (sz := 3) e135.wf [((gt Node ((gt y40 i0).1)), (gt Node ((gt y40 i0).2.1)), y115.2.1)] 1 (by decide) (fun _ _ => rfl) (fun _ _ => rfl) rfl (by kernel_rfl) fun s153 f154 H155 e156 hf157 hm158 => ?_
    obtain ⟨a159, n160, c161, rfl⟩ := hm158.form
    have u163 := (((((((m72.ext e100).fr e106 (hb101.djn m72.lt)).fr e119 Dj.nil_l).ext e122).fr e128 (hb123.djn (m72.lt.le (ntr (ntr e100.next e106.next) e119.next)))).fr e135 Dj.nil_l).ext e156)
    obtain ⟨g164, r165⟩ := G_some r152
    obtain ⟨s166, H167, f168, q172, e169, hm170, hf171⟩ := Ow.append (P := Tryz.prog) 24 e156.wf u163 hm158.sq (fun _ _ => rfl) (at_ := #[41, 41]) rfl rfl (by kernel_rfl) (by kernel_rfl) (by decide) (by have := g164; first | omega | (simp only [List.length_cons, List.length_nil] at this ⊢; omega) | (simp at this ⊢; omega))
    obtain ⟨a173, n174, c175, rfl⟩ := hm170.form
    refine d_ek (.slice a173 n174 c175) (by kernel_rfl) (q172) (st_nil) ?_
    refine e_' (pt_ b22 1) ?_
    have u181 := ((u138.ext e156).frS e169 (i77.djn (r26.ltF.le (ntr e30.next e46.next))))
    obtain ⟨H177, q178, e179, r180⟩ := Row.store (P := Tryz.prog) (t := 41) (p := 1) e169.wf u181 (.slice a173 n174 c175) [.slice a173 n174 c175] (by kernel_rfl) (by kernel_rfl) (one_cons (hm170.one1) (one_nil)) (Nat.le_of_ble_eq_true (by kernel_rfl)) [i_ (Node.length : Int), .slice a173 n174 c175] (by kernel_rfl)
    refine d_ek (undef) (by kernel_rfl) (map_ok q178) (st_nil) ?_
    refine d_nil ?_
    refine k93 _ _ (g_' ?_)
    obtain ⟨g182, r183⟩ := G_some r165
    refine w_' (i0 + 1) (wrap64 (by have := g182; omega)) ?_
    refine q_ (i_ (i0 + 1)) (s_nil ?_)
    have u184 := (hm170.fr e179 (Dj.symm (hf171.dj (i77.djn (r26.ltF.le (ntr e30.next e46.next))) (r26.ltF.le (ntr (ntr (ntr (ntr (ntr (ntr (ntr (ntr (ntr e30.next e46.next) e70.next) e100.next) e106.next) e119.next) e122.next) e128.next) e135.next) e156.next)))))
    obtain rfl := Option.some.inj r183
    exact k85 n80 _ _ (Nat.lt_succ_self _) ⟨(i0 + 1), (g1 ++ [((gt Node ((gt y40 i0).1)), (gt Node ((gt y40 i0).2.1)), y115.2.1)]), (.slice a173 n174 c175), f168, hn83, ha_, (FrS.step e46.wf (FrS.step e46.wf ((FrS.step e46.wf (FrS.step e46.wf ((FrS.step e46.wf (FrS.step e46.wf ((FrS.step e46.wf (FrS.refl (W := [b22]) e46.wf) e70 Inn.refl').extR e100) e106 (hb101.fresh e70.next)) e119 Inn.nil).extR e122) e128 (hb123.fresh (ntr (ntr (ntr e70.next e100.next) e106.next) e119.next))) e135 Inn.nil).extR e156) e169 (i77.fresh (Nat.le_refl _))) e179 Inn.refl'), u184, r180, (Inn.trans (i77.fresh (Nat.le_refl _)) (ntr (ntr (ntr (ntr (ntr (ntr (ntr e70.next e100.next) e106.next) e119.next) e122.next) e128.next) e135.next) e156.next) hf171)⟩
   have r185 := ite_bf h136 r133
   refine w_skip (k93 _ _ (g_' ?_))
   obtain ⟨g186, r187⟩ := G_some r185
   refine w_' (i0 + 1) (wrap64 (by have := g186; omega)) ?_
   refine q_ (i_ (i0 + 1)) (s_nil ?_)
   have u188 := ((((((m72.ext e100).fr e106 (hb101.djn m72.lt)).fr e119 Dj.nil_l).ext e122).fr e128 (hb123.djn (m72.lt.le (ntr (ntr e100.next e106.next) e119.next)))).fr e135 Dj.nil_l)
   have u189 := ((((((m76.ext e100).frS e106 (hb101.djn (r26.ltF.le (ntr (ntr e30.next e46.next) e70.next)))).frS e119 Dj.nil_l).ext e122).frS e128 (hb123.djn (r26.ltF.le (ntr (ntr (ntr (ntr (ntr e30.next e46.next) e70.next) e100.next) e106.next) e119.next)))).frS e135 Dj.nil_l)
   obtain rfl := Option.some.inj r187
   exact k85 n80 _ _ (Nat.lt_succ_self _) ⟨(i0 + 1), g1, (.slice a86 n87 c88), f74, hn83, ha_, (FrS.step e46.wf (FrS.step e46.wf ((FrS.step e46.wf (FrS.step e46.wf ((FrS.step e46.wf (FrS.refl (W := [b22]) e46.wf) e70 Inn.refl').extR e100) e106 (hb101.fresh e70.next)) e119 Inn.nil).extR e122) e128 (hb123.fresh (ntr (ntr (ntr e70.next e100.next) e106.next) e119.next))) e135 Inn.nil), u188, u189, (i77.fresh (Nat.le_refl _))⟩
  have r190 := ite_f h91 hz82
  refine w_exit (th_exit (th_exit (bl_eq ?_)))
  obtain rfl := Option.some.inj r190
  obtain rfl := it_inr hn83
  exact k65 _ _ ⟨(.slice a86 n87 c88), f74, ha_, (FrS.step e46.wf (FrS.refl (W := [b22]) e46.wf) e70 Inn.refl'), m72, m76, (i77.fresh (Nat.le_refl _))⟩
 obtain ⟨s60, f61, hh66, e57, m59, m63, i64⟩ := hM
 obtain ⟨β, rfl⟩ := has_ex hh66
 clear hh66
 obtain ⟨a191, n192, c193, rfl⟩ := m59.form
 refine k32 _ _ (w_seqk fun _ k194 => g_' ?_)
 refine l_' (.agg #[i_ (Node.length : Int), .slice a191 n192 c193]) (aLoad Tryz.prog 43 (pt_ b22 0) H56) (m63.ld (by kernel_rfl)) ?_
 obtain ⟨y195, hy196, r197⟩ := bind_some r55
 refine s_ck 64 #[.agg #[i_ (Node.length : Int), .slice a191 n192 c193]] (by kernel_rfl) (c_viaductref04_Of e57.wf m59.sq hy196) ?_
 rintro _ H200 ⟨s198, f199, rfl, e201, m202, i203⟩
 obtain ⟨a205, n206, c207, rfl⟩ := m202.form
 have u212 := (((((r17.ext e24).frS e30 (hb25.djn r17.ltF)).frS e46 Dj.nil_l).frS e57 (hb25.djn r17.ltF)).frS e201 Dj.nil_l)
 obtain ⟨H208, q209, e210, r211⟩ := Row.store (P := Tryz.prog) (t := 43) (p := 0) e201.wf u212 (.agg #[i_ y195.1, .slice a205 n206 c207]) [i_ y195.1, .slice a205 n206 c207] (by kernel_rfl) (by kernel_rfl) (one_cons (rfl) (one_cons (m202.one1) (one_nil))) (Nat.le_of_ble_eq_true (by kernel_rfl)) [i_ y195.1, .slice a205 n206 c207] (by kernel_rfl)
 refine s_ek (undef) (by kernel_rfl) (map_ok q209) ?_
 refine s_nil (k194 _ _ ?_)
 refine w_ret ?_
 refine b_ret (fn := Tryz.f39) (vs := [.agg #[i_ y195.1, .slice a205 n206 c207]]) (aRes_cell (Eq.trans (b := aLoad Tryz.prog 43 (pt_ b13 0) H208) (by kernel_rfl) (r211.ld (by kernel_rfl))) (rfl)) ?_
 have u213 := (m202.fr e210 (Dj.symm (i203.djn (r17.ltF.le (ntr (ntr (ntr e24.next e30.next) e46.next) e57.next)))))
 obtain rfl := Option.some.inj r197
 exact ⟨(.slice a205 n206 c207), f199, rfl, (FrS.step wf (FrS.step wf (FrS.step wf (FrS.step wf (FrS.step wf ((((FrS.refl (W := []) wf).extR e9).extR e15).extR e24) e30 (hb25.fresh (ntr e9.next e15.next))) e46 Inn.nil) e57 (hb25.fresh (ntr e9.next e15.next))) e201 Inn.nil) e210 (hb16.fresh e9.next)), u213, (i203.fresh (ntr (ntr (ntr (ntr (ntr e9.next e15.next) e24.next) e30.next) e46.next) e57.next))⟩
theorem c_viaductref10_DocGraph {H : AH} {hd_Node : Value} {fp_Node : Fp} {hd_UpFirst : Value} {fp_UpFirst : Fp} {hd_Up : Value} {fp_Up : Fp} {hd_DownFirst : Value} {fp_DownFirst : Fp} {hd_Down : Value} {fp_Down : Fp} {Node : List (Int)} {UpFirst : List (Int)} {Up : List (Int × Int × Int × Int)} {DownFirst : List (Int)} {Down : List (Int × Int × Int × Int)} {r : Int × List (Int × Int × Int) × Int × List (Int × Int)}
    (wf : WF H) (h_Node : Sq (encI .u32) 1 H hd_Node Node fp_Node) (h_UpFirst : Sq (encI .u32) 1 H hd_UpFirst UpFirst fp_UpFirst) (h_Up : Sq enc_u32_u64_u32_u32 4 H hd_Up Up fp_Up) (h_DownFirst : Sq (encI .u32) 1 H hd_DownFirst DownFirst fp_DownFirst) (h_Down : Sq enc_u32_u64_u32_u32 4 H hd_Down Down fp_Down) (hr : z_viaductref10_DocGraph Node UpFirst Up DownFirst Down = some r) :
    ACalls Tryz.prog 13 #[.agg #[hd_Node, hd_UpFirst, hd_Up, hd_DownFirst, hd_Down]] H fun v H' => ∃ (s3 : Value) (f4 : Fp) (s7 : Value) (f8 : Fp), v = .tuple #[.agg #[i_ r.1, s3], .agg #[i_ r.2.2.1, s7]] ∧ FrS [] H H' ∧ Ow enc_i64_i64_i64 3 H' s3 r.2.1 f4 ∧ Sq enc_i64_i64 2 H' s7 r.2.2.2 f8 ∧ Inn [] H f4 ∧ Inn [] H f8 ∧ Dj f4 f8 := by
 refine acalls_of_body mixed Tryz.func13 rfl (Nat.le_of_ble_eq_true rfl) ?_
 unfold z_viaductref10_DocGraph at hr
 refine w_seqk fun _ k12 => g_' ?_
 refine s_rwl wf [hd_Node, hd_UpFirst, hd_Up, hd_DownFirst, hd_Down] (one_cons (h_Node.one1) (one_cons (h_UpFirst.one1) (one_cons (h_Up.one1) (one_cons (h_DownFirst.one1) (one_cons (h_Down.one1) (one_nil)))))) (by kernel_rfl) fun b13 H14 e15 hb16 r17 => ?_
 refine s_rwk e15.wf [i_ 0, .slice none 0 0] (by kernel_rfl) fun b19 H20 e21 hb22 r23 => ?_
 refine s_rwk e21.wf [i_ 0, .slice none 0 0] (by kernel_rfl) fun b25 H26 e27 hb28 r29 => ?_
 refine s_nil (k12 _ _ (w_seqk fun _ k31 => w_seqk fun _ k32 => g_' ?_))
 have u33 := ((r17.ext e21).ext e27)
 refine l_' (.agg #[hd_Node, hd_UpFirst, hd_Up, hd_DownFirst, hd_Down]) (aLoad Tryz.prog 25 (pt_ b13 0) H26) (u33.ld (by kernel_rfl)) ?_
 have u34 := (((h_Node.ext e15).ext e21).ext e27)
 have u35 := (((h_UpFirst.ext e15).ext e21).ext e27)
 have u36 := (((h_Up.ext e15).ext e21).ext e27)
 have u37 := (((h_DownFirst.ext e15).ext e21).ext e27)
 have u38 := (((h_Down.ext e15).ext e21).ext e27)
 obtain ⟨y39, hy40, r41⟩ := bind_some hr
 refine s_ck 9 #[.agg #[hd_Node, hd_UpFirst, hd_Up, hd_DownFirst, hd_Down]] (by kernel_rfl) (c_viaductref10_DocCheck e27.wf u34 u35 u36 u37 u38 hy40) ?_
 rintro _ H44 ⟨s42, f43, rfl, e45, m46, i47⟩
 obtain ⟨a49, n50, c51, rfl⟩ := m46.form
 refine s_rwk e45.wf [i_ 0, .slice none 0 0] (by kernel_rfl) fun b52 H53 e54 hb55 r56 => ?_
 have u62 := (m46.ext e54)
 obtain ⟨H58, q59, e60, r61⟩ := Row.store (P := Tryz.prog) (t := 35) (p := 0) e54.wf r56 (.agg #[i_ y39.1, .slice a49 n50 c51]) [i_ y39.1, .slice a49 n50 c51] (by kernel_rfl) (by kernel_rfl) (one_cons (rfl) (one_cons (u62.one1) (one_nil))) (Nat.le_of_ble_eq_true (by kernel_rfl)) [i_ y39.1, .slice a49 n50 c51] (by kernel_rfl)
 refine s_ek (undef) (by kernel_rfl) (map_ok q59) ?_
 refine s_nil (k32 _ _ (w_seqk fun _ k63 => g_' ?_))
 refine l_' (.agg #[i_ y39.1, .slice a49 n50 c51]) (aLoad Tryz.prog 35 (pt_ b52 0) H58) (r61.ld (by kernel_rfl)) ?_
 have u64 := (u62.fr e60 (hb55.djn m46.lt))
 obtain ⟨y65, hy66, r67⟩ := bind_some r41
 refine s_ck 23 #[.agg #[i_ y39.1, .slice a49 n50 c51]] (by kernel_rfl) (c_viaductref01_Err_Bad e60.wf u64 hy66) ?_
 rintro _ H68 ⟨rfl, e69⟩
 refine s_nil (k63 _ _ ?_)
 refine w_cond (y65) (by kernel_rfl) rfl (fun h70 => ?_) (fun h70 => ?_)
 ·have r71 := ite_t h70 r67
  refine w_seqk fun _ k72 => ?_
  refine w_draw [0, 1, 2, 3] (by kernel_rfl) ?_
  refine e_' (.agg #[i_ 0, .slice none 0 0]) ?_
  have u73 := (r61.frS e69 Dj.nil_l)
  refine d_fl (.agg #[i_ y39.1, .slice a49 n50 c51]) (x := aLoad Tryz.prog 35 (pt_ b52 0) H68) (by kernel_rfl) (u73.ld (by kernel_rfl)) ?_
  have u78 := (((((r23.ext e27).frS e45 Dj.nil_l).ext e54).frS e60 (hb55.djn (r23.ltF.le (ntr e27.next e45.next)))).frS e69 Dj.nil_l)
  obtain ⟨H74, q75, e76, r77⟩ := Row.store (P := Tryz.prog) (t := 43) (p := 0) e69.wf u78 (.agg #[i_ 0, .slice none 0 0]) [i_ 0, .slice none 0 0] (by kernel_rfl) (by kernel_rfl) (one_cons (rfl) (one_cons (rfl) (one_nil))) (Nat.le_of_ble_eq_true (by kernel_rfl)) [i_ 0, .slice none 0 0] (by kernel_rfl)
  have u79 := (u73.frS e76 (Dj.symm (hb55.djn (r23.ltF.le (ntr e27.next e45.next)))))
  refine d_ek (undef) (by kernel_rfl) (map_ok q75) (st_ql (y := aLoad Tryz.prog 35 (pt_ b52 0) H74) (by kernel_rfl) (u79.ld (by kernel_rfl)) (st_nil)) ?_
  have u84 := (((((r29.frS e45 Dj.nil_l).ext e54).frS e60 (hb55.djn (r29.ltF.le e45.next))).frS e69 Dj.nil_l).frS e76 (Dj.symm (hb28.djn r23.ltF)))
  have u85 := ((u64.fr e69 Dj.nil_l).fr e76 (Dj.symm (i47.djn (r23.ltF.le e27.next))))
  obtain ⟨H80, q81, e82, r83⟩ := Row.store (P := Tryz.prog) (t := 35) (p := 0) e76.wf u84 (.agg #[i_ y39.1, .slice a49 n50 c51]) [i_ y39.1, .slice a49 n50 c51] (by kernel_rfl) (by kernel_rfl) (one_cons (rfl) (one_cons (u85.one1) (one_nil))) (Nat.le_of_ble_eq_true (by kernel_rfl)) [i_ y39.1, .slice a49 n50 c51] (by kernel_rfl)
  refine d_ek (undef) (by kernel_rfl) (map_ok q81) (st_anc (by kernel_rfl) (st_nil)) ?_
  refine d_nil ?_
  refine k72 _ _ ?_
  refine w_ret (th_ret ?_)
  have u86 := (r77.frS e82 (hb28.djn r23.ltF))
  refine b_ret (fn := Tryz.f13) (vs := [.agg #[i_ 0, .slice none 0 0], .agg #[i_ y39.1, .slice a49 n50 c51]]) (aRes_cell (Eq.trans (b := aLoad Tryz.prog 43 (pt_ b19 0) H80) (by kernel_rfl) (u86.ld (by kernel_rfl))) (aRes_cell (Eq.trans (b := aLoad Tryz.prog 35 (pt_ b25 0) H80) (by kernel_rfl) (r83.ld (by kernel_rfl))) (rfl))) ?_
  have u87 := (u85.fr e82 (Dj.symm (i47.djn r29.ltF)))
  obtain rfl := Option.some.inj r71
  exact ⟨(.slice none 0 0), [], (.slice a49 n50 c51), f43, rfl, (FrS.step wf (FrS.step wf (FrS.step wf (FrS.step wf ((FrS.step wf ((((FrS.refl (W := []) wf).extR e15).extR e21).extR e27) e45 Inn.nil).extR e54) e60 (hb55.fresh (ntr (ntr (ntr e15.next e21.next) e27.next) e45.next))) e69 Inn.nil) e76 (hb22.fresh e15.next)) e82 (hb28.fresh (ntr e15.next e21.next))), (Ow.nil (by decide)), u87, Inn.nil, (i47.fresh (ntr (ntr e15.next e21.next) e27.next)), Dj.nil_l⟩
 have r88 := ite_bf h70 r67
 refine w_skip (k31 _ _ (w_seqk fun _ k89 => g_' ?_))
 have u90 := ((((u33.frS e45 Dj.nil_l).ext e54).frS e60 (hb55.djn (r17.ltF.le (ntr (ntr e21.next e27.next) e45.next)))).frS e69 Dj.nil_l)
 refine l_' (.agg #[hd_Node, hd_UpFirst, hd_Up, hd_DownFirst, hd_Down]) (aLoad Tryz.prog 25 (pt_ b13 0) H68) (u90.ld (by kernel_rfl)) ?_
 have u91 := ((((u34.fr e45 Dj.nil_l).ext e54).fr e60 (hb55.djn (h_Node.lt.le (ntr (ntr (ntr e15.next e21.next) e27.next) e45.next)))).fr e69 Dj.nil_l)
 have u92 := ((((u35.fr e45 Dj.nil_l).ext e54).fr e60 (hb55.djn (h_UpFirst.lt.le (ntr (ntr (ntr e15.next e21.next) e27.next) e45.next)))).fr e69 Dj.nil_l)
 have u93 := ((((u36.fr e45 Dj.nil_l).ext e54).fr e60 (hb55.djn (h_Up.lt.le (ntr (ntr (ntr e15.next e21.next) e27.next) e45.next)))).fr e69 Dj.nil_l)
 have u94 := ((((u37.fr e45 Dj.nil_l).ext e54).fr e60 (hb55.djn (h_DownFirst.lt.le (ntr (ntr (ntr e15.next e21.next) e27.next) e45.next)))).fr e69 Dj.nil_l)
 have u95 := ((((u38.fr e45 Dj.nil_l).ext e54).fr e60 (hb55.djn (h_Down.lt.le (ntr (ntr (ntr e15.next e21.next) e27.next) e45.next)))).fr e69 Dj.nil_l)
 obtain ⟨y96, hy97, r98⟩ := bind_some r88
 refine s_ck 39 #[.agg #[hd_Node, hd_UpFirst, hd_Up, hd_DownFirst, hd_Down]] (by kernel_rfl) (c_viaductref10_Graph e69.wf u91 u92 u93 u94 u95 hy97) ?_
 rintro _ H101 ⟨s99, f100, rfl, e102, m103, i104⟩
 obtain ⟨a106, n107, c108, rfl⟩ := m103.form
 refine q_ (.agg #[i_ 0, .slice none 0 0]) ?_
 have u113 := ((((((r23.ext e27).frS e45 Dj.nil_l).ext e54).frS e60 (hb55.djn (r23.ltF.le (ntr e27.next e45.next)))).frS e69 Dj.nil_l).frS e102 Dj.nil_l)
 obtain ⟨H109, q110, e111, r112⟩ := Row.store (P := Tryz.prog) (t := 43) (p := 0) e102.wf u113 (.agg #[i_ y96.1, .slice a106 n107 c108]) [i_ y96.1, .slice a106 n107 c108] (by kernel_rfl) (by kernel_rfl) (one_cons (rfl) (one_cons (m103.one1) (one_nil))) (Nat.le_of_ble_eq_true (by kernel_rfl)) [i_ y96.1, .slice a106 n107 c108] (by kernel_rfl)
 refine s_ek (undef) (by kernel_rfl) (map_ok q110) ?_
 have u118 := ((((((r29.frS e45 Dj.nil_l).ext e54).frS e60 (hb55.djn (r29.ltF.le e45.next))).frS e69 Dj.nil_l).frS e102 Dj.nil_l).frS e111 (Dj.symm (hb28.djn r23.ltF)))
 obtain ⟨H114, q115, e116, r117⟩ := Row.store (P := Tryz.prog) (t := 35) (p := 0) e111.wf u118 (.agg #[i_ 0, .slice none 0 0]) [i_ 0, .slice none 0 0] (by kernel_rfl) (by kernel_rfl) (one_cons (rfl) (one_cons (rfl) (one_nil))) (Nat.le_of_ble_eq_true (by kernel_rfl)) [i_ 0, .slice none 0 0] (by kernel_rfl)
 refine s_ek (undef) (by kernel_rfl) (map_ok q115) ?_
 refine s_nil (k89 _ _ ?_)
 refine w_ret ?_
 have u119 := (r112.frS e116 (hb28.djn r23.ltF))
 refine b_ret (fn := Tryz.f13) (vs := [.agg #[i_ y96.1, .slice a106 n107 c108], .agg #[i_ 0, .slice none 0 0]]) (aRes_cell (Eq.trans (b := aLoad Tryz.prog 43 (pt_ b19 0) H114) (by kernel_rfl) (u119.ld (by kernel_rfl))) (aRes_cell (Eq.trans (b := aLoad Tryz.prog 35 (pt_ b25 0) H114) (by kernel_rfl) (r117.ld (by kernel_rfl))) (rfl))) ?_
 have u120 := ((m103.fr e111 (Dj.symm (i104.djn (r23.ltF.le (ntr (ntr (ntr (ntr e27.next e45.next) e54.next) e60.next) e69.next))))).fr e116 (Dj.symm (i104.djn (r29.ltF.le (ntr (ntr (ntr e45.next e54.next) e60.next) e69.next)))))
 obtain rfl := Option.some.inj r98
 exact ⟨(.slice a106 n107 c108), f100, (.slice none 0 0), [], rfl, (FrS.step wf (FrS.step wf (FrS.step wf (FrS.step wf (FrS.step wf ((FrS.step wf ((((FrS.refl (W := []) wf).extR e15).extR e21).extR e27) e45 Inn.nil).extR e54) e60 (hb55.fresh (ntr (ntr (ntr e15.next e21.next) e27.next) e45.next))) e69 Inn.nil) e102 Inn.nil) e111 (hb22.fresh e15.next)) e116 (hb28.fresh (ntr e15.next e21.next))), u120, (Sq.nil (by decide)), (i104.fresh (ntr (ntr (ntr (ntr (ntr (ntr e15.next e21.next) e27.next) e45.next) e54.next) e60.next) e69.next)), Inn.nil, Dj.nil_r⟩
theorem c_hier_Ranks {H : AH} {hd_Node : Value} {fp_Node : Fp} {hd_UpFirst : Value} {fp_UpFirst : Fp} {hd_Up : Value} {fp_Up : Fp} {hd_DownFirst : Value} {fp_DownFirst : Fp} {hd_Down : Value} {fp_Down : Fp} {Node : List (Int)} {UpFirst : List (Int)} {Up : List (Int × Int × Int × Int)} {DownFirst : List (Int)} {Down : List (Int × Int × Int × Int)} {r : List (Int) × Er}
    (wf : WF H) (h_Node : Sq (encI .u32) 1 H hd_Node Node fp_Node) (h_UpFirst : Sq (encI .u32) 1 H hd_UpFirst UpFirst fp_UpFirst) (h_Up : Sq enc_u32_u64_u32_u32 4 H hd_Up Up fp_Up) (h_DownFirst : Sq (encI .u32) 1 H hd_DownFirst DownFirst fp_DownFirst) (h_Down : Sq enc_u32_u64_u32_u32 4 H hd_Down Down fp_Down) (hr : z_hier_Ranks Node UpFirst Up DownFirst Down = some r) :
    ACalls Tryz.prog 15 #[.agg #[hd_Node, hd_UpFirst, hd_Up, hd_DownFirst, hd_Down]] H fun v H' => ∃ (s3 : Value) (f4 : Fp) (v7 : Value) (f8 : Fp), v = .tuple #[s3, v7] ∧ FrS [] H H' ∧ Ow (encI .i64) 1 H' s3 r.1 f4 ∧ Ev 73 68 H' v7 r.2 f8 ∧ Inn [] H f4 ∧ Inn [] H f8 ∧ Dj f4 f8 := by
 refine acalls_of_body mixed Tryz.func15 rfl (Nat.le_of_ble_eq_true rfl) ?_
 unfold z_hier_Ranks at hr
 refine w_seqk fun _ k12 => g_' ?_
 refine s_rwl wf [hd_Node, hd_UpFirst, hd_Up, hd_DownFirst, hd_Down] (one_cons (h_Node.one1) (one_cons (h_UpFirst.one1) (one_cons (h_Up.one1) (one_cons (h_DownFirst.one1) (one_cons (h_Down.one1) (one_nil)))))) (by kernel_rfl) fun b13 H14 e15 hb16 r17 => ?_
 refine q_ (.slice none 0 0) (q_ (.nilIface) (s_nil (k12 _ _ (w_seqk fun _ k19 => w_seqk fun _ k20 => g_' ?_))))
 refine l_' (.agg #[hd_Node, hd_UpFirst, hd_Up, hd_DownFirst, hd_Down]) (aLoad Tryz.prog 25 (pt_ b13 0) H14) (r17.ld (by kernel_rfl)) ?_
 have u21 := (h_Node.ext e15)
 have u22 := (h_UpFirst.ext e15)
 have u23 := (h_Up.ext e15)
 have u24 := (h_DownFirst.ext e15)
 have u25 := (h_Down.ext e15)
 obtain ⟨y26, hy27, r28⟩ := bind_some hr
 refine s_ck 7 #[.agg #[hd_Node, hd_UpFirst, hd_Up, hd_DownFirst, hd_Down]] (by kernel_rfl) (c_hier_Check e15.wf u21 u22 u23 u24 u25 hy27) ?_
 rintro v29 H31 ⟨_, f30, rfl, e32, m33, i34⟩
 refine q_ (v29) (s_nil (k20 _ _ (w_seqk fun _ k36 => g_' (q_ (v29) ?_))))
 rcases (m33).cases with ⟨h37, rfl⟩ | ⟨h37, t38, x39, rfl⟩
 ·have r40 := ite_t h37 r28
  refine q_ (.bool false) (s_nil (k36 _ _ ?_))
  refine w_cond false (by kernel_rfl) rfl (fun h => by cases h) (fun _ => ?_)
  refine w_skip (k19 _ _ (w_seqk fun _ k41 => g_' (q_ (pt_ b13 0) ?_)))
  have u42 := (r17.frS e32 Dj.nil_l)
  refine l_' (hd_Node) (aLoad Tryz.prog 22 (pt_ b13 0) H31) (u42.ld (by kernel_rfl)) ?_
  have u43 := (u21.fr e32 Dj.nil_l)
  refine l_' (i_ (Node.length : Int)) (aLen Tryz.prog 22 hd_Node H31) (u43.lenb (by kernel_rfl)) ?_
  obtain ⟨g44, r45⟩ := G_some r40
  refine s_mks (t := 49) (m := 8) (l := (Node.length : Int)) (c := (Node.length : Int)) (enc := (encI .i64)) (sz := 1) e32.wf (0 : Int) (by kernel_rfl) (by decide) g44.1 (Int.le_refl _) (by omega) (by have := g44; omega) (by kernel_rfl) fun s46 f47 H48 e49 hf50 hm51 => ?_
  obtain ⟨a52, n53, c54, rfl⟩ := hm51.form
  have hm51 : Ow (encI .i64) 1 H48 (.slice a52 n53 c54) (List.replicate Node.length (0 : Int)) f47 := hm51
  refine q_ (.slice a52 n53 c54) (s_nil (k41 _ _ (w_seqk fun _ k56 => w_seqk fun _ k57 => g_' (q_ (pt_ b13 0) ?_))))
  have u58 := (u42.ext e49)
  refine l_' (hd_Node) (aLoad Tryz.prog 22 (pt_ b13 0) H48) (u58.ld (by kernel_rfl)) ?_
  have u59 := (u43.ext e49)
  refine l_' (i_ (Node.length : Int)) (aLen Tryz.prog 22 hd_Node H48) (u59.lenb (by kernel_rfl)) ?_
  refine q_ (i_ 0) (s_nil (k57 _ _ ?_))
  obtain ⟨o60, hx61, r62⟩ := bind_some r45
  refine w_mid (fun α H63 => Has α [(5, .slice a52 n53 c54)] ∧ FrS f47 H48 H63 ∧ Ow (encI .i64) 1 H63 (.slice a52 n53 c54) o60 f47) (fun _ k67 => ?_) (fun α H63 hM => ?_)
  ·refine w_block ?_
   obtain ⟨n69, hn70⟩ := loopO_iff.1 hx61
   refine w_loopn (fun n α H71 => ∃ (i0 : Int), ∃ (l1 : List (Int)), iterO (fun zz_ => z_hier_Ranks_l0 Node zz_.1 zz_.2) n (i0, l1) = some o60 ∧ Has α [(5, .slice a52 n53 c54), (18, hd_Node), (19, i_ (Node.length : Int)), (20, i_ i0)] ∧ FrS f47 H48 H71 ∧ Ow (encI .i64) 1 H71 (.slice a52 n53 c54) l1 f47) n69 ⟨0, (List.replicate Node.length (0 : Int)), hn70, ha_, (FrS.refl (W := f47) e49.wf), hm51⟩ ?_
   rintro n69 α H71 ⟨i0, l1, hi76, hh75, e72, m74⟩ K81 k81
   obtain ⟨n77, z78, rfl, hz79, hn80⟩ := iter_succ hi76
   obtain ⟨β, rfl⟩ := has_ex hh75
   clear hh75
   replace hz79 : z_hier_Ranks_l0 Node i0 l1 = some z78 := hz79
   unfold z_hier_Ranks_l0 at hz79
   refine w_seqk fun _ k82 => g_' (q_ (.bool (decide (i0 < (Node.length : Int)))) (s_nil (k82 _ _ (w_seqk fun _ k83 => ?_))))
   refine w_condp (i0 < (Node.length : Int)) (by kernel_rfl) rfl (fun h84 => ?_) (fun h84 => ?_)
   ·have r85 := ite_t h84 hz79
    refine w_skip (k83 _ _ (w_seqk fun _ k86 => w_block (w_seqk fun _ k87 => g_' (q_ (i_ i0) ?_))))
    obtain ⟨g88, r89⟩ := G_some r85
    have u90 := (u59.fr e72 (hf50.djn (h_Node.lt.le (ntr e15.next e32.next))))
    refine l_' (elp hd_Node 1 i0.toNat 0) (aIndexAddr Tryz.prog 22 hd_Node (i_ i0)) (u90.idxb (by kernel_rfl) g88 h84) ?_
    refine l_' (.int .u32 (gt Node i0)) (aLoad Tryz.prog 86 (elp hd_Node 1 i0.toNat 0) H71) (u90.ld g88 h84 (by kernel_rfl)) ?_
    refine q_ (i_ i0) (q_ (.int .u32 (gt Node i0)) (s_nil (k87 _ _ (g_' (q_ (.slice a52 n53 c54) (q_ (.int .u32 (gt Node i0)) (q_ (i_ i0) ?_)))))))
    obtain ⟨g91, r92⟩ := G_some r89
    refine l_' (elp (.slice a52 n53 c54) 1 (gt Node i0).toNat 0) (aIndexAddr Tryz.prog 49 (.slice a52 n53 c54) (.int .u32 (gt Node i0))) (m74.sq.idxb (by kernel_rfl) g91.1 g91.2) ?_
    obtain ⟨H93, q94, e95, hm96⟩ := Ow.store (P := Tryz.prog) (t := 3) (off := 0) e72.wf m74 g91.1 g91.2 (i_ i0) [i_ i0] (by kernel_rfl) (by kernel_rfl) rfl i0 (Nat.le_of_ble_eq_true rfl) (by kernel_rfl)
    refine s_ek (undef) (by kernel_rfl) (map_ok q94) ?_
    refine s_nil (k86 _ _ (g_' ?_))
    obtain ⟨g97, r98⟩ := G_some r92
    refine w_' (i0 + 1) (wrap64 (by have := g97; omega)) ?_
    refine q_ (i_ (i0 + 1)) (s_nil ?_)
    obtain rfl := Option.some.inj r98
    exact k81 n77 _ _ (Nat.lt_succ_self _) ⟨(i0 + 1), (l1.set (gt Node i0).toNat i0), hn80, ha_, (FrS.step e49.wf (FrS.step e49.wf (FrS.refl (W := f47) e49.wf) e72 Inn.refl') e95 Inn.refl'), hm96⟩
   have r99 := ite_f h84 hz79
   refine w_exit (th_exit (th_exit (bl_eq ?_)))
   obtain rfl := Option.some.inj r99
   obtain rfl := it_inr hn80
   exact k67 _ _ ⟨ha_, (FrS.step e49.wf (FrS.refl (W := f47) e49.wf) e72 Inn.refl'), m74⟩
  obtain ⟨hh68, e64, m66⟩ := hM
  obtain ⟨β, rfl⟩ := has_ex hh68
  clear hh68
  refine k56 _ _ (w_seqk fun _ k100 => g_' (q_ (.slice a52 n53 c54) (q_ (.slice a52 n53 c54) (q_ (.nilIface) (s_nil (k100 _ _ ?_))))))
  refine w_ret ?_
  refine b_ret (fn := Tryz.f15) (vs := [.slice a52 n53 c54, .nilIface]) (aRes_tmp (by kernel_rfl) (aRes_tmp (by kernel_rfl) (rfl))) ?_
  obtain rfl := Option.some.inj r62
  exact ⟨(.slice a52 n53 c54), f47, (.nilIface), [], rfl, (FrS.step wf ((FrS.step wf ((FrS.refl (W := []) wf).extR e15) e32 Inn.nil).extR e49) e64 (hf50.fresh (ntr e15.next e32.next))), m66, Ev.nil, (hf50.fresh (ntr e15.next e32.next)), Inn.nil, Dj.nil_r⟩
 have r101 := ite_f h37 r28
 refine l_' (.bool true) (aBin Tryz.prog .neq 30 (.tmp 10) (.const .nilIface) (.iface t38 x39) .nilIface) (aBin_nnil (by kernel_rfl)) ?_
 refine s_nil (k36 _ _ ?_)
 refine w_cond true (by kernel_rfl) rfl (fun _ => ?_) (fun h => by cases h)
 refine w_seqk fun _ k102 => g_' (q_ (.iface t38 x39) (q_ (.slice none 0 0) (q_ (.iface t38 x39) (s_nil (k102 _ _ ?_)))))
 refine w_ret (th_ret ?_)
 refine b_ret (fn := Tryz.f15) (vs := [.slice none 0 0, .iface t38 x39]) (aRes_tmp (by kernel_rfl) (aRes_tmp (by kernel_rfl) (rfl))) ?_
 obtain rfl := Option.some.inj r101
 exact ⟨(.slice none 0 0), [], (.iface t38 x39), f30, rfl, (FrS.step wf ((FrS.refl (W := []) wf).extR e15) e32 Inn.nil), (Ow.nil (by decide)), m33, Inn.nil, (i34.fresh e15.next), Dj.nil_l⟩
end Go.Vd
