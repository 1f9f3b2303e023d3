/- The walks of the functions (printed by a program of ours). -/
import Derived.Test.YtmndpcokgbfgkaaDoorPhf1
import Derived.Test.YtmndpcokgbfgkaaDoorDrG
import Derived.Test.YtmndpcokgbfgkaaDoorIHf
import Derived.Test.YtmndpcokgbfgkaaDoorSoA
import Derived.Test.YtmndpcokgbfgkaaDoorVeT
set_option linter.unusedVariables false
set_option linter.unusedSimpArgs false
set_option linter.unusedSectionVars false
/-! (KHf3) -/

set_option maxRecDepth 100000
set_option maxHeartbeats 4000000
set_option linter.unusedVariables false
namespace Go.Vd
open Go.Proofs
attribute [local irreducible] wpSeq wpOrd aWp
theorem c_viaductlaw10_bad {H : AH} {hd_Places : Value} {fp_Places : Fp} {hd_Node : Value} {fp_Node : Fp} {hd_UpFirst : Value} {fp_UpFirst : Fp} {hd_Up : Value} {fp_Up : Fp} {hd_DownFirst : Value} {fp_DownFirst : Fp} {hd_Down : Value} {fp_Down : Fp} {Code : Int} {Places : List (Int × Int)} {Node : List (Int)} {UpFirst : List (Int)} {Up : List (Int × Int × Int × Int)} {DownFirst : List (Int)} {Down : List (Int × Int × Int × Int)} {r : Bool}
  (wf : WF H) (h_Places : Sq enc_i64_i64 2 H hd_Places Places fp_Places) (h_Node : Sq (encI .u32) 1 H hd_Node Node fp_Node) (h_UpFirst : Sq (encI .u32) 1 H hd_UpFirst UpFirst fp_UpFirst) (h_Up : Sq enc_u32_u64_u32_u32 4 H hd_Up Up fp_Up) (h_DownFirst : Sq (encI .u32) 1 H hd_DownFirst DownFirst fp_DownFirst) (h_Down : Sq enc_u32_u64_u32_u32 4 H hd_Down Down fp_Down) (hr : z_viaductlaw10_bad Code Places Node UpFirst Up DownFirst Down = some r) :
  ACalls Tryd.prog 7 #[.agg #[.int .i64 Code, hd_Places], .agg #[hd_Node, hd_UpFirst, hd_Up, hd_DownFirst, hd_Down]] H fun v H' => v = .bool r ∧ FrS [] H H' := by
 refine acalls_of_body mixed Tryd.func7 rfl (Nat.le_of_ble_eq_true rfl) ?_
 unfold z_viaductlaw10_bad at hr
 refine w_seqk fun K1 k1 => ?_
 refine w_reg (by kernel_rfl) ?_
 refine s_rwl wf [.int .i64 Code, hd_Places] (one_cons (rfl) (one_cons (h_Places.one1) (one_nil))) (by kernel_rfl) fun b2 H3 e4 hb5 r6 => ?_
 have u13 := (h_Down.ext e4)
 have u14 := (h_DownFirst.ext e4)
 have u15 := (h_Up.ext e4)
 have u16 := (h_UpFirst.ext e4)
 have u17 := (h_Node.ext e4)
 refine s_rwl e4.wf [hd_Node, hd_UpFirst, hd_Up, hd_DownFirst, hd_Down] (one_cons (u17.one1) (one_cons (u16.one1) (one_cons (u15.one1) (one_cons (u14.one1) (one_cons (u13.one1) (one_nil)))))) (by kernel_rfl) fun b8 H9 e10 hb11 r12 => ?_
 refine s_qk (.bool false) (by kernel_rfl) ?_
 refine s_nil ?_
 refine k1 _ _ ?_
 refine w_seqk fun K19 k19 => ?_
 refine w_draw [0, 2, 1, 3, 4] (by kernel_rfl) ?_
 refine d_ql (.agg #[hd_Node, hd_UpFirst, hd_Up, hd_DownFirst, hd_Down]) (x := aLoad Tryd.prog 31 (.pointer (some ⟨b8, 0, none⟩)) H9) (by kernel_rfl) (r12.ld (by kernel_rfl)) ?_
 have u20 := (r6.ext e10)
 refine d_fl (.agg #[.int .i64 Code, hd_Places]) (x := aLoad Tryd.prog 25 (.pointer (some ⟨b2, 0, none⟩)) H9) (by kernel_rfl) (u20.ld (by kernel_rfl)) ?_
 have u21 := (u17.ext e10)
 have u22 := (u16.ext e10)
 have u23 := (u15.ext e10)
 have u24 := (u14.ext e10)
 have u25 := (u13.ext e10)
 obtain ⟨y26, hy27, r28⟩ := bind_some hr
 refine d_ck 9 #[.agg #[hd_Node, hd_UpFirst, hd_Up, hd_DownFirst, hd_Down]] (by kernel_rfl) (c_hier_Check e10.wf u21 u22 u23 u24 u25 hy27) ?_
 rintro v29 H31 ⟨_, f30, rfl, e32, m33, i34⟩
 have u36 := (u20.frS e32 Dj.nil_l)
 refine ⟨st_ql (y := aLoad Tryd.prog 25 (.pointer (some ⟨b2, 0, none⟩)) H31) (by kernel_rfl) (u36.ld (by kernel_rfl)) (st_nil), ?_⟩
 have u37 := (((h_Places.ext e4).ext e10).fr e32 Dj.nil_l)
 obtain ⟨y38, hy39, r40⟩ := bind_some r28
 refine d_ck 13 #[v29, .agg #[.int .i64 Code, hd_Places]] (by kernel_rfl) (c_viaductseen_Same e32.wf m33 u37 hy39) ?_
 rintro _ H41 ⟨rfl, e42⟩
 refine ⟨st_anc (by kernel_rfl) (st_nil), ?_⟩
 refine d_qk (.bool y38) (by kernel_rfl) ?_
 refine d_nil ?_
 refine k19 _ _ ?_
 refine w_ret ?_
 refine b_ret (fn := Tryd.f7) (vs := [.bool y38]) (aRes_tmp (by kernel_rfl) (rfl)) ?_
 obtain rfl := Option.some.inj r40
 exact ⟨rfl, (FrS.step wf (FrS.step wf (((FrS.refl (W := []) wf).extR e4).extR e10) e32 Inn.nil) e42 Inn.nil)⟩

theorem c_hier_Ranks {H : AH} {hd_Node : Value} {fp_Node : Fp} {hd_UpFirst : Value} {fp_UpFirst : Fp} {hd_Up : Value} {fp_Up : Fp} {hd_DownFirst : Value} {fp_DownFirst : Fp} {hd_Down : Value} {fp_Down : Fp} {Node : List (Int)} {UpFirst : List (Int)} {Up : List (Int × Int × Int × Int)} {DownFirst : List (Int)} {Down : List (Int × Int × Int × Int)} {r : List (Int) × Er}
  (wf : WF H) (h_Node : Sq (encI .u32) 1 H hd_Node Node fp_Node) (h_UpFirst : Sq (encI .u32) 1 H hd_UpFirst UpFirst fp_UpFirst) (h_Up : Sq enc_u32_u64_u32_u32 4 H hd_Up Up fp_Up) (h_DownFirst : Sq (encI .u32) 1 H hd_DownFirst DownFirst fp_DownFirst) (h_Down : Sq enc_u32_u64_u32_u32 4 H hd_Down Down fp_Down) (hr : z_hier_Ranks Node UpFirst Up DownFirst Down = some r) :
  ACalls Tryd.prog 11 #[.agg #[hd_Node, hd_UpFirst, hd_Up, hd_DownFirst, hd_Down]] H fun v H' => ∃ (s3 : Value) (f4 : Fp) (v7 : Value) (f8 : Fp), v = .tuple #[s3, v7] ∧ FrS [] H H' ∧ Ow (encI .i64) 1 H' s3 r.1 f4 ∧ Ev 27 71 H' v7 r.2 f8 ∧ Inn [] H f4 ∧ Inn [] H f8 ∧ Dj f4 f8 := by
 refine acalls_of_body mixed Tryd.func11 rfl (Nat.le_of_ble_eq_true rfl) ?_
 unfold z_hier_Ranks at hr
 refine w_seqk fun K12 k12 => ?_
 refine w_reg (by kernel_rfl) ?_
 refine s_rwl wf [hd_Node, hd_UpFirst, hd_Up, hd_DownFirst, hd_Down] (one_cons (h_Node.one1) (one_cons (h_UpFirst.one1) (one_cons (h_Up.one1) (one_cons (h_DownFirst.one1) (one_cons (h_Down.one1) (one_nil)))))) (by kernel_rfl) fun b13 H14 e15 hb16 r17 => ?_
 refine s_qk (.slice none 0 0) (by kernel_rfl) ?_
 refine s_qk (.nilIface) (by kernel_rfl) ?_
 refine s_nil ?_
 refine k12 _ _ ?_
 refine w_seqk fun K19 k19 => ?_
 refine w_seqk fun K20 k20 => ?_
 refine w_reg (by kernel_rfl) ?_
 refine s_ql (.agg #[hd_Node, hd_UpFirst, hd_Up, hd_DownFirst, hd_Down]) (x := aLoad Tryd.prog 31 (.pointer (some ⟨b13, 0, none⟩)) H14) (by kernel_rfl) (r17.ld (by kernel_rfl)) ?_
 have u21 := (h_Node.ext e15)
 have u22 := (h_UpFirst.ext e15)
 have u23 := (h_Up.ext e15)
 have u24 := (h_DownFirst.ext e15)
 have u25 := (h_Down.ext e15)
 obtain ⟨y26, hy27, r28⟩ := bind_some hr
 refine s_ck 9 #[.agg #[hd_Node, hd_UpFirst, hd_Up, hd_DownFirst, hd_Down]] (by kernel_rfl) (c_hier_Check e15.wf u21 u22 u23 u24 u25 hy27) ?_
 rintro v29 H31 ⟨_, f30, rfl, e32, m33, i34⟩
 refine s_qk (v29) (by kernel_rfl) ?_
 refine s_nil ?_
 refine k20 _ _ ?_
 refine w_seqk fun K36 k36 => ?_
 refine w_reg (by kernel_rfl) ?_
 refine s_qk (v29) (by kernel_rfl) ?_
 rcases (m33).cases with ⟨h37, rfl⟩ | ⟨h37, t38, x39, rfl⟩
 ·have r40 := ite_t h37 r28
  refine s_qk (.bool false) (by kernel_rfl) ?_
  refine s_nil ?_
  refine k36 _ _ ?_
  refine w_cond false (by kernel_rfl) rfl (fun h => by cases h) (fun _ => ?_)
  refine w_skip ?_
  refine k19 _ _ ?_
  refine w_seqk fun K41 k41 => ?_
  refine w_reg (by kernel_rfl) ?_
  refine s_qk (.pointer (some ⟨b13, 0, none⟩)) (by kernel_rfl) ?_
  have u42 := (r17.frS e32 Dj.nil_l)
  refine s_ql (hd_Node) (x := aLoad Tryd.prog 28 (.pointer (some ⟨b13, 0, none⟩)) H31) (by kernel_rfl) (u42.ld (by kernel_rfl)) ?_
  have u43 := (u21.fr e32 Dj.nil_l)
  refine s_ql (.int .i64 (Node.length : Int)) (x := aLen Tryd.prog 28 hd_Node H31) (by kernel_rfl) (u43.lenb (by kernel_rfl)) ?_
  obtain ⟨g44, r45⟩ := G_some r40
  refine s_mks (t := 45) (m := 8) (l := (Node.length : Int)) (c := (Node.length : Int)) (enc := (encI .i64)) (sz := 1) e32.wf (0 : Int) (by kernel_rfl) (by decide) g44.1 (Int.le_refl _) (by omega) (by have := g44; omega) (by kernel_rfl) fun s46 f47 H48 e49 hf50 hm51 => ?_
  obtain ⟨a52, n53, c54, rfl⟩ := hm51.form
  have hm51 : Ow (encI .i64) 1 H48 (.slice a52 n53 c54) (List.replicate Node.length (0 : Int)) f47 := hm51
  refine s_qk (.slice a52 n53 c54) (by kernel_rfl) ?_
  refine s_nil ?_
  refine k41 _ _ ?_
  refine w_seqk fun K56 k56 => ?_
  refine w_seqk fun K57 k57 => ?_
  refine w_reg (by kernel_rfl) ?_
  refine s_qk (.pointer (some ⟨b13, 0, none⟩)) (by kernel_rfl) ?_
  have u58 := (u42.ext e49)
  refine s_ql (hd_Node) (x := aLoad Tryd.prog 28 (.pointer (some ⟨b13, 0, none⟩)) H48) (by kernel_rfl) (u58.ld (by kernel_rfl)) ?_
  have u59 := (u43.ext e49)
  refine s_ql (.int .i64 (Node.length : Int)) (x := aLen Tryd.prog 28 hd_Node H48) (by kernel_rfl) (u59.lenb (by kernel_rfl)) ?_
  refine s_qk (.int .i64 0) (by kernel_rfl) ?_
  refine s_nil ?_
  refine k57 _ _ ?_
  obtain ⟨o60, hx61, r62⟩ := bind_some r45
  refine w_mid (fun α H63 => Has α [(5, .slice a52 n53 c54)] ∧ FrS f47 H48 H63 ∧ Ow (encI .i64) 1 H63 (.slice a52 n53 c54) o60 f47) (fun K67 k67 => ?_) (fun α H63 hM => ?_)
  ·refine w_block ?_
   obtain ⟨n69, hn70⟩ := loopO_iff.1 hx61
   refine w_loopn (fun n α H71 => ∃ (i0 : Int), ∃ (l1 : List (Int)), iterO (fun zz_ => z_hier_Ranks_l0 Node zz_.1 zz_.2) n (i0, l1) = some o60 ∧ Has α [(5, .slice a52 n53 c54), (18, hd_Node), (19, .int .i64 (Node.length : Int)), (20, .int .i64 i0)] ∧ FrS f47 H48 H71 ∧ Ow (encI .i64) 1 H71 (.slice a52 n53 c54) l1 f47) n69 ⟨0, (List.replicate Node.length (0 : Int)), hn70, ⟨by kernel_rfl, by kernel_rfl, by kernel_rfl, by kernel_rfl, trivial⟩, (FrS.refl (W := f47) e49.wf), hm51⟩ ?_
   rintro n69 α H71 ⟨i0, l1, hi76, hh75, e72, m74⟩ K81 k81
   obtain ⟨n77, z78, rfl, hz79, hn80⟩ := iter_succ hi76
   obtain ⟨β, rfl⟩ := has_ex hh75
   clear hh75
   replace hz79 : z_hier_Ranks_l0 Node i0 l1 = some z78 := hz79
   unfold z_hier_Ranks_l0 at hz79
   refine w_seqk fun K82 k82 => ?_
   refine w_reg (by kernel_rfl) ?_
   refine s_qk (.bool (decide (i0 < (Node.length : Int)))) (by kernel_rfl) ?_
   refine s_nil ?_
   refine k82 _ _ ?_
   refine w_seqk fun K83 k83 => ?_
   refine w_condp (i0 < (Node.length : Int)) (by kernel_rfl) rfl (fun h84 => ?_) (fun h84 => ?_)
   ·have r85 := ite_t h84 hz79
    refine w_skip ?_
    refine k83 _ _ ?_
    refine w_seqk fun K86 k86 => ?_
    refine w_block ?_
    refine w_seqk fun K87 k87 => ?_
    refine w_reg (by kernel_rfl) ?_
    refine s_qk (.int .i64 i0) (by kernel_rfl) ?_
    obtain ⟨g88, r89⟩ := G_some r85
    have u90 := (u59.fr e72 (hf50.djn (h_Node.lt.le (ntr e15.next e32.next))))
    refine s_ql (elp hd_Node 1 i0.toNat 0) (x := aIndexAddr Tryd.prog 28 hd_Node (.int .i64 i0)) (by kernel_rfl) (u90.idxb (by kernel_rfl) g88 h84) ?_
    refine s_ql (.int .u32 (gt Node i0)) (x := aLoad Tryd.prog 34 (elp hd_Node 1 i0.toNat 0) H71) (by kernel_rfl) (u90.ld g88 h84 (by kernel_rfl)) ?_
    refine s_qk (.int .i64 i0) (by kernel_rfl) ?_
    refine s_qk (.int .u32 (gt Node i0)) (by kernel_rfl) ?_
    refine s_nil ?_
    refine k87 _ _ ?_
    refine w_reg (by kernel_rfl) ?_
    refine s_qk (.slice a52 n53 c54) (by kernel_rfl) ?_
    refine s_qk (.int .u32 (gt Node i0)) (by kernel_rfl) ?_
    refine s_qk (.int .i64 i0) (by kernel_rfl) ?_
    obtain ⟨g91, r92⟩ := G_some r89
    refine s_ql (elp (.slice a52 n53 c54) 1 (gt Node i0).toNat 0) (x := aIndexAddr Tryd.prog 45 (.slice a52 n53 c54) (.int .u32 (gt Node i0))) (by kernel_rfl) (m74.sq.idxb (by kernel_rfl) g91.1 g91.2) ?_
    obtain ⟨H93, q94, e95, hm96⟩ := Ow.store (P := Tryd.prog) (t := 3) (off := 0) e72.wf m74 g91.1 g91.2 (.int .i64 i0) [.int .i64 i0] (by kernel_rfl) (by kernel_rfl) rfl i0 (Nat.le_of_ble_eq_true rfl) (by kernel_rfl)
    refine s_ek (undef) (by kernel_rfl) (map_ok q94) ?_
    refine s_nil ?_
    refine k86 _ _ ?_
    refine w_reg (by kernel_rfl) ?_
    obtain ⟨g97, r98⟩ := G_some r92
    refine s_w ((i0 + 1)) (k := .i64) (x := (i0 + 1)) (by kernel_rfl) (wrap64 (by have := g97; omega)) ?_
    refine s_qk (.int .i64 (i0 + 1)) (by kernel_rfl) ?_
    refine s_nil ?_
    obtain rfl := Option.some.inj r98
    exact k81 n77 _ _ (Nat.lt_succ_self _) ⟨(i0 + 1), (l1.set (gt Node i0).toNat i0), hn80, ⟨by kernel_rfl, by kernel_rfl, by kernel_rfl, by kernel_rfl, trivial⟩, (FrS.step e49.wf (FrS.step e49.wf (FrS.refl (W := f47) e49.wf) e72 Inn.refl') e95 Inn.refl'), hm96⟩
   ·have r99 := ite_f h84 hz79
    refine w_exit (th_exit (th_exit (bl_eq ?_)))
    obtain rfl := Option.some.inj r99
    obtain rfl := it_inr hn80
    exact k67 _ _ ⟨⟨by kernel_rfl, trivial⟩, (FrS.step e49.wf (FrS.refl (W := f47) e49.wf) e72 Inn.refl'), m74⟩
  ·obtain ⟨hh68, e64, m66⟩ := hM
   obtain ⟨β, rfl⟩ := has_ex hh68
   clear hh68
   refine k56 _ _ ?_
   refine w_seqk fun K100 k100 => ?_
   refine w_reg (by kernel_rfl) ?_
   refine s_qk (.slice a52 n53 c54) (by kernel_rfl) ?_
   refine s_qk (.slice a52 n53 c54) (by kernel_rfl) ?_
   refine s_qk (.nilIface) (by kernel_rfl) ?_
   refine s_nil ?_
   refine k100 _ _ ?_
   refine w_ret ?_
   refine b_ret (fn := Tryd.f11) (vs := [.slice a52 n53 c54, .nilIface]) (aRes_tmp (by kernel_rfl) (aRes_tmp (by kernel_rfl) (rfl))) ?_
   obtain rfl := Option.some.inj r62
   exact ⟨(.slice a52 n53 c54), f47, (.nilIface), [], rfl, (FrS.step wf ((FrS.step wf ((FrS.refl (W := []) wf).extR e15) e32 Inn.nil).extR e49) e64 (hf50.fresh (ntr e15.next e32.next))), m66, Ev.nil, (hf50.fresh (ntr e15.next e32.next)), Inn.nil, Dj.nil_r⟩
 ·have r101 := ite_f h37 r28
  refine s_ql (.bool true) (x := aBin Tryd.prog .neq 41 (.tmp 10) (.const .nilIface) (.iface t38 x39) .nilIface) (by kernel_rfl) (aBin_nnil (by kernel_rfl)) ?_
  refine s_nil ?_
  refine k36 _ _ ?_
  refine w_cond true (by kernel_rfl) rfl (fun _ => ?_) (fun h => by cases h)
  refine w_seqk fun K102 k102 => ?_
  refine w_reg (by kernel_rfl) ?_
  refine s_qk (.iface t38 x39) (by kernel_rfl) ?_
  refine s_qk (.slice none 0 0) (by kernel_rfl) ?_
  refine s_qk (.iface t38 x39) (by kernel_rfl) ?_
  refine s_nil ?_
  refine k102 _ _ ?_
  refine w_ret (th_ret ?_)
  refine b_ret (fn := Tryd.f11) (vs := [.slice none 0 0, .iface t38 x39]) (aRes_tmp (by kernel_rfl) (aRes_tmp (by kernel_rfl) (rfl))) ?_
  obtain rfl := Option.some.inj r101
  exact ⟨(.slice none 0 0), [], (.iface t38 x39), f30, rfl, (FrS.step wf ((FrS.refl (W := []) wf).extR e15) e32 Inn.nil), (Ow.nil (by decide)), m33, Inn.nil, (i34.fresh e15.next), Dj.nil_l⟩

theorem c_slices_Clone {H : AH} {hd_s : Value} {fp_s : Fp} {s : List (Int)} {r : List (Int)}
  (wf : WF H) (h_s : Sq (encI .u32) 1 H hd_s s fp_s) (hr : z_slices_Clone s = some r) :
  ACalls Tryd.prog 21 #[hd_s] H fun v H' => ∃ (s3 : Value) (f4 : Fp), v = s3 ∧ FrS [] H H' ∧ Ow (encI .u32) 1 H' s3 r f4 ∧ Inn [] H f4 := by
 refine acalls_of_body mixed Tryd.func21 rfl (Nat.le_of_ble_eq_true rfl) ?_
 unfold z_slices_Clone at hr
 refine w_seqk fun K6 k6 => ?_
 refine w_reg (by kernel_rfl) ?_
 refine s_qk (.slice none 0 0) (by kernel_rfl) ?_
 refine s_nil ?_
 refine k6 _ _ ?_
 refine w_seqk fun K7 k7 => ?_
 refine w_seqk fun K8 k8 => ?_
 refine w_reg (by kernel_rfl) ?_
 refine s_qk (hd_s) (by kernel_rfl) ?_
 rcases Sq.nilOr h_s with ⟨rfl, rfl⟩ | ⟨a9, n10, c11, rfl⟩
 ·refine s_qk (.bool true) (by kernel_rfl) ?_
  refine s_nil ?_
  refine k8 _ _ ?_
  refine w_cond true (by kernel_rfl) rfl (fun _ => ?_) (fun h => by cases h)
  refine w_seqk fun K12 k12 => ?_
  refine w_reg (by kernel_rfl) ?_
  refine s_qk (.slice none 0 0) (by kernel_rfl) ?_
  refine s_nil ?_
  refine k12 _ _ ?_
  refine w_ret (th_ret ?_)
  refine b_ret (fn := Tryd.f21) (vs := [.slice none 0 0]) (aRes_tmp (by kernel_rfl) (rfl)) ?_
  have hn_ : some ([] : List (Int)) = some r := by simpa [G] using hr
  obtain rfl := Option.some.inj hn_
  exact ⟨(.slice none 0 0), [], rfl, (FrS.refl (W := []) wf), (Ow.nil (by decide)), Inn.nil⟩
 ·refine s_qk (.bool false) (by kernel_rfl) ?_
  refine s_nil ?_
  refine k8 _ _ ?_
  refine w_cond false (by kernel_rfl) rfl (fun h => by cases h) (fun _ => ?_)
  refine w_skip ?_
  refine k7 _ _ ?_
  refine w_seqk fun K13 k13 => ?_
  refine w_reg (by kernel_rfl) ?_
  refine s_owk (enc := (encI .u32)) (sz := 1) wf ([] : List (Int)) 0 (by decide) (fun _ _ => rfl) (fun _ _ => rfl) rfl (by kernel_rfl) fun s14 f15 H16 e17 hf18 hm19 => ?_
  obtain ⟨a20, n21, c22, rfl⟩ := hm19.form
  refine s_qk (.slice (some a9) n10 c11) (by kernel_rfl) ?_
  obtain ⟨g24, r25⟩ := G_some hr
  have u33 := (h_s.ext e17)
  obtain ⟨s26, H27, f28, q32, e29, hm30, hf31⟩ := Ow.append (P := Tryd.prog) 4 e17.wf hm19 u33 (fun _ _ => rfl) (at_ := #[28, 28]) rfl rfl (by kernel_rfl) (by kernel_rfl) (by decide) (by have := g24; first | omega | (simp only [List.length_cons, List.length_nil] at this ⊢; omega) | (simp at this ⊢; omega))
  obtain ⟨a34, n35, c36, rfl⟩ := hm30.form
  refine s_ek (.slice a34 n35 c36) (by kernel_rfl) (q32) ?_
  refine s_qk (.slice a34 n35 c36) (by kernel_rfl) ?_
  refine s_nil ?_
  refine k13 _ _ ?_
  refine w_ret ?_
  refine b_ret (fn := Tryd.f21) (vs := [.slice a34 n35 c36]) (aRes_tmp (by kernel_rfl) (rfl)) ?_
  obtain rfl := Option.some.inj r25
  exact ⟨(.slice a34 n35 c36), f28, rfl, (FrS.step wf ((FrS.refl (W := []) wf).extR e17) e29 (hf18.fresh (Nat.le_refl _))), hm30, (Inn.trans (hf18.fresh (Nat.le_refl _)) e17.next hf31)⟩

theorem c_hier_Turn_1 {H : AH} {b_p : Nat} {b_p_ : Nat} {i : Int} {x : Int} {x_ : Int} {r : Int}
  (wf : WF H) (h_p : Row H b_p [.int .u32 x]) (h_p_ : Row H b_p_ [.int .u32 x_]) (hr : z_hier_Turn_1 i x x_ = some r) :
  ACalls Tryd.prog 19 #[.int .u32 i, .pointer (some ⟨b_p, 0, none⟩), .pointer (some ⟨b_p_, 0, none⟩)] H fun v H' => v = .int .u32 r ∧ H = H' := by
 refine acalls_of_body mixed Tryd.func19 rfl (Nat.le_of_ble_eq_true rfl) ?_
 unfold z_hier_Turn_1 at hr
 refine w_seqk fun K1 k1 => ?_
 refine w_reg (by kernel_rfl) ?_
 refine s_qk (.int .u32 0) (by kernel_rfl) ?_
 refine s_nil ?_
 refine k1 _ _ ?_
 refine w_seqk fun K2 k2 => ?_
 refine w_block ?_
 refine w_seqk fun K3 k3 => ?_
 refine w_reg (by kernel_rfl) ?_
 refine s_qk (.int .u32 i) (by kernel_rfl) ?_
 refine s_qk (.bool (decide (i = 4294967295))) (by kernel_rfl) ?_
 refine s_qk (.bool (decide (i = 4294967295))) (by kernel_rfl) ?_
 refine s_nil ?_
 refine k3 _ _ ?_
 refine w_condp (i = 4294967295) (by kernel_rfl) rfl (fun h4 => ?_) (fun h4 => ?_)
 ·have r5 := ite_t h4 hr
  refine w_seqk fun K6 k6 => ?_
  refine w_reg (by kernel_rfl) ?_
  refine s_qk (.int .u32 i) (by kernel_rfl) ?_
  refine s_qk (.int .u32 i) (by kernel_rfl) ?_
  refine s_nil ?_
  refine k6 _ _ ?_
  refine w_ret (bl_ret (th_ret ?_))
  refine b_ret (fn := Tryd.f19) (vs := [.int .u32 i]) (aRes_tmp (by kernel_rfl) (rfl)) ?_
  obtain rfl := Option.some.inj r5
  exact ⟨rfl, rfl⟩
 ·have r7 := ite_f h4 hr
  refine w_seqk fun K8 k8 => ?_
  refine w_reg (by kernel_rfl) ?_
  refine s_qk (.int .u32 i) (by kernel_rfl) ?_
  refine s_ql (.int .u32 x) (x := aLoad Tryd.prog 34 (.pointer (some ⟨b_p, 0, none⟩)) H) (by kernel_rfl) (h_p.ld (by kernel_rfl)) ?_
  refine s_qk (.bool (decide (i < x))) (by kernel_rfl) ?_
  refine s_qk (.bool (decide (i < x))) (by kernel_rfl) ?_
  refine s_nil ?_
  refine k8 _ _ ?_
  refine w_condp (i < x) (by kernel_rfl) rfl (fun h9 => ?_) (fun h9 => ?_)
  ·have r10 := ite_t h9 r7
   refine w_seqk fun K11 k11 => ?_
   refine w_reg (by kernel_rfl) ?_
   refine s_qk (.int .u32 i) (by kernel_rfl) ?_
   refine s_ql (.int .u32 x_) (x := aLoad Tryd.prog 34 (.pointer (some ⟨b_p_, 0, none⟩)) H) (by kernel_rfl) (h_p_.ld (by kernel_rfl)) ?_
   obtain ⟨g12, r13⟩ := G_some r10
   refine s_w ((i + x_)) (k := .u32) (x := (i + x_)) (by kernel_rfl) (wrapu32 g12) ?_
   refine s_qk (.int .u32 (i + x_)) (by kernel_rfl) ?_
   refine s_nil ?_
   refine k11 _ _ ?_
   refine w_ret (bl_ret (th_ret ?_))
   refine b_ret (fn := Tryd.f19) (vs := [.int .u32 (i + x_)]) (aRes_tmp (by kernel_rfl) (rfl)) ?_
   obtain rfl := Option.some.inj r13
   exact ⟨rfl, rfl⟩
  ·have r14 := ite_f h9 r7
   refine w_skip ?_
   refine k2 _ _ ?_
   refine w_seqk fun K15 k15 => ?_
   refine w_reg (by kernel_rfl) ?_
   refine s_qk (.int .u32 i) (by kernel_rfl) ?_
   refine s_ql (.int .u32 x) (x := aLoad Tryd.prog 34 (.pointer (some ⟨b_p, 0, none⟩)) H) (by kernel_rfl) (h_p.ld (by kernel_rfl)) ?_
   obtain ⟨g16, r17⟩ := G_some r14
   refine s_w ((i - x)) (k := .u32) (x := (i - x)) (by kernel_rfl) (wrapu32 g16) ?_
   refine s_qk (.int .u32 (i - x)) (by kernel_rfl) ?_
   refine s_nil ?_
   refine k15 _ _ ?_
   refine w_ret ?_
   refine b_ret (fn := Tryd.f19) (vs := [.int .u32 (i - x)]) (aRes_tmp (by kernel_rfl) (rfl)) ?_
   obtain rfl := Option.some.inj r17
   exact ⟨rfl, rfl⟩

theorem c_hier_Turn_2 {H : AH} {hd_l : Value} {fp_l : Fp} {b_p : Nat} {b_p_ : Nat} {b_p_2 : Nat} {l : List (Int × Int × Int × Int)} {x : Int} {x_ : Int} {r : List (Int × Int × Int × Int)}
  (wf : WF H) (h_l : Sq enc_u32_u64_u32_u32 4 H hd_l l fp_l) (h_p_ : Row H b_p_ [.int .u32 x]) (h_p_2 : Row H b_p_2 [.int .u32 x_]) (h_p : Row H b_p [.func (.func 19) #[] #[.pointer (some ⟨b_p_, 0, none⟩), .pointer (some ⟨b_p_2, 0, none⟩)]]) (hr : z_hier_Turn_2 l x x_ = some r) :
  ACalls Tryd.prog 20 #[hd_l, .pointer (some ⟨b_p, 0, none⟩)] H fun v H' => ∃ (s3 : Value) (f4 : Fp), v = s3 ∧ FrS [] H H' ∧ Ow enc_u32_u64_u32_u32 4 H' s3 r f4 ∧ Inn [] H f4 := by
 refine acalls_of_body mixed Tryd.func20 rfl (Nat.le_of_ble_eq_true rfl) ?_
 unfold z_hier_Turn_2 at hr
 refine w_seqk fun K6 k6 => ?_
 refine w_reg (by kernel_rfl) ?_
 refine s_qk (.slice none 0 0) (by kernel_rfl) ?_
 refine s_nil ?_
 refine k6 _ _ ?_
 refine w_seqk fun K7 k7 => ?_
 refine w_reg (by kernel_rfl) ?_
 refine s_qk (.slice none 0 0) (by kernel_rfl) ?_
 refine s_nil ?_
 refine k7 _ _ ?_
 refine w_seqk fun K8 k8 => ?_
 refine w_seqk fun K9 k9 => ?_
 refine w_reg (by kernel_rfl) ?_
 refine s_qk (hd_l) (by kernel_rfl) ?_
 refine s_ql (.int .i64 (l.length : Int)) (x := aLen Tryd.prog 29 hd_l H) (by kernel_rfl) (h_l.lenb (by kernel_rfl)) ?_
 refine s_qk (.int .i64 0) (by kernel_rfl) ?_
 refine s_nil ?_
 refine k9 _ _ ?_
 obtain ⟨o10, hx11, r12⟩ := bind_some hr
 refine w_mid (fun α H13 => ∃ (s17 : Value) (f18 : Fp), Has α [(4, s17)] ∧ FrS [] H H13 ∧ Ow enc_u32_u64_u32_u32 4 H13 s17 o10 f18 ∧ Inn [] H f18) (fun K20 k20 => ?_) (fun α H13 hM => ?_)
 ·refine w_block ?_
  obtain ⟨n22, hn23⟩ := loopO_iff.1 hx11
  refine w_loopn (fun n α H24 => ∃ (m0 : List (Int × Int × Int × Int)), ∃ (i1 : Int), ∃ (s28 : Value), ∃ (f29 : Fp), iterO (fun zz_ => z_hier_Turn_2_l0 l x x_ zz_.1 zz_.2) n (m0, i1) = some o10 ∧ Has α [(1, .pointer (some ⟨b_p, 0, none⟩)), (4, s28), (7, hd_l), (8, .int .i64 (l.length : Int)), (9, .int .i64 i1)] ∧ FrS [] H H24 ∧ Ow enc_u32_u64_u32_u32 4 H24 s28 m0 f29 ∧ Inn [] H f29) n22 ⟨[], 0, (.slice none 0 0), [], hn23, ⟨by kernel_rfl, by kernel_rfl, by kernel_rfl, by kernel_rfl, by kernel_rfl, trivial⟩, (FrS.refl (W := []) wf), (Ow.nil (by decide)), Inn.nil⟩ ?_
  rintro n22 α H24 ⟨m0, i1, s28, f29, hi32, hh31, e25, m27, i30⟩ K37 k37
  obtain ⟨n33, z34, rfl, hz35, hn36⟩ := iter_succ hi32
  obtain ⟨β, rfl⟩ := has_ex hh31
  clear hh31
  replace hz35 : z_hier_Turn_2_l0 l x x_ m0 i1 = some z34 := hz35
  unfold z_hier_Turn_2_l0 at hz35
  obtain ⟨a38, n39, c40, rfl⟩ := m27.form
  refine w_seqk fun K41 k41 => ?_
  refine w_reg (by kernel_rfl) ?_
  refine s_qk (.bool (decide (i1 < (l.length : Int)))) (by kernel_rfl) ?_
  refine s_nil ?_
  refine k41 _ _ ?_
  refine w_seqk fun K42 k42 => ?_
  refine w_condp (i1 < (l.length : Int)) (by kernel_rfl) rfl (fun h43 => ?_) (fun h43 => ?_)
  ·have r44 := ite_t h43 hz35
   refine w_skip ?_
   refine k42 _ _ ?_
   refine w_seqk fun K45 k45 => ?_
   refine w_block ?_
   refine w_seqk fun K46 k46 => ?_
   refine w_reg (by kernel_rfl) ?_
   obtain ⟨g47, r48⟩ := G_some r44
   have u49 := (h_l.fr e25 Dj.nil_l)
   refine s_ql (elp hd_l 4 i1.toNat 0) (x := aIndexAddr Tryd.prog 29 hd_l (.int .i64 i1)) (by kernel_rfl) (u49.idxb (by kernel_rfl) g47 h43) ?_
   refine s_ql (.agg #[.int .u32 ((gt l i1).1), .int .u64 ((gt l i1).2.1), .int .u32 ((gt l i1).2.2.1), .int .u32 ((gt l i1).2.2.2)]) (x := aLoad Tryd.prog 36 (elp hd_l 4 i1.toNat 0) H24) (by kernel_rfl) (u49.ld g47 h43 (by kernel_rfl)) ?_
   refine s_rwk e25.wf [.int .u32 0, .int .u64 0, .int .u32 0, .int .u32 0] (by kernel_rfl) fun b50 H51 e52 hb53 r54 => ?_
   obtain ⟨H56, q57, e58, r59⟩ := Row.store (P := Tryd.prog) (t := 36) (p := 0) e52.wf r54 (.agg #[.int .u32 ((gt l i1).1), .int .u64 ((gt l i1).2.1), .int .u32 ((gt l i1).2.2.1), .int .u32 ((gt l i1).2.2.2)]) [.int .u32 ((gt l i1).1), .int .u64 ((gt l i1).2.1), .int .u32 ((gt l i1).2.2.1), .int .u32 ((gt l i1).2.2.2)] (by kernel_rfl) (by kernel_rfl) (one_cons (rfl) (one_cons (rfl) (one_cons (rfl) (one_cons (rfl) (one_nil))))) (Nat.le_of_ble_eq_true (by kernel_rfl)) [.int .u32 ((gt l i1).1), .int .u64 ((gt l i1).2.1), .int .u32 ((gt l i1).2.2.1), .int .u32 ((gt l i1).2.2.2)] (by kernel_rfl)
   refine s_ek (undef) (by kernel_rfl) (map_ok q57) ?_
   refine s_nil ?_
   refine k46 _ _ ?_
   refine w_seqk fun K60 k60 => ?_
   refine w_draw [0, 1, 2, 4, 5, 6, 3, 8, 7, 9, 10, 11] (by kernel_rfl) ?_
   have u61 := (((h_p.frS e25 Dj.nil_l).ext e52).frS e58 (hb53.djn (h_p.ltF.le e25.next)))
   refine d_ql (.func (.func 19) #[] #[.pointer (some ⟨b_p_, 0, none⟩), .pointer (some ⟨b_p_2, 0, none⟩)]) (x := aLoad Tryd.prog 68 (.pointer (some ⟨b_p, 0, none⟩)) H56) (by kernel_rfl) (u61.ld (by kernel_rfl)) ?_
   refine d_qk (.pointer (some ⟨b50, 3, none⟩)) (by kernel_rfl) ?_
   refine d_ql (.int .u32 ((gt l i1).2.2.2)) (x := aLoad Tryd.prog 34 (.pointer (some ⟨b50, 3, none⟩)) H56) (by kernel_rfl) (r59.ld (by kernel_rfl)) ?_
   refine d_fl (.func (.func 19) #[] #[.pointer (some ⟨b_p_, 0, none⟩), .pointer (some ⟨b_p_2, 0, none⟩)]) (x := aLoad Tryd.prog 68 (.pointer (some ⟨b_p, 0, none⟩)) H56) (by kernel_rfl) (u61.ld (by kernel_rfl)) ?_
   refine d_qk (.pointer (some ⟨b50, 2, none⟩)) (by kernel_rfl) ?_
   refine d_fl (.int .u32 ((gt l i1).2.2.1)) (x := aLoad Tryd.prog 34 (.pointer (some ⟨b50, 2, none⟩)) H56) (by kernel_rfl) (r59.ld (by kernel_rfl)) ?_
   have u62 := (((h_p_.frS e25 Dj.nil_l).ext e52).frS e58 (hb53.djn (h_p_.ltF.le e25.next)))
   have u63 := (((h_p_2.frS e25 Dj.nil_l).ext e52).frS e58 (hb53.djn (h_p_2.ltF.le e25.next)))
   obtain ⟨y64, hy65, r66⟩ := bind_some r48
   refine d_ck 19 #[.int .u32 ((gt l i1).2.2.2), .pointer (some ⟨b_p_, 0, none⟩), .pointer (some ⟨b_p_2, 0, none⟩)] (by kernel_rfl) (c_hier_Turn_1 e58.wf u62 u63 hy65) ?_
   rintro _ _ ⟨rfl, rfl⟩
   refine ⟨st_ql (y := aLoad Tryd.prog 34 (.pointer (some ⟨b50, 2, none⟩)) H56) (by kernel_rfl) (r59.ld (by kernel_rfl)) (st_ql (y := aLoad Tryd.prog 68 (.pointer (some ⟨b_p, 0, none⟩)) H56) (by kernel_rfl) (u61.ld (by kernel_rfl)) (st_nil)), ?_⟩
   refine d_qk (.pointer (some ⟨b50, 2, none⟩)) (by kernel_rfl) ?_
   obtain ⟨y69, hy70, r71⟩ := bind_some r66
   refine d_ck 19 #[.int .u32 ((gt l i1).2.2.1), .pointer (some ⟨b_p_, 0, none⟩), .pointer (some ⟨b_p_2, 0, none⟩)] (by kernel_rfl) (c_hier_Turn_1 e58.wf u62 u63 hy70) ?_
   rintro _ _ ⟨rfl, rfl⟩
   refine ⟨st_anc (by kernel_rfl) (st_anc (by kernel_rfl) (st_nil)), ?_⟩
   obtain ⟨H74, q75, e76, r77⟩ := Row.store (P := Tryd.prog) (t := 34) (p := 2) e58.wf r59 (.int .u32 y64) [.int .u32 y64] (by kernel_rfl) (by kernel_rfl) (one_cons (rfl) (one_nil)) (Nat.le_of_ble_eq_true (by kernel_rfl)) [.int .u32 ((gt l i1).1), .int .u64 ((gt l i1).2.1), .int .u32 y64, .int .u32 ((gt l i1).2.2.2)] (by kernel_rfl)
   refine d_ek (undef) (by kernel_rfl) (map_ok q75) (st_anc (by kernel_rfl) (st_anc (by kernel_rfl) (st_nil))) ?_
   refine d_qk (.pointer (some ⟨b50, 3, none⟩)) (by kernel_rfl) ?_
   obtain ⟨H78, q79, e80, r81⟩ := Row.store (P := Tryd.prog) (t := 34) (p := 3) e76.wf r77 (.int .u32 y69) [.int .u32 y69] (by kernel_rfl) (by kernel_rfl) (one_cons (rfl) (one_nil)) (Nat.le_of_ble_eq_true (by kernel_rfl)) [.int .u32 ((gt l i1).1), .int .u64 ((gt l i1).2.1), .int .u32 y64, .int .u32 y69] (by kernel_rfl)
   refine d_ek (undef) (by kernel_rfl) (map_ok q79) (st_anc (by kernel_rfl) (st_anc (by kernel_rfl) (st_nil))) ?_
   refine d_nil ?_
   refine k60 _ _ ?_
   refine w_reg (by kernel_rfl) ?_
   refine s_qk (.slice a38 n39 c40) (by kernel_rfl) ?_
   refine s_ql (.agg #[.int .u32 ((gt l i1).1), .int .u64 ((gt l i1).2.1), .int .u32 y64, .int .u32 y69]) (x := aLoad Tryd.prog 36 (.pointer (some ⟨b50, 0, none⟩)) H78) (by kernel_rfl) (r81.ld (by kernel_rfl)) ?_
   refine s_owk (enc := enc_u32_u64_u32_u32) (sz := 4) e80.wf [((gt l i1).1, (gt l i1).2.1, y64, y69)] 1 (by decide) (fun _ _ => rfl) (fun _ _ => rfl) rfl (by kernel_rfl) fun s82 f83 H84 e85 hf86 hm87 => ?_
   obtain ⟨a88, n89, c90, rfl⟩ := hm87.form
   have u92 := (((((m27.ext e52).fr e58 (hb53.djn m27.lt)).fr e76 (hb53.djn m27.lt)).fr e80 (hb53.djn m27.lt)).ext e85)
   obtain ⟨g93, r94⟩ := G_some r71
   obtain ⟨s95, H96, f97, q101, e98, hm99, hf100⟩ := Ow.append (P := Tryd.prog) 24 e85.wf u92 hm87.sq (fun _ _ => rfl) (at_ := #[29, 29]) rfl rfl (by kernel_rfl) (by kernel_rfl) (by decide) (by have := g93; first | omega | (simp only [List.length_cons, List.length_nil] at this ⊢; omega) | (simp at this ⊢; omega))
   obtain ⟨a102, n103, c104, rfl⟩ := hm99.form
   refine s_ek (.slice a102 n103 c104) (by kernel_rfl) (q101) ?_
   refine s_qk (.slice a102 n103 c104) (by kernel_rfl) ?_
   refine s_nil ?_
   refine k45 _ _ ?_
   refine w_reg (by kernel_rfl) ?_
   obtain ⟨g106, r107⟩ := G_some r94
   refine s_w ((i1 + 1)) (k := .i64) (x := (i1 + 1)) (by kernel_rfl) (wrap64 (by have := g106; omega)) ?_
   refine s_qk (.int .i64 (i1 + 1)) (by kernel_rfl) ?_
   refine s_nil ?_
   obtain rfl := Option.some.inj r107
   exact k37 n33 _ _ (Nat.lt_succ_self _) ⟨(m0 ++ [((gt l i1).1, (gt l i1).2.1, y64, y69)]), (i1 + 1), (.slice a102 n103 c104), f97, hn36, ⟨by kernel_rfl, by kernel_rfl, by kernel_rfl, by kernel_rfl, by kernel_rfl, trivial⟩, (FrS.step wf ((FrS.step wf (FrS.step wf (FrS.step wf ((FrS.step wf (FrS.refl (W := []) wf) e25 Inn.nil).extR e52) e58 (hb53.fresh e25.next)) e76 (hb53.fresh e25.next)) e80 (hb53.fresh e25.next)).extR e85) e98 (i30.fresh (Nat.le_refl _))), hm99, (Inn.trans (i30.fresh (Nat.le_refl _)) (ntr (ntr (ntr (ntr (ntr e25.next e52.next) e58.next) e76.next) e80.next) e85.next) hf100)⟩
  ·have r108 := ite_f h43 hz35
   refine w_exit (th_exit (th_exit (bl_eq ?_)))
   obtain rfl := Option.some.inj r108
   obtain rfl := it_inr hn36
   exact k20 _ _ ⟨(.slice a38 n39 c40), f29, ⟨by kernel_rfl, trivial⟩, (FrS.step wf (FrS.refl (W := []) wf) e25 Inn.nil), m27, (i30.fresh (Nat.le_refl _))⟩
 ·obtain ⟨s17, f18, hh21, e14, m16, i19⟩ := hM
  obtain ⟨β, rfl⟩ := has_ex hh21
  clear hh21
  obtain ⟨a109, n110, c111, rfl⟩ := m16.form
  refine k8 _ _ ?_
  refine w_seqk fun K112 k112 => ?_
  refine w_reg (by kernel_rfl) ?_
  refine s_qk (.slice a109 n110 c111) (by kernel_rfl) ?_
  refine s_qk (.slice a109 n110 c111) (by kernel_rfl) ?_
  refine s_nil ?_
  refine k112 _ _ ?_
  refine w_ret ?_
  refine b_ret (fn := Tryd.f20) (vs := [.slice a109 n110 c111]) (aRes_tmp (by kernel_rfl) (rfl)) ?_
  obtain rfl := Option.some.inj r12
  exact ⟨(.slice a109 n110 c111), f18, rfl, (FrS.step wf (FrS.refl (W := []) wf) e14 Inn.nil), m16, (i19.fresh (Nat.le_refl _))⟩

theorem c_hier_Turn {H : AH} {hd_Node : Value} {fp_Node : Fp} {hd_UpFirst : Value} {fp_UpFirst : Fp} {hd_Up : Value} {fp_Up : Fp} {hd_DownFirst : Value} {fp_DownFirst : Fp} {hd_Down : Value} {fp_Down : Fp} {Node : List (Int)} {UpFirst : List (Int)} {Up : List (Int × Int × Int × Int)} {DownFirst : List (Int)} {Down : List (Int × Int × Int × Int)} {r : List (Int) × List (Int) × List (Int × Int × Int × Int) × List (Int) × List (Int × Int × Int × Int) × Er}
  (wf : WF H) (h_Node : Sq (encI .u32) 1 H hd_Node Node fp_Node) (h_UpFirst : Sq (encI .u32) 1 H hd_UpFirst UpFirst fp_UpFirst) (h_Up : Sq enc_u32_u64_u32_u32 4 H hd_Up Up fp_Up) (h_DownFirst : Sq (encI .u32) 1 H hd_DownFirst DownFirst fp_DownFirst) (h_Down : Sq enc_u32_u64_u32_u32 4 H hd_Down Down fp_Down) (hr : z_hier_Turn Node UpFirst Up DownFirst Down = some r) :
  ACalls Tryd.prog 12 #[.agg #[hd_Node, hd_UpFirst, hd_Up, hd_DownFirst, hd_Down]] H fun v H' => ∃ (s3 : Value) (f4 : Fp) (s7 : Value) (f8 : Fp) (s11 : Value) (f12 : Fp) (s15 : Value) (f16 : Fp) (s19 : Value) (f20 : Fp) (v23 : Value) (f24 : Fp), v = .tuple #[.agg #[s3, s7, s11, s15, s19], v23] ∧ FrS [] H H' ∧ Ow (encI .u32) 1 H' s3 r.1 f4 ∧ Ow (encI .u32) 1 H' s7 r.2.1 f8 ∧ Ow enc_u32_u64_u32_u32 4 H' s11 r.2.2.1 f12 ∧ Ow (encI .u32) 1 H' s15 r.2.2.2.1 f16 ∧ Ow enc_u32_u64_u32_u32 4 H' s19 r.2.2.2.2.1 f20 ∧ Ev 27 71 H' v23 r.2.2.2.2.2 f24 ∧ Inn [] H f4 ∧ Inn [] H f8 ∧ Inn [] H f12 ∧ Inn [] H f16 ∧ Inn [] H f20 ∧ Inn [] H f24 ∧ Dj f4 f8 ∧ Dj f4 f12 ∧ Dj f8 f12 ∧ Dj f4 f16 ∧ Dj f8 f16 ∧ Dj f12 f16 ∧ Dj f4 f20 ∧ Dj f8 f20 ∧ Dj f12 f20 ∧ Dj f16 f20 ∧ Dj f4 f24 ∧ Dj f8 f24 ∧ Dj f12 f24 ∧ Dj f16 f24 ∧ Dj f20 f24 := by
 refine acalls_of_body mixed Tryd.func12 rfl (Nat.le_of_ble_eq_true rfl) ?_
 unfold z_hier_Turn at hr
 refine w_seqk fun K46 k46 => ?_
 refine w_reg (by kernel_rfl) ?_
 refine s_rwl wf [hd_Node, hd_UpFirst, hd_Up, hd_DownFirst, hd_Down] (one_cons (h_Node.one1) (one_cons (h_UpFirst.one1) (one_cons (h_Up.one1) (one_cons (h_DownFirst.one1) (one_cons (h_Down.one1) (one_nil)))))) (by kernel_rfl) fun b47 H48 e49 hb50 r51 => ?_
 refine s_rwk e49.wf [.slice none 0 0, .slice none 0 0, .slice none 0 0, .slice none 0 0, .slice none 0 0] (by kernel_rfl) fun b53 H54 e55 hb56 r57 => ?_
 refine s_qk (.nilIface) (by kernel_rfl) ?_
 refine s_nil ?_
 refine k46 _ _ ?_
 refine w_seqk fun K59 k59 => ?_
 refine w_seqk fun K60 k60 => ?_
 refine w_reg (by kernel_rfl) ?_
 have u61 := (r51.ext e55)
 refine s_ql (.agg #[hd_Node, hd_UpFirst, hd_Up, hd_DownFirst, hd_Down]) (x := aLoad Tryd.prog 31 (.pointer (some ⟨b47, 0, none⟩)) H54) (by kernel_rfl) (u61.ld (by kernel_rfl)) ?_
 have u62 := ((h_Node.ext e49).ext e55)
 have u63 := ((h_UpFirst.ext e49).ext e55)
 have u64 := ((h_Up.ext e49).ext e55)
 have u65 := ((h_DownFirst.ext e49).ext e55)
 have u66 := ((h_Down.ext e49).ext e55)
 obtain ⟨y67, hy68, r69⟩ := bind_some hr
 refine s_ck 9 #[.agg #[hd_Node, hd_UpFirst, hd_Up, hd_DownFirst, hd_Down]] (by kernel_rfl) (c_hier_Check e55.wf u62 u63 u64 u65 u66 hy68) ?_
 rintro v70 H72 ⟨_, f71, rfl, e73, m74, i75⟩
 refine s_qk (v70) (by kernel_rfl) ?_
 refine s_nil ?_
 refine k60 _ _ ?_
 refine w_seqk fun K77 k77 => ?_
 refine w_reg (by kernel_rfl) ?_
 refine s_qk (v70) (by kernel_rfl) ?_
 rcases (m74).cases with ⟨h78, rfl⟩ | ⟨h78, t79, x80, rfl⟩
 ·have r81 := ite_t h78 r69
  refine s_qk (.bool false) (by kernel_rfl) ?_
  refine s_nil ?_
  refine k77 _ _ ?_
  refine w_cond false (by kernel_rfl) rfl (fun h => by cases h) (fun _ => ?_)
  refine w_skip ?_
  refine k59 _ _ ?_
  refine w_seqk fun K82 k82 => ?_
  refine w_draw [0, 1, 2, 3, 4, 5, 6, 7, 8, 9, 10, 11] (by kernel_rfl) ?_
  refine d_qk (.pointer (some ⟨b47, 2, none⟩)) (by kernel_rfl) ?_
  have u83 := (u61.frS e73 Dj.nil_l)
  refine d_ql (hd_Up) (x := aLoad Tryd.prog 29 (.pointer (some ⟨b47, 2, none⟩)) H72) (by kernel_rfl) (u83.ld (by kernel_rfl)) ?_
  have u84 := (u64.fr e73 Dj.nil_l)
  refine d_ql (.int .i64 (Up.length : Int)) (x := aLen Tryd.prog 29 hd_Up H72) (by kernel_rfl) (u84.lenb (by kernel_rfl)) ?_
  obtain ⟨g85, r86⟩ := G_some r81
  refine d_w ((Up.length : Int)) (k := .u32) (x := (Up.length : Int)) (by kernel_rfl) (wrapu32 (by have := g85; omega)) ?_
  refine d_qk (.pointer (some ⟨b47, 4, none⟩)) (by kernel_rfl) ?_
  refine d_fl (hd_Down) (x := aLoad Tryd.prog 29 (.pointer (some ⟨b47, 4, none⟩)) H72) (by kernel_rfl) (u83.ld (by kernel_rfl)) ?_
  have u87 := (u66.fr e73 Dj.nil_l)
  refine d_ql (.int .i64 (Down.length : Int)) (x := aLen Tryd.prog 29 hd_Down H72) (by kernel_rfl) (u87.lenb (by kernel_rfl)) ?_
  obtain ⟨g88, r89⟩ := G_some r86
  refine d_w ((Down.length : Int)) (k := .u32) (x := (Down.length : Int)) (by kernel_rfl) (wrapu32 (by have := g88; omega)) ?_
  refine d_rwk e73.wf [.int .u32 0] (by kernel_rfl) fun b90 H91 e92 hb93 r94 => ?_
  refine d_rwk e92.wf [.int .u32 0] (by kernel_rfl) fun b96 H97 e98 hb99 r100 => ?_
  have u106 := (r94.ext e98)
  obtain ⟨H102, q103, e104, r105⟩ := Row.store (P := Tryd.prog) (t := 34) (p := 0) e98.wf u106 (.int .u32 (Up.length : Int)) [.int .u32 (Up.length : Int)] (by kernel_rfl) (by kernel_rfl) (one_cons (rfl) (one_nil)) (Nat.le_of_ble_eq_true (by kernel_rfl)) [.int .u32 (Up.length : Int)] (by kernel_rfl)
  have u107 := (((u83.ext e92).ext e98).frS e104 (hb93.djn (r51.ltF.le (ntr e55.next e73.next))))
  refine d_ek (undef) (by kernel_rfl) (map_ok q103) (st_ql (y := aLoad Tryd.prog 29 (.pointer (some ⟨b47, 4, none⟩)) H102) (by kernel_rfl) (u107.ld (by kernel_rfl)) (st_nil)) ?_
  have u112 := (r100.frS e104 (Dj.symm (hb99.djn r94.ltF)))
  obtain ⟨H108, q109, e110, r111⟩ := Row.store (P := Tryd.prog) (t := 34) (p := 0) e104.wf u112 (.int .u32 (Down.length : Int)) [.int .u32 (Down.length : Int)] (by kernel_rfl) (by kernel_rfl) (one_cons (rfl) (one_nil)) (Nat.le_of_ble_eq_true (by kernel_rfl)) [.int .u32 (Down.length : Int)] (by kernel_rfl)
  refine d_ek (undef) (by kernel_rfl) (map_ok q109) (st_anc (by kernel_rfl) (st_nil)) ?_
  refine d_nil ?_
  refine k82 _ _ ?_
  refine w_seqk fun K113 k113 => ?_
  refine w_reg (by kernel_rfl) ?_
  refine s_qk (.func (.func 19) #[] #[.pointer (some ⟨b90, 0, none⟩), .pointer (some ⟨b96, 0, none⟩)]) (by kernel_rfl) ?_
  refine s_rwk e110.wf [.nilFunc] (by kernel_rfl) fun b114 H115 e116 hb117 r118 => ?_
  obtain ⟨H120, q121, e122, r123⟩ := Row.store (P := Tryd.prog) (t := 68) (p := 0) e116.wf r118 (.func (.func 19) #[] #[.pointer (some ⟨b90, 0, none⟩), .pointer (some ⟨b96, 0, none⟩)]) [.func (.func 19) #[] #[.pointer (some ⟨b90, 0, none⟩), .pointer (some ⟨b96, 0, none⟩)]] (by kernel_rfl) (by kernel_rfl) (one_cons (rfl) (one_nil)) (Nat.le_of_ble_eq_true (by kernel_rfl)) [.func (.func 19) #[] #[.pointer (some ⟨b90, 0, none⟩), .pointer (some ⟨b96, 0, none⟩)]] (by kernel_rfl)
  refine s_ek (undef) (by kernel_rfl) (map_ok q121) ?_
  refine s_nil ?_
  refine k113 _ _ ?_
  refine w_seqk fun K124 k124 => ?_
  refine w_reg (by kernel_rfl) ?_
  refine s_qk (.func (.func 20) #[] #[.pointer (some ⟨b114, 0, none⟩)]) (by kernel_rfl) ?_
  refine s_qk (.func (.func 20) #[] #[.pointer (some ⟨b114, 0, none⟩)]) (by kernel_rfl) ?_
  refine s_nil ?_
  refine k124 _ _ ?_
  refine w_seqk fun K125 k125 => ?_
  refine w_draw [0, 1, 3, 4, 6, 7, 8, 10, 11, 13, 14, 15, 2, 5, 9, 12, 16, 17, 18, 19] (by kernel_rfl) ?_
  refine d_qk (.pointer (some ⟨b47, 0, none⟩)) (by kernel_rfl) ?_
  have u126 := (((u107.frS e110 (hb99.djn (r51.ltF.le (ntr (ntr e55.next e73.next) e92.next)))).ext e116).frS e122 (hb117.djn (r51.ltF.le (ntr (ntr (ntr (ntr (ntr e55.next e73.next) e92.next) e98.next) e104.next) e110.next))))
  refine d_ql (hd_Node) (x := aLoad Tryd.prog 28 (.pointer (some ⟨b47, 0, none⟩)) H120) (by kernel_rfl) (u126.ld (by kernel_rfl)) ?_
  refine d_qk (.pointer (some ⟨b47, 3, none⟩)) (by kernel_rfl) ?_
  refine d_fl (hd_DownFirst) (x := aLoad Tryd.prog 28 (.pointer (some ⟨b47, 3, none⟩)) H120) (by kernel_rfl) (u126.ld (by kernel_rfl)) ?_
  refine d_qk (.func (.func 20) #[] #[.pointer (some ⟨b114, 0, none⟩)]) (by kernel_rfl) ?_
  refine d_qk (.pointer (some ⟨b47, 4, none⟩)) (by kernel_rfl) ?_
  refine d_fl (hd_Down) (x := aLoad Tryd.prog 29 (.pointer (some ⟨b47, 4, none⟩)) H120) (by kernel_rfl) (u126.ld (by kernel_rfl)) ?_
  refine d_qk (.pointer (some ⟨b47, 1, none⟩)) (by kernel_rfl) ?_
  refine d_fl (hd_UpFirst) (x := aLoad Tryd.prog 28 (.pointer (some ⟨b47, 1, none⟩)) H120) (by kernel_rfl) (u126.ld (by kernel_rfl)) ?_
  refine d_qk (.func (.func 20) #[] #[.pointer (some ⟨b114, 0, none⟩)]) (by kernel_rfl) ?_
  refine d_qk (.pointer (some ⟨b47, 2, none⟩)) (by kernel_rfl) ?_
  refine d_fl (hd_Up) (x := aLoad Tryd.prog 29 (.pointer (some ⟨b47, 2, none⟩)) H120) (by kernel_rfl) (u126.ld (by kernel_rfl)) ?_
  have u127 := (((((((u62.fr e73 Dj.nil_l).ext e92).ext e98).fr e104 (hb93.djn (h_Node.lt.le (ntr (ntr e49.next e55.next) e73.next)))).fr e110 (hb99.djn (h_Node.lt.le (ntr (ntr (ntr e49.next e55.next) e73.next) e92.next)))).ext e116).fr e122 (hb117.djn (h_Node.lt.le (ntr (ntr (ntr (ntr (ntr (ntr e49.next e55.next) e73.next) e92.next) e98.next) e104.next) e110.next))))
  obtain ⟨y128, hy129, r130⟩ := bind_some r89
  refine d_ck 21 #[hd_Node] (by kernel_rfl) (c_slices_Clone e122.wf u127 hy129) ?_
  rintro s131 H133 ⟨_, f132, rfl, e134, m135, i136⟩
  obtain ⟨a138, n139, c140, rfl⟩ := m135.form
  have u141 := (u126.frS e134 Dj.nil_l)
  refine ⟨st_ql (y := aLoad Tryd.prog 29 (.pointer (some ⟨b47, 2, none⟩)) H133) (by kernel_rfl) (u141.ld (by kernel_rfl)) (st_ql (y := aLoad Tryd.prog 28 (.pointer (some ⟨b47, 1, none⟩)) H133) (by kernel_rfl) (u141.ld (by kernel_rfl)) (st_ql (y := aLoad Tryd.prog 29 (.pointer (some ⟨b47, 4, none⟩)) H133) (by kernel_rfl) (u141.ld (by kernel_rfl)) (st_ql (y := aLoad Tryd.prog 28 (.pointer (some ⟨b47, 3, none⟩)) H133) (by kernel_rfl) (u141.ld (by kernel_rfl)) (st_nil)))), ?_⟩
  have u142 := ((((((((u65.fr e73 Dj.nil_l).ext e92).ext e98).fr e104 (hb93.djn (h_DownFirst.lt.le (ntr (ntr e49.next e55.next) e73.next)))).fr e110 (hb99.djn (h_DownFirst.lt.le (ntr (ntr (ntr e49.next e55.next) e73.next) e92.next)))).ext e116).fr e122 (hb117.djn (h_DownFirst.lt.le (ntr (ntr (ntr (ntr (ntr (ntr e49.next e55.next) e73.next) e92.next) e98.next) e104.next) e110.next)))).fr e134 Dj.nil_l)
  obtain ⟨y143, hy144, r145⟩ := bind_some r130
  refine d_ck 21 #[hd_DownFirst] (by kernel_rfl) (c_slices_Clone e134.wf u142 hy144) ?_
  rintro s146 H148 ⟨_, f147, rfl, e149, m150, i151⟩
  obtain ⟨a153, n154, c155, rfl⟩ := m150.form
  have u156 := (u141.frS e149 Dj.nil_l)
  refine ⟨st_ql (y := aLoad Tryd.prog 29 (.pointer (some ⟨b47, 2, none⟩)) H148) (by kernel_rfl) (u156.ld (by kernel_rfl)) (st_ql (y := aLoad Tryd.prog 28 (.pointer (some ⟨b47, 1, none⟩)) H148) (by kernel_rfl) (u156.ld (by kernel_rfl)) (st_ql (y := aLoad Tryd.prog 29 (.pointer (some ⟨b47, 4, none⟩)) H148) (by kernel_rfl) (u156.ld (by kernel_rfl)) (st_anc (by kernel_rfl) (st_nil)))), ?_⟩
  have u157 := ((((((((u87.ext e92).ext e98).fr e104 (hb93.djn (h_Down.lt.le (ntr (ntr e49.next e55.next) e73.next)))).fr e110 (hb99.djn (h_Down.lt.le (ntr (ntr (ntr e49.next e55.next) e73.next) e92.next)))).ext e116).fr e122 (hb117.djn (h_Down.lt.le (ntr (ntr (ntr (ntr (ntr (ntr e49.next e55.next) e73.next) e92.next) e98.next) e104.next) e110.next)))).fr e134 Dj.nil_l).fr e149 Dj.nil_l)
  have u158 := (((((r105.frS e110 (hb99.djn r94.ltF)).ext e116).frS e122 (hb117.djn (r94.ltF.le (ntr (ntr e98.next e104.next) e110.next)))).frS e134 Dj.nil_l).frS e149 Dj.nil_l)
  have u159 := ((((r111.ext e116).frS e122 (hb117.djn (r100.ltF.le (ntr e104.next e110.next)))).frS e134 Dj.nil_l).frS e149 Dj.nil_l)
  have u160 := ((r123.frS e134 Dj.nil_l).frS e149 Dj.nil_l)
  obtain ⟨y161, hy162, r163⟩ := bind_some r145
  refine d_ck 20 #[hd_Down, .pointer (some ⟨b114, 0, none⟩)] (by kernel_rfl) (c_hier_Turn_2 e149.wf u157 u158 u159 u160 hy162) ?_
  rintro s164 H166 ⟨_, f165, rfl, e167, m168, i169⟩
  obtain ⟨a171, n172, c173, rfl⟩ := m168.form
  have u174 := (u156.frS e167 Dj.nil_l)
  refine ⟨st_ql (y := aLoad Tryd.prog 29 (.pointer (some ⟨b47, 2, none⟩)) H166) (by kernel_rfl) (u174.ld (by kernel_rfl)) (st_ql (y := aLoad Tryd.prog 28 (.pointer (some ⟨b47, 1, none⟩)) H166) (by kernel_rfl) (u174.ld (by kernel_rfl)) (st_anc (by kernel_rfl) (st_anc (by kernel_rfl) (st_nil)))), ?_⟩
  have u175 := ((((((((((u63.fr e73 Dj.nil_l).ext e92).ext e98).fr e104 (hb93.djn (h_UpFirst.lt.le (ntr (ntr e49.next e55.next) e73.next)))).fr e110 (hb99.djn (h_UpFirst.lt.le (ntr (ntr (ntr e49.next e55.next) e73.next) e92.next)))).ext e116).fr e122 (hb117.djn (h_UpFirst.lt.le (ntr (ntr (ntr (ntr (ntr (ntr e49.next e55.next) e73.next) e92.next) e98.next) e104.next) e110.next)))).fr e134 Dj.nil_l).fr e149 Dj.nil_l).fr e167 Dj.nil_l)
  obtain ⟨y176, hy177, r178⟩ := bind_some r163
  refine d_ck 21 #[hd_UpFirst] (by kernel_rfl) (c_slices_Clone e167.wf u175 hy177) ?_
  rintro s179 H181 ⟨_, f180, rfl, e182, m183, i184⟩
  obtain ⟨a186, n187, c188, rfl⟩ := m183.form
  have u189 := (u174.frS e182 Dj.nil_l)
  refine ⟨st_ql (y := aLoad Tryd.prog 29 (.pointer (some ⟨b47, 2, none⟩)) H181) (by kernel_rfl) (u189.ld (by kernel_rfl)) (st_anc (by kernel_rfl) (st_anc (by kernel_rfl) (st_anc (by kernel_rfl) (st_nil)))), ?_⟩
  have u190 := ((((((((((u84.ext e92).ext e98).fr e104 (hb93.djn (h_Up.lt.le (ntr (ntr e49.next e55.next) e73.next)))).fr e110 (hb99.djn (h_Up.lt.le (ntr (ntr (ntr e49.next e55.next) e73.next) e92.next)))).ext e116).fr e122 (hb117.djn (h_Up.lt.le (ntr (ntr (ntr (ntr (ntr (ntr e49.next e55.next) e73.next) e92.next) e98.next) e104.next) e110.next)))).fr e134 Dj.nil_l).fr e149 Dj.nil_l).fr e167 Dj.nil_l).fr e182 Dj.nil_l)
  have u191 := ((u158.frS e167 Dj.nil_l).frS e182 Dj.nil_l)
  have u192 := ((u159.frS e167 Dj.nil_l).frS e182 Dj.nil_l)
  have u193 := ((u160.frS e167 Dj.nil_l).frS e182 Dj.nil_l)
  obtain ⟨y194, hy195, r196⟩ := bind_some r178
  refine d_ck 20 #[hd_Up, .pointer (some ⟨b114, 0, none⟩)] (by kernel_rfl) (c_hier_Turn_2 e182.wf u190 u191 u192 u193 hy195) ?_
  rintro s197 H199 ⟨_, f198, rfl, e200, m201, i202⟩
  obtain ⟨a204, n205, c206, rfl⟩ := m201.form
  refine ⟨st_anc (by kernel_rfl) (st_anc (by kernel_rfl) (st_anc (by kernel_rfl) (st_anc (by kernel_rfl) (st_nil)))), ?_⟩
  refine d_qk (.agg #[.slice a138 n139 c140, .slice a153 n154 c155, .slice a171 n172 c173, .slice a186 n187 c188, .slice a204 n205 c206]) (by kernel_rfl) ?_
  have u211 := ((((((((((((r57.frS e73 Dj.nil_l).ext e92).ext e98).frS e104 (hb93.djn (r57.ltF.le e73.next))).frS e110 (hb99.djn (r57.ltF.le (ntr e73.next e92.next)))).ext e116).frS e122 (hb117.djn (r57.ltF.le (ntr (ntr (ntr (ntr e73.next e92.next) e98.next) e104.next) e110.next)))).frS e134 Dj.nil_l).frS e149 Dj.nil_l).frS e167 Dj.nil_l).frS e182 Dj.nil_l).frS e200 Dj.nil_l)
  have u212 := (m183.fr e200 Dj.nil_l)
  have u213 := ((m168.fr e182 Dj.nil_l).fr e200 Dj.nil_l)
  have u214 := (((m150.fr e167 Dj.nil_l).fr e182 Dj.nil_l).fr e200 Dj.nil_l)
  have u215 := ((((m135.fr e149 Dj.nil_l).fr e167 Dj.nil_l).fr e182 Dj.nil_l).fr e200 Dj.nil_l)
  obtain ⟨H207, q208, e209, r210⟩ := Row.store (P := Tryd.prog) (t := 31) (p := 0) e200.wf u211 (.agg #[.slice a138 n139 c140, .slice a153 n154 c155, .slice a171 n172 c173, .slice a186 n187 c188, .slice a204 n205 c206]) [.slice a138 n139 c140, .slice a153 n154 c155, .slice a171 n172 c173, .slice a186 n187 c188, .slice a204 n205 c206] (by kernel_rfl) (by kernel_rfl) (one_cons (u215.one1) (one_cons (u214.one1) (one_cons (u213.one1) (one_cons (u212.one1) (one_cons (m201.one1) (one_nil)))))) (Nat.le_of_ble_eq_true (by kernel_rfl)) [.slice a138 n139 c140, .slice a153 n154 c155, .slice a171 n172 c173, .slice a186 n187 c188, .slice a204 n205 c206] (by kernel_rfl)
  refine d_ek (undef) (by kernel_rfl) (map_ok q208) (st_anc (by kernel_rfl) (st_anc (by kernel_rfl) (st_anc (by kernel_rfl) (st_anc (by kernel_rfl) (st_nil))))) ?_
  refine d_qk (.nilIface) (by kernel_rfl) ?_
  refine d_nil ?_
  refine k125 _ _ ?_
  refine w_ret ?_
  refine b_ret (fn := Tryd.f12) (vs := [.agg #[.slice a138 n139 c140, .slice a153 n154 c155, .slice a171 n172 c173, .slice a186 n187 c188, .slice a204 n205 c206], .nilIface]) (aRes_cell (Eq.trans (b := aLoad Tryd.prog 31 (.pointer (some ⟨b53, 0, none⟩)) H207) (by kernel_rfl) (r210.ld (by kernel_rfl))) (aRes_tmp (by kernel_rfl) (rfl))) ?_
  have u216 := (u215.fr e209 (Dj.symm (i136.djn (r57.ltF.le (ntr (ntr (ntr (ntr (ntr (ntr e73.next e92.next) e98.next) e104.next) e110.next) e116.next) e122.next)))))
  have u217 := (u214.fr e209 (Dj.symm (i151.djn (r57.ltF.le (ntr (ntr (ntr (ntr (ntr (ntr (ntr e73.next e92.next) e98.next) e104.next) e110.next) e116.next) e122.next) e134.next)))))
  have u218 := (u213.fr e209 (Dj.symm (i169.djn (r57.ltF.le (ntr (ntr (ntr (ntr (ntr (ntr (ntr (ntr e73.next e92.next) e98.next) e104.next) e110.next) e116.next) e122.next) e134.next) e149.next)))))
  have u219 := (u212.fr e209 (Dj.symm (i184.djn (r57.ltF.le (ntr (ntr (ntr (ntr (ntr (ntr (ntr (ntr (ntr e73.next e92.next) e98.next) e104.next) e110.next) e116.next) e122.next) e134.next) e149.next) e167.next)))))
  have u220 := (m201.fr e209 (Dj.symm (i202.djn (r57.ltF.le (ntr (ntr (ntr (ntr (ntr (ntr (ntr (ntr (ntr (ntr e73.next e92.next) e98.next) e104.next) e110.next) e116.next) e122.next) e134.next) e149.next) e167.next) e182.next)))))
  obtain rfl := Option.some.inj r196
  exact ⟨(.slice a138 n139 c140), f132, (.slice a153 n154 c155), f147, (.slice a171 n172 c173), f165, (.slice a186 n187 c188), f180, (.slice a204 n205 c206), f198, (.nilIface), [], rfl, (FrS.step wf (FrS.step wf (FrS.step wf (FrS.step wf (FrS.step wf (FrS.step wf (FrS.step wf ((FrS.step wf (FrS.step wf (((FrS.step wf (((FrS.refl (W := []) wf).extR e49).extR e55) e73 Inn.nil).extR e92).extR e98) e104 (hb93.fresh (ntr (ntr e49.next e55.next) e73.next))) e110 (hb99.fresh (ntr (ntr (ntr e49.next e55.next) e73.next) e92.next))).extR e116) e122 (hb117.fresh (ntr (ntr (ntr (ntr (ntr (ntr e49.next e55.next) e73.next) e92.next) e98.next) e104.next) e110.next))) e134 Inn.nil) e149 Inn.nil) e167 Inn.nil) e182 Inn.nil) e200 Inn.nil) e209 (hb56.fresh e49.next)), u216, u217, u218, u219, u220, Ev.nil, (i136.fresh (ntr (ntr (ntr (ntr (ntr (ntr (ntr (ntr e49.next e55.next) e73.next) e92.next) e98.next) e104.next) e110.next) e116.next) e122.next)), (i151.fresh (ntr (ntr (ntr (ntr (ntr (ntr (ntr (ntr (ntr e49.next e55.next) e73.next) e92.next) e98.next) e104.next) e110.next) e116.next) e122.next) e134.next)), (i169.fresh (ntr (ntr (ntr (ntr (ntr (ntr (ntr (ntr (ntr (ntr e49.next e55.next) e73.next) e92.next) e98.next) e104.next) e110.next) e116.next) e122.next) e134.next) e149.next)), (i184.fresh (ntr (ntr (ntr (ntr (ntr (ntr (ntr (ntr (ntr (ntr (ntr e49.next e55.next) e73.next) e92.next) e98.next) e104.next) e110.next) e116.next) e122.next) e134.next) e149.next) e167.next)), (i202.fresh (ntr (ntr (ntr (ntr (ntr (ntr (ntr (ntr (ntr (ntr (ntr (ntr e49.next e55.next) e73.next) e92.next) e98.next) e104.next) e110.next) e116.next) e122.next) e134.next) e149.next) e167.next) e182.next)), Inn.nil, (Dj.symm (i151.djn m135.lt)), (Dj.symm (i169.djn (m135.lt.le e149.next))), (Dj.symm (i169.djn m150.lt)), (Dj.symm (i184.djn (m135.lt.le (ntr e149.next e167.next)))), (Dj.symm (i184.djn (m150.lt.le e167.next))), (Dj.symm (i184.djn m168.lt)), (Dj.symm (i202.djn (m135.lt.le (ntr (ntr e149.next e167.next) e182.next)))), (Dj.symm (i202.djn (m150.lt.le (ntr e167.next e182.next)))), (Dj.symm (i202.djn (m168.lt.le e182.next))), (Dj.symm (i202.djn m183.lt)), Dj.nil_r, Dj.nil_r, Dj.nil_r, Dj.nil_r, Dj.nil_r⟩
 ·have r221 := ite_f h78 r69
  refine s_ql (.bool true) (x := aBin Tryd.prog .neq 41 (.tmp 11) (.const .nilIface) (.iface t79 x80) .nilIface) (by kernel_rfl) (aBin_nnil (by kernel_rfl)) ?_
  refine s_nil ?_
  refine k77 _ _ ?_
  refine w_cond true (by kernel_rfl) rfl (fun _ => ?_) (fun h => by cases h)
  refine w_seqk fun K222 k222 => ?_
  refine w_reg (by kernel_rfl) ?_
  refine s_qk (.agg #[.slice none 0 0, .slice none 0 0, .slice none 0 0, .slice none 0 0, .slice none 0 0]) (by kernel_rfl) ?_
  refine s_qk (.iface t79 x80) (by kernel_rfl) ?_
  have u227 := (r57.frS e73 Dj.nil_l)
  obtain ⟨H223, q224, e225, r226⟩ := Row.store (P := Tryd.prog) (t := 31) (p := 0) e73.wf u227 (.agg #[.slice none 0 0, .slice none 0 0, .slice none 0 0, .slice none 0 0, .slice none 0 0]) [.slice none 0 0, .slice none 0 0, .slice none 0 0, .slice none 0 0, .slice none 0 0] (by kernel_rfl) (by kernel_rfl) (one_cons (rfl) (one_cons (rfl) (one_cons (rfl) (one_cons (rfl) (one_cons (rfl) (one_nil)))))) (Nat.le_of_ble_eq_true (by kernel_rfl)) [.slice none 0 0, .slice none 0 0, .slice none 0 0, .slice none 0 0, .slice none 0 0] (by kernel_rfl)
  refine s_ek (undef) (by kernel_rfl) (map_ok q224) ?_
  refine s_qk (.iface t79 x80) (by kernel_rfl) ?_
  refine s_nil ?_
  refine k222 _ _ ?_
  refine w_ret (th_ret ?_)
  refine b_ret (fn := Tryd.f12) (vs := [.agg #[.slice none 0 0, .slice none 0 0, .slice none 0 0, .slice none 0 0, .slice none 0 0], .iface t79 x80]) (aRes_cell (Eq.trans (b := aLoad Tryd.prog 31 (.pointer (some ⟨b53, 0, none⟩)) H223) (by kernel_rfl) (r226.ld (by kernel_rfl))) (aRes_tmp (by kernel_rfl) (rfl))) ?_
  have u228 := (m74.fr e225 (Dj.symm (i75.djn r57.ltF)))
  obtain rfl := Option.some.inj r221
  exact ⟨(.slice none 0 0), [], (.slice none 0 0), [], (.slice none 0 0), [], (.slice none 0 0), [], (.slice none 0 0), [], (.iface t79 x80), f71, rfl, (FrS.step wf (FrS.step wf (((FrS.refl (W := []) wf).extR e49).extR e55) e73 Inn.nil) e225 (hb56.fresh e49.next)), (Ow.nil (by decide)), (Ow.nil (by decide)), (Ow.nil (by decide)), (Ow.nil (by decide)), (Ow.nil (by decide)), u228, Inn.nil, Inn.nil, Inn.nil, Inn.nil, Inn.nil, (i75.fresh (ntr e49.next e55.next)), Dj.nil_l, Dj.nil_l, Dj.nil_l, Dj.nil_l, Dj.nil_l, Dj.nil_l, Dj.nil_l, Dj.nil_l, Dj.nil_l, Dj.nil_l, Dj.nil_l, Dj.nil_l, Dj.nil_l, Dj.nil_l, Dj.nil_l⟩

theorem c_viaductref02_SameInts {H : AH} {hd_a : Value} {fp_a : Fp} {hd_b : Value} {fp_b : Fp} {a : List (Int)} {b : List (Int)} {r : Bool}
  (wf : WF H) (h_a : Sq (encI .i64) 1 H hd_a a fp_a) (h_b : Sq (encI .i64) 1 H hd_b b fp_b) (hr : z_viaductref02_SameInts a b = some r) :
  ACalls Tryd.prog 14 #[hd_a, hd_b] H fun v H' => v = .bool r ∧ H = H' := by
 refine acalls_of_body mixed Tryd.func14 rfl (Nat.le_of_ble_eq_true rfl) ?_
 unfold z_viaductref02_SameInts at hr
 refine w_seqk fun K1 k1 => ?_
 refine w_reg (by kernel_rfl) ?_
 refine s_qk (.bool false) (by kernel_rfl) ?_
 refine s_nil ?_
 refine k1 _ _ ?_
 refine w_seqk fun K2 k2 => ?_
 refine w_seqk fun K3 k3 => ?_
 refine w_reg (by kernel_rfl) ?_
 refine s_qk (hd_a) (by kernel_rfl) ?_
 refine s_ql (.int .i64 (a.length : Int)) (x := aLen Tryd.prog 45 hd_a H) (by kernel_rfl) (h_a.lenb (by kernel_rfl)) ?_
 refine s_qk (hd_b) (by kernel_rfl) ?_
 refine s_ql (.int .i64 (b.length : Int)) (x := aLen Tryd.prog 45 hd_b H) (by kernel_rfl) (h_b.lenb (by kernel_rfl)) ?_
 refine s_qk (.bool (!decide ((a.length : Int) = (b.length : Int)))) (by kernel_rfl) ?_
 refine s_nil ?_
 refine k3 _ _ ?_
 refine w_condn ((a.length : Int) = (b.length : Int)) (by kernel_rfl) rfl (fun h4 => ?_) (fun h4 => ?_)
 ·have r5 := ite_f h4 hr
  refine w_seqk fun K6 k6 => ?_
  refine w_reg (by kernel_rfl) ?_
  refine s_qk (.bool false) (by kernel_rfl) ?_
  refine s_nil ?_
  refine k6 _ _ ?_
  refine w_ret (th_ret ?_)
  refine b_ret (fn := Tryd.f14) (vs := [.bool false]) (aRes_tmp (by kernel_rfl) (rfl)) ?_
  obtain rfl := Option.some.inj r5
  exact ⟨rfl, rfl⟩
 ·have r7 := ite_t h4 hr
  refine w_skip ?_
  refine k2 _ _ ?_
  refine w_seqk fun K8 k8 => ?_
  refine w_seqk fun K9 k9 => ?_
  refine w_reg (by kernel_rfl) ?_
  refine s_qk (hd_a) (by kernel_rfl) ?_
  refine s_ql (.int .i64 (a.length : Int)) (x := aLen Tryd.prog 45 hd_a H) (by kernel_rfl) (h_a.lenb (by kernel_rfl)) ?_
  refine s_qk (.int .i64 0) (by kernel_rfl) ?_
  refine s_nil ?_
  refine k9 _ _ ?_
  obtain ⟨z13, hx11, r12⟩ := bind_some r7
  refine w_mid (fun α H14 => ∃ o10, z13 = Sum.inr o10 ∧ Has α [] ∧ H = H14) (fun K16 k16 => ?_) (fun α H14 hM => ?_)
  ·refine w_block ?_
   obtain ⟨n18, hn19⟩ := loopO_iff.1 hx11
   refine w_loopn (fun n α H20 => ∃ (i0 : Int), iterO (fun zz_ => z_viaductref02_SameInts_l0 a b zz_) n i0 = some z13 ∧ Has α [(0, hd_a), (1, hd_b), (12, .int .i64 (a.length : Int)), (13, .int .i64 i0)] ∧ H = H20) n18 ⟨0, hn19, ⟨by kernel_rfl, by kernel_rfl, by kernel_rfl, by kernel_rfl, trivial⟩, rfl⟩ ?_
   rintro n18 α H20 ⟨i0, hi23, hh22, rfl⟩ K28 k28
   obtain ⟨n24, z25, rfl, hz26, hn27⟩ := iter_succ hi23
   obtain ⟨β, rfl⟩ := has_ex hh22
   clear hh22
   replace hz26 : z_viaductref02_SameInts_l0 a b i0 = some z25 := hz26
   unfold z_viaductref02_SameInts_l0 at hz26
   refine w_seqk fun K29 k29 => ?_
   refine w_reg (by kernel_rfl) ?_
   refine s_qk (.bool (decide (i0 < (a.length : Int)))) (by kernel_rfl) ?_
   refine s_nil ?_
   refine k29 _ _ ?_
   refine w_seqk fun K30 k30 => ?_
   refine w_condp (i0 < (a.length : Int)) (by kernel_rfl) rfl (fun h31 => ?_) (fun h31 => ?_)
   ·have r32 := ite_t h31 hz26
    refine w_skip ?_
    refine k30 _ _ ?_
    refine w_seqk fun K33 k33 => ?_
    refine w_block ?_
    refine w_seqk fun K34 k34 => ?_
    refine w_reg (by kernel_rfl) ?_
    refine s_qk (.int .i64 i0) (by kernel_rfl) ?_
    refine s_qk (.int .i64 i0) (by kernel_rfl) ?_
    refine s_nil ?_
    refine k34 _ _ ?_
    refine w_seqk fun K35 k35 => ?_
    refine w_draw [0, 1, 2, 3, 4, 5, 6, 7, 8] (by kernel_rfl) ?_
    refine d_qk (hd_a) (by kernel_rfl) ?_
    refine d_qk (.int .i64 i0) (by kernel_rfl) ?_
    obtain ⟨g36, r37⟩ := G_some r32
    refine d_ql (elp hd_a 1 i0.toNat 0) (x := aIndexAddr Tryd.prog 45 hd_a (.int .i64 i0)) (by kernel_rfl) (h_a.idxb (by kernel_rfl) g36 h31) ?_
    refine d_ql (.int .i64 (gt a i0)) (x := aLoad Tryd.prog 3 (elp hd_a 1 i0.toNat 0) H) (by kernel_rfl) (h_a.ld g36 h31 (by kernel_rfl)) ?_
    refine d_qk (hd_b) (by kernel_rfl) ?_
    refine d_qk (.int .i64 i0) (by kernel_rfl) ?_
    obtain ⟨g38, r39⟩ := G_some r37
    refine d_ql (elp hd_b 1 i0.toNat 0) (x := aIndexAddr Tryd.prog 45 hd_b (.int .i64 i0)) (by kernel_rfl) (h_b.idxb (by kernel_rfl) g36 g38) ?_
    refine d_ql (.int .i64 (gt b i0)) (x := aLoad Tryd.prog 3 (elp hd_b 1 i0.toNat 0) H) (by kernel_rfl) (h_b.ld g36 g38 (by kernel_rfl)) ?_
    refine d_qk (.bool (!decide ((gt a i0) = (gt b i0)))) (by kernel_rfl) ?_
    refine d_nil ?_
    refine k35 _ _ ?_
    refine w_condn ((gt a i0) = (gt b i0)) (by kernel_rfl) rfl (fun h40 => ?_) (fun h40 => ?_)
    ·have r41 := ite_f h40 r39
     refine w_seqk fun K42 k42 => ?_
     refine w_reg (by kernel_rfl) ?_
     refine s_qk (.bool false) (by kernel_rfl) ?_
     refine s_nil ?_
     refine k42 _ _ ?_
     refine w_ret (bl_ret (th_ret (th_ret (bl_ret (th_ret (th_ret ?_))))))
     obtain ⟨v43, hv44, hz45⟩ := map_some r41
     subst hz45
     obtain rfl := it_inr hn27
     have hq46 := elim_inl r12
     rw [hq46] at hv44
     refine b_ret (fn := Tryd.f14) (vs := [.bool false]) (aRes_tmp (by kernel_rfl) (rfl)) ?_
     obtain rfl := Option.some.inj hv44
     exact ⟨rfl, rfl⟩
    ·have r47 := ite_t h40 r39
     refine w_skip ?_
     refine k33 _ _ ?_
     refine w_reg (by kernel_rfl) ?_
     obtain ⟨g48, r49⟩ := G_some r47
     refine s_w ((i0 + 1)) (k := .i64) (x := (i0 + 1)) (by kernel_rfl) (wrap64 (by have := g48; omega)) ?_
     refine s_qk (.int .i64 (i0 + 1)) (by kernel_rfl) ?_
     refine s_nil ?_
     obtain rfl := Option.some.inj r49
     exact k28 n24 _ _ (Nat.lt_succ_self _) ⟨(i0 + 1), hn27, ⟨by kernel_rfl, by kernel_rfl, by kernel_rfl, by kernel_rfl, trivial⟩, rfl⟩
   ·have r50 := ite_f h31 hz26
    refine w_exit (th_exit (th_exit (bl_eq ?_)))
    obtain rfl := Option.some.inj r50
    obtain rfl := it_inr hn27
    exact k16 _ _ ⟨_, rfl, trivial, rfl⟩
  ·obtain ⟨o10, rfl, hh17, rfl⟩ := hM
   have r51 := elim_inr r12
   obtain ⟨β, rfl⟩ := has_ex hh17
   clear hh17
   refine k8 _ _ ?_
   refine w_seqk fun K52 k52 => ?_
   refine w_reg (by kernel_rfl) ?_
   refine s_qk (.bool true) (by kernel_rfl) ?_
   refine s_nil ?_
   refine k52 _ _ ?_
   refine w_ret ?_
   refine b_ret (fn := Tryd.f14) (vs := [.bool true]) (aRes_tmp (by kernel_rfl) (rfl)) ?_
   obtain rfl := Option.some.inj r51
   exact ⟨rfl, rfl⟩

theorem c_viaductref10_SameWords {H : AH} {hd_a : Value} {fp_a : Fp} {hd_b : Value} {fp_b : Fp} {a : List (Int)} {b : List (Int)} {r : Bool}
  (wf : WF H) (h_a : Sq (encI .u32) 1 H hd_a a fp_a) (h_b : Sq (encI .u32) 1 H hd_b b fp_b) (hr : z_viaductref10_SameWords a b = some r) :
  ACalls Tryd.prog 25 #[hd_a, hd_b] H fun v H' => v = .bool r ∧ H = H' := by
 refine acalls_of_body mixed Tryd.func25 rfl (Nat.le_of_ble_eq_true rfl) ?_
 unfold z_viaductref10_SameWords at hr
 refine w_seqk fun K1 k1 => ?_
 refine w_reg (by kernel_rfl) ?_
 refine s_qk (.bool false) (by kernel_rfl) ?_
 refine s_nil ?_
 refine k1 _ _ ?_
 refine w_seqk fun K2 k2 => ?_
 refine w_seqk fun K3 k3 => ?_
 refine w_reg (by kernel_rfl) ?_
 refine s_qk (hd_a) (by kernel_rfl) ?_
 refine s_ql (.int .i64 (a.length : Int)) (x := aLen Tryd.prog 28 hd_a H) (by kernel_rfl) (h_a.lenb (by kernel_rfl)) ?_
 refine s_qk (hd_b) (by kernel_rfl) ?_
 refine s_ql (.int .i64 (b.length : Int)) (x := aLen Tryd.prog 28 hd_b H) (by kernel_rfl) (h_b.lenb (by kernel_rfl)) ?_
 refine s_qk (.bool (!decide ((a.length : Int) = (b.length : Int)))) (by kernel_rfl) ?_
 refine s_nil ?_
 refine k3 _ _ ?_
 refine w_condn ((a.length : Int) = (b.length : Int)) (by kernel_rfl) rfl (fun h4 => ?_) (fun h4 => ?_)
 ·have r5 := ite_f h4 hr
  refine w_seqk fun K6 k6 => ?_
  refine w_reg (by kernel_rfl) ?_
  refine s_qk (.bool false) (by kernel_rfl) ?_
  refine s_nil ?_
  refine k6 _ _ ?_
  refine w_ret (th_ret ?_)
  refine b_ret (fn := Tryd.f25) (vs := [.bool false]) (aRes_tmp (by kernel_rfl) (rfl)) ?_
  obtain rfl := Option.some.inj r5
  exact ⟨rfl, rfl⟩
 ·have r7 := ite_t h4 hr
  refine w_skip ?_
  refine k2 _ _ ?_
  refine w_seqk fun K8 k8 => ?_
  refine w_seqk fun K9 k9 => ?_
  refine w_reg (by kernel_rfl) ?_
  refine s_qk (hd_a) (by kernel_rfl) ?_
  refine s_ql (.int .i64 (a.length : Int)) (x := aLen Tryd.prog 28 hd_a H) (by kernel_rfl) (h_a.lenb (by kernel_rfl)) ?_
  refine s_qk (.int .i64 0) (by kernel_rfl) ?_
  refine s_nil ?_
  refine k9 _ _ ?_
  obtain ⟨z13, hx11, r12⟩ := bind_some r7
  refine w_mid (fun α H14 => ∃ o10, z13 = Sum.inr o10 ∧ Has α [] ∧ H = H14) (fun K16 k16 => ?_) (fun α H14 hM => ?_)
  ·refine w_block ?_
   obtain ⟨n18, hn19⟩ := loopO_iff.1 hx11
   refine w_loopn (fun n α H20 => ∃ (i0 : Int), iterO (fun zz_ => z_viaductref10_SameWords_l0 a b zz_) n i0 = some z13 ∧ Has α [(0, hd_a), (1, hd_b), (12, .int .i64 (a.length : Int)), (13, .int .i64 i0)] ∧ H = H20) n18 ⟨0, hn19, ⟨by kernel_rfl, by kernel_rfl, by kernel_rfl, by kernel_rfl, trivial⟩, rfl⟩ ?_
   rintro n18 α H20 ⟨i0, hi23, hh22, rfl⟩ K28 k28
   obtain ⟨n24, z25, rfl, hz26, hn27⟩ := iter_succ hi23
   obtain ⟨β, rfl⟩ := has_ex hh22
   clear hh22
   replace hz26 : z_viaductref10_SameWords_l0 a b i0 = some z25 := hz26
   unfold z_viaductref10_SameWords_l0 at hz26
   refine w_seqk fun K29 k29 => ?_
   refine w_reg (by kernel_rfl) ?_
   refine s_qk (.bool (decide (i0 < (a.length : Int)))) (by kernel_rfl) ?_
   refine s_nil ?_
   refine k29 _ _ ?_
   refine w_seqk fun K30 k30 => ?_
   refine w_condp (i0 < (a.length : Int)) (by kernel_rfl) rfl (fun h31 => ?_) (fun h31 => ?_)
   ·have r32 := ite_t h31 hz26
    refine w_skip ?_
    refine k30 _ _ ?_
    refine w_seqk fun K33 k33 => ?_
    refine w_block ?_
    refine w_seqk fun K34 k34 => ?_
    refine w_reg (by kernel_rfl) ?_
    refine s_qk (.int .i64 i0) (by kernel_rfl) ?_
    refine s_qk (.int .i64 i0) (by kernel_rfl) ?_
    refine s_nil ?_
    refine k34 _ _ ?_
    refine w_seqk fun K35 k35 => ?_
    refine w_draw [0, 1, 2, 3, 4, 5, 6, 7, 8] (by kernel_rfl) ?_
    refine d_qk (hd_a) (by kernel_rfl) ?_
    refine d_qk (.int .i64 i0) (by kernel_rfl) ?_
    obtain ⟨g36, r37⟩ := G_some r32
    refine d_ql (elp hd_a 1 i0.toNat 0) (x := aIndexAddr Tryd.prog 28 hd_a (.int .i64 i0)) (by kernel_rfl) (h_a.idxb (by kernel_rfl) g36 h31) ?_
    refine d_ql (.int .u32 (gt a i0)) (x := aLoad Tryd.prog 34 (elp hd_a 1 i0.toNat 0) H) (by kernel_rfl) (h_a.ld g36 h31 (by kernel_rfl)) ?_
    refine d_qk (hd_b) (by kernel_rfl) ?_
    refine d_qk (.int .i64 i0) (by kernel_rfl) ?_
    obtain ⟨g38, r39⟩ := G_some r37
    refine d_ql (elp hd_b 1 i0.toNat 0) (x := aIndexAddr Tryd.prog 28 hd_b (.int .i64 i0)) (by kernel_rfl) (h_b.idxb (by kernel_rfl) g36 g38) ?_
    refine d_ql (.int .u32 (gt b i0)) (x := aLoad Tryd.prog 34 (elp hd_b 1 i0.toNat 0) H) (by kernel_rfl) (h_b.ld g36 g38 (by kernel_rfl)) ?_
    refine d_qk (.bool (!decide ((gt a i0) = (gt b i0)))) (by kernel_rfl) ?_
    refine d_nil ?_
    refine k35 _ _ ?_
    refine w_condn ((gt a i0) = (gt b i0)) (by kernel_rfl) rfl (fun h40 => ?_) (fun h40 => ?_)
    ·have r41 := ite_f h40 r39
     refine w_seqk fun K42 k42 => ?_
     refine w_reg (by kernel_rfl) ?_
     refine s_qk (.bool false) (by kernel_rfl) ?_
     refine s_nil ?_
     refine k42 _ _ ?_
     refine w_ret (bl_ret (th_ret (th_ret (bl_ret (th_ret (th_ret ?_))))))
     obtain ⟨v43, hv44, hz45⟩ := map_some r41
     subst hz45
     obtain rfl := it_inr hn27
     have hq46 := elim_inl r12
     rw [hq46] at hv44
     refine b_ret (fn := Tryd.f25) (vs := [.bool false]) (aRes_tmp (by kernel_rfl) (rfl)) ?_
     obtain rfl := Option.some.inj hv44
     exact ⟨rfl, rfl⟩
    ·have r47 := ite_t h40 r39
     refine w_skip ?_
     refine k33 _ _ ?_
     refine w_reg (by kernel_rfl) ?_
     obtain ⟨g48, r49⟩ := G_some r47
     refine s_w ((i0 + 1)) (k := .i64) (x := (i0 + 1)) (by kernel_rfl) (wrap64 (by have := g48; omega)) ?_
     refine s_qk (.int .i64 (i0 + 1)) (by kernel_rfl) ?_
     refine s_nil ?_
     obtain rfl := Option.some.inj r49
     exact k28 n24 _ _ (Nat.lt_succ_self _) ⟨(i0 + 1), hn27, ⟨by kernel_rfl, by kernel_rfl, by kernel_rfl, by kernel_rfl, trivial⟩, rfl⟩
   ·have r50 := ite_f h31 hz26
    refine w_exit (th_exit (th_exit (bl_eq ?_)))
    obtain rfl := Option.some.inj r50
    obtain rfl := it_inr hn27
    exact k16 _ _ ⟨_, rfl, trivial, rfl⟩
  ·obtain ⟨o10, rfl, hh17, rfl⟩ := hM
   have r51 := elim_inr r12
   obtain ⟨β, rfl⟩ := has_ex hh17
   clear hh17
   refine k8 _ _ ?_
   refine w_seqk fun K52 k52 => ?_
   refine w_reg (by kernel_rfl) ?_
   refine s_qk (.bool true) (by kernel_rfl) ?_
   refine s_nil ?_
   refine k52 _ _ ?_
   refine w_ret ?_
   refine b_ret (fn := Tryd.f25) (vs := [.bool true]) (aRes_tmp (by kernel_rfl) (rfl)) ?_
   obtain rfl := Option.some.inj r51
   exact ⟨rfl, rfl⟩

theorem c_viaductref10_SameLinks {H : AH} {hd_a : Value} {fp_a : Fp} {hd_b : Value} {fp_b : Fp} {a : List (Int × Int × Int × Int)} {b : List (Int × Int × Int × Int)} {r : Bool}
  (wf : WF H) (h_a : Sq enc_u32_u64_u32_u32 4 H hd_a a fp_a) (h_b : Sq enc_u32_u64_u32_u32 4 H hd_b b fp_b) (hr : z_viaductref10_SameLinks a b = some r) :
  ACalls Tryd.prog 26 #[hd_a, hd_b] H fun v H' => v = .bool r ∧ H = H' := by
 refine acalls_of_body mixed Tryd.func26 rfl (Nat.le_of_ble_eq_true rfl) ?_
 unfold z_viaductref10_SameLinks at hr
 refine w_seqk fun K1 k1 => ?_
 refine w_reg (by kernel_rfl) ?_
 refine s_qk (.bool false) (by kernel_rfl) ?_
 refine s_nil ?_
 refine k1 _ _ ?_
 refine w_seqk fun K2 k2 => ?_
 refine w_seqk fun K3 k3 => ?_
 refine w_reg (by kernel_rfl) ?_
 refine s_qk (hd_a) (by kernel_rfl) ?_
 refine s_ql (.int .i64 (a.length : Int)) (x := aLen Tryd.prog 29 hd_a H) (by kernel_rfl) (h_a.lenb (by kernel_rfl)) ?_
 refine s_qk (hd_b) (by kernel_rfl) ?_
 refine s_ql (.int .i64 (b.length : Int)) (x := aLen Tryd.prog 29 hd_b H) (by kernel_rfl) (h_b.lenb (by kernel_rfl)) ?_
 refine s_qk (.bool (!decide ((a.length : Int) = (b.length : Int)))) (by kernel_rfl) ?_
 refine s_nil ?_
 refine k3 _ _ ?_
 refine w_condn ((a.length : Int) = (b.length : Int)) (by kernel_rfl) rfl (fun h4 => ?_) (fun h4 => ?_)
 ·have r5 := ite_f h4 hr
  refine w_seqk fun K6 k6 => ?_
  refine w_reg (by kernel_rfl) ?_
  refine s_qk (.bool false) (by kernel_rfl) ?_
  refine s_nil ?_
  refine k6 _ _ ?_
  refine w_ret (th_ret ?_)
  refine b_ret (fn := Tryd.f26) (vs := [.bool false]) (aRes_tmp (by kernel_rfl) (rfl)) ?_
  obtain rfl := Option.some.inj r5
  exact ⟨rfl, rfl⟩
 ·have r7 := ite_t h4 hr
  refine w_skip ?_
  refine k2 _ _ ?_
  refine w_seqk fun K8 k8 => ?_
  refine w_seqk fun K9 k9 => ?_
  refine w_reg (by kernel_rfl) ?_
  refine s_qk (hd_a) (by kernel_rfl) ?_
  refine s_ql (.int .i64 (a.length : Int)) (x := aLen Tryd.prog 29 hd_a H) (by kernel_rfl) (h_a.lenb (by kernel_rfl)) ?_
  refine s_qk (.int .i64 0) (by kernel_rfl) ?_
  refine s_nil ?_
  refine k9 _ _ ?_
  obtain ⟨z13, hx11, r12⟩ := bind_some r7
  refine w_mid (fun α H14 => ∃ o10, z13 = Sum.inr o10 ∧ Has α [] ∧ H = H14) (fun K16 k16 => ?_) (fun α H14 hM => ?_)
  ·refine w_block ?_
   obtain ⟨n18, hn19⟩ := loopO_iff.1 hx11
   refine w_loopn (fun n α H20 => ∃ (i0 : Int), iterO (fun zz_ => z_viaductref10_SameLinks_l0 a b zz_) n i0 = some z13 ∧ Has α [(0, hd_a), (1, hd_b), (12, .int .i64 (a.length : Int)), (13, .int .i64 i0)] ∧ H = H20) n18 ⟨0, hn19, ⟨by kernel_rfl, by kernel_rfl, by kernel_rfl, by kernel_rfl, trivial⟩, rfl⟩ ?_
   rintro n18 α H20 ⟨i0, hi23, hh22, rfl⟩ K28 k28
   obtain ⟨n24, z25, rfl, hz26, hn27⟩ := iter_succ hi23
   obtain ⟨β, rfl⟩ := has_ex hh22
   clear hh22
   replace hz26 : z_viaductref10_SameLinks_l0 a b i0 = some z25 := hz26
   unfold z_viaductref10_SameLinks_l0 at hz26
   refine w_seqk fun K29 k29 => ?_
   refine w_reg (by kernel_rfl) ?_
   refine s_qk (.bool (decide (i0 < (a.length : Int)))) (by kernel_rfl) ?_
   refine s_nil ?_
   refine k29 _ _ ?_
   refine w_seqk fun K30 k30 => ?_
   refine w_condp (i0 < (a.length : Int)) (by kernel_rfl) rfl (fun h31 => ?_) (fun h31 => ?_)
   ·have r32 := ite_t h31 hz26
    refine w_skip ?_
    refine k30 _ _ ?_
    refine w_seqk fun K33 k33 => ?_
    refine w_block ?_
    refine w_seqk fun K34 k34 => ?_
    refine w_reg (by kernel_rfl) ?_
    refine s_qk (.int .i64 i0) (by kernel_rfl) ?_
    refine s_qk (.int .i64 i0) (by kernel_rfl) ?_
    refine s_nil ?_
    refine k34 _ _ ?_
    refine w_seqk fun K35 k35 => ?_
    refine w_draw [0, 1, 2, 3, 4, 5, 6, 7, 8] (by kernel_rfl) ?_
    refine d_qk (hd_a) (by kernel_rfl) ?_
    refine d_qk (.int .i64 i0) (by kernel_rfl) ?_
    obtain ⟨g36, r37⟩ := G_some r32
    refine d_ql (elp hd_a 4 i0.toNat 0) (x := aIndexAddr Tryd.prog 29 hd_a (.int .i64 i0)) (by kernel_rfl) (h_a.idxb (by kernel_rfl) g36 h31) ?_
    refine d_ql (.agg #[.int .u32 ((gt a i0).1), .int .u64 ((gt a i0).2.1), .int .u32 ((gt a i0).2.2.1), .int .u32 ((gt a i0).2.2.2)]) (x := aLoad Tryd.prog 36 (elp hd_a 4 i0.toNat 0) H) (by kernel_rfl) (h_a.ld g36 h31 (by kernel_rfl)) ?_
    refine d_qk (hd_b) (by kernel_rfl) ?_
    refine d_qk (.int .i64 i0) (by kernel_rfl) ?_
    obtain ⟨g38, r39⟩ := G_some r37
    refine d_ql (elp hd_b 4 i0.toNat 0) (x := aIndexAddr Tryd.prog 29 hd_b (.int .i64 i0)) (by kernel_rfl) (h_b.idxb (by kernel_rfl) g36 g38) ?_
    refine d_ql (.agg #[.int .u32 ((gt b i0).1), .int .u64 ((gt b i0).2.1), .int .u32 ((gt b i0).2.2.1), .int .u32 ((gt b i0).2.2.2)]) (x := aLoad Tryd.prog 36 (elp hd_b 4 i0.toNat 0) H) (by kernel_rfl) (h_b.ld g36 g38 (by kernel_rfl)) ?_
    refine d_ql (.bool (!decide (((gt a i0).1) = ((gt b i0).1) ∧ ((gt a i0).2.1) = ((gt b i0).2.1) ∧ ((gt a i0).2.2.1) = ((gt b i0).2.2.1) ∧ ((gt a i0).2.2.2) = ((gt b i0).2.2.2)))) (x := aBin Tryd.prog .neq 36 (.tmp 19) (.tmp 23) (.agg #[.int .u32 ((gt a i0).1), .int .u64 ((gt a i0).2.1), .int .u32 ((gt a i0).2.2.1), .int .u32 ((gt a i0).2.2.2)]) (.agg #[.int .u32 ((gt b i0).1), .int .u64 ((gt b i0).2.1), .int .u32 ((gt b i0).2.2.1), .int .u32 ((gt b i0).2.2.2)])) (by kernel_rfl) (aBin_neq36 _ _ ((gt a i0).1) ((gt a i0).2.1) ((gt a i0).2.2.1) ((gt a i0).2.2.2) ((gt b i0).1) ((gt b i0).2.1) ((gt b i0).2.2.1) ((gt b i0).2.2.2)) ?_
    refine d_nil ?_
    refine k35 _ _ ?_
    refine w_condn (((gt a i0).1) = ((gt b i0).1) ∧ ((gt a i0).2.1) = ((gt b i0).2.1) ∧ ((gt a i0).2.2.1) = ((gt b i0).2.2.1) ∧ ((gt a i0).2.2.2) = ((gt b i0).2.2.2)) (by kernel_rfl) rfl (fun h40 => ?_) (fun h40 => ?_)
    ·have r41 := ite_f h40 r39
     refine w_seqk fun K42 k42 => ?_
     refine w_reg (by kernel_rfl) ?_
     refine s_qk (.bool false) (by kernel_rfl) ?_
     refine s_nil ?_
     refine k42 _ _ ?_
     refine w_ret (bl_ret (th_ret (th_ret (bl_ret (th_ret (th_ret ?_))))))
     obtain ⟨v43, hv44, hz45⟩ := map_some r41
     subst hz45
     obtain rfl := it_inr hn27
     have hq46 := elim_inl r12
     rw [hq46] at hv44
     refine b_ret (fn := Tryd.f26) (vs := [.bool false]) (aRes_tmp (by kernel_rfl) (rfl)) ?_
     obtain rfl := Option.some.inj hv44
     exact ⟨rfl, rfl⟩
    ·have r47 := ite_t h40 r39
     refine w_skip ?_
     refine k33 _ _ ?_
     refine w_reg (by kernel_rfl) ?_
     obtain ⟨g48, r49⟩ := G_some r47
     refine s_w ((i0 + 1)) (k := .i64) (x := (i0 + 1)) (by kernel_rfl) (wrap64 (by have := g48; omega)) ?_
     refine s_qk (.int .i64 (i0 + 1)) (by kernel_rfl) ?_
     refine s_nil ?_
     obtain rfl := Option.some.inj r49
     exact k28 n24 _ _ (Nat.lt_succ_self _) ⟨(i0 + 1), hn27, ⟨by kernel_rfl, by kernel_rfl, by kernel_rfl, by kernel_rfl, trivial⟩, rfl⟩
   ·have r50 := ite_f h31 hz26
    refine w_exit (th_exit (th_exit (bl_eq ?_)))
    obtain rfl := Option.some.inj r50
    obtain rfl := it_inr hn27
    exact k16 _ _ ⟨_, rfl, trivial, rfl⟩
  ·obtain ⟨o10, rfl, hh17, rfl⟩ := hM
   have r51 := elim_inr r12
   obtain ⟨β, rfl⟩ := has_ex hh17
   clear hh17
   refine k8 _ _ ?_
   refine w_seqk fun K52 k52 => ?_
   refine w_reg (by kernel_rfl) ?_
   refine s_qk (.bool true) (by kernel_rfl) ?_
   refine s_nil ?_
   refine k52 _ _ ?_
   refine w_ret ?_
   refine b_ret (fn := Tryd.f26) (vs := [.bool true]) (aRes_tmp (by kernel_rfl) (rfl)) ?_
   obtain rfl := Option.some.inj r51
   exact ⟨rfl, rfl⟩

theorem c_viaductref10_Same {H : AH} {hd_Node : Value} {fp_Node : Fp} {hd_UpFirst : Value} {fp_UpFirst : Fp} {hd_Up : Value} {fp_Up : Fp} {hd_DownFirst : Value} {fp_DownFirst : Fp} {hd_Down : Value} {fp_Down : Fp} {hd_Node_ : Value} {fp_Node_ : Fp} {hd_UpFirst_ : Value} {fp_UpFirst_ : Fp} {hd_Up_ : Value} {fp_Up_ : Fp} {hd_DownFirst_ : Value} {fp_DownFirst_ : Fp} {hd_Down_ : Value} {fp_Down_ : Fp} {Node : List (Int)} {UpFirst : List (Int)} {Up : List (Int × Int × Int × Int)} {DownFirst : List (Int)} {Down : List (Int × Int × Int × Int)} {Node_ : List (Int)} {UpFirst_ : List (Int)} {Up_ : List (Int × Int × Int × Int)} {DownFirst_ : List (Int)} {Down_ : List (Int × Int × Int × Int)} {r : Bool}
  (wf : WF H) (h_Node : Sq (encI .u32) 1 H hd_Node Node fp_Node) (h_UpFirst : Sq (encI .u32) 1 H hd_UpFirst UpFirst fp_UpFirst) (h_Up : Sq enc_u32_u64_u32_u32 4 H hd_Up Up fp_Up) (h_DownFirst : Sq (encI .u32) 1 H hd_DownFirst DownFirst fp_DownFirst) (h_Down : Sq enc_u32_u64_u32_u32 4 H hd_Down Down fp_Down) (h_Node_ : Sq (encI .u32) 1 H hd_Node_ Node_ fp_Node_) (h_UpFirst_ : Sq (encI .u32) 1 H hd_UpFirst_ UpFirst_ fp_UpFirst_) (h_Up_ : Sq enc_u32_u64_u32_u32 4 H hd_Up_ Up_ fp_Up_) (h_DownFirst_ : Sq (encI .u32) 1 H hd_DownFirst_ DownFirst_ fp_DownFirst_) (h_Down_ : Sq enc_u32_u64_u32_u32 4 H hd_Down_ Down_ fp_Down_) (hr : z_viaductref10_Same Node UpFirst Up DownFirst Down Node_ UpFirst_ Up_ DownFirst_ Down_ = some r) :
  ACalls Tryd.prog 15 #[.agg #[hd_Node, hd_UpFirst, hd_Up, hd_DownFirst, hd_Down], .agg #[hd_Node_, hd_UpFirst_, hd_Up_, hd_DownFirst_, hd_Down_]] H fun v H' => v = .bool r ∧ FrS [] H H' := by
 refine acalls_of_body mixed Tryd.func15 rfl (Nat.le_of_ble_eq_true rfl) ?_
 unfold z_viaductref10_Same at hr
 refine w_seqk fun K1 k1 => ?_
 refine w_reg (by kernel_rfl) ?_
 refine s_rwl wf [hd_Node, hd_UpFirst, hd_Up, hd_DownFirst, hd_Down] (one_cons (h_Node.one1) (one_cons (h_UpFirst.one1) (one_cons (h_Up.one1) (one_cons (h_DownFirst.one1) (one_cons (h_Down.one1) (one_nil)))))) (by kernel_rfl) fun b2 H3 e4 hb5 r6 => ?_
 have u13 := (h_Down_.ext e4)
 have u14 := (h_DownFirst_.ext e4)
 have u15 := (h_Up_.ext e4)
 have u16 := (h_UpFirst_.ext e4)
 have u17 := (h_Node_.ext e4)
 refine s_rwl e4.wf [hd_Node_, hd_UpFirst_, hd_Up_, hd_DownFirst_, hd_Down_] (one_cons (u17.one1) (one_cons (u16.one1) (one_cons (u15.one1) (one_cons (u14.one1) (one_cons (u13.one1) (one_nil)))))) (by kernel_rfl) fun b8 H9 e10 hb11 r12 => ?_
 refine s_qk (.bool false) (by kernel_rfl) ?_
 refine s_nil ?_
 refine k1 _ _ ?_
 refine w_seqk fun K19 k19 => ?_
 refine w_reg (by kernel_rfl) ?_
 refine s_qk (.pointer (some ⟨b2, 0, none⟩)) (by kernel_rfl) ?_
 have u20 := (r6.ext e10)
 refine s_ql (hd_Node) (x := aLoad Tryd.prog 28 (.pointer (some ⟨b2, 0, none⟩)) H9) (by kernel_rfl) (u20.ld (by kernel_rfl)) ?_
 refine s_qk (.pointer (some ⟨b8, 0, none⟩)) (by kernel_rfl) ?_
 refine s_ql (hd_Node_) (x := aLoad Tryd.prog 28 (.pointer (some ⟨b8, 0, none⟩)) H9) (by kernel_rfl) (r12.ld (by kernel_rfl)) ?_
 have u21 := ((h_Node.ext e4).ext e10)
 have u22 := (u17.ext e10)
 obtain ⟨y23, hy24, r25⟩ := bind_some hr
 refine s_ck 25 #[hd_Node, hd_Node_] (by kernel_rfl) (c_viaductref10_SameWords e10.wf u21 u22 hy24) ?_
 rintro _ _ ⟨rfl, rfl⟩
 by_cases h28 : y23 = true
 ·have r29 := ite_t h28 r25
  rw [h28]
  refine s_qk (.bool true) (by kernel_rfl) ?_
  refine s_qk (.pointer (some ⟨b2, 1, none⟩)) (by kernel_rfl) ?_
  refine s_ql (hd_UpFirst) (x := aLoad Tryd.prog 28 (.pointer (some ⟨b2, 1, none⟩)) H9) (by kernel_rfl) (u20.ld (by kernel_rfl)) ?_
  refine s_qk (.pointer (some ⟨b8, 1, none⟩)) (by kernel_rfl) ?_
  refine s_ql (hd_UpFirst_) (x := aLoad Tryd.prog 28 (.pointer (some ⟨b8, 1, none⟩)) H9) (by kernel_rfl) (r12.ld (by kernel_rfl)) ?_
  have u31 := ((h_UpFirst.ext e4).ext e10)
  have u32 := (u16.ext e10)
  obtain ⟨y33, hy34, r35⟩ := bind_some r29
  refine s_ck 25 #[hd_UpFirst, hd_UpFirst_] (by kernel_rfl) (c_viaductref10_SameWords e10.wf u31 u32 hy34) ?_
  rintro _ _ ⟨rfl, rfl⟩
  by_cases h38 : y33 = true
  ·have r39 := ite_t h38 r35
   rw [h38]
   refine s_qk (.bool true) (by kernel_rfl) ?_
   refine s_qk (.bool true) (by kernel_rfl) ?_
   refine s_qk (.pointer (some ⟨b2, 3, none⟩)) (by kernel_rfl) ?_
   refine s_ql (hd_DownFirst) (x := aLoad Tryd.prog 28 (.pointer (some ⟨b2, 3, none⟩)) H9) (by kernel_rfl) (u20.ld (by kernel_rfl)) ?_
   refine s_qk (.pointer (some ⟨b8, 3, none⟩)) (by kernel_rfl) ?_
   refine s_ql (hd_DownFirst_) (x := aLoad Tryd.prog 28 (.pointer (some ⟨b8, 3, none⟩)) H9) (by kernel_rfl) (r12.ld (by kernel_rfl)) ?_
   have u41 := ((h_DownFirst.ext e4).ext e10)
   have u42 := (u14.ext e10)
   obtain ⟨y43, hy44, r45⟩ := bind_some r39
   refine s_ck 25 #[hd_DownFirst, hd_DownFirst_] (by kernel_rfl) (c_viaductref10_SameWords e10.wf u41 u42 hy44) ?_
   rintro _ _ ⟨rfl, rfl⟩
   by_cases h48 : y43 = true
   ·have r49 := ite_t h48 r45
    rw [h48]
    refine s_qk (.bool true) (by kernel_rfl) ?_
    refine s_qk (.bool true) (by kernel_rfl) ?_
    refine s_qk (.pointer (some ⟨b2, 2, none⟩)) (by kernel_rfl) ?_
    refine s_ql (hd_Up) (x := aLoad Tryd.prog 29 (.pointer (some ⟨b2, 2, none⟩)) H9) (by kernel_rfl) (u20.ld (by kernel_rfl)) ?_
    refine s_qk (.pointer (some ⟨b8, 2, none⟩)) (by kernel_rfl) ?_
    refine s_ql (hd_Up_) (x := aLoad Tryd.prog 29 (.pointer (some ⟨b8, 2, none⟩)) H9) (by kernel_rfl) (r12.ld (by kernel_rfl)) ?_
    have u51 := ((h_Up.ext e4).ext e10)
    have u52 := (u15.ext e10)
    obtain ⟨y53, hy54, r55⟩ := bind_some r49
    refine s_ck 26 #[hd_Up, hd_Up_] (by kernel_rfl) (c_viaductref10_SameLinks e10.wf u51 u52 hy54) ?_
    rintro _ _ ⟨rfl, rfl⟩
    by_cases h58 : y53 = true
    ·have r59 := ite_t h58 r55
     rw [h58]
     refine s_qk (.bool true) (by kernel_rfl) ?_
     refine s_qk (.bool true) (by kernel_rfl) ?_
     refine s_qk (.pointer (some ⟨b2, 4, none⟩)) (by kernel_rfl) ?_
     refine s_ql (hd_Down) (x := aLoad Tryd.prog 29 (.pointer (some ⟨b2, 4, none⟩)) H9) (by kernel_rfl) (u20.ld (by kernel_rfl)) ?_
     refine s_qk (.pointer (some ⟨b8, 4, none⟩)) (by kernel_rfl) ?_
     refine s_ql (hd_Down_) (x := aLoad Tryd.prog 29 (.pointer (some ⟨b8, 4, none⟩)) H9) (by kernel_rfl) (r12.ld (by kernel_rfl)) ?_
     have u61 := ((h_Down.ext e4).ext e10)
     have u62 := (u13.ext e10)
     obtain ⟨y63, hy64, r65⟩ := bind_some r59
     refine s_ck 26 #[hd_Down, hd_Down_] (by kernel_rfl) (c_viaductref10_SameLinks e10.wf u61 u62 hy64) ?_
     rintro _ _ ⟨rfl, rfl⟩
     refine s_qk (.bool y63) (by kernel_rfl) ?_
     refine s_qk (.bool y63) (by kernel_rfl) ?_
     refine s_nil ?_
     refine k19 _ _ ?_
     refine w_ret ?_
     refine b_ret (fn := Tryd.f15) (vs := [.bool y63]) (aRes_tmp (by kernel_rfl) (rfl)) ?_
     obtain rfl := Option.some.inj r65
     exact ⟨rfl, (((FrS.refl (W := []) wf).extR e4).extR e10)⟩
    ·have r68 := ite_f h58 r55
     rw [nb h58]
     refine s_qk (.bool false) (by kernel_rfl) ?_
     refine s_qk (.bool false) (by kernel_rfl) ?_
     refine s_no (by kernel_rfl) ?_
     refine s_no (by kernel_rfl) ?_
     refine s_no (by kernel_rfl) ?_
     refine s_no (by kernel_rfl) ?_
     refine s_no (by kernel_rfl) ?_
     refine s_qk (.bool false) (by kernel_rfl) ?_
     refine s_qk (.bool false) (by kernel_rfl) ?_
     refine s_nil ?_
     refine k19 _ _ ?_
     refine w_ret ?_
     refine b_ret (fn := Tryd.f15) (vs := [.bool false]) (aRes_tmp (by kernel_rfl) (rfl)) ?_
     obtain rfl := Option.some.inj r68
     exact ⟨rfl, (((FrS.refl (W := []) wf).extR e4).extR e10)⟩
   ·have r70 := ite_f h48 r45
    rw [nb h48]
    refine s_qk (.bool false) (by kernel_rfl) ?_
    refine s_qk (.bool false) (by kernel_rfl) ?_
    refine s_no (by kernel_rfl) ?_
    refine s_no (by kernel_rfl) ?_
    refine s_no (by kernel_rfl) ?_
    refine s_no (by kernel_rfl) ?_
    refine s_no (by kernel_rfl) ?_
    refine s_qk (.bool false) (by kernel_rfl) ?_
    refine s_qk (.bool false) (by kernel_rfl) ?_
    refine s_no (by kernel_rfl) ?_
    refine s_no (by kernel_rfl) ?_
    refine s_no (by kernel_rfl) ?_
    refine s_no (by kernel_rfl) ?_
    refine s_no (by kernel_rfl) ?_
    refine s_qk (.bool false) (by kernel_rfl) ?_
    refine s_qk (.bool false) (by kernel_rfl) ?_
    refine s_nil ?_
    refine k19 _ _ ?_
    refine w_ret ?_
    refine b_ret (fn := Tryd.f15) (vs := [.bool false]) (aRes_tmp (by kernel_rfl) (rfl)) ?_
    obtain rfl := Option.some.inj r70
    exact ⟨rfl, (((FrS.refl (W := []) wf).extR e4).extR e10)⟩
  ·have r72 := ite_f h38 r35
   rw [nb h38]
   refine s_qk (.bool false) (by kernel_rfl) ?_
   refine s_qk (.bool false) (by kernel_rfl) ?_
   refine s_no (by kernel_rfl) ?_
   refine s_no (by kernel_rfl) ?_
   refine s_no (by kernel_rfl) ?_
   refine s_no (by kernel_rfl) ?_
   refine s_no (by kernel_rfl) ?_
   refine s_qk (.bool false) (by kernel_rfl) ?_
   refine s_qk (.bool false) (by kernel_rfl) ?_
   refine s_no (by kernel_rfl) ?_
   refine s_no (by kernel_rfl) ?_
   refine s_no (by kernel_rfl) ?_
   refine s_no (by kernel_rfl) ?_
   refine s_no (by kernel_rfl) ?_
   refine s_qk (.bool false) (by kernel_rfl) ?_
   refine s_qk (.bool false) (by kernel_rfl) ?_
   refine s_no (by kernel_rfl) ?_
   refine s_no (by kernel_rfl) ?_
   refine s_no (by kernel_rfl) ?_
   refine s_no (by kernel_rfl) ?_
   refine s_no (by kernel_rfl) ?_
   refine s_qk (.bool false) (by kernel_rfl) ?_
   refine s_qk (.bool false) (by kernel_rfl) ?_
   refine s_nil ?_
   refine k19 _ _ ?_
   refine w_ret ?_
   refine b_ret (fn := Tryd.f15) (vs := [.bool false]) (aRes_tmp (by kernel_rfl) (rfl)) ?_
   obtain rfl := Option.some.inj r72
   exact ⟨rfl, (((FrS.refl (W := []) wf).extR e4).extR e10)⟩
 ·have r74 := ite_f h28 r25
  rw [nb h28]
  refine s_qk (.bool false) (by kernel_rfl) ?_
  refine s_no (by kernel_rfl) ?_
  refine s_no (by kernel_rfl) ?_
  refine s_no (by kernel_rfl) ?_
  refine s_no (by kernel_rfl) ?_
  refine s_no (by kernel_rfl) ?_
  refine s_qk (.bool false) (by kernel_rfl) ?_
  refine s_qk (.bool false) (by kernel_rfl) ?_
  refine s_no (by kernel_rfl) ?_
  refine s_no (by kernel_rfl) ?_
  refine s_no (by kernel_rfl) ?_
  refine s_no (by kernel_rfl) ?_
  refine s_no (by kernel_rfl) ?_
  refine s_qk (.bool false) (by kernel_rfl) ?_
  refine s_qk (.bool false) (by kernel_rfl) ?_
  refine s_no (by kernel_rfl) ?_
  refine s_no (by kernel_rfl) ?_
  refine s_no (by kernel_rfl) ?_
  refine s_no (by kernel_rfl) ?_
  refine s_no (by kernel_rfl) ?_
  refine s_qk (.bool false) (by kernel_rfl) ?_
  refine s_qk (.bool false) (by kernel_rfl) ?_
  refine s_no (by kernel_rfl) ?_
  refine s_no (by kernel_rfl) ?_
  refine s_no (by kernel_rfl) ?_
  refine s_no (by kernel_rfl) ?_
  refine s_no (by kernel_rfl) ?_
  refine s_qk (.bool false) (by kernel_rfl) ?_
  refine s_qk (.bool false) (by kernel_rfl) ?_
  refine s_nil ?_
  refine k19 _ _ ?_
  refine w_ret ?_
  refine b_ret (fn := Tryd.f15) (vs := [.bool false]) (aRes_tmp (by kernel_rfl) (rfl)) ?_
  obtain rfl := Option.some.inj r74
  exact ⟨rfl, (((FrS.refl (W := []) wf).extR e4).extR e10)⟩


end Go.Vd
