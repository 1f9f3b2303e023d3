/- The walks of the functions (printed by a program of ours). -/
import Derived.Test.YtmndpcokgbfgkaaPhl1
import Derived.Test.YtmndpcokgbfgkaaVeC
import Derived.Test.YtmndpcokgbfgkaaIHl
import Derived.Test.YtmndpcokgbfgkaaSoA
import Derived.Test.YtmndpcokgbfgkaaVeT
set_option linter.unusedVariables false
set_option linter.unusedSimpArgs false
set_option linter.unusedSectionVars false
/-! (KHl3) -/

set_option maxRecDepth 100000
set_option maxHeartbeats 4000000
set_option linter.unusedVariables false
namespace Go.Vd
open Go.Proofs
attribute [local irreducible] wpSeq wpOrd aWp
theorem c_viaductlaw10_HierFalls {H : AH} {hd_Node : Value} {fp_Node : Fp} {hd_UpFirst : Value} {fp_UpFirst : Fp} {hd_Up : Value} {fp_Up : Fp} {hd_DownFirst : Value} {fp_DownFirst : Fp} {hd_Down : Value} {fp_Down : Fp} {Node : List (Int)} {UpFirst : List (Int)} {Up : List (Int × Int × Int × Int)} {DownFirst : List (Int)} {Down : List (Int × Int × Int × Int)} {r : Bool}
  (wf : WF H) (h_Node : Sq (encI .u32) 1 H hd_Node Node fp_Node) (h_UpFirst : Sq (encI .u32) 1 H hd_UpFirst UpFirst fp_UpFirst) (h_Up : Sq enc_u32_u64_u32_u32 4 H hd_Up Up fp_Up) (h_DownFirst : Sq (encI .u32) 1 H hd_DownFirst DownFirst fp_DownFirst) (h_Down : Sq enc_u32_u64_u32_u32 4 H hd_Down Down fp_Down) (hr : z_viaductlaw10_HierFalls Node UpFirst Up DownFirst Down = some r) :
  ACalls Try.prog 3 #[.agg #[hd_Node, hd_UpFirst, hd_Up, hd_DownFirst, hd_Down]] H fun v H' => v = .bool r ∧ FrS [] H H' := by
 refine acalls_of_body mixed Try.func3 rfl (Nat.le_of_ble_eq_true rfl) ?_
 unfold z_viaductlaw10_HierFalls at hr
 refine w_seqk fun K1 k1 => ?_
 refine w_reg (by kernel_rfl) ?_
 refine s_rwl wf [hd_Node, hd_UpFirst, hd_Up, hd_DownFirst, hd_Down] (one_cons (h_Node.one1) (one_cons (h_UpFirst.one1) (one_cons (h_Up.one1) (one_cons (h_DownFirst.one1) (one_cons (h_Down.one1) (one_nil)))))) (by kernel_rfl) fun b2 H3 e4 hb5 r6 => ?_
 refine s_qk (.bool false) (by kernel_rfl) ?_
 refine s_nil ?_
 refine k1 _ _ ?_
 refine w_seqk fun K8 k8 => ?_
 refine w_seqk fun K9 k9 => ?_
 refine w_reg (by kernel_rfl) ?_
 obtain ⟨y10, hy11, r12⟩ := bind_some hr
 refine s_ck 6 #[] (by kernel_rfl) (c_viaductlaw10_awake e4.wf hy11) ?_
 rintro _ H13 ⟨rfl, e14⟩
 refine s_qk (.bool (!y10)) (by kernel_rfl) ?_
 refine s_nil ?_
 refine k9 _ _ ?_
 refine w_cond ((!y10)) (by kernel_rfl) rfl (fun h15 => ?_) (fun h15 => ?_)
 ·have r16 := ite_t h15 r12
  refine w_seqk fun K17 k17 => ?_
  refine w_reg (by kernel_rfl) ?_
  refine s_qk (.bool false) (by kernel_rfl) ?_
  refine s_nil ?_
  refine k17 _ _ ?_
  refine w_ret (th_ret ?_)
  refine b_ret (fn := Try.f3) (vs := [.bool false]) (aRes_tmp (by kernel_rfl) (rfl)) ?_
  obtain rfl := Option.some.inj r16
  exact ⟨rfl, (FrS.step wf ((FrS.refl (W := []) wf).extR e4) e14 Inn.nil)⟩
 ·have r18 := ite_bf h15 r12
  refine w_skip ?_
  refine k8 _ _ ?_
  refine w_seqk fun K19 k19 => ?_
  refine w_seqk fun K20 k20 => ?_
  obtain ⟨o21, hx22, r23⟩ := bind_some r18
  refine w_mid (fun α H24 => Has α [(1, .pointer (some ⟨b2, 0, none⟩)), (25, .bool o21)] ∧ FrS [] H13 H24) (fun K26 k26 => ?_) (fun α H24 hM => ?_)
  ·refine w_reg (by kernel_rfl) ?_
   have u28 := (r6.frS e14 Dj.nil_l)
   refine s_ql (.agg #[hd_Node, hd_UpFirst, hd_Up, hd_DownFirst, hd_Down]) (x := aLoad Try.prog 25 (.pointer (some ⟨b2, 0, none⟩)) H13) (by kernel_rfl) (u28.ld (by kernel_rfl)) ?_
   have u29 := ((h_Node.ext e4).fr e14 Dj.nil_l)
   have u30 := ((h_UpFirst.ext e4).fr e14 Dj.nil_l)
   have u31 := ((h_Up.ext e4).fr e14 Dj.nil_l)
   have u32 := ((h_DownFirst.ext e4).fr e14 Dj.nil_l)
   have u33 := ((h_Down.ext e4).fr e14 Dj.nil_l)
   obtain ⟨y34, hy35, r36⟩ := bind_some hx22
   refine s_ck 7 #[.agg #[hd_Node, hd_UpFirst, hd_Up, hd_DownFirst, hd_Down]] (by kernel_rfl) (c_viaductlaw10_great e14.wf u29 u30 u31 u32 u33 hy35) ?_
   rintro _ H37 ⟨rfl, e38⟩
   by_cases h39 : y34 = true
   ·have r40 := ite_t h39 r36
    rw [h39]
    refine s_qk (.bool true) (by kernel_rfl) ?_
    refine s_no (by kernel_rfl) ?_
    refine s_no (by kernel_rfl) ?_
    refine s_no (by kernel_rfl) ?_
    refine s_qk (.bool true) (by kernel_rfl) ?_
    refine s_nil ?_
    obtain rfl := Option.some.inj r40
    exact k26 _ _ ⟨⟨by kernel_rfl, by kernel_rfl, trivial⟩, (FrS.step e14.wf (FrS.refl (W := []) e14.wf) e38 Inn.nil)⟩
   ·have r42 := ite_f h39 r36
    rw [nb h39]
    refine s_qk (.bool false) (by kernel_rfl) ?_
    have u44 := (u28.frS e38 Dj.nil_l)
    refine s_ql (.agg #[hd_Node, hd_UpFirst, hd_Up, hd_DownFirst, hd_Down]) (x := aLoad Try.prog 25 (.pointer (some ⟨b2, 0, none⟩)) H37) (by kernel_rfl) (u44.ld (by kernel_rfl)) ?_
    have u45 := (u29.fr e38 Dj.nil_l)
    have u46 := (u30.fr e38 Dj.nil_l)
    have u47 := (u31.fr e38 Dj.nil_l)
    have u48 := (u32.fr e38 Dj.nil_l)
    have u49 := (u33.fr e38 Dj.nil_l)
    obtain ⟨y50, hy51, r52⟩ := bind_some r42
    refine s_ck 8 #[.agg #[hd_Node, hd_UpFirst, hd_Up, hd_DownFirst, hd_Down]] (by kernel_rfl) (c_hier_Check e38.wf u45 u46 u47 u48 u49 hy51) ?_
    rintro v53 H55 ⟨_, f54, rfl, e56, m57, i58⟩
    rcases (m57).cases with ⟨h60, rfl⟩ | ⟨h60, t61, x62, rfl⟩
    ·have r63 := ite_t h60 r52
     refine s_qk (.bool false) (by kernel_rfl) ?_
     refine s_qk (.bool false) (by kernel_rfl) ?_
     refine s_nil ?_
     obtain rfl := Option.some.inj r63
     exact k26 _ _ ⟨⟨by kernel_rfl, by kernel_rfl, trivial⟩, (FrS.step e14.wf (FrS.step e14.wf (FrS.refl (W := []) e14.wf) e38 Inn.nil) e56 Inn.nil)⟩
    ·have r64 := ite_f h60 r52
     refine s_ql (.bool true) (x := aBin Try.prog .neq 29 (.tmp 23) (.const .nilIface) (.iface t61 x62) .nilIface) (by kernel_rfl) (aBin_nnil (by kernel_rfl)) ?_
     refine s_qk (.bool true) (by kernel_rfl) ?_
     refine s_nil ?_
     obtain rfl := Option.some.inj r64
     exact k26 _ _ ⟨⟨by kernel_rfl, by kernel_rfl, trivial⟩, (FrS.step e14.wf (FrS.step e14.wf (FrS.refl (W := []) e14.wf) e38 Inn.nil) e56 Inn.nil)⟩
  ·obtain ⟨hh27, e25⟩ := hM
   obtain ⟨β, rfl⟩ := has_ex hh27
   clear hh27
   refine k20 _ _ ?_
   refine w_cond (o21) (by kernel_rfl) rfl (fun h65 => ?_) (fun h65 => ?_)
   ·have r66 := ite_t h65 r23
    refine w_seqk fun K67 k67 => ?_
    refine w_reg (by kernel_rfl) ?_
    refine s_qk (.bool true) (by kernel_rfl) ?_
    refine s_nil ?_
    refine k67 _ _ ?_
    refine w_ret (th_ret ?_)
    refine b_ret (fn := Try.f3) (vs := [.bool true]) (aRes_tmp (by kernel_rfl) (rfl)) ?_
    obtain rfl := Option.some.inj r66
    exact ⟨rfl, (FrS.step wf (FrS.step wf ((FrS.refl (W := []) wf).extR e4) e14 Inn.nil) e25 Inn.nil)⟩
   ·have r68 := ite_bf h65 r23
    refine w_skip ?_
    refine k19 _ _ ?_
    refine w_seqk fun K69 k69 => ?_
    refine w_seqk fun K70 k70 => ?_
    refine w_reg (by kernel_rfl) ?_
    have u71 := ((r6.frS e14 Dj.nil_l).frS e25 Dj.nil_l)
    refine s_ql (.agg #[hd_Node, hd_UpFirst, hd_Up, hd_DownFirst, hd_Down]) (x := aLoad Try.prog 25 (.pointer (some ⟨b2, 0, none⟩)) H24) (by kernel_rfl) (u71.ld (by kernel_rfl)) ?_
    have u72 := (((h_Node.ext e4).fr e14 Dj.nil_l).fr e25 Dj.nil_l)
    have u73 := (((h_UpFirst.ext e4).fr e14 Dj.nil_l).fr e25 Dj.nil_l)
    have u74 := (((h_Up.ext e4).fr e14 Dj.nil_l).fr e25 Dj.nil_l)
    have u75 := (((h_DownFirst.ext e4).fr e14 Dj.nil_l).fr e25 Dj.nil_l)
    have u76 := (((h_Down.ext e4).fr e14 Dj.nil_l).fr e25 Dj.nil_l)
    obtain ⟨y77, hy78, r79⟩ := bind_some r68
    refine s_ck 9 #[.agg #[hd_Node, hd_UpFirst, hd_Up, hd_DownFirst, hd_Down]] (by kernel_rfl) (c_viaductref10_Count e25.wf u72 u73 u74 u75 u76 hy78) ?_
    rintro _ H80 ⟨rfl, e81⟩
    refine s_qk (.int .i64 0) (by kernel_rfl) ?_
    refine s_nil ?_
    refine k70 _ _ ?_
    obtain ⟨z85, hx83, r84⟩ := bind_some r79
    refine w_mid (fun α H86 => ∃ o82, z85 = Sum.inr o82 ∧ Has α [(1, .pointer (some ⟨b2, 0, none⟩))] ∧ FrS [] H80 H86) (fun K88 k88 => ?_) (fun α H86 hM => ?_)
    ·refine w_block ?_
     obtain ⟨n90, hn91⟩ := loopO_iff.1 hx83
     refine w_loopn (fun n α H92 => ∃ (i0 : Int), iterO (fun zz_ => z_viaductlaw10_HierFalls_l0 Node UpFirst Up DownFirst Down y77 zz_) n i0 = some z85 ∧ Has α [(1, .pointer (some ⟨b2, 0, none⟩)), (27, .int .i64 y77), (28, .int .i64 i0)] ∧ FrS [] H80 H92) n90 ⟨0, hn91, ⟨by kernel_rfl, by kernel_rfl, by kernel_rfl, trivial⟩, (FrS.refl (W := []) e81.wf)⟩ ?_
     rintro n90 α H92 ⟨i0, hi95, hh94, e93⟩ K100 k100
     obtain ⟨n96, z97, rfl, hz98, hn99⟩ := iter_succ hi95
     obtain ⟨β, rfl⟩ := has_ex hh94
     clear hh94
     replace hz98 : z_viaductlaw10_HierFalls_l0 Node UpFirst Up DownFirst Down y77 i0 = some z97 := hz98
     unfold z_viaductlaw10_HierFalls_l0 at hz98
     refine w_seqk fun K101 k101 => ?_
     refine w_reg (by kernel_rfl) ?_
     refine s_qk (.bool (decide (i0 < y77))) (by kernel_rfl) ?_
     refine s_nil ?_
     refine k101 _ _ ?_
     refine w_seqk fun K102 k102 => ?_
     refine w_condp (i0 < y77) (by kernel_rfl) rfl (fun h103 => ?_) (fun h103 => ?_)
     ·have r104 := ite_t h103 hz98
      refine w_skip ?_
      refine k102 _ _ ?_
      refine w_seqk fun K105 k105 => ?_
      refine w_block ?_
      refine w_seqk fun K106 k106 => ?_
      refine w_reg (by kernel_rfl) ?_
      refine s_qk (.int .i64 i0) (by kernel_rfl) ?_
      refine s_qk (.int .i64 i0) (by kernel_rfl) ?_
      refine s_nil ?_
      refine k106 _ _ ?_
      refine w_seqk fun K107 k107 => ?_
      refine w_reg (by kernel_rfl) ?_
      have u108 := ((u71.frS e81 Dj.nil_l).frS e93 Dj.nil_l)
      refine s_ql (.agg #[hd_Node, hd_UpFirst, hd_Up, hd_DownFirst, hd_Down]) (x := aLoad Try.prog 25 (.pointer (some ⟨b2, 0, none⟩)) H92) (by kernel_rfl) (u108.ld (by kernel_rfl)) ?_
      refine s_qk (.int .i64 i0) (by kernel_rfl) ?_
      have u109 := ((u72.fr e81 Dj.nil_l).fr e93 Dj.nil_l)
      have u110 := ((u73.fr e81 Dj.nil_l).fr e93 Dj.nil_l)
      have u111 := ((u74.fr e81 Dj.nil_l).fr e93 Dj.nil_l)
      have u112 := ((u75.fr e81 Dj.nil_l).fr e93 Dj.nil_l)
      have u113 := ((u76.fr e81 Dj.nil_l).fr e93 Dj.nil_l)
      obtain ⟨y114, hy115, r116⟩ := bind_some r104
      refine s_ck 10 #[.agg #[hd_Node, hd_UpFirst, hd_Up, hd_DownFirst, hd_Down], .int .i64 i0] (by kernel_rfl) (c_hier_Ends e93.wf u109 u110 u111 u112 u113 hy115) ?_
      rintro _ H119 ⟨v117, f118, rfl, e120, m121, i122⟩
      refine s_qk (.tuple #[.int .i64 y114.1, .int .i64 y114.2.1, v117]) (by kernel_rfl) ?_
      refine s_qk (.int .i64 y114.1) (by kernel_rfl) ?_
      refine s_qk (.int .i64 y114.2.1) (by kernel_rfl) ?_
      refine s_qk (v117) (by kernel_rfl) ?_
      refine s_qk (.int .i64 y114.1) (by kernel_rfl) ?_
      refine s_qk (.int .i64 y114.2.1) (by kernel_rfl) ?_
      refine s_qk (v117) (by kernel_rfl) ?_
      refine s_nil ?_
      refine k107 _ _ ?_
      refine w_seqk fun K124 k124 => ?_
      refine w_seqk fun K125 k125 => ?_
      obtain ⟨o126, hx127, r128⟩ := bind_some r116
      refine w_mid (fun α H129 => Has α [(1, .pointer (some ⟨b2, 0, none⟩)), (3, .int .i64 i0), (4, .int .i64 y114.1), (5, .int .i64 y114.2.1), (27, .int .i64 y77), (28, .int .i64 i0), (66, .bool o126)] ∧ H119 = H129) (fun K131 k131 => ?_) (fun α H129 hM => ?_)
      ·refine w_reg (by kernel_rfl) ?_
       refine s_qk (v117) (by kernel_rfl) ?_
       rcases (m121).cases with ⟨h133, rfl⟩ | ⟨h133, t134, x135, rfl⟩
       ·have r136 := ite_t h133 hx127
        refine s_qk (.bool false) (by kernel_rfl) ?_
        refine s_qk (.bool false) (by kernel_rfl) ?_
        refine s_qk (.int .i64 y114.1) (by kernel_rfl) ?_
        refine s_qk (.int .i64 y114.2.1) (by kernel_rfl) ?_
        refine s_b (y114.1 = y114.2.1) (by kernel_rfl) (fun h137 => ?_) (fun h137 => ?_)
        ·have r138 := ite_t h137 r136
         refine s_qk (.bool true) (by kernel_rfl) ?_
         refine s_qk (.bool true) (by kernel_rfl) ?_
         refine s_no (by kernel_rfl) ?_
         refine s_no (by kernel_rfl) ?_
         refine s_qk (.bool true) (by kernel_rfl) ?_
         refine s_qk (.bool true) (by kernel_rfl) ?_
         refine s_no (by kernel_rfl) ?_
         refine s_no (by kernel_rfl) ?_
         refine s_qk (.bool true) (by kernel_rfl) ?_
         refine s_qk (.bool true) (by kernel_rfl) ?_
         refine s_no (by kernel_rfl) ?_
         refine s_no (by kernel_rfl) ?_
         refine s_no (by kernel_rfl) ?_
         refine s_no (by kernel_rfl) ?_
         refine s_no (by kernel_rfl) ?_
         refine s_qk (.bool true) (by kernel_rfl) ?_
         refine s_qk (.bool true) (by kernel_rfl) ?_
         refine s_no (by kernel_rfl) ?_
         refine s_no (by kernel_rfl) ?_
         refine s_no (by kernel_rfl) ?_
         refine s_no (by kernel_rfl) ?_
         refine s_no (by kernel_rfl) ?_
         refine s_qk (.bool true) (by kernel_rfl) ?_
         refine s_nil ?_
         obtain rfl := Option.some.inj r138
         exact k131 _ _ ⟨⟨by kernel_rfl, by kernel_rfl, by kernel_rfl, by kernel_rfl, by kernel_rfl, by kernel_rfl, by kernel_rfl, trivial⟩, rfl⟩
        ·have r139 := ite_f h137 r136
         refine s_qk (.bool false) (by kernel_rfl) ?_
         refine s_qk (.bool false) (by kernel_rfl) ?_
         refine s_qk (.int .i64 y114.1) (by kernel_rfl) ?_
         refine s_b (y114.1 < 0) (by kernel_rfl) (fun h140 => ?_) (fun h140 => ?_)
         ·have r141 := ite_t h140 r139
          refine s_qk (.bool true) (by kernel_rfl) ?_
          refine s_qk (.bool true) (by kernel_rfl) ?_
          refine s_no (by kernel_rfl) ?_
          refine s_no (by kernel_rfl) ?_
          refine s_qk (.bool true) (by kernel_rfl) ?_
          refine s_qk (.bool true) (by kernel_rfl) ?_
          refine s_no (by kernel_rfl) ?_
          refine s_no (by kernel_rfl) ?_
          refine s_no (by kernel_rfl) ?_
          refine s_no (by kernel_rfl) ?_
          refine s_no (by kernel_rfl) ?_
          refine s_qk (.bool true) (by kernel_rfl) ?_
          refine s_qk (.bool true) (by kernel_rfl) ?_
          refine s_no (by kernel_rfl) ?_
          refine s_no (by kernel_rfl) ?_
          refine s_no (by kernel_rfl) ?_
          refine s_no (by kernel_rfl) ?_
          refine s_no (by kernel_rfl) ?_
          refine s_qk (.bool true) (by kernel_rfl) ?_
          refine s_nil ?_
          obtain rfl := Option.some.inj r141
          exact k131 _ _ ⟨⟨by kernel_rfl, by kernel_rfl, by kernel_rfl, by kernel_rfl, by kernel_rfl, by kernel_rfl, by kernel_rfl, trivial⟩, rfl⟩
         ·have r142 := ite_f h140 r139
          refine s_qk (.bool false) (by kernel_rfl) ?_
          refine s_qk (.bool false) (by kernel_rfl) ?_
          refine s_qk (.int .i64 y114.2.1) (by kernel_rfl) ?_
          refine s_b (y114.2.1 < 0) (by kernel_rfl) (fun h143 => ?_) (fun h143 => ?_)
          ·have r144 := ite_t h143 r142
           refine s_qk (.bool true) (by kernel_rfl) ?_
           refine s_qk (.bool true) (by kernel_rfl) ?_
           refine s_no (by kernel_rfl) ?_
           refine s_no (by kernel_rfl) ?_
           refine s_no (by kernel_rfl) ?_
           refine s_no (by kernel_rfl) ?_
           refine s_no (by kernel_rfl) ?_
           refine s_qk (.bool true) (by kernel_rfl) ?_
           refine s_qk (.bool true) (by kernel_rfl) ?_
           refine s_no (by kernel_rfl) ?_
           refine s_no (by kernel_rfl) ?_
           refine s_no (by kernel_rfl) ?_
           refine s_no (by kernel_rfl) ?_
           refine s_no (by kernel_rfl) ?_
           refine s_qk (.bool true) (by kernel_rfl) ?_
           refine s_nil ?_
           obtain rfl := Option.some.inj r144
           exact k131 _ _ ⟨⟨by kernel_rfl, by kernel_rfl, by kernel_rfl, by kernel_rfl, by kernel_rfl, by kernel_rfl, by kernel_rfl, trivial⟩, rfl⟩
          ·have r145 := ite_f h143 r142
           refine s_qk (.bool false) (by kernel_rfl) ?_
           refine s_qk (.bool false) (by kernel_rfl) ?_
           refine s_qk (.int .i64 y114.1) (by kernel_rfl) ?_
           refine s_qk (.pointer (some ⟨b2, 0, none⟩)) (by kernel_rfl) ?_
           have u146 := (u108.frS e120 Dj.nil_l)
           refine s_ql (hd_Node) (x := aLoad Try.prog 22 (.pointer (some ⟨b2, 0, none⟩)) H119) (by kernel_rfl) (u146.ld (by kernel_rfl)) ?_
           have u147 := (u109.fr e120 Dj.nil_l)
           refine s_ql (.int .i64 (Node.length : Int)) (x := aLen Try.prog 22 hd_Node H119) (by kernel_rfl) (u147.lenb (by kernel_rfl)) ?_
           refine s_b (y114.1 ≥ (Node.length : Int)) (by kernel_rfl) (fun h148 => ?_) (fun h148 => ?_)
           ·have r149 := ite_t h148 r145
            refine s_qk (.bool true) (by kernel_rfl) ?_
            refine s_qk (.bool true) (by kernel_rfl) ?_
            refine s_no (by kernel_rfl) ?_
            refine s_no (by kernel_rfl) ?_
            refine s_no (by kernel_rfl) ?_
            refine s_no (by kernel_rfl) ?_
            refine s_no (by kernel_rfl) ?_
            refine s_qk (.bool true) (by kernel_rfl) ?_
            refine s_nil ?_
            obtain rfl := Option.some.inj r149
            exact k131 _ _ ⟨⟨by kernel_rfl, by kernel_rfl, by kernel_rfl, by kernel_rfl, by kernel_rfl, by kernel_rfl, by kernel_rfl, trivial⟩, rfl⟩
           ·have r150 := ite_f h148 r145
            refine s_qk (.bool false) (by kernel_rfl) ?_
            refine s_qk (.bool false) (by kernel_rfl) ?_
            refine s_qk (.int .i64 y114.2.1) (by kernel_rfl) ?_
            refine s_qk (.pointer (some ⟨b2, 0, none⟩)) (by kernel_rfl) ?_
            refine s_ql (hd_Node) (x := aLoad Try.prog 22 (.pointer (some ⟨b2, 0, none⟩)) H119) (by kernel_rfl) (u146.ld (by kernel_rfl)) ?_
            refine s_ql (.int .i64 (Node.length : Int)) (x := aLen Try.prog 22 hd_Node H119) (by kernel_rfl) (u147.lenb (by kernel_rfl)) ?_
            refine s_qk (.bool (decide (y114.2.1 ≥ (Node.length : Int)))) (by kernel_rfl) ?_
            refine s_qk (.bool (decide (y114.2.1 ≥ (Node.length : Int)))) (by kernel_rfl) ?_
            refine s_nil ?_
            obtain rfl := Option.some.inj r150
            exact k131 _ _ ⟨⟨by kernel_rfl, by kernel_rfl, by kernel_rfl, by kernel_rfl, by kernel_rfl, by kernel_rfl, by kernel_rfl, trivial⟩, rfl⟩
       ·have r151 := ite_f h133 hx127
        refine s_ql (.bool true) (x := aBin Try.prog .neq 29 (.tmp 38) (.const .nilIface) (.iface t134 x135) .nilIface) (by kernel_rfl) (aBin_nnil (by kernel_rfl)) ?_
        refine s_qk (.bool true) (by kernel_rfl) ?_
        refine s_no (by kernel_rfl) ?_
        refine s_no (by kernel_rfl) ?_
        refine s_no (by kernel_rfl) ?_
        refine s_qk (.bool true) (by kernel_rfl) ?_
        refine s_qk (.bool true) (by kernel_rfl) ?_
        refine s_no (by kernel_rfl) ?_
        refine s_no (by kernel_rfl) ?_
        refine s_qk (.bool true) (by kernel_rfl) ?_
        refine s_qk (.bool true) (by kernel_rfl) ?_
        refine s_no (by kernel_rfl) ?_
        refine s_no (by kernel_rfl) ?_
        refine s_qk (.bool true) (by kernel_rfl) ?_
        refine s_qk (.bool true) (by kernel_rfl) ?_
        refine s_no (by kernel_rfl) ?_
        refine s_no (by kernel_rfl) ?_
        refine s_no (by kernel_rfl) ?_
        refine s_no (by kernel_rfl) ?_
        refine s_no (by kernel_rfl) ?_
        refine s_qk (.bool true) (by kernel_rfl) ?_
        refine s_qk (.bool true) (by kernel_rfl) ?_
        refine s_no (by kernel_rfl) ?_
        refine s_no (by kernel_rfl) ?_
        refine s_no (by kernel_rfl) ?_
        refine s_no (by kernel_rfl) ?_
        refine s_no (by kernel_rfl) ?_
        refine s_qk (.bool true) (by kernel_rfl) ?_
        refine s_nil ?_
        obtain rfl := Option.some.inj r151
        exact k131 _ _ ⟨⟨by kernel_rfl, by kernel_rfl, by kernel_rfl, by kernel_rfl, by kernel_rfl, by kernel_rfl, by kernel_rfl, trivial⟩, rfl⟩
      ·obtain ⟨hh132, rfl⟩ := hM
       obtain ⟨β, rfl⟩ := has_ex hh132
       clear hh132
       refine k125 _ _ ?_
       refine w_cond (o126) (by kernel_rfl) rfl (fun h152 => ?_) (fun h152 => ?_)
       ·have r153 := ite_t h152 r128
        refine w_seqk fun K154 k154 => ?_
        refine w_reg (by kernel_rfl) ?_
        refine s_qk (.bool false) (by kernel_rfl) ?_
        refine s_nil ?_
        refine k154 _ _ ?_
        refine w_ret (th_ret (bl_ret (th_ret (th_ret (bl_ret (th_ret (th_ret ?_)))))))
        obtain ⟨v155, hv156, hz157⟩ := map_some r153
        subst hz157
        obtain rfl := it_inr hn99
        have hq158 := elim_inl r84
        rw [hq158] at hv156
        refine b_ret (fn := Try.f3) (vs := [.bool false]) (aRes_tmp (by kernel_rfl) (rfl)) ?_
        obtain rfl := Option.some.inj hv156
        exact ⟨rfl, (FrS.step wf (FrS.step wf (FrS.step wf (FrS.step wf (FrS.step wf ((FrS.refl (W := []) wf).extR e4) e14 Inn.nil) e25 Inn.nil) e81 Inn.nil) e93 Inn.nil) e120 Inn.nil)⟩
       ·have r159 := ite_bf h152 r128
        refine w_skip ?_
        refine k124 _ _ ?_
        refine w_seqk fun K160 k160 => ?_
        refine w_reg (by kernel_rfl) ?_
        have u161 := (u108.frS e120 Dj.nil_l)
        refine s_ql (.agg #[hd_Node, hd_UpFirst, hd_Up, hd_DownFirst, hd_Down]) (x := aLoad Try.prog 25 (.pointer (some ⟨b2, 0, none⟩)) H119) (by kernel_rfl) (u161.ld (by kernel_rfl)) ?_
        refine s_qk (.int .i64 i0) (by kernel_rfl) ?_
        have u162 := (u109.fr e120 Dj.nil_l)
        have u163 := (u110.fr e120 Dj.nil_l)
        have u164 := (u111.fr e120 Dj.nil_l)
        have u165 := (u112.fr e120 Dj.nil_l)
        have u166 := (u113.fr e120 Dj.nil_l)
        obtain ⟨y167, hy168, r169⟩ := bind_some r159
        refine s_ck 11 #[.agg #[hd_Node, hd_UpFirst, hd_Up, hd_DownFirst, hd_Down], .int .i64 i0] (by kernel_rfl) (c_viaductref10_Link e120.wf u162 u163 u164 u165 u166 hy168) ?_
        rintro _ H170 ⟨rfl, e171⟩
        refine s_rwk e171.wf [.int .u32 0, .int .u64 0, .int .u32 0, .int .u32 0] (by kernel_rfl) fun b172 H173 e174 hb175 r176 => ?_
        obtain ⟨H178, q179, e180, r181⟩ := Row.store (P := Try.prog) (t := 37) (p := 0) e174.wf r176 (.agg #[.int .u32 y167.1, .int .u64 y167.2.1, .int .u32 y167.2.2.1, .int .u32 y167.2.2.2]) [.int .u32 y167.1, .int .u64 y167.2.1, .int .u32 y167.2.2.1, .int .u32 y167.2.2.2] (by kernel_rfl) (by kernel_rfl) (one_cons (rfl) (one_cons (rfl) (one_cons (rfl) (one_cons (rfl) (one_nil))))) (Nat.le_of_ble_eq_true (by kernel_rfl)) [.int .u32 y167.1, .int .u64 y167.2.1, .int .u32 y167.2.2.1, .int .u32 y167.2.2.2] (by kernel_rfl)
        refine s_ek (undef) (by kernel_rfl) (map_ok q179) ?_
        refine s_nil ?_
        refine k160 _ _ ?_
        refine w_seqk fun K182 k182 => ?_
        refine w_seqk fun K183 k183 => ?_
        refine w_reg (by kernel_rfl) ?_
        refine s_ql (.agg #[.int .u32 y167.1, .int .u64 y167.2.1, .int .u32 y167.2.2.1, .int .u32 y167.2.2.2]) (x := aLoad Try.prog 37 (.pointer (some ⟨b172, 0, none⟩)) H178) (by kernel_rfl) (r181.ld (by kernel_rfl)) ?_
        obtain ⟨y184, hy185, r186⟩ := bind_some r169
        refine s_ck 12 #[.agg #[.int .u32 y167.1, .int .u64 y167.2.1, .int .u32 y167.2.2.1, .int .u32 y167.2.2.2]] (by kernel_rfl) (c_viaductref10_Plain e180.wf hy185) ?_
        rintro _ H187 ⟨rfl, e188⟩
        refine s_nil ?_
        refine k183 _ _ ?_
        refine w_cond (y184) (by kernel_rfl) rfl (fun h189 => ?_) (fun h189 => ?_)
        ·have r190 := ite_t h189 r186
         refine w_exit (th_exit (bl_eq ?_))
         refine k105 _ _ ?_
         refine w_reg (by kernel_rfl) ?_
         obtain ⟨g191, r192⟩ := G_some r190
         refine s_w ((i0 + 1)) (k := .i64) (x := (i0 + 1)) (by kernel_rfl) (wrap64 g191) ?_
         refine s_qk (.int .i64 (i0 + 1)) (by kernel_rfl) ?_
         refine s_nil ?_
         obtain rfl := Option.some.inj r192
         exact k100 n96 _ _ (Nat.lt_succ_self _) ⟨(i0 + 1), hn99, ⟨by kernel_rfl, by kernel_rfl, by kernel_rfl, trivial⟩, (FrS.step e81.wf (FrS.step e81.wf ((FrS.step e81.wf (FrS.step e81.wf (FrS.step e81.wf (FrS.refl (W := []) e81.wf) e93 Inn.nil) e120 Inn.nil) e171 Inn.nil).extR e174) e180 (hb175.fresh (ntr (ntr e93.next e120.next) e171.next))) e188 Inn.nil)⟩
        ·have r193 := ite_bf h189 r186
         refine w_skip ?_
         refine k182 _ _ ?_
         refine w_seqk fun K194 k194 => ?_
         refine w_seqk fun K195 k195 => ?_
         obtain ⟨o196, hx197, r198⟩ := bind_some r193
         refine w_mid (fun α H199 => Has α [(1, .pointer (some ⟨b2, 0, none⟩)), (4, .int .i64 y114.1), (5, .int .i64 y114.2.1), (7, .pointer (some ⟨b172, 0, none⟩)), (27, .int .i64 y77), (28, .int .i64 i0), (85, .bool o196)] ∧ FrS [] H187 H199) (fun K201 k201 => ?_) (fun α H199 hM => ?_)
         ·refine w_draw [0, 1, 2, 3, 4, 5, 6, 7, 8, 9, 10, 11, 12, 13] (by kernel_rfl) ?_
          refine d_qk (.pointer (some ⟨b172, 2, none⟩)) (by kernel_rfl) ?_
          have u203 := (r181.frS e188 Dj.nil_l)
          refine d_fl (.int .u32 y167.2.2.1) (x := aLoad Try.prog 34 (.pointer (some ⟨b172, 2, none⟩)) H187) (by kernel_rfl) (u203.ld (by kernel_rfl)) ?_
          obtain ⟨g204, r205⟩ := G_some hx197
          refine d_w (y167.2.2.1) (k := .i64) (x := y167.2.2.1) (by kernel_rfl) (wrap64 g204) ?_
          have u206 := ((((u161.frS e171 Dj.nil_l).ext e174).frS e180 (hb175.djn (r6.ltF.le (ntr (ntr (ntr (ntr (ntr e14.next e25.next) e81.next) e93.next) e120.next) e171.next)))).frS e188 Dj.nil_l)
          refine d_ql (.agg #[hd_Node, hd_UpFirst, hd_Up, hd_DownFirst, hd_Down]) (x := aLoad Try.prog 25 (.pointer (some ⟨b2, 0, none⟩)) H187) (by kernel_rfl) (u206.ld (by kernel_rfl)) ?_
          have u207 := ((((u162.fr e171 Dj.nil_l).ext e174).fr e180 (hb175.djn (h_Node.lt.le (ntr (ntr (ntr (ntr (ntr (ntr e4.next e14.next) e25.next) e81.next) e93.next) e120.next) e171.next)))).fr e188 Dj.nil_l)
          have u208 := ((((u163.fr e171 Dj.nil_l).ext e174).fr e180 (hb175.djn (h_UpFirst.lt.le (ntr (ntr (ntr (ntr (ntr (ntr e4.next e14.next) e25.next) e81.next) e93.next) e120.next) e171.next)))).fr e188 Dj.nil_l)
          have u209 := ((((u164.fr e171 Dj.nil_l).ext e174).fr e180 (hb175.djn (h_Up.lt.le (ntr (ntr (ntr (ntr (ntr (ntr e4.next e14.next) e25.next) e81.next) e93.next) e120.next) e171.next)))).fr e188 Dj.nil_l)
          have u210 := ((((u165.fr e171 Dj.nil_l).ext e174).fr e180 (hb175.djn (h_DownFirst.lt.le (ntr (ntr (ntr (ntr (ntr (ntr e4.next e14.next) e25.next) e81.next) e93.next) e120.next) e171.next)))).fr e188 Dj.nil_l)
          have u211 := ((((u166.fr e171 Dj.nil_l).ext e174).fr e180 (hb175.djn (h_Down.lt.le (ntr (ntr (ntr (ntr (ntr (ntr e4.next e14.next) e25.next) e81.next) e93.next) e120.next) e171.next)))).fr e188 Dj.nil_l)
          obtain ⟨y212, hy213, r214⟩ := bind_some r205
          refine d_ck 9 #[.agg #[hd_Node, hd_UpFirst, hd_Up, hd_DownFirst, hd_Down]] (by kernel_rfl) (c_viaductref10_Count e188.wf u207 u208 u209 u210 u211 hy213) ?_
          rintro _ H215 ⟨rfl, e216⟩
          have u217 := (u203.frS e216 Dj.nil_l)
          refine ⟨st_ql (y := aLoad Try.prog 34 (.pointer (some ⟨b172, 2, none⟩)) H215) (by kernel_rfl) (u217.ld (by kernel_rfl)) (st_nil), ?_⟩
          refine d_b (y167.2.2.1 ≥ y212) (by kernel_rfl) (fun h218 => ?_) (fun h218 => ?_)
          ·have r219 := ite_t h218 r214
           refine d_qk (.bool true) (by kernel_rfl) ?_
           refine d_idle (by kernel_rfl) ?_
           refine d_idle (by kernel_rfl) ?_
           refine d_idle (by kernel_rfl) ?_
           refine d_idle (by kernel_rfl) ?_
           refine d_idle (by kernel_rfl) ?_
           refine d_idle (by kernel_rfl) ?_
           refine d_qk (.bool true) (by kernel_rfl) ?_
           refine d_nil ?_
           obtain rfl := Option.some.inj r219
           exact k201 _ _ ⟨⟨by kernel_rfl, by kernel_rfl, by kernel_rfl, by kernel_rfl, by kernel_rfl, by kernel_rfl, by kernel_rfl, trivial⟩, (FrS.step e188.wf (FrS.refl (W := []) e188.wf) e216 Inn.nil)⟩
          ·have r220 := ite_f h218 r214
           refine d_qk (.bool false) (by kernel_rfl) ?_
           refine d_qk (.pointer (some ⟨b172, 3, none⟩)) (by kernel_rfl) ?_
           refine d_fl (.int .u32 y167.2.2.2) (x := aLoad Try.prog 34 (.pointer (some ⟨b172, 3, none⟩)) H215) (by kernel_rfl) (u217.ld (by kernel_rfl)) ?_
           obtain ⟨g221, r222⟩ := G_some r220
           refine d_w (y167.2.2.2) (k := .i64) (x := y167.2.2.2) (by kernel_rfl) (wrap64 g221) ?_
           have u223 := (u206.frS e216 Dj.nil_l)
           refine d_ql (.agg #[hd_Node, hd_UpFirst, hd_Up, hd_DownFirst, hd_Down]) (x := aLoad Try.prog 25 (.pointer (some ⟨b2, 0, none⟩)) H215) (by kernel_rfl) (u223.ld (by kernel_rfl)) ?_
           have u224 := (u207.fr e216 Dj.nil_l)
           have u225 := (u208.fr e216 Dj.nil_l)
           have u226 := (u209.fr e216 Dj.nil_l)
           have u227 := (u210.fr e216 Dj.nil_l)
           have u228 := (u211.fr e216 Dj.nil_l)
           obtain ⟨y229, hy230, r231⟩ := bind_some r222
           refine d_ck 9 #[.agg #[hd_Node, hd_UpFirst, hd_Up, hd_DownFirst, hd_Down]] (by kernel_rfl) (c_viaductref10_Count e216.wf u224 u225 u226 u227 u228 hy230) ?_
           rintro _ H232 ⟨rfl, e233⟩
           have u234 := (u217.frS e233 Dj.nil_l)
           refine ⟨st_ql (y := aLoad Try.prog 34 (.pointer (some ⟨b172, 3, none⟩)) H232) (by kernel_rfl) (u234.ld (by kernel_rfl)) (st_anc (by kernel_rfl) (st_nil)), ?_⟩
           refine d_qk (.bool (decide (y167.2.2.2 ≥ y229))) (by kernel_rfl) ?_
           refine d_qk (.bool (decide (y167.2.2.2 ≥ y229))) (by kernel_rfl) ?_
           refine d_nil ?_
           obtain rfl := Option.some.inj r231
           exact k201 _ _ ⟨⟨by kernel_rfl, by kernel_rfl, by kernel_rfl, by kernel_rfl, by kernel_rfl, by kernel_rfl, by kernel_rfl, trivial⟩, (FrS.step e188.wf (FrS.step e188.wf (FrS.refl (W := []) e188.wf) e216 Inn.nil) e233 Inn.nil)⟩
         ·obtain ⟨hh202, e200⟩ := hM
          obtain ⟨β, rfl⟩ := has_ex hh202
          clear hh202
          refine k195 _ _ ?_
          refine w_cond (o196) (by kernel_rfl) rfl (fun h235 => ?_) (fun h235 => ?_)
          ·have r236 := ite_t h235 r198
           refine w_seqk fun K237 k237 => ?_
           refine w_reg (by kernel_rfl) ?_
           refine s_qk (.bool false) (by kernel_rfl) ?_
           refine s_nil ?_
           refine k237 _ _ ?_
           refine w_ret (th_ret (bl_ret (th_ret (th_ret (bl_ret (th_ret (th_ret ?_)))))))
           obtain ⟨v238, hv239, hz240⟩ := map_some r236
           subst hz240
           obtain rfl := it_inr hn99
           have hq241 := elim_inl r84
           rw [hq241] at hv239
           refine b_ret (fn := Try.f3) (vs := [.bool false]) (aRes_tmp (by kernel_rfl) (rfl)) ?_
           obtain rfl := Option.some.inj hv239
           exact ⟨rfl, (FrS.step wf (FrS.step wf (FrS.step wf ((FrS.step wf (FrS.step wf (FrS.step wf (FrS.step wf (FrS.step wf (FrS.step wf ((FrS.refl (W := []) wf).extR e4) e14 Inn.nil) e25 Inn.nil) e81 Inn.nil) e93 Inn.nil) e120 Inn.nil) e171 Inn.nil).extR e174) e180 (hb175.fresh (ntr (ntr (ntr (ntr (ntr (ntr e4.next e14.next) e25.next) e81.next) e93.next) e120.next) e171.next))) e188 Inn.nil) e200 Inn.nil)⟩
          ·have r242 := ite_bf h235 r198
           refine w_skip ?_
           refine k194 _ _ ?_
           refine w_seqk fun K243 k243 => ?_
           refine w_reg (by kernel_rfl) ?_
           have u244 := (((((u161.frS e171 Dj.nil_l).ext e174).frS e180 (hb175.djn (r6.ltF.le (ntr (ntr (ntr (ntr (ntr e14.next e25.next) e81.next) e93.next) e120.next) e171.next)))).frS e188 Dj.nil_l).frS e200 Dj.nil_l)
           refine s_ql (.agg #[hd_Node, hd_UpFirst, hd_Up, hd_DownFirst, hd_Down]) (x := aLoad Try.prog 25 (.pointer (some ⟨b2, 0, none⟩)) H199) (by kernel_rfl) (u244.ld (by kernel_rfl)) ?_
           refine s_qk (.pointer (some ⟨b172, 2, none⟩)) (by kernel_rfl) ?_
           have u245 := ((r181.frS e188 Dj.nil_l).frS e200 Dj.nil_l)
           refine s_ql (.int .u32 y167.2.2.1) (x := aLoad Try.prog 34 (.pointer (some ⟨b172, 2, none⟩)) H199) (by kernel_rfl) (u245.ld (by kernel_rfl)) ?_
           obtain ⟨g246, r247⟩ := G_some r242
           refine s_w (y167.2.2.1) (k := .i64) (x := y167.2.2.1) (by kernel_rfl) (wrap64 g246) ?_
           have u248 := (((((u162.fr e171 Dj.nil_l).ext e174).fr e180 (hb175.djn (h_Node.lt.le (ntr (ntr (ntr (ntr (ntr (ntr e4.next e14.next) e25.next) e81.next) e93.next) e120.next) e171.next)))).fr e188 Dj.nil_l).fr e200 Dj.nil_l)
           have u249 := (((((u163.fr e171 Dj.nil_l).ext e174).fr e180 (hb175.djn (h_UpFirst.lt.le (ntr (ntr (ntr (ntr (ntr (ntr e4.next e14.next) e25.next) e81.next) e93.next) e120.next) e171.next)))).fr e188 Dj.nil_l).fr e200 Dj.nil_l)
           have u250 := (((((u164.fr e171 Dj.nil_l).ext e174).fr e180 (hb175.djn (h_Up.lt.le (ntr (ntr (ntr (ntr (ntr (ntr e4.next e14.next) e25.next) e81.next) e93.next) e120.next) e171.next)))).fr e188 Dj.nil_l).fr e200 Dj.nil_l)
           have u251 := (((((u165.fr e171 Dj.nil_l).ext e174).fr e180 (hb175.djn (h_DownFirst.lt.le (ntr (ntr (ntr (ntr (ntr (ntr e4.next e14.next) e25.next) e81.next) e93.next) e120.next) e171.next)))).fr e188 Dj.nil_l).fr e200 Dj.nil_l)
           have u252 := (((((u166.fr e171 Dj.nil_l).ext e174).fr e180 (hb175.djn (h_Down.lt.le (ntr (ntr (ntr (ntr (ntr (ntr e4.next e14.next) e25.next) e81.next) e93.next) e120.next) e171.next)))).fr e188 Dj.nil_l).fr e200 Dj.nil_l)
           obtain ⟨y253, hy254, r255⟩ := bind_some r247
           refine s_ck 10 #[.agg #[hd_Node, hd_UpFirst, hd_Up, hd_DownFirst, hd_Down], .int .i64 y167.2.2.1] (by kernel_rfl) (c_hier_Ends e200.wf u248 u249 u250 u251 u252 hy254) ?_
           rintro _ H258 ⟨v256, f257, rfl, e259, m260, i261⟩
           refine s_qk (.tuple #[.int .i64 y253.1, .int .i64 y253.2.1, v256]) (by kernel_rfl) ?_
           refine s_qk (.int .i64 y253.1) (by kernel_rfl) ?_
           refine s_qk (.int .i64 y253.2.1) (by kernel_rfl) ?_
           refine s_qk (v256) (by kernel_rfl) ?_
           refine s_qk (.int .i64 y253.1) (by kernel_rfl) ?_
           refine s_qk (.int .i64 y253.2.1) (by kernel_rfl) ?_
           refine s_qk (v256) (by kernel_rfl) ?_
           refine s_nil ?_
           refine k243 _ _ ?_
           refine w_seqk fun K263 k263 => ?_
           refine w_reg (by kernel_rfl) ?_
           have u264 := (u244.frS e259 Dj.nil_l)
           refine s_ql (.agg #[hd_Node, hd_UpFirst, hd_Up, hd_DownFirst, hd_Down]) (x := aLoad Try.prog 25 (.pointer (some ⟨b2, 0, none⟩)) H258) (by kernel_rfl) (u264.ld (by kernel_rfl)) ?_
           refine s_qk (.pointer (some ⟨b172, 3, none⟩)) (by kernel_rfl) ?_
           have u265 := (u245.frS e259 Dj.nil_l)
           refine s_ql (.int .u32 y167.2.2.2) (x := aLoad Try.prog 34 (.pointer (some ⟨b172, 3, none⟩)) H258) (by kernel_rfl) (u265.ld (by kernel_rfl)) ?_
           obtain ⟨g266, r267⟩ := G_some r255
           refine s_w (y167.2.2.2) (k := .i64) (x := y167.2.2.2) (by kernel_rfl) (wrap64 g266) ?_
           have u268 := (u248.fr e259 Dj.nil_l)
           have u269 := (u249.fr e259 Dj.nil_l)
           have u270 := (u250.fr e259 Dj.nil_l)
           have u271 := (u251.fr e259 Dj.nil_l)
           have u272 := (u252.fr e259 Dj.nil_l)
           obtain ⟨y273, hy274, r275⟩ := bind_some r267
           refine s_ck 10 #[.agg #[hd_Node, hd_UpFirst, hd_Up, hd_DownFirst, hd_Down], .int .i64 y167.2.2.2] (by kernel_rfl) (c_hier_Ends e259.wf u268 u269 u270 u271 u272 hy274) ?_
           rintro _ H278 ⟨v276, f277, rfl, e279, m280, i281⟩
           refine s_qk (.tuple #[.int .i64 y273.1, .int .i64 y273.2.1, v276]) (by kernel_rfl) ?_
           refine s_qk (.int .i64 y273.1) (by kernel_rfl) ?_
           refine s_qk (.int .i64 y273.2.1) (by kernel_rfl) ?_
           refine s_qk (v276) (by kernel_rfl) ?_
           refine s_qk (.int .i64 y273.1) (by kernel_rfl) ?_
           refine s_qk (.int .i64 y273.2.1) (by kernel_rfl) ?_
           refine s_qk (v276) (by kernel_rfl) ?_
           refine s_nil ?_
           refine k263 _ _ ?_
           refine w_seqk fun K283 k283 => ?_
           refine w_draw [0, 1, 2, 3, 4, 5, 6, 7, 8, 9, 10, 11, 12, 13, 14, 15, 16, 17, 18, 19, 20, 21, 22, 23, 24, 25, 26, 27, 28, 29, 30, 31, 32, 33, 34, 35, 38, 39, 40, 41, 45, 46, 36, 37, 42, 43, 44, 47, 48] (by kernel_rfl) ?_
           refine d_qk (v256) (by kernel_rfl) ?_
           have u287 := (m260.fr e279 Dj.nil_l)
           rcases (u287).cases with ⟨h284, rfl⟩ | ⟨h284, t285, x286, rfl⟩
           ·have r288 := ite_t h284 r275
            refine d_qk (.bool false) (by kernel_rfl) ?_
            refine d_qk (.bool false) (by kernel_rfl) ?_
            refine d_qk (v276) (by kernel_rfl) ?_
            rcases (m280).cases with ⟨h289, rfl⟩ | ⟨h289, t290, x291, rfl⟩
            ·have r292 := ite_t h289 r288
             refine d_qk (.bool false) (by kernel_rfl) ?_
             refine d_qk (.bool false) (by kernel_rfl) ?_
             refine d_qk (.bool false) (by kernel_rfl) ?_
             refine d_qk (.int .i64 y253.1) (by kernel_rfl) ?_
             refine d_qk (.int .i64 y114.1) (by kernel_rfl) ?_
             refine d_bn (y253.1 = y114.1) (by kernel_rfl) (fun h293 => ?_) (fun h293 => ?_)
             ·have r294 := ite_t h293 r292
              refine d_qk (.bool false) (by kernel_rfl) ?_
              refine d_qk (.bool false) (by kernel_rfl) ?_
              refine d_qk (.int .i64 y273.2.1) (by kernel_rfl) ?_
              refine d_qk (.int .i64 y114.2.1) (by kernel_rfl) ?_
              refine d_bn (y273.2.1 = y114.2.1) (by kernel_rfl) (fun h295 => ?_) (fun h295 => ?_)
              ·have r296 := ite_t h295 r294
               refine d_qk (.bool false) (by kernel_rfl) ?_
               refine d_qk (.bool false) (by kernel_rfl) ?_
               refine d_qk (.int .i64 y253.2.1) (by kernel_rfl) ?_
               refine d_qk (.int .i64 y273.1) (by kernel_rfl) ?_
               refine d_bn (y253.2.1 = y273.1) (by kernel_rfl) (fun h297 => ?_) (fun h297 => ?_)
               ·have r298 := ite_t h297 r296
                refine d_qk (.bool false) (by kernel_rfl) ?_
                refine d_qk (.bool false) (by kernel_rfl) ?_
                refine d_qk (.int .i64 y253.2.1) (by kernel_rfl) ?_
                refine d_qk (.int .i64 y114.1) (by kernel_rfl) ?_
                refine d_b (y253.2.1 ≥ y114.1) (by kernel_rfl) (fun h299 => ?_) (fun h299 => ?_)
                ·have r300 := ite_t h299 r298
                 refine d_qk (.bool true) (by kernel_rfl) ?_
                 refine d_qk (.bool true) (by kernel_rfl) ?_
                 refine d_idle (by kernel_rfl) ?_
                 refine d_idle (by kernel_rfl) ?_
                 refine d_idle (by kernel_rfl) ?_
                 refine d_qk (.bool true) (by kernel_rfl) ?_
                 refine d_qk (.bool true) (by kernel_rfl) ?_
                 refine d_idle (by kernel_rfl) ?_
                 refine d_idle (by kernel_rfl) ?_
                 refine d_idle (by kernel_rfl) ?_
                 refine d_idle (by kernel_rfl) ?_
                 refine d_idle (by kernel_rfl) ?_
                 refine d_idle (by kernel_rfl) ?_
                 refine d_idle (by kernel_rfl) ?_
                 refine d_idle (by kernel_rfl) ?_
                 refine d_idle (by kernel_rfl) ?_
                 refine d_idle (by kernel_rfl) ?_
                 refine d_idle (by kernel_rfl) ?_
                 refine d_idle (by kernel_rfl) ?_
                 refine d_idle (by kernel_rfl) ?_
                 refine d_idle (by kernel_rfl) ?_
                 refine d_idle (by kernel_rfl) ?_
                 refine d_idle (by kernel_rfl) ?_
                 refine d_qk (.bool true) (by kernel_rfl) ?_
                 refine d_nil ?_
                 refine k283 _ _ ?_
                 refine w_cond true (by kernel_rfl) rfl (fun _ => ?_) (fun h => by cases h)
                 refine w_seqk fun K301 k301 => ?_
                 refine w_reg (by kernel_rfl) ?_
                 refine s_qk (.bool false) (by kernel_rfl) ?_
                 refine s_nil ?_
                 refine k301 _ _ ?_
                 refine w_ret (bl_ret (th_ret (th_ret (bl_ret (th_ret (th_ret ?_))))))
                 obtain ⟨v302, hv303, hz304⟩ := map_some r300
                 subst hz304
                 obtain rfl := it_inr hn99
                 have hq305 := elim_inl r84
                 rw [hq305] at hv303
                 refine b_ret (fn := Try.f3) (vs := [.bool false]) (aRes_tmp (by kernel_rfl) (rfl)) ?_
                 obtain rfl := Option.some.inj hv303
                 exact ⟨rfl, (FrS.step wf (FrS.step wf (FrS.step wf (FrS.step wf (FrS.step wf ((FrS.step wf (FrS.step wf (FrS.step wf (FrS.step wf (FrS.step wf (FrS.step wf ((FrS.refl (W := []) wf).extR e4) e14 Inn.nil) e25 Inn.nil) e81 Inn.nil) e93 Inn.nil) e120 Inn.nil) e171 Inn.nil).extR e174) e180 (hb175.fresh (ntr (ntr (ntr (ntr (ntr (ntr e4.next e14.next) e25.next) e81.next) e93.next) e120.next) e171.next))) e188 Inn.nil) e200 Inn.nil) e259 Inn.nil) e279 Inn.nil)⟩
                ·have r306 := ite_f h299 r298
                 refine d_qk (.bool false) (by kernel_rfl) ?_
                 refine d_qk (.bool false) (by kernel_rfl) ?_
                 refine d_qk (.int .i64 y253.2.1) (by kernel_rfl) ?_
                 refine d_qk (.int .i64 y114.2.1) (by kernel_rfl) ?_
                 refine d_b (y253.2.1 ≥ y114.2.1) (by kernel_rfl) (fun h307 => ?_) (fun h307 => ?_)
                 ·have r308 := ite_t h307 r306
                  refine d_qk (.bool true) (by kernel_rfl) ?_
                  refine d_qk (.bool true) (by kernel_rfl) ?_
                  refine d_idle (by kernel_rfl) ?_
                  refine d_idle (by kernel_rfl) ?_
                  refine d_idle (by kernel_rfl) ?_
                  refine d_idle (by kernel_rfl) ?_
                  refine d_idle (by kernel_rfl) ?_
                  refine d_idle (by kernel_rfl) ?_
                  refine d_idle (by kernel_rfl) ?_
                  refine d_idle (by kernel_rfl) ?_
                  refine d_idle (by kernel_rfl) ?_
                  refine d_idle (by kernel_rfl) ?_
                  refine d_idle (by kernel_rfl) ?_
                  refine d_idle (by kernel_rfl) ?_
                  refine d_idle (by kernel_rfl) ?_
                  refine d_idle (by kernel_rfl) ?_
                  refine d_idle (by kernel_rfl) ?_
                  refine d_idle (by kernel_rfl) ?_
                  refine d_qk (.bool true) (by kernel_rfl) ?_
                  refine d_nil ?_
                  refine k283 _ _ ?_
                  refine w_cond true (by kernel_rfl) rfl (fun _ => ?_) (fun h => by cases h)
                  refine w_seqk fun K309 k309 => ?_
                  refine w_reg (by kernel_rfl) ?_
                  refine s_qk (.bool false) (by kernel_rfl) ?_
                  refine s_nil ?_
                  refine k309 _ _ ?_
                  refine w_ret (bl_ret (th_ret (th_ret (bl_ret (th_ret (th_ret ?_))))))
                  obtain ⟨v310, hv311, hz312⟩ := map_some r308
                  subst hz312
                  obtain rfl := it_inr hn99
                  have hq313 := elim_inl r84
                  rw [hq313] at hv311
                  refine b_ret (fn := Try.f3) (vs := [.bool false]) (aRes_tmp (by kernel_rfl) (rfl)) ?_
                  obtain rfl := Option.some.inj hv311
                  exact ⟨rfl, (FrS.step wf (FrS.step wf (FrS.step wf (FrS.step wf (FrS.step wf ((FrS.step wf (FrS.step wf (FrS.step wf (FrS.step wf (FrS.step wf (FrS.step wf ((FrS.refl (W := []) wf).extR e4) e14 Inn.nil) e25 Inn.nil) e81 Inn.nil) e93 Inn.nil) e120 Inn.nil) e171 Inn.nil).extR e174) e180 (hb175.fresh (ntr (ntr (ntr (ntr (ntr (ntr e4.next e14.next) e25.next) e81.next) e93.next) e120.next) e171.next))) e188 Inn.nil) e200 Inn.nil) e259 Inn.nil) e279 Inn.nil)⟩
                 ·have r314 := ite_f h307 r306
                  refine d_qk (.bool false) (by kernel_rfl) ?_
                  refine d_qk (.bool false) (by kernel_rfl) ?_
                  have u315 := (u264.frS e279 Dj.nil_l)
                  refine d_ql (.agg #[hd_Node, hd_UpFirst, hd_Up, hd_DownFirst, hd_Down]) (x := aLoad Try.prog 25 (.pointer (some ⟨b2, 0, none⟩)) H278) (by kernel_rfl) (u315.ld (by kernel_rfl)) ?_
                  refine d_qk (.pointer (some ⟨b172, 2, none⟩)) (by kernel_rfl) ?_
                  have u316 := (u265.frS e279 Dj.nil_l)
                  refine d_ql (.int .u32 y167.2.2.1) (x := aLoad Try.prog 34 (.pointer (some ⟨b172, 2, none⟩)) H278) (by kernel_rfl) (u316.ld (by kernel_rfl)) ?_
                  refine d_w (y167.2.2.1) (k := .i64) (x := y167.2.2.1) (by kernel_rfl) (wrap64 g246) ?_
                  refine d_fl (.agg #[hd_Node, hd_UpFirst, hd_Up, hd_DownFirst, hd_Down]) (x := aLoad Try.prog 25 (.pointer (some ⟨b2, 0, none⟩)) H278) (by kernel_rfl) (u315.ld (by kernel_rfl)) ?_
                  refine d_qk (.pointer (some ⟨b172, 3, none⟩)) (by kernel_rfl) ?_
                  refine d_fl (.int .u32 y167.2.2.2) (x := aLoad Try.prog 34 (.pointer (some ⟨b172, 3, none⟩)) H278) (by kernel_rfl) (u316.ld (by kernel_rfl)) ?_
                  refine d_w (y167.2.2.2) (k := .i64) (x := y167.2.2.2) (by kernel_rfl) (wrap64 g266) ?_
                  refine d_qk (.pointer (some ⟨b172, 1, none⟩)) (by kernel_rfl) ?_
                  refine d_fl (.int .u64 y167.2.1) (x := aLoad Try.prog 35 (.pointer (some ⟨b172, 1, none⟩)) H278) (by kernel_rfl) (u316.ld (by kernel_rfl)) ?_
                  have u317 := (u268.fr e279 Dj.nil_l)
                  have u318 := (u269.fr e279 Dj.nil_l)
                  have u319 := (u270.fr e279 Dj.nil_l)
                  have u320 := (u271.fr e279 Dj.nil_l)
                  have u321 := (u272.fr e279 Dj.nil_l)
                  obtain ⟨y322, hy323, r324⟩ := bind_some r314
                  refine d_ck 11 #[.agg #[hd_Node, hd_UpFirst, hd_Up, hd_DownFirst, hd_Down], .int .i64 y167.2.2.1] (by kernel_rfl) (c_viaductref10_Link e279.wf u317 u318 u319 u320 u321 hy323) ?_
                  rintro _ H325 ⟨rfl, e326⟩
                  have u327 := (u315.frS e326 Dj.nil_l)
                  have u328 := (u316.frS e326 Dj.nil_l)
                  refine ⟨st_ql (y := aLoad Try.prog 35 (.pointer (some ⟨b172, 1, none⟩)) H325) (by kernel_rfl) (u328.ld (by kernel_rfl)) (st_ql (y := aLoad Try.prog 34 (.pointer (some ⟨b172, 3, none⟩)) H325) (by kernel_rfl) (u328.ld (by kernel_rfl)) (st_ql (y := aLoad Try.prog 25 (.pointer (some ⟨b2, 0, none⟩)) H325) (by kernel_rfl) (u327.ld (by kernel_rfl)) (st_nil))), ?_⟩
                  refine d_qk (.int .u64 y322.2.1) (by kernel_rfl) ?_
                  have u329 := (u317.fr e326 Dj.nil_l)
                  have u330 := (u318.fr e326 Dj.nil_l)
                  have u331 := (u319.fr e326 Dj.nil_l)
                  have u332 := (u320.fr e326 Dj.nil_l)
                  have u333 := (u321.fr e326 Dj.nil_l)
                  obtain ⟨y334, hy335, r336⟩ := bind_some r324
                  refine d_ck 11 #[.agg #[hd_Node, hd_UpFirst, hd_Up, hd_DownFirst, hd_Down], .int .i64 y167.2.2.2] (by kernel_rfl) (c_viaductref10_Link e326.wf u329 u330 u331 u332 u333 hy335) ?_
                  rintro _ H337 ⟨rfl, e338⟩
                  have u339 := (u328.frS e338 Dj.nil_l)
                  refine ⟨st_ql (y := aLoad Try.prog 35 (.pointer (some ⟨b172, 1, none⟩)) H337) (by kernel_rfl) (u339.ld (by kernel_rfl)) (st_anc (by kernel_rfl) (st_anc (by kernel_rfl) (st_nil))), ?_⟩
                  refine d_qk (.int .u64 y334.2.1) (by kernel_rfl) ?_
                  obtain ⟨g340, r341⟩ := G_some r336
                  refine d_w ((y322.2.1 + y334.2.1)) (k := .u64) (x := (y322.2.1 + y334.2.1)) (by kernel_rfl) (wrapu64 g340) ?_
                  refine d_qk (.bool (!decide ((y322.2.1 + y334.2.1) = y167.2.1))) (by kernel_rfl) ?_
                  refine d_qk (.bool (!decide ((y322.2.1 + y334.2.1) = y167.2.1))) (by kernel_rfl) ?_
                  refine d_nil ?_
                  refine k283 _ _ ?_
                  refine w_condn ((y322.2.1 + y334.2.1) = y167.2.1) (by kernel_rfl) rfl (fun h342 => ?_) (fun h342 => ?_)
                  ·have r343 := ite_f h342 r341
                   refine w_seqk fun K344 k344 => ?_
                   refine w_reg (by kernel_rfl) ?_
                   refine s_qk (.bool false) (by kernel_rfl) ?_
                   refine s_nil ?_
                   refine k344 _ _ ?_
                   refine w_ret (bl_ret (th_ret (th_ret (bl_ret (th_ret (th_ret ?_))))))
                   obtain ⟨v345, hv346, hz347⟩ := map_some r343
                   subst hz347
                   obtain rfl := it_inr hn99
                   have hq348 := elim_inl r84
                   rw [hq348] at hv346
                   refine b_ret (fn := Try.f3) (vs := [.bool false]) (aRes_tmp (by kernel_rfl) (rfl)) ?_
                   obtain rfl := Option.some.inj hv346
                   exact ⟨rfl, (FrS.step wf (FrS.step wf (FrS.step wf (FrS.step wf (FrS.step wf (FrS.step wf (FrS.step wf ((FrS.step wf (FrS.step wf (FrS.step wf (FrS.step wf (FrS.step wf (FrS.step wf ((FrS.refl (W := []) wf).extR e4) e14 Inn.nil) e25 Inn.nil) e81 Inn.nil) e93 Inn.nil) e120 Inn.nil) e171 Inn.nil).extR e174) e180 (hb175.fresh (ntr (ntr (ntr (ntr (ntr (ntr e4.next e14.next) e25.next) e81.next) e93.next) e120.next) e171.next))) e188 Inn.nil) e200 Inn.nil) e259 Inn.nil) e279 Inn.nil) e326 Inn.nil) e338 Inn.nil)⟩
                  ·have r349 := ite_t h342 r341
                   refine w_skip ?_
                   refine k105 _ _ ?_
                   refine w_reg (by kernel_rfl) ?_
                   obtain ⟨g350, r351⟩ := G_some r349
                   refine s_w ((i0 + 1)) (k := .i64) (x := (i0 + 1)) (by kernel_rfl) (wrap64 g350) ?_
                   refine s_qk (.int .i64 (i0 + 1)) (by kernel_rfl) ?_
                   refine s_nil ?_
                   obtain rfl := Option.some.inj r351
                   exact k100 n96 _ _ (Nat.lt_succ_self _) ⟨(i0 + 1), hn99, ⟨by kernel_rfl, by kernel_rfl, by kernel_rfl, trivial⟩, (FrS.step e81.wf (FrS.step e81.wf (FrS.step e81.wf (FrS.step e81.wf (FrS.step e81.wf (FrS.step e81.wf (FrS.step e81.wf ((FrS.step e81.wf (FrS.step e81.wf (FrS.step e81.wf (FrS.refl (W := []) e81.wf) e93 Inn.nil) e120 Inn.nil) e171 Inn.nil).extR e174) e180 (hb175.fresh (ntr (ntr e93.next e120.next) e171.next))) e188 Inn.nil) e200 Inn.nil) e259 Inn.nil) e279 Inn.nil) e326 Inn.nil) e338 Inn.nil)⟩
               ·have r352 := ite_f h297 r296
                refine d_qk (.bool true) (by kernel_rfl) ?_
                refine d_qk (.bool true) (by kernel_rfl) ?_
                refine d_idle (by kernel_rfl) ?_
                refine d_idle (by kernel_rfl) ?_
                refine d_idle (by kernel_rfl) ?_
                refine d_qk (.bool true) (by kernel_rfl) ?_
                refine d_qk (.bool true) (by kernel_rfl) ?_
                refine d_idle (by kernel_rfl) ?_
                refine d_idle (by kernel_rfl) ?_
                refine d_idle (by kernel_rfl) ?_
                refine d_qk (.bool true) (by kernel_rfl) ?_
                refine d_qk (.bool true) (by kernel_rfl) ?_
                refine d_idle (by kernel_rfl) ?_
                refine d_idle (by kernel_rfl) ?_
                refine d_idle (by kernel_rfl) ?_
                refine d_idle (by kernel_rfl) ?_
                refine d_idle (by kernel_rfl) ?_
                refine d_idle (by kernel_rfl) ?_
                refine d_idle (by kernel_rfl) ?_
                refine d_idle (by kernel_rfl) ?_
                refine d_idle (by kernel_rfl) ?_
                refine d_idle (by kernel_rfl) ?_
                refine d_idle (by kernel_rfl) ?_
                refine d_idle (by kernel_rfl) ?_
                refine d_idle (by kernel_rfl) ?_
                refine d_idle (by kernel_rfl) ?_
                refine d_idle (by kernel_rfl) ?_
                refine d_idle (by kernel_rfl) ?_
                refine d_qk (.bool true) (by kernel_rfl) ?_
                refine d_nil ?_
                refine k283 _ _ ?_
                refine w_cond true (by kernel_rfl) rfl (fun _ => ?_) (fun h => by cases h)
                refine w_seqk fun K353 k353 => ?_
                refine w_reg (by kernel_rfl) ?_
                refine s_qk (.bool false) (by kernel_rfl) ?_
                refine s_nil ?_
                refine k353 _ _ ?_
                refine w_ret (bl_ret (th_ret (th_ret (bl_ret (th_ret (th_ret ?_))))))
                obtain ⟨v354, hv355, hz356⟩ := map_some r352
                subst hz356
                obtain rfl := it_inr hn99
                have hq357 := elim_inl r84
                rw [hq357] at hv355
                refine b_ret (fn := Try.f3) (vs := [.bool false]) (aRes_tmp (by kernel_rfl) (rfl)) ?_
                obtain rfl := Option.some.inj hv355
                exact ⟨rfl, (FrS.step wf (FrS.step wf (FrS.step wf (FrS.step wf (FrS.step wf ((FrS.step wf (FrS.step wf (FrS.step wf (FrS.step wf (FrS.step wf (FrS.step wf ((FrS.refl (W := []) wf).extR e4) e14 Inn.nil) e25 Inn.nil) e81 Inn.nil) e93 Inn.nil) e120 Inn.nil) e171 Inn.nil).extR e174) e180 (hb175.fresh (ntr (ntr (ntr (ntr (ntr (ntr e4.next e14.next) e25.next) e81.next) e93.next) e120.next) e171.next))) e188 Inn.nil) e200 Inn.nil) e259 Inn.nil) e279 Inn.nil)⟩
              ·have r358 := ite_f h295 r294
               refine d_qk (.bool true) (by kernel_rfl) ?_
               refine d_qk (.bool true) (by kernel_rfl) ?_
               refine d_idle (by kernel_rfl) ?_
               refine d_idle (by kernel_rfl) ?_
               refine d_idle (by kernel_rfl) ?_
               refine d_qk (.bool true) (by kernel_rfl) ?_
               refine d_qk (.bool true) (by kernel_rfl) ?_
               refine d_idle (by kernel_rfl) ?_
               refine d_idle (by kernel_rfl) ?_
               refine d_idle (by kernel_rfl) ?_
               refine d_qk (.bool true) (by kernel_rfl) ?_
               refine d_qk (.bool true) (by kernel_rfl) ?_
               refine d_idle (by kernel_rfl) ?_
               refine d_idle (by kernel_rfl) ?_
               refine d_idle (by kernel_rfl) ?_
               refine d_qk (.bool true) (by kernel_rfl) ?_
               refine d_qk (.bool true) (by kernel_rfl) ?_
               refine d_idle (by kernel_rfl) ?_
               refine d_idle (by kernel_rfl) ?_
               refine d_idle (by kernel_rfl) ?_
               refine d_idle (by kernel_rfl) ?_
               refine d_idle (by kernel_rfl) ?_
               refine d_idle (by kernel_rfl) ?_
               refine d_idle (by kernel_rfl) ?_
               refine d_idle (by kernel_rfl) ?_
               refine d_idle (by kernel_rfl) ?_
               refine d_idle (by kernel_rfl) ?_
               refine d_idle (by kernel_rfl) ?_
               refine d_idle (by kernel_rfl) ?_
               refine d_idle (by kernel_rfl) ?_
               refine d_idle (by kernel_rfl) ?_
               refine d_idle (by kernel_rfl) ?_
               refine d_idle (by kernel_rfl) ?_
               refine d_qk (.bool true) (by kernel_rfl) ?_
               refine d_nil ?_
               refine k283 _ _ ?_
               refine w_cond true (by kernel_rfl) rfl (fun _ => ?_) (fun h => by cases h)
               refine w_seqk fun K359 k359 => ?_
               refine w_reg (by kernel_rfl) ?_
               refine s_qk (.bool false) (by kernel_rfl) ?_
               refine s_nil ?_
               refine k359 _ _ ?_
               refine w_ret (bl_ret (th_ret (th_ret (bl_ret (th_ret (th_ret ?_))))))
               obtain ⟨v360, hv361, hz362⟩ := map_some r358
               subst hz362
               obtain rfl := it_inr hn99
               have hq363 := elim_inl r84
               rw [hq363] at hv361
               refine b_ret (fn := Try.f3) (vs := [.bool false]) (aRes_tmp (by kernel_rfl) (rfl)) ?_
               obtain rfl := Option.some.inj hv361
               exact ⟨rfl, (FrS.step wf (FrS.step wf (FrS.step wf (FrS.step wf (FrS.step wf ((FrS.step wf (FrS.step wf (FrS.step wf (FrS.step wf (FrS.step wf (FrS.step wf ((FrS.refl (W := []) wf).extR e4) e14 Inn.nil) e25 Inn.nil) e81 Inn.nil) e93 Inn.nil) e120 Inn.nil) e171 Inn.nil).extR e174) e180 (hb175.fresh (ntr (ntr (ntr (ntr (ntr (ntr e4.next e14.next) e25.next) e81.next) e93.next) e120.next) e171.next))) e188 Inn.nil) e200 Inn.nil) e259 Inn.nil) e279 Inn.nil)⟩
             ·have r364 := ite_f h293 r292
              refine d_qk (.bool true) (by kernel_rfl) ?_
              refine d_qk (.bool true) (by kernel_rfl) ?_
              refine d_idle (by kernel_rfl) ?_
              refine d_idle (by kernel_rfl) ?_
              refine d_idle (by kernel_rfl) ?_
              refine d_qk (.bool true) (by kernel_rfl) ?_
              refine d_qk (.bool true) (by kernel_rfl) ?_
              refine d_idle (by kernel_rfl) ?_
              refine d_idle (by kernel_rfl) ?_
              refine d_idle (by kernel_rfl) ?_
              refine d_qk (.bool true) (by kernel_rfl) ?_
              refine d_qk (.bool true) (by kernel_rfl) ?_
              refine d_idle (by kernel_rfl) ?_
              refine d_idle (by kernel_rfl) ?_
              refine d_idle (by kernel_rfl) ?_
              refine d_qk (.bool true) (by kernel_rfl) ?_
              refine d_qk (.bool true) (by kernel_rfl) ?_
              refine d_idle (by kernel_rfl) ?_
              refine d_idle (by kernel_rfl) ?_
              refine d_idle (by kernel_rfl) ?_
              refine d_qk (.bool true) (by kernel_rfl) ?_
              refine d_qk (.bool true) (by kernel_rfl) ?_
              refine d_idle (by kernel_rfl) ?_
              refine d_idle (by kernel_rfl) ?_
              refine d_idle (by kernel_rfl) ?_
              refine d_idle (by kernel_rfl) ?_
              refine d_idle (by kernel_rfl) ?_
              refine d_idle (by kernel_rfl) ?_
              refine d_idle (by kernel_rfl) ?_
              refine d_idle (by kernel_rfl) ?_
              refine d_idle (by kernel_rfl) ?_
              refine d_idle (by kernel_rfl) ?_
              refine d_idle (by kernel_rfl) ?_
              refine d_idle (by kernel_rfl) ?_
              refine d_idle (by kernel_rfl) ?_
              refine d_idle (by kernel_rfl) ?_
              refine d_idle (by kernel_rfl) ?_
              refine d_idle (by kernel_rfl) ?_
              refine d_qk (.bool true) (by kernel_rfl) ?_
              refine d_nil ?_
              refine k283 _ _ ?_
              refine w_cond true (by kernel_rfl) rfl (fun _ => ?_) (fun h => by cases h)
              refine w_seqk fun K365 k365 => ?_
              refine w_reg (by kernel_rfl) ?_
              refine s_qk (.bool false) (by kernel_rfl) ?_
              refine s_nil ?_
              refine k365 _ _ ?_
              refine w_ret (bl_ret (th_ret (th_ret (bl_ret (th_ret (th_ret ?_))))))
              obtain ⟨v366, hv367, hz368⟩ := map_some r364
              subst hz368
              obtain rfl := it_inr hn99
              have hq369 := elim_inl r84
              rw [hq369] at hv367
              refine b_ret (fn := Try.f3) (vs := [.bool false]) (aRes_tmp (by kernel_rfl) (rfl)) ?_
              obtain rfl := Option.some.inj hv367
              exact ⟨rfl, (FrS.step wf (FrS.step wf (FrS.step wf (FrS.step wf (FrS.step wf ((FrS.step wf (FrS.step wf (FrS.step wf (FrS.step wf (FrS.step wf (FrS.step wf ((FrS.refl (W := []) wf).extR e4) e14 Inn.nil) e25 Inn.nil) e81 Inn.nil) e93 Inn.nil) e120 Inn.nil) e171 Inn.nil).extR e174) e180 (hb175.fresh (ntr (ntr (ntr (ntr (ntr (ntr e4.next e14.next) e25.next) e81.next) e93.next) e120.next) e171.next))) e188 Inn.nil) e200 Inn.nil) e259 Inn.nil) e279 Inn.nil)⟩
            ·have r370 := ite_f h289 r288
             refine d_ql (.bool true) (x := aBin Try.prog .neq 29 (.tmp 107) (.const .nilIface) (.iface t290 x291) .nilIface) (by kernel_rfl) (aBin_nnil (by kernel_rfl)) ?_
             refine d_qk (.bool true) (by kernel_rfl) ?_
             refine d_qk (.bool true) (by kernel_rfl) ?_
             refine d_idle (by kernel_rfl) ?_
             refine d_idle (by kernel_rfl) ?_
             refine d_idle (by kernel_rfl) ?_
             refine d_qk (.bool true) (by kernel_rfl) ?_
             refine d_qk (.bool true) (by kernel_rfl) ?_
             refine d_idle (by kernel_rfl) ?_
             refine d_idle (by kernel_rfl) ?_
             refine d_idle (by kernel_rfl) ?_
             refine d_qk (.bool true) (by kernel_rfl) ?_
             refine d_qk (.bool true) (by kernel_rfl) ?_
             refine d_idle (by kernel_rfl) ?_
             refine d_idle (by kernel_rfl) ?_
             refine d_idle (by kernel_rfl) ?_
             refine d_qk (.bool true) (by kernel_rfl) ?_
             refine d_qk (.bool true) (by kernel_rfl) ?_
             refine d_idle (by kernel_rfl) ?_
             refine d_idle (by kernel_rfl) ?_
             refine d_idle (by kernel_rfl) ?_
             refine d_qk (.bool true) (by kernel_rfl) ?_
             refine d_qk (.bool true) (by kernel_rfl) ?_
             refine d_idle (by kernel_rfl) ?_
             refine d_idle (by kernel_rfl) ?_
             refine d_idle (by kernel_rfl) ?_
             refine d_qk (.bool true) (by kernel_rfl) ?_
             refine d_qk (.bool true) (by kernel_rfl) ?_
             refine d_idle (by kernel_rfl) ?_
             refine d_idle (by kernel_rfl) ?_
             refine d_idle (by kernel_rfl) ?_
             refine d_idle (by kernel_rfl) ?_
             refine d_idle (by kernel_rfl) ?_
             refine d_idle (by kernel_rfl) ?_
             refine d_idle (by kernel_rfl) ?_
             refine d_idle (by kernel_rfl) ?_
             refine d_idle (by kernel_rfl) ?_
             refine d_idle (by kernel_rfl) ?_
             refine d_idle (by kernel_rfl) ?_
             refine d_idle (by kernel_rfl) ?_
             refine d_idle (by kernel_rfl) ?_
             refine d_idle (by kernel_rfl) ?_
             refine d_idle (by kernel_rfl) ?_
             refine d_idle (by kernel_rfl) ?_
             refine d_qk (.bool true) (by kernel_rfl) ?_
             refine d_nil ?_
             refine k283 _ _ ?_
             refine w_cond true (by kernel_rfl) rfl (fun _ => ?_) (fun h => by cases h)
             refine w_seqk fun K371 k371 => ?_
             refine w_reg (by kernel_rfl) ?_
             refine s_qk (.bool false) (by kernel_rfl) ?_
             refine s_nil ?_
             refine k371 _ _ ?_
             refine w_ret (bl_ret (th_ret (th_ret (bl_ret (th_ret (th_ret ?_))))))
             obtain ⟨v372, hv373, hz374⟩ := map_some r370
             subst hz374
             obtain rfl := it_inr hn99
             have hq375 := elim_inl r84
             rw [hq375] at hv373
             refine b_ret (fn := Try.f3) (vs := [.bool false]) (aRes_tmp (by kernel_rfl) (rfl)) ?_
             obtain rfl := Option.some.inj hv373
             exact ⟨rfl, (FrS.step wf (FrS.step wf (FrS.step wf (FrS.step wf (FrS.step wf ((FrS.step wf (FrS.step wf (FrS.step wf (FrS.step wf (FrS.step wf (FrS.step wf ((FrS.refl (W := []) wf).extR e4) e14 Inn.nil) e25 Inn.nil) e81 Inn.nil) e93 Inn.nil) e120 Inn.nil) e171 Inn.nil).extR e174) e180 (hb175.fresh (ntr (ntr (ntr (ntr (ntr (ntr e4.next e14.next) e25.next) e81.next) e93.next) e120.next) e171.next))) e188 Inn.nil) e200 Inn.nil) e259 Inn.nil) e279 Inn.nil)⟩
           ·have r376 := ite_f h284 r275
            refine d_ql (.bool true) (x := aBin Try.prog .neq 29 (.tmp 104) (.const .nilIface) (.iface t285 x286) .nilIface) (by kernel_rfl) (aBin_nnil (by kernel_rfl)) ?_
            refine d_qk (.bool true) (by kernel_rfl) ?_
            refine d_idle (by kernel_rfl) ?_
            refine d_idle (by kernel_rfl) ?_
            refine d_qk (.bool true) (by kernel_rfl) ?_
            refine d_qk (.bool true) (by kernel_rfl) ?_
            refine d_idle (by kernel_rfl) ?_
            refine d_idle (by kernel_rfl) ?_
            refine d_idle (by kernel_rfl) ?_
            refine d_qk (.bool true) (by kernel_rfl) ?_
            refine d_qk (.bool true) (by kernel_rfl) ?_
            refine d_idle (by kernel_rfl) ?_
            refine d_idle (by kernel_rfl) ?_
            refine d_idle (by kernel_rfl) ?_
            refine d_qk (.bool true) (by kernel_rfl) ?_
            refine d_qk (.bool true) (by kernel_rfl) ?_
            refine d_idle (by kernel_rfl) ?_
            refine d_idle (by kernel_rfl) ?_
            refine d_idle (by kernel_rfl) ?_
            refine d_qk (.bool true) (by kernel_rfl) ?_
            refine d_qk (.bool true) (by kernel_rfl) ?_
            refine d_idle (by kernel_rfl) ?_
            refine d_idle (by kernel_rfl) ?_
            refine d_idle (by kernel_rfl) ?_
            refine d_qk (.bool true) (by kernel_rfl) ?_
            refine d_qk (.bool true) (by kernel_rfl) ?_
            refine d_idle (by kernel_rfl) ?_
            refine d_idle (by kernel_rfl) ?_
            refine d_idle (by kernel_rfl) ?_
            refine d_qk (.bool true) (by kernel_rfl) ?_
            refine d_qk (.bool true) (by kernel_rfl) ?_
            refine d_idle (by kernel_rfl) ?_
            refine d_idle (by kernel_rfl) ?_
            refine d_idle (by kernel_rfl) ?_
            refine d_idle (by kernel_rfl) ?_
            refine d_idle (by kernel_rfl) ?_
            refine d_idle (by kernel_rfl) ?_
            refine d_idle (by kernel_rfl) ?_
            refine d_idle (by kernel_rfl) ?_
            refine d_idle (by kernel_rfl) ?_
            refine d_idle (by kernel_rfl) ?_
            refine d_idle (by kernel_rfl) ?_
            refine d_idle (by kernel_rfl) ?_
            refine d_idle (by kernel_rfl) ?_
            refine d_idle (by kernel_rfl) ?_
            refine d_idle (by kernel_rfl) ?_
            refine d_idle (by kernel_rfl) ?_
            refine d_qk (.bool true) (by kernel_rfl) ?_
            refine d_nil ?_
            refine k283 _ _ ?_
            refine w_cond true (by kernel_rfl) rfl (fun _ => ?_) (fun h => by cases h)
            refine w_seqk fun K377 k377 => ?_
            refine w_reg (by kernel_rfl) ?_
            refine s_qk (.bool false) (by kernel_rfl) ?_
            refine s_nil ?_
            refine k377 _ _ ?_
            refine w_ret (bl_ret (th_ret (th_ret (bl_ret (th_ret (th_ret ?_))))))
            obtain ⟨v378, hv379, hz380⟩ := map_some r376
            subst hz380
            obtain rfl := it_inr hn99
            have hq381 := elim_inl r84
            rw [hq381] at hv379
            refine b_ret (fn := Try.f3) (vs := [.bool false]) (aRes_tmp (by kernel_rfl) (rfl)) ?_
            obtain rfl := Option.some.inj hv379
            exact ⟨rfl, (FrS.step wf (FrS.step wf (FrS.step wf (FrS.step wf (FrS.step wf ((FrS.step wf (FrS.step wf (FrS.step wf (FrS.step wf (FrS.step wf (FrS.step wf ((FrS.refl (W := []) wf).extR e4) e14 Inn.nil) e25 Inn.nil) e81 Inn.nil) e93 Inn.nil) e120 Inn.nil) e171 Inn.nil).extR e174) e180 (hb175.fresh (ntr (ntr (ntr (ntr (ntr (ntr e4.next e14.next) e25.next) e81.next) e93.next) e120.next) e171.next))) e188 Inn.nil) e200 Inn.nil) e259 Inn.nil) e279 Inn.nil)⟩
     ·have r382 := ite_f h103 hz98
      refine w_exit (th_exit (th_exit (bl_eq ?_)))
      obtain rfl := Option.some.inj r382
      obtain rfl := it_inr hn99
      exact k88 _ _ ⟨_, rfl, ⟨by kernel_rfl, trivial⟩, (FrS.step e81.wf (FrS.refl (W := []) e81.wf) e93 Inn.nil)⟩
    ·obtain ⟨o82, rfl, hh89, e87⟩ := hM
     have r383 := elim_inr r84
     obtain ⟨β, rfl⟩ := has_ex hh89
     clear hh89
     refine k69 _ _ ?_
     refine w_seqk fun K384 k384 => ?_
     refine w_reg (by kernel_rfl) ?_
     have u385 := ((u71.frS e81 Dj.nil_l).frS e87 Dj.nil_l)
     refine s_ql (.agg #[hd_Node, hd_UpFirst, hd_Up, hd_DownFirst, hd_Down]) (x := aLoad Try.prog 25 (.pointer (some ⟨b2, 0, none⟩)) H86) (by kernel_rfl) (u385.ld (by kernel_rfl)) ?_
     have u386 := ((u72.fr e81 Dj.nil_l).fr e87 Dj.nil_l)
     have u387 := ((u73.fr e81 Dj.nil_l).fr e87 Dj.nil_l)
     have u388 := ((u74.fr e81 Dj.nil_l).fr e87 Dj.nil_l)
     have u389 := ((u75.fr e81 Dj.nil_l).fr e87 Dj.nil_l)
     have u390 := ((u76.fr e81 Dj.nil_l).fr e87 Dj.nil_l)
     obtain ⟨y391, hy392, r393⟩ := bind_some r383
     refine s_ck 13 #[.agg #[hd_Node, hd_UpFirst, hd_Up, hd_DownFirst, hd_Down]] (by kernel_rfl) (c_hier_Ranks e87.wf u386 u387 u388 u389 u390 hy392) ?_
     rintro _ H398 ⟨s394, f395, v396, f397, rfl, e399, m400, m401, i402, i403, d404⟩
     obtain ⟨a407, n408, c409, rfl⟩ := m400.form
     refine s_qk (.tuple #[.slice a407 n408 c409, v396]) (by kernel_rfl) ?_
     refine s_qk (.slice a407 n408 c409) (by kernel_rfl) ?_
     refine s_qk (v396) (by kernel_rfl) ?_
     refine s_qk (.slice a407 n408 c409) (by kernel_rfl) ?_
     refine s_qk (v396) (by kernel_rfl) ?_
     refine s_nil ?_
     refine k384 _ _ ?_
     refine w_seqk fun K410 k410 => ?_
     refine w_seqk fun K411 k411 => ?_
     obtain ⟨o412, hx413, r414⟩ := bind_some r393
     refine w_mid (fun α H415 => Has α [(1, .pointer (some ⟨b2, 0, none⟩)), (13, .slice a407 n408 c409), (168, .bool o412)] ∧ H398 = H415) (fun K417 k417 => ?_) (fun α H415 hM => ?_)
     ·refine w_reg (by kernel_rfl) ?_
      refine s_qk (v396) (by kernel_rfl) ?_
      rcases (m401).cases with ⟨h419, rfl⟩ | ⟨h419, t420, x421, rfl⟩
      ·have r422 := ite_t h419 hx413
       refine s_qk (.bool false) (by kernel_rfl) ?_
       refine s_qk (.bool false) (by kernel_rfl) ?_
       refine s_qk (.slice a407 n408 c409) (by kernel_rfl) ?_
       refine s_ql (.int .i64 (y391.1.length : Int)) (x := aLen Try.prog 40 (.slice a407 n408 c409) H398) (by kernel_rfl) (m400.sq.lenb (by kernel_rfl)) ?_
       refine s_qk (.pointer (some ⟨b2, 0, none⟩)) (by kernel_rfl) ?_
       have u423 := (u385.frS e399 Dj.nil_l)
       refine s_ql (hd_Node) (x := aLoad Try.prog 22 (.pointer (some ⟨b2, 0, none⟩)) H398) (by kernel_rfl) (u423.ld (by kernel_rfl)) ?_
       have u424 := (u386.fr e399 Dj.nil_l)
       refine s_ql (.int .i64 (Node.length : Int)) (x := aLen Try.prog 22 hd_Node H398) (by kernel_rfl) (u424.lenb (by kernel_rfl)) ?_
       refine s_qk (.bool (!decide ((y391.1.length : Int) = (Node.length : Int)))) (by kernel_rfl) ?_
       refine s_qk (.bool (!decide ((y391.1.length : Int) = (Node.length : Int)))) (by kernel_rfl) ?_
       refine s_nil ?_
       obtain rfl := Option.some.inj r422
       exact k417 _ _ ⟨⟨by kernel_rfl, by kernel_rfl, by kernel_rfl, trivial⟩, rfl⟩
      ·have r425 := ite_f h419 hx413
       refine s_ql (.bool true) (x := aBin Try.prog .neq 29 (.tmp 159) (.const .nilIface) (.iface t420 x421) .nilIface) (by kernel_rfl) (aBin_nnil (by kernel_rfl)) ?_
       refine s_qk (.bool true) (by kernel_rfl) ?_
       refine s_no (by kernel_rfl) ?_
       refine s_no (by kernel_rfl) ?_
       refine s_no (by kernel_rfl) ?_
       refine s_no (by kernel_rfl) ?_
       refine s_no (by kernel_rfl) ?_
       refine s_no (by kernel_rfl) ?_
       refine s_qk (.bool true) (by kernel_rfl) ?_
       refine s_nil ?_
       obtain rfl := Option.some.inj r425
       exact k417 _ _ ⟨⟨by kernel_rfl, by kernel_rfl, by kernel_rfl, trivial⟩, rfl⟩
     ·obtain ⟨hh418, rfl⟩ := hM
      obtain ⟨β, rfl⟩ := has_ex hh418
      clear hh418
      refine k411 _ _ ?_
      refine w_cond (o412) (by kernel_rfl) rfl (fun h426 => ?_) (fun h426 => ?_)
      ·have r427 := ite_t h426 r414
       refine w_seqk fun K428 k428 => ?_
       refine w_reg (by kernel_rfl) ?_
       refine s_qk (.bool false) (by kernel_rfl) ?_
       refine s_nil ?_
       refine k428 _ _ ?_
       refine w_ret (th_ret ?_)
       refine b_ret (fn := Try.f3) (vs := [.bool false]) (aRes_tmp (by kernel_rfl) (rfl)) ?_
       obtain rfl := Option.some.inj r427
       exact ⟨rfl, (FrS.step wf (FrS.step wf (FrS.step wf (FrS.step wf (FrS.step wf ((FrS.refl (W := []) wf).extR e4) e14 Inn.nil) e25 Inn.nil) e81 Inn.nil) e87 Inn.nil) e399 Inn.nil)⟩
      ·have r429 := ite_bf h426 r414
       refine w_skip ?_
       refine k410 _ _ ?_
       refine w_seqk fun K430 k430 => ?_
       refine w_seqk fun K431 k431 => ?_
       refine w_reg (by kernel_rfl) ?_
       refine s_qk (.pointer (some ⟨b2, 0, none⟩)) (by kernel_rfl) ?_
       have u432 := (u385.frS e399 Dj.nil_l)
       refine s_ql (hd_Node) (x := aLoad Try.prog 22 (.pointer (some ⟨b2, 0, none⟩)) H398) (by kernel_rfl) (u432.ld (by kernel_rfl)) ?_
       have u433 := (u386.fr e399 Dj.nil_l)
       refine s_ql (.int .i64 (Node.length : Int)) (x := aLen Try.prog 22 hd_Node H398) (by kernel_rfl) (u433.lenb (by kernel_rfl)) ?_
       refine s_qk (.int .i64 0) (by kernel_rfl) ?_
       refine s_nil ?_
       refine k431 _ _ ?_
       obtain ⟨z437, hx435, r436⟩ := bind_some r429
       refine w_mid (fun α H438 => ∃ o434, z437 = Sum.inr o434 ∧ Has α [] ∧ H398 = H438) (fun K440 k440 => ?_) (fun α H438 hM => ?_)
       ·refine w_block ?_
        obtain ⟨n442, hn443⟩ := loopO_iff.1 hx435
        refine w_loopn (fun n α H444 => ∃ (i1 : Int), iterO (fun zz_ => z_viaductlaw10_HierFalls_l1 Node y391 zz_) n i1 = some z437 ∧ Has α [(13, .slice a407 n408 c409), (170, hd_Node), (171, .int .i64 (Node.length : Int)), (172, .int .i64 i1)] ∧ H398 = H444) n442 ⟨0, hn443, ⟨by kernel_rfl, by kernel_rfl, by kernel_rfl, by kernel_rfl, trivial⟩, rfl⟩ ?_
        rintro n442 α H444 ⟨i1, hi447, hh446, rfl⟩ K452 k452
        obtain ⟨n448, z449, rfl, hz450, hn451⟩ := iter_succ hi447
        obtain ⟨β, rfl⟩ := has_ex hh446
        clear hh446
        replace hz450 : z_viaductlaw10_HierFalls_l1 Node y391 i1 = some z449 := hz450
        unfold z_viaductlaw10_HierFalls_l1 at hz450
        refine w_seqk fun K453 k453 => ?_
        refine w_reg (by kernel_rfl) ?_
        refine s_qk (.bool (decide (i1 < (Node.length : Int)))) (by kernel_rfl) ?_
        refine s_nil ?_
        refine k453 _ _ ?_
        refine w_seqk fun K454 k454 => ?_
        refine w_condp (i1 < (Node.length : Int)) (by kernel_rfl) rfl (fun h455 => ?_) (fun h455 => ?_)
        ·have r456 := ite_t h455 hz450
         refine w_skip ?_
         refine k454 _ _ ?_
         refine w_seqk fun K457 k457 => ?_
         refine w_block ?_
         refine w_seqk fun K458 k458 => ?_
         refine w_reg (by kernel_rfl) ?_
         refine s_qk (.int .i64 i1) (by kernel_rfl) ?_
         obtain ⟨g459, r460⟩ := G_some r456
         refine s_ql (elp hd_Node 1 i1.toNat 0) (x := aIndexAddr Try.prog 22 hd_Node (.int .i64 i1)) (by kernel_rfl) (u433.idxb (by kernel_rfl) g459 h455) ?_
         refine s_ql (.int .u32 (gt Node i1)) (x := aLoad Try.prog 34 (elp hd_Node 1 i1.toNat 0) H398) (by kernel_rfl) (u433.ld g459 h455 (by kernel_rfl)) ?_
         refine s_qk (.int .i64 i1) (by kernel_rfl) ?_
         refine s_qk (.int .u32 (gt Node i1)) (by kernel_rfl) ?_
         refine s_nil ?_
         refine k458 _ _ ?_
         refine w_seqk fun K461 k461 => ?_
         refine w_reg (by kernel_rfl) ?_
         refine s_qk (.int .u32 (gt Node i1)) (by kernel_rfl) ?_
         obtain ⟨g462, r463⟩ := G_some r460
         refine s_w ((gt Node i1)) (k := .i64) (x := (gt Node i1)) (by kernel_rfl) (wrap64 g462) ?_
         refine s_qk (.slice a407 n408 c409) (by kernel_rfl) ?_
         refine s_ql (.int .i64 (y391.1.length : Int)) (x := aLen Try.prog 40 (.slice a407 n408 c409) H398) (by kernel_rfl) (m400.sq.lenb (by kernel_rfl)) ?_
         refine s_b ((gt Node i1) ≥ (y391.1.length : Int)) (by kernel_rfl) (fun h464 => ?_) (fun h464 => ?_)
         ·have r465 := ite_t h464 r463
          refine s_qk (.bool true) (by kernel_rfl) ?_
          refine s_no (by kernel_rfl) ?_
          refine s_no (by kernel_rfl) ?_
          refine s_no (by kernel_rfl) ?_
          refine s_no (by kernel_rfl) ?_
          refine s_no (by kernel_rfl) ?_
          refine s_no (by kernel_rfl) ?_
          refine s_qk (.bool true) (by kernel_rfl) ?_
          refine s_nil ?_
          refine k461 _ _ ?_
          refine w_cond true (by kernel_rfl) rfl (fun _ => ?_) (fun h => by cases h)
          refine w_seqk fun K466 k466 => ?_
          refine w_reg (by kernel_rfl) ?_
          refine s_qk (.bool false) (by kernel_rfl) ?_
          refine s_nil ?_
          refine k466 _ _ ?_
          refine w_ret (bl_ret (th_ret (th_ret (bl_ret (th_ret (th_ret ?_))))))
          obtain ⟨v467, hv468, hz469⟩ := map_some r465
          subst hz469
          obtain rfl := it_inr hn451
          have hq470 := elim_inl r436
          rw [hq470] at hv468
          refine b_ret (fn := Try.f3) (vs := [.bool false]) (aRes_tmp (by kernel_rfl) (rfl)) ?_
          obtain rfl := Option.some.inj hv468
          exact ⟨rfl, (FrS.step wf (FrS.step wf (FrS.step wf (FrS.step wf (FrS.step wf ((FrS.refl (W := []) wf).extR e4) e14 Inn.nil) e25 Inn.nil) e81 Inn.nil) e87 Inn.nil) e399 Inn.nil)⟩
         ·have r471 := ite_f h464 r463
          refine s_qk (.bool false) (by kernel_rfl) ?_
          refine s_qk (.slice a407 n408 c409) (by kernel_rfl) ?_
          refine s_qk (.int .u32 (gt Node i1)) (by kernel_rfl) ?_
          obtain ⟨g472, r473⟩ := G_some r471
          refine s_ql (elp (.slice a407 n408 c409) 1 (gt Node i1).toNat 0) (x := aIndexAddr Try.prog 40 (.slice a407 n408 c409) (.int .u32 (gt Node i1))) (by kernel_rfl) (m400.sq.idxb (by kernel_rfl) g472.1 g472.2) ?_
          refine s_ql (.int .i64 (gt y391.1 (gt Node i1))) (x := aLoad Try.prog 3 (elp (.slice a407 n408 c409) 1 (gt Node i1).toNat 0) H398) (by kernel_rfl) (m400.sq.ld g472.1 g472.2 (by kernel_rfl)) ?_
          refine s_qk (.int .i64 i1) (by kernel_rfl) ?_
          refine s_qk (.bool (!decide ((gt y391.1 (gt Node i1)) = i1))) (by kernel_rfl) ?_
          refine s_qk (.bool (!decide ((gt y391.1 (gt Node i1)) = i1))) (by kernel_rfl) ?_
          refine s_nil ?_
          refine k461 _ _ ?_
          refine w_condn ((gt y391.1 (gt Node i1)) = i1) (by kernel_rfl) rfl (fun h474 => ?_) (fun h474 => ?_)
          ·have r475 := ite_f h474 r473
           refine w_seqk fun K476 k476 => ?_
           refine w_reg (by kernel_rfl) ?_
           refine s_qk (.bool false) (by kernel_rfl) ?_
           refine s_nil ?_
           refine k476 _ _ ?_
           refine w_ret (bl_ret (th_ret (th_ret (bl_ret (th_ret (th_ret ?_))))))
           obtain ⟨v477, hv478, hz479⟩ := map_some r475
           subst hz479
           obtain rfl := it_inr hn451
           have hq480 := elim_inl r436
           rw [hq480] at hv478
           refine b_ret (fn := Try.f3) (vs := [.bool false]) (aRes_tmp (by kernel_rfl) (rfl)) ?_
           obtain rfl := Option.some.inj hv478
           exact ⟨rfl, (FrS.step wf (FrS.step wf (FrS.step wf (FrS.step wf (FrS.step wf ((FrS.refl (W := []) wf).extR e4) e14 Inn.nil) e25 Inn.nil) e81 Inn.nil) e87 Inn.nil) e399 Inn.nil)⟩
          ·have r481 := ite_t h474 r473
           refine w_skip ?_
           refine k457 _ _ ?_
           refine w_reg (by kernel_rfl) ?_
           obtain ⟨g482, r483⟩ := G_some r481
           refine s_w ((i1 + 1)) (k := .i64) (x := (i1 + 1)) (by kernel_rfl) (wrap64 (by have := g482; omega)) ?_
           refine s_qk (.int .i64 (i1 + 1)) (by kernel_rfl) ?_
           refine s_nil ?_
           obtain rfl := Option.some.inj r483
           exact k452 n448 _ _ (Nat.lt_succ_self _) ⟨(i1 + 1), hn451, ⟨by kernel_rfl, by kernel_rfl, by kernel_rfl, by kernel_rfl, trivial⟩, rfl⟩
        ·have r484 := ite_f h455 hz450
         refine w_exit (th_exit (th_exit (bl_eq ?_)))
         obtain rfl := Option.some.inj r484
         obtain rfl := it_inr hn451
         exact k440 _ _ ⟨_, rfl, trivial, rfl⟩
       ·obtain ⟨o434, rfl, hh441, rfl⟩ := hM
        have r485 := elim_inr r436
        obtain ⟨β, rfl⟩ := has_ex hh441
        clear hh441
        refine k430 _ _ ?_
        refine w_seqk fun K486 k486 => ?_
        refine w_reg (by kernel_rfl) ?_
        refine s_qk (.bool true) (by kernel_rfl) ?_
        refine s_nil ?_
        refine k486 _ _ ?_
        refine w_ret ?_
        refine b_ret (fn := Try.f3) (vs := [.bool true]) (aRes_tmp (by kernel_rfl) (rfl)) ?_
        obtain rfl := Option.some.inj r485
        exact ⟨rfl, (FrS.step wf (FrS.step wf (FrS.step wf (FrS.step wf (FrS.step wf ((FrS.refl (W := []) wf).extR e4) e14 Inn.nil) e25 Inn.nil) e81 Inn.nil) e87 Inn.nil) e399 Inn.nil)⟩


end Go.Vd
