/- The walks of the functions (printed by a program of ours). -/
import Derived.Test.YtbjamignglibpaaVeC
import Derived.Test.YtbjamignglibpaaIWm
import Derived.Test.YtbjamignglibpaaKWm0
set_option maxRecDepth 100000
set_option maxHeartbeats 4000000
set_option linter.unusedVariables false
namespace Go.Vd
attribute [local irreducible] wpSeq wpOrd aWp
theorem c_viaductlaw09_WalkMemory {H : AH} {hd_a : Value} {fp_a : Fp} {hd_b : Value} {fp_b : Fp} {a : List (Int)} {b : List (Int)} {r : Bool}
    (wf : WF H) (h_a : Sq (encI .i64) 1 H hd_a a fp_a) (h_b : Sq (encI .i64) 1 H hd_b b fp_b) (hr : z_viaductlaw09_WalkMemory a b = some r) :
    ACalls Go.Proofs.Try.prog 4 #[hd_a, hd_b] H fun v H' => v = .bool r ∧ FrS [] H H' := by
  refine acalls_of_body mixed Go.Proofs.Try.func4 rfl (Nat.le_of_ble_eq_true rfl) ?_
  unfold z_viaductlaw09_WalkMemory at hr
  refine w_seqk fun K1 k1 => ?_
  refine w_reg (by kernel_rfl) ?_
  refine s_qk (.bool false) (by kernel_rfl) ?_
  refine s_nil ?_
  refine k1 _ _ ?_
  refine w_seqk fun K2 k2 => ?_
  refine w_seqk fun K3 k3 => ?_
  refine w_reg (by kernel_rfl) ?_
  refine s_ck 8 #[] (by kernel_rfl) c_viaductlaw09_awake ?_
  rintro _ _ ⟨rfl, rfl⟩
  refine s_qk (.bool false) (by kernel_rfl) ?_
  refine s_nil ?_
  refine k3 _ _ ?_
  refine w_cond false (by kernel_rfl) rfl (fun h => by cases h) (fun _ => ?_)
  refine w_skip ?_
  refine k2 _ _ ?_
  refine w_seqk fun K4 k4 => ?_
  refine w_seqk fun K5 k5 => ?_
  obtain ⟨o6, hx7, r8⟩ := bind_some hr
  refine w_mid (fun α H9 => Has α [(0, hd_a), (1, hd_b), (31, .bool o6)] ∧ H = H9) (fun K11 k11 => ?_) (fun α H9 hM => ?_)
  · refine w_reg (by kernel_rfl) ?_
    refine s_qk (hd_a) (by kernel_rfl) ?_
    refine s_ql (.int .i64 (a.length : Int)) (x := aLen Go.Proofs.Try.prog 22 hd_a H) (by kernel_rfl) (h_a.lenb (by kernel_rfl)) ?_
    refine s_b ((a.length : Int) > 300) (by kernel_rfl) (fun h13 => ?_) (fun h13 => ?_)
    · have r14 := ite_t h13 hx7
      refine s_qk (.bool true) (by kernel_rfl) ?_
      refine s_no (by kernel_rfl) ?_
      refine s_no (by kernel_rfl) ?_
      refine s_no (by kernel_rfl) ?_
      refine s_qk (.bool true) (by kernel_rfl) ?_
      refine s_nil ?_
      obtain rfl := Option.some.inj r14
      exact k11 _ _ ⟨⟨by kernel_rfl, by kernel_rfl, by kernel_rfl, trivial⟩, rfl⟩
    · have r15 := ite_f h13 hx7
      refine s_qk (.bool false) (by kernel_rfl) ?_
      refine s_qk (hd_b) (by kernel_rfl) ?_
      refine s_ql (.int .i64 (b.length : Int)) (x := aLen Go.Proofs.Try.prog 22 hd_b H) (by kernel_rfl) (h_b.lenb (by kernel_rfl)) ?_
      refine s_qk (.bool (decide ((b.length : Int) > 300))) (by kernel_rfl) ?_
      refine s_qk (.bool (decide ((b.length : Int) > 300))) (by kernel_rfl) ?_
      refine s_nil ?_
      obtain rfl := Option.some.inj r15
      exact k11 _ _ ⟨⟨by kernel_rfl, by kernel_rfl, by kernel_rfl, trivial⟩, rfl⟩
  · obtain ⟨hh12, rfl⟩ := hM
    obtain ⟨β, rfl⟩ := has_ex hh12
    clear hh12
    refine k5 _ _ ?_
    refine w_cond (o6) (by kernel_rfl) rfl (fun h16 => ?_) (fun h16 => ?_)
    · have r17 := ite_t h16 r8
      refine w_seqk fun K18 k18 => ?_
      refine w_reg (by kernel_rfl) ?_
      refine s_qk (.bool true) (by kernel_rfl) ?_
      refine s_nil ?_
      refine k18 _ _ ?_
      refine w_ret (th_ret ?_)
      refine b_ret (fn := Go.Proofs.Try.f4) (vs := [.bool true]) (aRes_tmp (by kernel_rfl) (rfl)) ?_
      obtain rfl := Option.some.inj r17
      exact ⟨rfl, (FrS.refl (W := []) wf)⟩
    · have r19 := ite_bf h16 r8
      refine w_skip ?_
      refine k4 _ _ ?_
      refine w_seqk fun K20 k20 => ?_
      refine w_reg (by kernel_rfl) ?_
      refine s_qk (hd_a) (by kernel_rfl) ?_
      refine s_ql (.int .i64 (a.length : Int)) (x := aLen Go.Proofs.Try.prog 22 hd_a H) (by kernel_rfl) (h_a.lenb (by kernel_rfl)) ?_
      refine s_qk (hd_a) (by kernel_rfl) ?_
      refine s_ql (.int .i64 (a.length : Int)) (x := aLen Go.Proofs.Try.prog 22 hd_a H) (by kernel_rfl) (h_a.lenb (by kernel_rfl)) ?_
      obtain ⟨g21, r22⟩ := G_some r19
      refine s_w (((a.length : Int) + 2)) (k := .i64) (x := ((a.length : Int) + 2)) (by kernel_rfl) (wrap64 (by have := g21; omega)) ?_
      obtain ⟨g23, r24⟩ := G_some r22
      refine s_mkx (t := 22) (m := 8) (l := (a.length : Int)) (c := ((a.length : Int) + 2)) (enc := (encI .i64)) (sz := 1) wf (0 : Int) (by kernel_rfl) (by decide) g23.1 g23.2.1 (by omega) (by have := g23; omega) (by kernel_rfl) fun b25 H26 e27 hf28 hm29 => ?_
      have hm29 : Ow (encI .i64) 1 H26 (.slice (some ⟨b25, 0, none⟩) (a.length : Int).toNat ((a.length : Int) + 2).toNat) (List.replicate a.length (0 : Int)) [b25] := hm29
      refine s_qk (.slice (some ⟨b25, 0, none⟩) (a.length : Int).toNat ((a.length : Int) + 2).toNat) (by kernel_rfl) ?_
      refine s_nil ?_
      refine k20 _ _ ?_
      refine w_seqk fun K31 k31 => ?_
      refine w_reg (by kernel_rfl) ?_
      refine s_qk (.slice (some ⟨b25, 0, none⟩) (a.length : Int).toNat ((a.length : Int) + 2).toNat) (by kernel_rfl) ?_
      refine s_qk (hd_a) (by kernel_rfl) ?_
      have u36 := (h_a.ext e27)
      obtain ⟨H32, q35, e33, hm34⟩ := Ow.copy (P := Go.Proofs.Try.prog) (m := 8) e27.wf hm29 u36 (at_ := #[22, 22]) rfl (by kernel_rfl) (fun _ _ => rfl)
      refine s_ek (.int .i64 ((min a.length (List.replicate a.length (0 : Int)).length : Nat) : Int)) (by kernel_rfl) (q35) ?_
      refine s_nil ?_
      refine k31 _ _ ?_
      refine w_seqk fun K37 k37 => ?_
      refine w_reg (by kernel_rfl) ?_
      refine s_qk (.slice (some ⟨b25, 0, none⟩) (a.length : Int).toNat ((a.length : Int) + 2).toNat) (by kernel_rfl) ?_
      refine s_owk (enc := (encI .i64)) (sz := 1) e33.wf [41, 42] 2 (by decide) (fun _ _ => rfl) (fun _ _ => rfl) rfl (by kernel_rfl) fun s38 f39 H40 e41 hf42 hm43 => ?_
      obtain ⟨a44, n45, c46, rfl⟩ := hm43.form
      have u48 := (hm34.ext e41)
      obtain ⟨g49, r50⟩ := G_some r24
      obtain ⟨H51, q52, e53, hm54, hs55⟩ := Ow.appendIn (P := Go.Proofs.Try.prog) 8 e41.wf u48 hm43.sq (fun _ _ => rfl) (at_ := #[22, 22]) rfl rfl (by kernel_rfl) (by kernel_rfl) g49
      refine s_ek (.slice (some ⟨b25, 0, none⟩) ((a.take (List.replicate a.length (0 : Int)).length ++ (List.replicate a.length (0 : Int)).drop a.length).length + [41, 42].length) ((a.length : Int) + 2).toNat) (by kernel_rfl) (q52) ?_
      refine s_qk (.slice (some ⟨b25, 0, none⟩) ((a.take (List.replicate a.length (0 : Int)).length ++ (List.replicate a.length (0 : Int)).drop a.length).length + [41, 42].length) ((a.length : Int) + 2).toNat) (by kernel_rfl) ?_
      refine s_nil ?_
      refine k37 _ _ ?_
      refine w_seqk fun K57 k57 => ?_
      refine w_reg (by kernel_rfl) ?_
      refine s_qk (hd_b) (by kernel_rfl) ?_
      have u58 := ((((h_b.ext e27).fr e33 (hf28.djn h_b.lt)).ext e41).fr e53 (hf28.djn h_b.lt))
      refine s_ql (.int .i64 (b.length : Int)) (x := aLen Go.Proofs.Try.prog 22 hd_b H51) (by kernel_rfl) (u58.lenb (by kernel_rfl)) ?_
      refine s_qk (hd_b) (by kernel_rfl) ?_
      refine s_ql (.int .i64 (b.length : Int)) (x := aLen Go.Proofs.Try.prog 22 hd_b H51) (by kernel_rfl) (u58.lenb (by kernel_rfl)) ?_
      obtain ⟨g59, r60⟩ := G_some r50
      refine s_w (((b.length : Int) + 2)) (k := .i64) (x := ((b.length : Int) + 2)) (by kernel_rfl) (wrap64 (by have := g59; omega)) ?_
      obtain ⟨g61, r62⟩ := G_some r60
      refine s_mkx (t := 22) (m := 8) (l := (b.length : Int)) (c := ((b.length : Int) + 2)) (enc := (encI .i64)) (sz := 1) e53.wf (0 : Int) (by kernel_rfl) (by decide) g61.1 g61.2.1 (by omega) (by have := g61; omega) (by kernel_rfl) fun b63 H64 e65 hf66 hm67 => ?_
      have hm67 : Ow (encI .i64) 1 H64 (.slice (some ⟨b63, 0, none⟩) (b.length : Int).toNat ((b.length : Int) + 2).toNat) (List.replicate b.length (0 : Int)) [b63] := hm67
      refine s_qk (.slice (some ⟨b63, 0, none⟩) (b.length : Int).toNat ((b.length : Int) + 2).toNat) (by kernel_rfl) ?_
      refine s_nil ?_
      refine k57 _ _ ?_
      refine w_seqk fun K69 k69 => ?_
      refine w_reg (by kernel_rfl) ?_
      refine s_qk (.slice (some ⟨b63, 0, none⟩) (b.length : Int).toNat ((b.length : Int) + 2).toNat) (by kernel_rfl) ?_
      refine s_qk (hd_b) (by kernel_rfl) ?_
      have u74 := (u58.ext e65)
      obtain ⟨H70, q73, e71, hm72⟩ := Ow.copy (P := Go.Proofs.Try.prog) (m := 8) e65.wf hm67 u74 (at_ := #[22, 22]) rfl (by kernel_rfl) (fun _ _ => rfl)
      refine s_ek (.int .i64 ((min b.length (List.replicate b.length (0 : Int)).length : Nat) : Int)) (by kernel_rfl) (q73) ?_
      refine s_nil ?_
      refine k69 _ _ ?_
      refine w_seqk fun K75 k75 => ?_
      refine w_reg (by kernel_rfl) ?_
      refine s_qk (.slice (some ⟨b63, 0, none⟩) (b.length : Int).toNat ((b.length : Int) + 2).toNat) (by kernel_rfl) ?_
      refine s_owk (enc := (encI .i64)) (sz := 1) e71.wf [43, 44] 2 (by decide) (fun _ _ => rfl) (fun _ _ => rfl) rfl (by kernel_rfl) fun s76 f77 H78 e79 hf80 hm81 => ?_
      obtain ⟨a82, n83, c84, rfl⟩ := hm81.form
      have u86 := (hm72.ext e79)
      obtain ⟨g87, r88⟩ := G_some r62
      obtain ⟨H89, q90, e91, hm92, hs93⟩ := Ow.appendIn (P := Go.Proofs.Try.prog) 8 e79.wf u86 hm81.sq (fun _ _ => rfl) (at_ := #[22, 22]) rfl rfl (by kernel_rfl) (by kernel_rfl) g87
      refine s_ek (.slice (some ⟨b63, 0, none⟩) ((b.take (List.replicate b.length (0 : Int)).length ++ (List.replicate b.length (0 : Int)).drop b.length).length + [43, 44].length) ((b.length : Int) + 2).toNat) (by kernel_rfl) (q90) ?_
      refine s_qk (.slice (some ⟨b63, 0, none⟩) ((b.take (List.replicate b.length (0 : Int)).length ++ (List.replicate b.length (0 : Int)).drop b.length).length + [43, 44].length) ((b.length : Int) + 2).toNat) (by kernel_rfl) ?_
      refine s_nil ?_
      refine k75 _ _ ?_
      refine w_seqk fun K95 k95 => ?_
      refine w_reg (by kernel_rfl) ?_
      refine s_qk (.slice (some ⟨b25, 0, none⟩) (a.length : Int).toNat ((a.length : Int) + 2).toNat) (by kernel_rfl) ?_
      have u96 := ((((hs55.ext e65).fr e71 (hf66.djn (hm29.lt.le (Nat.le_trans (Nat.le_trans e33.next e41.next) e53.next)))).ext e79).fr e91 (hf66.djn (hm29.lt.le (Nat.le_trans (Nat.le_trans e33.next e41.next) e53.next))))
      obtain ⟨y97, hy98, r99⟩ := bind_some r88
      refine s_ck 10 #[.slice (some ⟨b25, 0, none⟩) (a.length : Int).toNat ((a.length : Int) + 2).toNat] (by kernel_rfl) (c_walk_Simple e91.wf u96 hy98) ?_
      rintro s100 H102 ⟨_, f101, rfl, e103, m104, i105⟩
      obtain ⟨a107, n108, c109, rfl⟩ := m104.form
      refine s_qk (.slice (some ⟨b25, 0, none⟩) (a.length : Int).toNat ((a.length : Int) + 2).toNat) (by kernel_rfl) ?_
      have u110 := (u96.fr e103 Dj.nil_l)
      obtain ⟨y111, hy112, r113⟩ := bind_some r99
      refine s_ck 10 #[.slice (some ⟨b25, 0, none⟩) (a.length : Int).toNat ((a.length : Int) + 2).toNat] (by kernel_rfl) (c_walk_Simple e103.wf u110 hy112) ?_
      rintro s114 H116 ⟨_, f115, rfl, e117, m118, i119⟩
      obtain ⟨a121, n122, c123, rfl⟩ := m118.form
      refine s_qk (.slice a107 n108 c109) (by kernel_rfl) ?_
      refine s_qk (.slice a121 n122 c123) (by kernel_rfl) ?_
      refine s_nil ?_
      refine k95 _ _ ?_
      refine w_seqk fun K124 k124 => ?_
      refine w_reg (by kernel_rfl) ?_
      refine s_qk (.slice (some ⟨b25, 0, none⟩) (a.length : Int).toNat ((a.length : Int) + 2).toNat) (by kernel_rfl) ?_
      have u125 := (u110.fr e117 Dj.nil_l)
      obtain ⟨y126, hy127, r128⟩ := bind_some r113
      refine s_ck 15 #[.slice (some ⟨b25, 0, none⟩) (a.length : Int).toNat ((a.length : Int) + 2).toNat] (by kernel_rfl) (c_walk_Back e117.wf u125 hy127) ?_
      rintro s129 H131 ⟨_, f130, rfl, e132, m133, i134⟩
      obtain ⟨a136, n137, c138, rfl⟩ := m133.form
      refine s_qk (.slice (some ⟨b25, 0, none⟩) (a.length : Int).toNat ((a.length : Int) + 2).toNat) (by kernel_rfl) ?_
      have u139 := (u125.fr e132 Dj.nil_l)
      obtain ⟨y140, hy141, r142⟩ := bind_some r128
      refine s_ck 15 #[.slice (some ⟨b25, 0, none⟩) (a.length : Int).toNat ((a.length : Int) + 2).toNat] (by kernel_rfl) (c_walk_Back e132.wf u139 hy141) ?_
      rintro s143 H145 ⟨_, f144, rfl, e146, m147, i148⟩
      obtain ⟨a150, n151, c152, rfl⟩ := m147.form
      refine s_qk (.slice a136 n137 c138) (by kernel_rfl) ?_
      refine s_qk (.slice a150 n151 c152) (by kernel_rfl) ?_
      refine s_nil ?_
      refine k124 _ _ ?_
      refine w_seqk fun K153 k153 => ?_
      refine w_reg (by kernel_rfl) ?_
      refine s_qk (.slice (some ⟨b25, 0, none⟩) (a.length : Int).toNat ((a.length : Int) + 2).toNat) (by kernel_rfl) ?_
      refine s_qk (.slice (some ⟨b63, 0, none⟩) (b.length : Int).toNat ((b.length : Int) + 2).toNat) (by kernel_rfl) ?_
      have u154 := (u139.fr e146 Dj.nil_l)
      have u155 := ((((hs93.fr e103 Dj.nil_l).fr e117 Dj.nil_l).fr e132 Dj.nil_l).fr e146 Dj.nil_l)
      obtain ⟨y156, hy157, r158⟩ := bind_some r142
      refine s_ck 16 #[.slice (some ⟨b25, 0, none⟩) (a.length : Int).toNat ((a.length : Int) + 2).toNat, .slice (some ⟨b63, 0, none⟩) (b.length : Int).toNat ((b.length : Int) + 2).toNat] (by kernel_rfl) (c_walk_Join e146.wf u154 u155 hy157) ?_
      rintro _ H163 ⟨s159, f160, v161, f162, rfl, e164, m165, m166, i167, i168, d169⟩
      obtain ⟨a172, n173, c174, rfl⟩ := m165.form
      refine s_qk (.tuple #[.slice a172 n173 c174, v161]) (by kernel_rfl) ?_
      refine s_qk (.slice a172 n173 c174) (by kernel_rfl) ?_
      refine s_qk (v161) (by kernel_rfl) ?_
      refine s_qk (.slice a172 n173 c174) (by kernel_rfl) ?_
      refine s_qk (v161) (by kernel_rfl) ?_
      refine s_nil ?_
      refine k153 _ _ ?_
      refine w_seqk fun K175 k175 => ?_
      refine w_reg (by kernel_rfl) ?_
      refine s_qk (.slice (some ⟨b25, 0, none⟩) (a.length : Int).toNat ((a.length : Int) + 2).toNat) (by kernel_rfl) ?_
      refine s_qk (.slice (some ⟨b63, 0, none⟩) (b.length : Int).toNat ((b.length : Int) + 2).toNat) (by kernel_rfl) ?_
      have u176 := (u154.fr e164 Dj.nil_l)
      have u177 := (u155.fr e164 Dj.nil_l)
      obtain ⟨y178, hy179, r180⟩ := bind_some r158
      refine s_ck 16 #[.slice (some ⟨b25, 0, none⟩) (a.length : Int).toNat ((a.length : Int) + 2).toNat, .slice (some ⟨b63, 0, none⟩) (b.length : Int).toNat ((b.length : Int) + 2).toNat] (by kernel_rfl) (c_walk_Join e164.wf u176 u177 hy179) ?_
      rintro _ H185 ⟨s181, f182, v183, f184, rfl, e186, m187, m188, i189, i190, d191⟩
      obtain ⟨a194, n195, c196, rfl⟩ := m187.form
      refine s_qk (.tuple #[.slice a194 n195 c196, v183]) (by kernel_rfl) ?_
      refine s_qk (.slice a194 n195 c196) (by kernel_rfl) ?_
      refine s_qk (v183) (by kernel_rfl) ?_
      refine s_qk (.slice a194 n195 c196) (by kernel_rfl) ?_
      refine s_qk (v183) (by kernel_rfl) ?_
      refine s_nil ?_
      refine k175 _ _ ?_
      refine w_seqk fun K197 k197 => ?_
      refine w_seqk fun K198 k198 => ?_
      obtain ⟨o199, hx200, r201⟩ := bind_some r180
      refine w_mid (fun α H202 => Has α [(0, hd_a), (1, hd_b), (6, .slice (some ⟨b25, 0, none⟩) ((a.take (List.replicate a.length (0 : Int)).length ++ (List.replicate a.length (0 : Int)).drop a.length).length + [41, 42].length) ((a.length : Int) + 2).toNat), (8, .slice (some ⟨b63, 0, none⟩) ((b.take (List.replicate b.length (0 : Int)).length ++ (List.replicate b.length (0 : Int)).drop b.length).length + [43, 44].length) ((b.length : Int) + 2).toNat), (9, .slice a107 n108 c109), (10, .slice a121 n122 c123), (11, .slice a136 n137 c138), (12, .slice a150 n151 c152), (13, .slice a172 n173 c174), (15, .slice a194 n195 c196), (125, .bool o199)] ∧ H185 = H202) (fun K204 k204 => ?_) (fun α H202 hM => ?_)
      · refine w_reg (by kernel_rfl) ?_
        refine s_qk (.slice (some ⟨b25, 0, none⟩) ((a.take (List.replicate a.length (0 : Int)).length ++ (List.replicate a.length (0 : Int)).drop a.length).length + [41, 42].length) ((a.length : Int) + 2).toNat) (by kernel_rfl) ?_
        refine s_qk (hd_a) (by kernel_rfl) ?_
        have u206 := (((((((((((((u36.fr e33 (hf28.djn h_a.lt)).ext e41).fr e53 (hf28.djn h_a.lt)).ext e65).fr e71 (hf66.djn (h_a.lt.le (Nat.le_trans (Nat.le_trans (Nat.le_trans e27.next e33.next) e41.next) e53.next)))).ext e79).fr e91 (hf66.djn (h_a.lt.le (Nat.le_trans (Nat.le_trans (Nat.le_trans e27.next e33.next) e41.next) e53.next)))).fr e103 Dj.nil_l).fr e117 Dj.nil_l).fr e132 Dj.nil_l).fr e146 Dj.nil_l).fr e164 Dj.nil_l).fr e186 Dj.nil_l)
        refine s_ql (.int .i64 (a.length : Int)) (x := aLen Go.Proofs.Try.prog 22 hd_a H185) (by kernel_rfl) (u206.lenb (by kernel_rfl)) ?_
        obtain ⟨g207, r208⟩ := G_some hx200
        have u212 := ((((((((((hm54.ext e65).fr e71 (hf66.djn (hm29.lt.le (Nat.le_trans (Nat.le_trans e33.next e41.next) e53.next)))).ext e79).fr e91 (hf66.djn (hm29.lt.le (Nat.le_trans (Nat.le_trans e33.next e41.next) e53.next)))).fr e103 Dj.nil_l).fr e117 Dj.nil_l).fr e132 Dj.nil_l).fr e146 Dj.nil_l).fr e164 Dj.nil_l).fr e186 Dj.nil_l)
        obtain ⟨s209, q210, hs211⟩ := Ow.head (P := Go.Proofs.Try.prog) u212 (t := 22) (by kernel_rfl) (hi := (some (.int .i64 (a.length : Int)))) (r := a.length) (aBound_int _ (by have := g207; omega)) (by have := g207; omega)
        obtain ⟨a213, n214, c215, rfl⟩ := hs211.form
        refine s_ql (.slice a213 n214 c215) (by kernel_rfl) q210 ?_
        refine s_qk (hd_a) (by kernel_rfl) ?_
        obtain ⟨y217, hy218, r219⟩ := bind_some r208
        refine s_ck 12 #[.slice a213 n214 c215, hd_a] (by kernel_rfl) (c_viaductref02_SameInts e186.wf hs211.sq u206 hy218) ?_
        rintro _ _ ⟨rfl, rfl⟩
        by_cases h222 : y217 = true
        · have r223 := ite_t h222 r219
          rw [h222]
          refine s_qk (.bool false) (by kernel_rfl) ?_
          refine s_qk (.bool false) (by kernel_rfl) ?_
          refine s_qk (.slice (some ⟨b25, 0, none⟩) ((a.take (List.replicate a.length (0 : Int)).length ++ (List.replicate a.length (0 : Int)).drop a.length).length + [41, 42].length) ((a.length : Int) + 2).toNat) (by kernel_rfl) ?_
          refine s_qk (hd_a) (by kernel_rfl) ?_
          refine s_ql (.int .i64 (a.length : Int)) (x := aLen Go.Proofs.Try.prog 22 hd_a H185) (by kernel_rfl) (u206.lenb (by kernel_rfl)) ?_
          obtain ⟨g225, r226⟩ := G_some r223
          refine s_ql (elp (.slice (some ⟨b25, 0, none⟩) ((a.take (List.replicate a.length (0 : Int)).length ++ (List.replicate a.length (0 : Int)).drop a.length).length + [41, 42].length) ((a.length : Int) + 2).toNat) 1 (a.length : Int).toNat 0) (x := aIndexAddr Go.Proofs.Try.prog 22 (.slice (some ⟨b25, 0, none⟩) ((a.take (List.replicate a.length (0 : Int)).length ++ (List.replicate a.length (0 : Int)).drop a.length).length + [41, 42].length) ((a.length : Int) + 2).toNat) (.int .i64 (a.length : Int))) (by kernel_rfl) (u212.sq.idxb (by kernel_rfl) g225.1 g225.2) ?_
          refine s_ql (.int .i64 (gt ((a.take (List.replicate a.length (0 : Int)).length ++ (List.replicate a.length (0 : Int)).drop a.length) ++ [41, 42]) (a.length : Int))) (x := aLoad Go.Proofs.Try.prog 3 (elp (.slice (some ⟨b25, 0, none⟩) ((a.take (List.replicate a.length (0 : Int)).length ++ (List.replicate a.length (0 : Int)).drop a.length).length + [41, 42].length) ((a.length : Int) + 2).toNat) 1 (a.length : Int).toNat 0) H185) (by kernel_rfl) (u212.sq.ld g225.1 g225.2 (by kernel_rfl)) ?_
          refine s_bn ((gt ((a.take (List.replicate a.length (0 : Int)).length ++ (List.replicate a.length (0 : Int)).drop a.length) ++ [41, 42]) (a.length : Int)) = 41) (by kernel_rfl) (fun h227 => ?_) (fun h227 => ?_)
          · have r228 := ite_t h227 r226
            refine s_qk (.bool false) (by kernel_rfl) ?_
            refine s_qk (.bool false) (by kernel_rfl) ?_
            refine s_qk (.slice (some ⟨b25, 0, none⟩) ((a.take (List.replicate a.length (0 : Int)).length ++ (List.replicate a.length (0 : Int)).drop a.length).length + [41, 42].length) ((a.length : Int) + 2).toNat) (by kernel_rfl) ?_
            refine s_qk (hd_a) (by kernel_rfl) ?_
            refine s_ql (.int .i64 (a.length : Int)) (x := aLen Go.Proofs.Try.prog 22 hd_a H185) (by kernel_rfl) (u206.lenb (by kernel_rfl)) ?_
            obtain ⟨g229, r230⟩ := G_some r228
            refine s_w (((a.length : Int) + 1)) (k := .i64) (x := ((a.length : Int) + 1)) (by kernel_rfl) (wrap64 (by have := g229; omega)) ?_
            obtain ⟨g231, r232⟩ := G_some r230
            refine s_ql (elp (.slice (some ⟨b25, 0, none⟩) ((a.take (List.replicate a.length (0 : Int)).length ++ (List.replicate a.length (0 : Int)).drop a.length).length + [41, 42].length) ((a.length : Int) + 2).toNat) 1 ((a.length : Int) + 1).toNat 0) (x := aIndexAddr Go.Proofs.Try.prog 22 (.slice (some ⟨b25, 0, none⟩) ((a.take (List.replicate a.length (0 : Int)).length ++ (List.replicate a.length (0 : Int)).drop a.length).length + [41, 42].length) ((a.length : Int) + 2).toNat) (.int .i64 ((a.length : Int) + 1))) (by kernel_rfl) (u212.sq.idxb (by kernel_rfl) g231.1 g231.2) ?_
            refine s_ql (.int .i64 (gt ((a.take (List.replicate a.length (0 : Int)).length ++ (List.replicate a.length (0 : Int)).drop a.length) ++ [41, 42]) ((a.length : Int) + 1))) (x := aLoad Go.Proofs.Try.prog 3 (elp (.slice (some ⟨b25, 0, none⟩) ((a.take (List.replicate a.length (0 : Int)).length ++ (List.replicate a.length (0 : Int)).drop a.length).length + [41, 42].length) ((a.length : Int) + 2).toNat) 1 ((a.length : Int) + 1).toNat 0) H185) (by kernel_rfl) (u212.sq.ld g231.1 g231.2 (by kernel_rfl)) ?_
            refine s_bn ((gt ((a.take (List.replicate a.length (0 : Int)).length ++ (List.replicate a.length (0 : Int)).drop a.length) ++ [41, 42]) ((a.length : Int) + 1)) = 42) (by kernel_rfl) (fun h233 => ?_) (fun h233 => ?_)
            · have r234 := ite_t h233 r232
              refine s_qk (.bool false) (by kernel_rfl) ?_
              refine s_qk (.bool false) (by kernel_rfl) ?_
              refine s_qk (.slice (some ⟨b63, 0, none⟩) ((b.take (List.replicate b.length (0 : Int)).length ++ (List.replicate b.length (0 : Int)).drop b.length).length + [43, 44].length) ((b.length : Int) + 2).toNat) (by kernel_rfl) ?_
              refine s_qk (hd_b) (by kernel_rfl) ?_
              have u235 := (((((((((u74.fr e71 (hf66.djn (h_b.lt.le (Nat.le_trans (Nat.le_trans (Nat.le_trans e27.next e33.next) e41.next) e53.next)))).ext e79).fr e91 (hf66.djn (h_b.lt.le (Nat.le_trans (Nat.le_trans (Nat.le_trans e27.next e33.next) e41.next) e53.next)))).fr e103 Dj.nil_l).fr e117 Dj.nil_l).fr e132 Dj.nil_l).fr e146 Dj.nil_l).fr e164 Dj.nil_l).fr e186 Dj.nil_l)
              refine s_ql (.int .i64 (b.length : Int)) (x := aLen Go.Proofs.Try.prog 22 hd_b H185) (by kernel_rfl) (u235.lenb (by kernel_rfl)) ?_
              obtain ⟨g236, r237⟩ := G_some r234
              have u241 := ((((((hm92.fr e103 Dj.nil_l).fr e117 Dj.nil_l).fr e132 Dj.nil_l).fr e146 Dj.nil_l).fr e164 Dj.nil_l).fr e186 Dj.nil_l)
              obtain ⟨s238, q239, hs240⟩ := Ow.head (P := Go.Proofs.Try.prog) u241 (t := 22) (by kernel_rfl) (hi := (some (.int .i64 (b.length : Int)))) (r := b.length) (aBound_int _ (by have := g236; omega)) (by have := g236; omega)
              obtain ⟨a242, n243, c244, rfl⟩ := hs240.form
              refine s_ql (.slice a242 n243 c244) (by kernel_rfl) q239 ?_
              refine s_qk (hd_b) (by kernel_rfl) ?_
              obtain ⟨y246, hy247, r248⟩ := bind_some r237
              refine s_ck 12 #[.slice a242 n243 c244, hd_b] (by kernel_rfl) (c_viaductref02_SameInts e186.wf hs240.sq u235 hy247) ?_
              rintro _ _ ⟨rfl, rfl⟩
              by_cases h251 : y246 = true
              · have r252 := ite_t h251 r248
                rw [h251]
                refine s_qk (.bool false) (by kernel_rfl) ?_
                refine s_qk (.bool false) (by kernel_rfl) ?_
                refine s_qk (.bool false) (by kernel_rfl) ?_
                refine s_qk (.slice (some ⟨b63, 0, none⟩) ((b.take (List.replicate b.length (0 : Int)).length ++ (List.replicate b.length (0 : Int)).drop b.length).length + [43, 44].length) ((b.length : Int) + 2).toNat) (by kernel_rfl) ?_
                refine s_qk (hd_b) (by kernel_rfl) ?_
                refine s_ql (.int .i64 (b.length : Int)) (x := aLen Go.Proofs.Try.prog 22 hd_b H185) (by kernel_rfl) (u235.lenb (by kernel_rfl)) ?_
                obtain ⟨g254, r255⟩ := G_some r252
                refine s_ql (elp (.slice (some ⟨b63, 0, none⟩) ((b.take (List.replicate b.length (0 : Int)).length ++ (List.replicate b.length (0 : Int)).drop b.length).length + [43, 44].length) ((b.length : Int) + 2).toNat) 1 (b.length : Int).toNat 0) (x := aIndexAddr Go.Proofs.Try.prog 22 (.slice (some ⟨b63, 0, none⟩) ((b.take (List.replicate b.length (0 : Int)).length ++ (List.replicate b.length (0 : Int)).drop b.length).length + [43, 44].length) ((b.length : Int) + 2).toNat) (.int .i64 (b.length : Int))) (by kernel_rfl) (u241.sq.idxb (by kernel_rfl) g254.1 g254.2) ?_
                refine s_ql (.int .i64 (gt ((b.take (List.replicate b.length (0 : Int)).length ++ (List.replicate b.length (0 : Int)).drop b.length) ++ [43, 44]) (b.length : Int))) (x := aLoad Go.Proofs.Try.prog 3 (elp (.slice (some ⟨b63, 0, none⟩) ((b.take (List.replicate b.length (0 : Int)).length ++ (List.replicate b.length (0 : Int)).drop b.length).length + [43, 44].length) ((b.length : Int) + 2).toNat) 1 (b.length : Int).toNat 0) H185) (by kernel_rfl) (u241.sq.ld g254.1 g254.2 (by kernel_rfl)) ?_
                refine s_bn ((gt ((b.take (List.replicate b.length (0 : Int)).length ++ (List.replicate b.length (0 : Int)).drop b.length) ++ [43, 44]) (b.length : Int)) = 43) (by kernel_rfl) (fun h256 => ?_) (fun h256 => ?_)
                · have r257 := ite_t h256 r255
                  refine s_qk (.bool false) (by kernel_rfl) ?_
                  refine s_qk (.bool false) (by kernel_rfl) ?_
                  refine s_qk (.slice (some ⟨b63, 0, none⟩) ((b.take (List.replicate b.length (0 : Int)).length ++ (List.replicate b.length (0 : Int)).drop b.length).length + [43, 44].length) ((b.length : Int) + 2).toNat) (by kernel_rfl) ?_
                  refine s_qk (hd_b) (by kernel_rfl) ?_
                  refine s_ql (.int .i64 (b.length : Int)) (x := aLen Go.Proofs.Try.prog 22 hd_b H185) (by kernel_rfl) (u235.lenb (by kernel_rfl)) ?_
                  obtain ⟨g258, r259⟩ := G_some r257
                  refine s_w (((b.length : Int) + 1)) (k := .i64) (x := ((b.length : Int) + 1)) (by kernel_rfl) (wrap64 (by have := g258; omega)) ?_
                  obtain ⟨g260, r261⟩ := G_some r259
                  refine s_ql (elp (.slice (some ⟨b63, 0, none⟩) ((b.take (List.replicate b.length (0 : Int)).length ++ (List.replicate b.length (0 : Int)).drop b.length).length + [43, 44].length) ((b.length : Int) + 2).toNat) 1 ((b.length : Int) + 1).toNat 0) (x := aIndexAddr Go.Proofs.Try.prog 22 (.slice (some ⟨b63, 0, none⟩) ((b.take (List.replicate b.length (0 : Int)).length ++ (List.replicate b.length (0 : Int)).drop b.length).length + [43, 44].length) ((b.length : Int) + 2).toNat) (.int .i64 ((b.length : Int) + 1))) (by kernel_rfl) (u241.sq.idxb (by kernel_rfl) g260.1 g260.2) ?_
                  refine s_ql (.int .i64 (gt ((b.take (List.replicate b.length (0 : Int)).length ++ (List.replicate b.length (0 : Int)).drop b.length) ++ [43, 44]) ((b.length : Int) + 1))) (x := aLoad Go.Proofs.Try.prog 3 (elp (.slice (some ⟨b63, 0, none⟩) ((b.take (List.replicate b.length (0 : Int)).length ++ (List.replicate b.length (0 : Int)).drop b.length).length + [43, 44].length) ((b.length : Int) + 2).toNat) 1 ((b.length : Int) + 1).toNat 0) H185) (by kernel_rfl) (u241.sq.ld g260.1 g260.2 (by kernel_rfl)) ?_
                  refine s_qk (.bool (!decide ((gt ((b.take (List.replicate b.length (0 : Int)).length ++ (List.replicate b.length (0 : Int)).drop b.length) ++ [43, 44]) ((b.length : Int) + 1)) = 44))) (by kernel_rfl) ?_
                  refine s_qk (.bool (!decide ((gt ((b.take (List.replicate b.length (0 : Int)).length ++ (List.replicate b.length (0 : Int)).drop b.length) ++ [43, 44]) ((b.length : Int) + 1)) = 44))) (by kernel_rfl) ?_
                  refine s_nil ?_
                  obtain rfl := Option.some.inj r261
                  exact k204 _ _ ⟨⟨by kernel_rfl, by kernel_rfl, by kernel_rfl, by kernel_rfl, by kernel_rfl, by kernel_rfl, by kernel_rfl, by kernel_rfl, by kernel_rfl, by kernel_rfl, by kernel_rfl, trivial⟩, rfl⟩
                · have r262 := ite_f h256 r255
                  refine s_qk (.bool true) (by kernel_rfl) ?_
                  refine s_qk (.bool true) (by kernel_rfl) ?_
                  refine s_no (by kernel_rfl) ?_
                  refine s_no (by kernel_rfl) ?_
                  refine s_no (by kernel_rfl) ?_
                  refine s_no (by kernel_rfl) ?_
                  refine s_no (by kernel_rfl) ?_
                  refine s_no (by kernel_rfl) ?_
                  refine s_no (by kernel_rfl) ?_
                  refine s_qk (.bool true) (by kernel_rfl) ?_
                  refine s_nil ?_
                  obtain rfl := Option.some.inj r262
                  exact k204 _ _ ⟨⟨by kernel_rfl, by kernel_rfl, by kernel_rfl, by kernel_rfl, by kernel_rfl, by kernel_rfl, by kernel_rfl, by kernel_rfl, by kernel_rfl, by kernel_rfl, by kernel_rfl, trivial⟩, rfl⟩
              · have r263 := ite_f h251 r248
                rw [nb h251]
                refine s_qk (.bool true) (by kernel_rfl) ?_
                refine s_qk (.bool true) (by kernel_rfl) ?_
                refine s_qk (.bool true) (by kernel_rfl) ?_
                refine s_no (by kernel_rfl) ?_
                refine s_no (by kernel_rfl) ?_
                refine s_no (by kernel_rfl) ?_
                refine s_no (by kernel_rfl) ?_
                refine s_no (by kernel_rfl) ?_
                refine s_no (by kernel_rfl) ?_
                refine s_qk (.bool true) (by kernel_rfl) ?_
                refine s_qk (.bool true) (by kernel_rfl) ?_
                refine s_no (by kernel_rfl) ?_
                refine s_no (by kernel_rfl) ?_
                refine s_no (by kernel_rfl) ?_
                refine s_no (by kernel_rfl) ?_
                refine s_no (by kernel_rfl) ?_
                refine s_no (by kernel_rfl) ?_
                refine s_no (by kernel_rfl) ?_
                refine s_qk (.bool true) (by kernel_rfl) ?_
                refine s_nil ?_
                obtain rfl := Option.some.inj r263
                exact k204 _ _ ⟨⟨by kernel_rfl, by kernel_rfl, by kernel_rfl, by kernel_rfl, by kernel_rfl, by kernel_rfl, by kernel_rfl, by kernel_rfl, by kernel_rfl, by kernel_rfl, by kernel_rfl, trivial⟩, rfl⟩
            · have r265 := ite_f h233 r232
              refine s_qk (.bool true) (by kernel_rfl) ?_
              refine s_qk (.bool true) (by kernel_rfl) ?_
              refine s_no (by kernel_rfl) ?_
              refine s_no (by kernel_rfl) ?_
              refine s_no (by kernel_rfl) ?_
              refine s_no (by kernel_rfl) ?_
              refine s_no (by kernel_rfl) ?_
              refine s_no (by kernel_rfl) ?_
              refine s_no (by kernel_rfl) ?_
              refine s_qk (.bool true) (by kernel_rfl) ?_
              refine s_qk (.bool true) (by kernel_rfl) ?_
              refine s_no (by kernel_rfl) ?_
              refine s_no (by kernel_rfl) ?_
              refine s_no (by kernel_rfl) ?_
              refine s_no (by kernel_rfl) ?_
              refine s_no (by kernel_rfl) ?_
              refine s_no (by kernel_rfl) ?_
              refine s_qk (.bool true) (by kernel_rfl) ?_
              refine s_qk (.bool true) (by kernel_rfl) ?_
              refine s_no (by kernel_rfl) ?_
              refine s_no (by kernel_rfl) ?_
              refine s_no (by kernel_rfl) ?_
              refine s_no (by kernel_rfl) ?_
              refine s_no (by kernel_rfl) ?_
              refine s_no (by kernel_rfl) ?_
              refine s_no (by kernel_rfl) ?_
              refine s_qk (.bool true) (by kernel_rfl) ?_
              refine s_nil ?_
              obtain rfl := Option.some.inj r265
              exact k204 _ _ ⟨⟨by kernel_rfl, by kernel_rfl, by kernel_rfl, by kernel_rfl, by kernel_rfl, by kernel_rfl, by kernel_rfl, by kernel_rfl, by kernel_rfl, by kernel_rfl, by kernel_rfl, trivial⟩, rfl⟩
          · have r266 := ite_f h227 r226
            refine s_qk (.bool true) (by kernel_rfl) ?_
            refine s_qk (.bool true) (by kernel_rfl) ?_
            refine s_no (by kernel_rfl) ?_
            refine s_no (by kernel_rfl) ?_
            refine s_no (by kernel_rfl) ?_
            refine s_no (by kernel_rfl) ?_
            refine s_no (by kernel_rfl) ?_
            refine s_no (by kernel_rfl) ?_
            refine s_no (by kernel_rfl) ?_
            refine s_qk (.bool true) (by kernel_rfl) ?_
            refine s_qk (.bool true) (by kernel_rfl) ?_
            refine s_no (by kernel_rfl) ?_
            refine s_no (by kernel_rfl) ?_
            refine s_no (by kernel_rfl) ?_
            refine s_no (by kernel_rfl) ?_
            refine s_no (by kernel_rfl) ?_
            refine s_no (by kernel_rfl) ?_
            refine s_no (by kernel_rfl) ?_
            refine s_qk (.bool true) (by kernel_rfl) ?_
            refine s_qk (.bool true) (by kernel_rfl) ?_
            refine s_no (by kernel_rfl) ?_
            refine s_no (by kernel_rfl) ?_
            refine s_no (by kernel_rfl) ?_
            refine s_no (by kernel_rfl) ?_
            refine s_no (by kernel_rfl) ?_
            refine s_no (by kernel_rfl) ?_
            refine s_qk (.bool true) (by kernel_rfl) ?_
            refine s_qk (.bool true) (by kernel_rfl) ?_
            refine s_no (by kernel_rfl) ?_
            refine s_no (by kernel_rfl) ?_
            refine s_no (by kernel_rfl) ?_
            refine s_no (by kernel_rfl) ?_
            refine s_no (by kernel_rfl) ?_
            refine s_no (by kernel_rfl) ?_
            refine s_no (by kernel_rfl) ?_
            refine s_qk (.bool true) (by kernel_rfl) ?_
            refine s_nil ?_
            obtain rfl := Option.some.inj r266
            exact k204 _ _ ⟨⟨by kernel_rfl, by kernel_rfl, by kernel_rfl, by kernel_rfl, by kernel_rfl, by kernel_rfl, by kernel_rfl, by kernel_rfl, by kernel_rfl, by kernel_rfl, by kernel_rfl, trivial⟩, rfl⟩
        · have r267 := ite_f h222 r219
          rw [nb h222]
          refine s_qk (.bool true) (by kernel_rfl) ?_
          refine s_qk (.bool true) (by kernel_rfl) ?_
          refine s_no (by kernel_rfl) ?_
          refine s_no (by kernel_rfl) ?_
          refine s_no (by kernel_rfl) ?_
          refine s_no (by kernel_rfl) ?_
          refine s_no (by kernel_rfl) ?_
          refine s_no (by kernel_rfl) ?_
          refine s_qk (.bool true) (by kernel_rfl) ?_
          refine s_qk (.bool true) (by kernel_rfl) ?_
          refine s_no (by kernel_rfl) ?_
          refine s_no (by kernel_rfl) ?_
          refine s_no (by kernel_rfl) ?_
          refine s_no (by kernel_rfl) ?_
          refine s_no (by kernel_rfl) ?_
          refine s_no (by kernel_rfl) ?_
          refine s_no (by kernel_rfl) ?_
          refine s_qk (.bool true) (by kernel_rfl) ?_
          refine s_qk (.bool true) (by kernel_rfl) ?_
          refine s_no (by kernel_rfl) ?_
          refine s_no (by kernel_rfl) ?_
          refine s_no (by kernel_rfl) ?_
          refine s_no (by kernel_rfl) ?_
          refine s_no (by kernel_rfl) ?_
          refine s_no (by kernel_rfl) ?_
          refine s_no (by kernel_rfl) ?_
          refine s_qk (.bool true) (by kernel_rfl) ?_
          refine s_qk (.bool true) (by kernel_rfl) ?_
          refine s_no (by kernel_rfl) ?_
          refine s_no (by kernel_rfl) ?_
          refine s_no (by kernel_rfl) ?_
          refine s_no (by kernel_rfl) ?_
          refine s_no (by kernel_rfl) ?_
          refine s_no (by kernel_rfl) ?_
          refine s_qk (.bool true) (by kernel_rfl) ?_
          refine s_qk (.bool true) (by kernel_rfl) ?_
          refine s_no (by kernel_rfl) ?_
          refine s_no (by kernel_rfl) ?_
          refine s_no (by kernel_rfl) ?_
          refine s_no (by kernel_rfl) ?_
          refine s_no (by kernel_rfl) ?_
          refine s_no (by kernel_rfl) ?_
          refine s_no (by kernel_rfl) ?_
          refine s_qk (.bool true) (by kernel_rfl) ?_
          refine s_nil ?_
          obtain rfl := Option.some.inj r267
          exact k204 _ _ ⟨⟨by kernel_rfl, by kernel_rfl, by kernel_rfl, by kernel_rfl, by kernel_rfl, by kernel_rfl, by kernel_rfl, by kernel_rfl, by kernel_rfl, by kernel_rfl, by kernel_rfl, trivial⟩, rfl⟩
      · obtain ⟨hh205, rfl⟩ := hM
        obtain ⟨β, rfl⟩ := has_ex hh205
        clear hh205
        refine k198 _ _ ?_
        refine w_cond (o199) (by kernel_rfl) rfl (fun h269 => ?_) (fun h269 => ?_)
        · have r270 := ite_t h269 r201
          refine w_seqk fun K271 k271 => ?_
          refine w_reg (by kernel_rfl) ?_
          refine s_qk (.bool false) (by kernel_rfl) ?_
          refine s_nil ?_
          refine k271 _ _ ?_
          refine w_ret (th_ret ?_)
          refine b_ret (fn := Go.Proofs.Try.f4) (vs := [.bool false]) (aRes_tmp (by kernel_rfl) (rfl)) ?_
          obtain rfl := Option.some.inj r270
          exact ⟨rfl, (FrS.step wf (FrS.step wf (FrS.step wf (FrS.step wf (FrS.step wf (FrS.step wf (FrS.step wf ((FrS.step wf ((FrS.step wf ((FrS.step wf ((FrS.refl (W := []) wf).extR e27) e33 (hf28.fresh (Nat.le_refl _))).extR e41) e53 (hf28.fresh (Nat.le_refl _))).extR e65) e71 (hf66.fresh (Nat.le_trans (Nat.le_trans (Nat.le_trans e27.next e33.next) e41.next) e53.next))).extR e79) e91 (hf66.fresh (Nat.le_trans (Nat.le_trans (Nat.le_trans e27.next e33.next) e41.next) e53.next))) e103 Inn.nil) e117 Inn.nil) e132 Inn.nil) e146 Inn.nil) e164 Inn.nil) e186 Inn.nil)⟩
        · have r272 := ite_bf h269 r201
          refine w_skip ?_
          refine k197 _ _ ?_
          refine w_seqk fun K273 k273 => ?_
          refine w_seqk fun K274 k274 => ?_
          refine w_reg (by kernel_rfl) ?_
          refine s_qk (.slice (some ⟨b25, 0, none⟩) ((a.take (List.replicate a.length (0 : Int)).length ++ (List.replicate a.length (0 : Int)).drop a.length).length + [41, 42].length) ((a.length : Int) + 2).toNat) (by kernel_rfl) ?_
          refine s_qk (.slice (some ⟨b63, 0, none⟩) ((b.take (List.replicate b.length (0 : Int)).length ++ (List.replicate b.length (0 : Int)).drop b.length).length + [43, 44].length) ((b.length : Int) + 2).toNat) (by kernel_rfl) ?_
          refine s_qk (.slice a107 n108 c109) (by kernel_rfl) ?_
          refine s_qk (.slice a136 n137 c138) (by kernel_rfl) ?_
          refine s_qk (.slice a172 n173 c174) (by kernel_rfl) ?_
          have u280 := (m165.fr e186 Dj.nil_l)
          have u281 := (((m133.fr e146 Dj.nil_l).fr e164 Dj.nil_l).fr e186 Dj.nil_l)
          have u282 := (((((m104.fr e117 Dj.nil_l).fr e132 Dj.nil_l).fr e146 Dj.nil_l).fr e164 Dj.nil_l).fr e186 Dj.nil_l)
          have u283 := ((((((hm92.fr e103 Dj.nil_l).fr e117 Dj.nil_l).fr e132 Dj.nil_l).fr e146 Dj.nil_l).fr e164 Dj.nil_l).fr e186 Dj.nil_l)
          have u284 := ((((((((((hm54.ext e65).fr e71 (hf66.djn (hm29.lt.le (Nat.le_trans (Nat.le_trans e33.next e41.next) e53.next)))).ext e79).fr e91 (hf66.djn (hm29.lt.le (Nat.le_trans (Nat.le_trans e33.next e41.next) e53.next)))).fr e103 Dj.nil_l).fr e117 Dj.nil_l).fr e132 Dj.nil_l).fr e146 Dj.nil_l).fr e164 Dj.nil_l).fr e186 Dj.nil_l)
          refine s_lsl e186.wf [.slice (some ⟨b25, 0, none⟩) ((a.take (List.replicate a.length (0 : Int)).length ++ (List.replicate a.length (0 : Int)).drop a.length).length + [41, 42].length) ((a.length : Int) + 2).toNat, .slice (some ⟨b63, 0, none⟩) ((b.take (List.replicate b.length (0 : Int)).length ++ (List.replicate b.length (0 : Int)).drop b.length).length + [43, 44].length) ((b.length : Int) + 2).toNat, .slice a107 n108 c109, .slice a136 n137 c138, .slice a172 n173 c174] 5 (one_cons (u284.one1) (one_cons (u283.one1) (one_cons (u282.one1) (one_cons (u281.one1) (one_cons (u280.one1) (one_nil)))))) (by kernel_rfl) fun b275 H276 e277 hb278 r279 => ?_
          refine s_qk (.int .i64 5) (by kernel_rfl) ?_
          refine s_qk (.int .i64 0) (by kernel_rfl) ?_
          refine s_nil ?_
          refine k274 _ _ ?_
          refine w_block ?_
          refine w_unroll ?_
          refine w_seqk fun K286 k286 => ?_
          refine w_reg (by kernel_rfl) ?_
          refine s_qk (.bool true) (by kernel_rfl) ?_
          refine s_nil ?_
          refine k286 _ _ ?_
          refine w_seqk fun K287 k287 => ?_
          refine w_cond true (by kernel_rfl) rfl (fun _ => ?_) (fun h => by cases h)
          refine w_skip ?_
          refine k287 _ _ ?_
          refine w_seqk fun K288 k288 => ?_
          refine w_block ?_
          refine w_seqk fun K289 k289 => ?_
          refine w_reg (by kernel_rfl) ?_
          refine s_qk (.pointer (some ⟨b275, 0, none⟩)) (by kernel_rfl) ?_
          refine s_ql (.slice (some ⟨b25, 0, none⟩) ((a.take (List.replicate a.length (0 : Int)).length ++ (List.replicate a.length (0 : Int)).drop a.length).length + [41, 42].length) ((a.length : Int) + 2).toNat) (x := aLoad Go.Proofs.Try.prog 22 (.pointer (some ⟨b275, 0, none⟩)) H276) (by kernel_rfl) (r279.ld (by kernel_rfl)) ?_
          refine s_qk (.slice (some ⟨b25, 0, none⟩) ((a.take (List.replicate a.length (0 : Int)).length ++ (List.replicate a.length (0 : Int)).drop a.length).length + [41, 42].length) ((a.length : Int) + 2).toNat) (by kernel_rfl) ?_
          refine s_nil ?_
          refine k289 _ _ ?_
          refine w_seqk fun K290 k290 => ?_
          refine w_reg (by kernel_rfl) ?_
          refine s_qk (.slice (some ⟨b25, 0, none⟩) ((a.take (List.replicate a.length (0 : Int)).length ++ (List.replicate a.length (0 : Int)).drop a.length).length + [41, 42].length) ((a.length : Int) + 2).toNat) (by kernel_rfl) ?_
          have u291 := (u284.ext e277)
          refine s_ql (.int .i64 (((a.take (List.replicate a.length (0 : Int)).length ++ (List.replicate a.length (0 : Int)).drop a.length) ++ [41, 42]).length : Int)) (x := aLen Go.Proofs.Try.prog 22 (.slice (some ⟨b25, 0, none⟩) ((a.take (List.replicate a.length (0 : Int)).length ++ (List.replicate a.length (0 : Int)).drop a.length).length + [41, 42].length) ((a.length : Int) + 2).toNat) H276) (by kernel_rfl) (u291.sq.lenb (by kernel_rfl)) ?_
          refine s_qk (.int .i64 0) (by kernel_rfl) ?_
          refine s_nil ?_
          refine k290 _ _ ?_
          obtain ⟨o292, hx293, r294⟩ := bind_some r272
          refine w_mid (fun α H295 => Has α [(0, hd_a), (1, hd_b), (10, .slice a121 n122 c123), (12, .slice a150 n151 c152), (15, .slice a194 n195 c196), (131, .slice (some ⟨b275, 0, none⟩) 5 5), (132, .int .i64 5), (133, .int .i64 0)] ∧ FrS [b25] H276 H295 ∧ Ow (encI .i64) 1 H295 (.slice (some ⟨b25, 0, none⟩) ((a.take (List.replicate a.length (0 : Int)).length ++ (List.replicate a.length (0 : Int)).drop a.length).length + [41, 42].length) ((a.length : Int) + 2).toNat) o292 [b25]) (fun K299 k299 => ?_) (fun α H295 hM => ?_)
          · refine w_block ?_
            obtain ⟨n301, hn302⟩ := loopO_iff.1 hx293
            refine w_loopn (fun n α H303 => ∃ (l0 : List (Int)), ∃ (i1 : Int), iterO (fun s => z_viaductlaw09_WalkMemory_l0 a s.1 s.2) n (l0, i1) = some o292 ∧ Has α [(0, hd_a), (1, hd_b), (10, .slice a121 n122 c123), (12, .slice a150 n151 c152), (15, .slice a194 n195 c196), (18, .slice (some ⟨b25, 0, none⟩) ((a.take (List.replicate a.length (0 : Int)).length ++ (List.replicate a.length (0 : Int)).drop a.length).length + [41, 42].length) ((a.length : Int) + 2).toNat), (131, .slice (some ⟨b275, 0, none⟩) 5 5), (132, .int .i64 5), (133, .int .i64 0), (138, .int .i64 (((a.take (List.replicate a.length (0 : Int)).length ++ (List.replicate a.length (0 : Int)).drop a.length) ++ [41, 42]).length : Int)), (139, .int .i64 i1)] ∧ FrS [b25] H276 H303 ∧ Ow (encI .i64) 1 H303 (.slice (some ⟨b25, 0, none⟩) ((a.take (List.replicate a.length (0 : Int)).length ++ (List.replicate a.length (0 : Int)).drop a.length).length + [41, 42].length) ((a.length : Int) + 2).toNat) l0 [b25]) n301 ⟨((a.take (List.replicate a.length (0 : Int)).length ++ (List.replicate a.length (0 : Int)).drop a.length) ++ [41, 42]), 0, hn302, ⟨by kernel_rfl, by kernel_rfl, by kernel_rfl, by kernel_rfl, by kernel_rfl, by kernel_rfl, by kernel_rfl, by kernel_rfl, by kernel_rfl, by kernel_rfl, by kernel_rfl, trivial⟩, (FrS.refl (W := [b25]) e277.wf), u291⟩ ?_
            rintro n301 α H303 ⟨l0, i1, hi308, hh307, e304, m306⟩ K313 k313
            obtain ⟨n309, z310, rfl, hz311, hn312⟩ := iter_succ hi308
            obtain ⟨β, rfl⟩ := has_ex hh307
            clear hh307
            replace hz311 : z_viaductlaw09_WalkMemory_l0 a l0 i1 = some z310 := hz311
            unfold z_viaductlaw09_WalkMemory_l0 at hz311
            refine w_seqk fun K314 k314 => ?_
            refine w_reg (by kernel_rfl) ?_
            refine s_qk (.bool (decide (i1 < (((a.take (List.replicate a.length (0 : Int)).length ++ (List.replicate a.length (0 : Int)).drop a.length) ++ [41, 42]).length : Int)))) (by kernel_rfl) ?_
            refine s_nil ?_
            refine k314 _ _ ?_
            refine w_seqk fun K315 k315 => ?_
            refine w_condp (i1 < (((a.take (List.replicate a.length (0 : Int)).length ++ (List.replicate a.length (0 : Int)).drop a.length) ++ [41, 42]).length : Int)) (by kernel_rfl) rfl (fun h316 => ?_) (fun h316 => ?_)
            · have r317 := ite_t h316 hz311
              refine w_skip ?_
              refine k315 _ _ ?_
              refine w_seqk fun K318 k318 => ?_
              refine w_block ?_
              refine w_seqk fun K319 k319 => ?_
              refine w_reg (by kernel_rfl) ?_
              refine s_qk (.int .i64 i1) (by kernel_rfl) ?_
              refine s_qk (.int .i64 i1) (by kernel_rfl) ?_
              refine s_nil ?_
              refine k319 _ _ ?_
              refine w_reg (by kernel_rfl) ?_
              refine s_qk (.slice (some ⟨b25, 0, none⟩) ((a.take (List.replicate a.length (0 : Int)).length ++ (List.replicate a.length (0 : Int)).drop a.length).length + [41, 42].length) ((a.length : Int) + 2).toNat) (by kernel_rfl) ?_
              refine s_qk (.int .i64 i1) (by kernel_rfl) ?_
              obtain ⟨g320, r321⟩ := G_some r317
              refine s_ql (elp (.slice (some ⟨b25, 0, none⟩) ((a.take (List.replicate a.length (0 : Int)).length ++ (List.replicate a.length (0 : Int)).drop a.length).length + [41, 42].length) ((a.length : Int) + 2).toNat) 1 i1.toNat 0) (x := aIndexAddr Go.Proofs.Try.prog 22 (.slice (some ⟨b25, 0, none⟩) ((a.take (List.replicate a.length (0 : Int)).length ++ (List.replicate a.length (0 : Int)).drop a.length).length + [41, 42].length) ((a.length : Int) + 2).toNat) (.int .i64 i1)) (by kernel_rfl) (m306.sq.idxb (by kernel_rfl) g320.1 g320.2) ?_
              obtain ⟨H322, q323, e324, hm325⟩ := Ow.store (P := Go.Proofs.Try.prog) (t := 3) (off := 0) e304.wf m306 g320.1 g320.2 (.int .i64 (-99)) [.int .i64 (-99)] (by kernel_rfl) (by kernel_rfl) rfl (-99) (Nat.le_of_ble_eq_true rfl) (by kernel_rfl)
              refine s_ek (undef) (by kernel_rfl) (map_ok q323) ?_
              refine s_nil ?_
              refine k318 _ _ ?_
              refine w_reg (by kernel_rfl) ?_
              obtain ⟨g326, r327⟩ := G_some r321
              refine s_w ((i1 + 1)) (k := .i64) (x := (i1 + 1)) (by kernel_rfl) (wrap64 (by have := g326; omega)) ?_
              refine s_qk (.int .i64 (i1 + 1)) (by kernel_rfl) ?_
              refine s_nil ?_
              obtain rfl := Option.some.inj r327
              exact k313 n309 _ _ (Nat.lt_succ_self _) ⟨(l0.set i1.toNat (-99)), (i1 + 1), hn312, ⟨by kernel_rfl, by kernel_rfl, by kernel_rfl, by kernel_rfl, by kernel_rfl, by kernel_rfl, by kernel_rfl, by kernel_rfl, by kernel_rfl, by kernel_rfl, by kernel_rfl, trivial⟩, (FrS.step e277.wf (FrS.step e277.wf (FrS.refl (W := [b25]) e277.wf) e304 Inn.refl') e324 Inn.refl'), hm325⟩
            · have r328 := ite_f h316 hz311
              refine w_exit (th_exit (th_exit (bl_eq ?_)))
              obtain rfl := Option.some.inj r328
              obtain rfl := it_inr hn312
              exact k299 _ _ ⟨⟨by kernel_rfl, by kernel_rfl, by kernel_rfl, by kernel_rfl, by kernel_rfl, by kernel_rfl, by kernel_rfl, by kernel_rfl, trivial⟩, (FrS.step e277.wf (FrS.refl (W := [b25]) e277.wf) e304 Inn.refl'), m306⟩
          · obtain ⟨hh300, e296, m298⟩ := hM
            obtain ⟨β, rfl⟩ := has_ex hh300
            clear hh300
            refine k288 _ _ ?_
            refine w_reg (by kernel_rfl) ?_
            refine s_qk (.int .i64 1) (by kernel_rfl) ?_
            refine s_qk (.int .i64 1) (by kernel_rfl) ?_
            refine s_nil ?_
            refine w_unroll ?_
            refine w_seqk fun K329 k329 => ?_
            refine w_reg (by kernel_rfl) ?_
            refine s_qk (.bool true) (by kernel_rfl) ?_
            refine s_nil ?_
            refine k329 _ _ ?_
            refine w_seqk fun K330 k330 => ?_
            refine w_cond true (by kernel_rfl) rfl (fun _ => ?_) (fun h => by cases h)
            refine w_skip ?_
            refine k330 _ _ ?_
            refine w_seqk fun K331 k331 => ?_
            refine w_block ?_
            refine w_seqk fun K332 k332 => ?_
            refine w_reg (by kernel_rfl) ?_
            refine s_qk (.pointer (some ⟨b275, 1, none⟩)) (by kernel_rfl) ?_
            have u333 := (r279.frS e296 (Dj.symm (hb278.djn (hm29.lt.le (Nat.le_trans (Nat.le_trans (Nat.le_trans (Nat.le_trans (Nat.le_trans (Nat.le_trans (Nat.le_trans (Nat.le_trans (Nat.le_trans (Nat.le_trans (Nat.le_trans (Nat.le_trans e33.next e41.next) e53.next) e65.next) e71.next) e79.next) e91.next) e103.next) e117.next) e132.next) e146.next) e164.next) e186.next)))))
            refine s_ql (.slice (some ⟨b63, 0, none⟩) ((b.take (List.replicate b.length (0 : Int)).length ++ (List.replicate b.length (0 : Int)).drop b.length).length + [43, 44].length) ((b.length : Int) + 2).toNat) (x := aLoad Go.Proofs.Try.prog 22 (.pointer (some ⟨b275, 1, none⟩)) H295) (by kernel_rfl) (u333.ld (by kernel_rfl)) ?_
            refine s_qk (.slice (some ⟨b63, 0, none⟩) ((b.take (List.replicate b.length (0 : Int)).length ++ (List.replicate b.length (0 : Int)).drop b.length).length + [43, 44].length) ((b.length : Int) + 2).toNat) (by kernel_rfl) ?_
            refine s_nil ?_
            refine k332 _ _ ?_
            refine w_seqk fun K334 k334 => ?_
            refine w_reg (by kernel_rfl) ?_
            refine s_qk (.slice (some ⟨b63, 0, none⟩) ((b.take (List.replicate b.length (0 : Int)).length ++ (List.replicate b.length (0 : Int)).drop b.length).length + [43, 44].length) ((b.length : Int) + 2).toNat) (by kernel_rfl) ?_
            have u335 := ((u283.ext e277).fr e296 (Dj.symm (hf66.djn (hm29.lt.le (Nat.le_trans (Nat.le_trans e33.next e41.next) e53.next)))))
            refine s_ql (.int .i64 (((b.take (List.replicate b.length (0 : Int)).length ++ (List.replicate b.length (0 : Int)).drop b.length) ++ [43, 44]).length : Int)) (x := aLen Go.Proofs.Try.prog 22 (.slice (some ⟨b63, 0, none⟩) ((b.take (List.replicate b.length (0 : Int)).length ++ (List.replicate b.length (0 : Int)).drop b.length).length + [43, 44].length) ((b.length : Int) + 2).toNat) H295) (by kernel_rfl) (u335.sq.lenb (by kernel_rfl)) ?_
            refine s_qk (.int .i64 0) (by kernel_rfl) ?_
            refine s_nil ?_
            refine k334 _ _ ?_
            obtain ⟨o336, hx337, r338⟩ := bind_some r294
            refine w_mid (fun α H339 => Has α [(0, hd_a), (1, hd_b), (10, .slice a121 n122 c123), (12, .slice a150 n151 c152), (15, .slice a194 n195 c196), (131, .slice (some ⟨b275, 0, none⟩) 5 5), (132, .int .i64 5), (133, .int .i64 1)] ∧ FrS [b63] H295 H339 ∧ Ow (encI .i64) 1 H339 (.slice (some ⟨b63, 0, none⟩) ((b.take (List.replicate b.length (0 : Int)).length ++ (List.replicate b.length (0 : Int)).drop b.length).length + [43, 44].length) ((b.length : Int) + 2).toNat) o336 [b63]) (fun K343 k343 => ?_) (fun α H339 hM => ?_)
            · refine w_block ?_
              obtain ⟨n345, hn346⟩ := loopO_iff.1 hx337
              refine w_loopn (fun n α H347 => ∃ (l2 : List (Int)), ∃ (i3 : Int), iterO (fun s => z_viaductlaw09_WalkMemory_l1 b s.1 s.2) n (l2, i3) = some o336 ∧ Has α [(0, hd_a), (1, hd_b), (10, .slice a121 n122 c123), (12, .slice a150 n151 c152), (15, .slice a194 n195 c196), (18, .slice (some ⟨b63, 0, none⟩) ((b.take (List.replicate b.length (0 : Int)).length ++ (List.replicate b.length (0 : Int)).drop b.length).length + [43, 44].length) ((b.length : Int) + 2).toNat), (131, .slice (some ⟨b275, 0, none⟩) 5 5), (132, .int .i64 5), (133, .int .i64 1), (138, .int .i64 (((b.take (List.replicate b.length (0 : Int)).length ++ (List.replicate b.length (0 : Int)).drop b.length) ++ [43, 44]).length : Int)), (139, .int .i64 i3)] ∧ FrS [b63] H295 H347 ∧ Ow (encI .i64) 1 H347 (.slice (some ⟨b63, 0, none⟩) ((b.take (List.replicate b.length (0 : Int)).length ++ (List.replicate b.length (0 : Int)).drop b.length).length + [43, 44].length) ((b.length : Int) + 2).toNat) l2 [b63]) n345 ⟨((b.take (List.replicate b.length (0 : Int)).length ++ (List.replicate b.length (0 : Int)).drop b.length) ++ [43, 44]), 0, hn346, ⟨by kernel_rfl, by kernel_rfl, by kernel_rfl, by kernel_rfl, by kernel_rfl, by kernel_rfl, by kernel_rfl, by kernel_rfl, by kernel_rfl, by kernel_rfl, by kernel_rfl, trivial⟩, (FrS.refl (W := [b63]) e296.wf), u335⟩ ?_
              rintro n345 α H347 ⟨l2, i3, hi352, hh351, e348, m350⟩ K357 k357
              obtain ⟨n353, z354, rfl, hz355, hn356⟩ := iter_succ hi352
              obtain ⟨β, rfl⟩ := has_ex hh351
              clear hh351
              replace hz355 : z_viaductlaw09_WalkMemory_l1 b l2 i3 = some z354 := hz355
              unfold z_viaductlaw09_WalkMemory_l1 at hz355
              refine w_seqk fun K358 k358 => ?_
              refine w_reg (by kernel_rfl) ?_
              refine s_qk (.bool (decide (i3 < (((b.take (List.replicate b.length (0 : Int)).length ++ (List.replicate b.length (0 : Int)).drop b.length) ++ [43, 44]).length : Int)))) (by kernel_rfl) ?_
              refine s_nil ?_
              refine k358 _ _ ?_
              refine w_seqk fun K359 k359 => ?_
              refine w_condp (i3 < (((b.take (List.replicate b.length (0 : Int)).length ++ (List.replicate b.length (0 : Int)).drop b.length) ++ [43, 44]).length : Int)) (by kernel_rfl) rfl (fun h360 => ?_) (fun h360 => ?_)
              · have r361 := ite_t h360 hz355
                refine w_skip ?_
                refine k359 _ _ ?_
                refine w_seqk fun K362 k362 => ?_
                refine w_block ?_
                refine w_seqk fun K363 k363 => ?_
                refine w_reg (by kernel_rfl) ?_
                refine s_qk (.int .i64 i3) (by kernel_rfl) ?_
                refine s_qk (.int .i64 i3) (by kernel_rfl) ?_
                refine s_nil ?_
                refine k363 _ _ ?_
                refine w_reg (by kernel_rfl) ?_
                refine s_qk (.slice (some ⟨b63, 0, none⟩) ((b.take (List.replicate b.length (0 : Int)).length ++ (List.replicate b.length (0 : Int)).drop b.length).length + [43, 44].length) ((b.length : Int) + 2).toNat) (by kernel_rfl) ?_
                refine s_qk (.int .i64 i3) (by kernel_rfl) ?_
                obtain ⟨g364, r365⟩ := G_some r361
                refine s_ql (elp (.slice (some ⟨b63, 0, none⟩) ((b.take (List.replicate b.length (0 : Int)).length ++ (List.replicate b.length (0 : Int)).drop b.length).length + [43, 44].length) ((b.length : Int) + 2).toNat) 1 i3.toNat 0) (x := aIndexAddr Go.Proofs.Try.prog 22 (.slice (some ⟨b63, 0, none⟩) ((b.take (List.replicate b.length (0 : Int)).length ++ (List.replicate b.length (0 : Int)).drop b.length).length + [43, 44].length) ((b.length : Int) + 2).toNat) (.int .i64 i3)) (by kernel_rfl) (m350.sq.idxb (by kernel_rfl) g364.1 g364.2) ?_
                obtain ⟨H366, q367, e368, hm369⟩ := Ow.store (P := Go.Proofs.Try.prog) (t := 3) (off := 0) e348.wf m350 g364.1 g364.2 (.int .i64 (-99)) [.int .i64 (-99)] (by kernel_rfl) (by kernel_rfl) rfl (-99) (Nat.le_of_ble_eq_true rfl) (by kernel_rfl)
                refine s_ek (undef) (by kernel_rfl) (map_ok q367) ?_
                refine s_nil ?_
                refine k362 _ _ ?_
                refine w_reg (by kernel_rfl) ?_
                obtain ⟨g370, r371⟩ := G_some r365
                refine s_w ((i3 + 1)) (k := .i64) (x := (i3 + 1)) (by kernel_rfl) (wrap64 (by have := g370; omega)) ?_
                refine s_qk (.int .i64 (i3 + 1)) (by kernel_rfl) ?_
                refine s_nil ?_
                obtain rfl := Option.some.inj r371
                exact k357 n353 _ _ (Nat.lt_succ_self _) ⟨(l2.set i3.toNat (-99)), (i3 + 1), hn356, ⟨by kernel_rfl, by kernel_rfl, by kernel_rfl, by kernel_rfl, by kernel_rfl, by kernel_rfl, by kernel_rfl, by kernel_rfl, by kernel_rfl, by kernel_rfl, by kernel_rfl, trivial⟩, (FrS.step e296.wf (FrS.step e296.wf (FrS.refl (W := [b63]) e296.wf) e348 Inn.refl') e368 Inn.refl'), hm369⟩
              · have r372 := ite_f h360 hz355
                refine w_exit (th_exit (th_exit (bl_eq ?_)))
                obtain rfl := Option.some.inj r372
                obtain rfl := it_inr hn356
                exact k343 _ _ ⟨⟨by kernel_rfl, by kernel_rfl, by kernel_rfl, by kernel_rfl, by kernel_rfl, by kernel_rfl, by kernel_rfl, by kernel_rfl, trivial⟩, (FrS.step e296.wf (FrS.refl (W := [b63]) e296.wf) e348 Inn.refl'), m350⟩
            · obtain ⟨hh344, e340, m342⟩ := hM
              obtain ⟨β, rfl⟩ := has_ex hh344
              clear hh344
              refine k331 _ _ ?_
              refine w_reg (by kernel_rfl) ?_
              refine s_qk (.int .i64 2) (by kernel_rfl) ?_
              refine s_qk (.int .i64 2) (by kernel_rfl) ?_
              refine s_nil ?_
              refine w_unroll ?_
              refine w_seqk fun K373 k373 => ?_
              refine w_reg (by kernel_rfl) ?_
              refine s_qk (.bool true) (by kernel_rfl) ?_
              refine s_nil ?_
              refine k373 _ _ ?_
              refine w_seqk fun K374 k374 => ?_
              refine w_cond true (by kernel_rfl) rfl (fun _ => ?_) (fun h => by cases h)
              refine w_skip ?_
              refine k374 _ _ ?_
              refine w_seqk fun K375 k375 => ?_
              refine w_block ?_
              refine w_seqk fun K376 k376 => ?_
              refine w_reg (by kernel_rfl) ?_
              refine s_qk (.pointer (some ⟨b275, 2, none⟩)) (by kernel_rfl) ?_
              have u377 := (u333.frS e340 (Dj.symm (hb278.djn (hm67.lt.le (Nat.le_trans (Nat.le_trans (Nat.le_trans (Nat.le_trans (Nat.le_trans (Nat.le_trans (Nat.le_trans (Nat.le_trans e71.next e79.next) e91.next) e103.next) e117.next) e132.next) e146.next) e164.next) e186.next)))))
              refine s_ql (.slice a107 n108 c109) (x := aLoad Go.Proofs.Try.prog 22 (.pointer (some ⟨b275, 2, none⟩)) H339) (by kernel_rfl) (u377.ld (by kernel_rfl)) ?_
              refine s_qk (.slice a107 n108 c109) (by kernel_rfl) ?_
              refine s_nil ?_
              refine k376 _ _ ?_
              refine w_seqk fun K378 k378 => ?_
              refine w_reg (by kernel_rfl) ?_
              refine s_qk (.slice a107 n108 c109) (by kernel_rfl) ?_
              have u379 := (((u282.ext e277).fr e296 (Dj.symm (i105.djn (hm29.lt.le (Nat.le_trans (Nat.le_trans (Nat.le_trans (Nat.le_trans (Nat.le_trans (Nat.le_trans e33.next e41.next) e53.next) e65.next) e71.next) e79.next) e91.next))))).fr e340 (Dj.symm (i105.djn (hm67.lt.le (Nat.le_trans (Nat.le_trans e71.next e79.next) e91.next)))))
              refine s_ql (.int .i64 (y97.length : Int)) (x := aLen Go.Proofs.Try.prog 22 (.slice a107 n108 c109) H339) (by kernel_rfl) (u379.sq.lenb (by kernel_rfl)) ?_
              refine s_qk (.int .i64 0) (by kernel_rfl) ?_
              refine s_nil ?_
              refine k378 _ _ ?_
              obtain ⟨o380, hx381, r382⟩ := bind_some r338
              refine w_mid (fun α H383 => Has α [(0, hd_a), (1, hd_b), (10, .slice a121 n122 c123), (12, .slice a150 n151 c152), (15, .slice a194 n195 c196), (131, .slice (some ⟨b275, 0, none⟩) 5 5), (132, .int .i64 5), (133, .int .i64 2)] ∧ FrS f101 H339 H383 ∧ Ow (encI .i64) 1 H383 (.slice a107 n108 c109) o380 f101) (fun K387 k387 => ?_) (fun α H383 hM => ?_)
              · refine w_block ?_
                obtain ⟨n389, hn390⟩ := loopO_iff.1 hx381
                refine w_loopn (fun n α H391 => ∃ (l4 : List (Int)), ∃ (i5 : Int), iterO (fun s => z_viaductlaw09_WalkMemory_l2 y97 s.1 s.2) n (l4, i5) = some o380 ∧ Has α [(0, hd_a), (1, hd_b), (10, .slice a121 n122 c123), (12, .slice a150 n151 c152), (15, .slice a194 n195 c196), (18, .slice a107 n108 c109), (131, .slice (some ⟨b275, 0, none⟩) 5 5), (132, .int .i64 5), (133, .int .i64 2), (138, .int .i64 (y97.length : Int)), (139, .int .i64 i5)] ∧ FrS f101 H339 H391 ∧ Ow (encI .i64) 1 H391 (.slice a107 n108 c109) l4 f101) n389 ⟨y97, 0, hn390, ⟨by kernel_rfl, by kernel_rfl, by kernel_rfl, by kernel_rfl, by kernel_rfl, by kernel_rfl, by kernel_rfl, by kernel_rfl, by kernel_rfl, by kernel_rfl, by kernel_rfl, trivial⟩, (FrS.refl (W := f101) e340.wf), u379⟩ ?_
                rintro n389 α H391 ⟨l4, i5, hi396, hh395, e392, m394⟩ K401 k401
                obtain ⟨n397, z398, rfl, hz399, hn400⟩ := iter_succ hi396
                obtain ⟨β, rfl⟩ := has_ex hh395
                clear hh395
                replace hz399 : z_viaductlaw09_WalkMemory_l2 y97 l4 i5 = some z398 := hz399
                unfold z_viaductlaw09_WalkMemory_l2 at hz399
                refine w_seqk fun K402 k402 => ?_
                refine w_reg (by kernel_rfl) ?_
                refine s_qk (.bool (decide (i5 < (y97.length : Int)))) (by kernel_rfl) ?_
                refine s_nil ?_
                refine k402 _ _ ?_
                refine w_seqk fun K403 k403 => ?_
                refine w_condp (i5 < (y97.length : Int)) (by kernel_rfl) rfl (fun h404 => ?_) (fun h404 => ?_)
                · have r405 := ite_t h404 hz399
                  refine w_skip ?_
                  refine k403 _ _ ?_
                  refine w_seqk fun K406 k406 => ?_
                  refine w_block ?_
                  refine w_seqk fun K407 k407 => ?_
                  refine w_reg (by kernel_rfl) ?_
                  refine s_qk (.int .i64 i5) (by kernel_rfl) ?_
                  refine s_qk (.int .i64 i5) (by kernel_rfl) ?_
                  refine s_nil ?_
                  refine k407 _ _ ?_
                  refine w_reg (by kernel_rfl) ?_
                  refine s_qk (.slice a107 n108 c109) (by kernel_rfl) ?_
                  refine s_qk (.int .i64 i5) (by kernel_rfl) ?_
                  obtain ⟨g408, r409⟩ := G_some r405
                  refine s_ql (elp (.slice a107 n108 c109) 1 i5.toNat 0) (x := aIndexAddr Go.Proofs.Try.prog 22 (.slice a107 n108 c109) (.int .i64 i5)) (by kernel_rfl) (m394.sq.idxb (by kernel_rfl) g408.1 g408.2) ?_
                  obtain ⟨H410, q411, e412, hm413⟩ := Ow.store (P := Go.Proofs.Try.prog) (t := 3) (off := 0) e392.wf m394 g408.1 g408.2 (.int .i64 (-99)) [.int .i64 (-99)] (by kernel_rfl) (by kernel_rfl) rfl (-99) (Nat.le_of_ble_eq_true rfl) (by kernel_rfl)
                  refine s_ek (undef) (by kernel_rfl) (map_ok q411) ?_
                  refine s_nil ?_
                  refine k406 _ _ ?_
                  refine w_reg (by kernel_rfl) ?_
                  obtain ⟨g414, r415⟩ := G_some r409
                  refine s_w ((i5 + 1)) (k := .i64) (x := (i5 + 1)) (by kernel_rfl) (wrap64 (by have := g414; omega)) ?_
                  refine s_qk (.int .i64 (i5 + 1)) (by kernel_rfl) ?_
                  refine s_nil ?_
                  obtain rfl := Option.some.inj r415
                  exact k401 n397 _ _ (Nat.lt_succ_self _) ⟨(l4.set i5.toNat (-99)), (i5 + 1), hn400, ⟨by kernel_rfl, by kernel_rfl, by kernel_rfl, by kernel_rfl, by kernel_rfl, by kernel_rfl, by kernel_rfl, by kernel_rfl, by kernel_rfl, by kernel_rfl, by kernel_rfl, trivial⟩, (FrS.step e340.wf (FrS.step e340.wf (FrS.refl (W := f101) e340.wf) e392 Inn.refl') e412 Inn.refl'), hm413⟩
                · have r416 := ite_f h404 hz399
                  refine w_exit (th_exit (th_exit (bl_eq ?_)))
                  obtain rfl := Option.some.inj r416
                  obtain rfl := it_inr hn400
                  exact k387 _ _ ⟨⟨by kernel_rfl, by kernel_rfl, by kernel_rfl, by kernel_rfl, by kernel_rfl, by kernel_rfl, by kernel_rfl, by kernel_rfl, trivial⟩, (FrS.step e340.wf (FrS.refl (W := f101) e340.wf) e392 Inn.refl'), m394⟩
              · obtain ⟨hh388, e384, m386⟩ := hM
                obtain ⟨β, rfl⟩ := has_ex hh388
                clear hh388
                refine k375 _ _ ?_
                refine w_reg (by kernel_rfl) ?_
                refine s_qk (.int .i64 3) (by kernel_rfl) ?_
                refine s_qk (.int .i64 3) (by kernel_rfl) ?_
                refine s_nil ?_
                refine w_unroll ?_
                refine w_seqk fun K417 k417 => ?_
                refine w_reg (by kernel_rfl) ?_
                refine s_qk (.bool true) (by kernel_rfl) ?_
                refine s_nil ?_
                refine k417 _ _ ?_
                refine w_seqk fun K418 k418 => ?_
                refine w_cond true (by kernel_rfl) rfl (fun _ => ?_) (fun h => by cases h)
                refine w_skip ?_
                refine k418 _ _ ?_
                refine w_seqk fun K419 k419 => ?_
                refine w_block ?_
                refine w_seqk fun K420 k420 => ?_
                refine w_reg (by kernel_rfl) ?_
                refine s_qk (.pointer (some ⟨b275, 3, none⟩)) (by kernel_rfl) ?_
                have u421 := (u377.frS e384 (Dj.symm (hb278.djn (m104.lt.le (Nat.le_trans (Nat.le_trans (Nat.le_trans (Nat.le_trans e117.next e132.next) e146.next) e164.next) e186.next)))))
                refine s_ql (.slice a136 n137 c138) (x := aLoad Go.Proofs.Try.prog 22 (.pointer (some ⟨b275, 3, none⟩)) H383) (by kernel_rfl) (u421.ld (by kernel_rfl)) ?_
                refine s_qk (.slice a136 n137 c138) (by kernel_rfl) ?_
                refine s_nil ?_
                refine k420 _ _ ?_
                refine w_seqk fun K422 k422 => ?_
                refine w_reg (by kernel_rfl) ?_
                refine s_qk (.slice a136 n137 c138) (by kernel_rfl) ?_
                have u423 := ((((u281.ext e277).fr e296 (Dj.symm (i134.djn (hm29.lt.le (Nat.le_trans (Nat.le_trans (Nat.le_trans (Nat.le_trans (Nat.le_trans (Nat.le_trans (Nat.le_trans (Nat.le_trans e33.next e41.next) e53.next) e65.next) e71.next) e79.next) e91.next) e103.next) e117.next))))).fr e340 (Dj.symm (i134.djn (hm67.lt.le (Nat.le_trans (Nat.le_trans (Nat.le_trans (Nat.le_trans e71.next e79.next) e91.next) e103.next) e117.next))))).fr e384 (Dj.symm (i134.djn (m104.lt.le e117.next))))
                refine s_ql (.int .i64 (y126.length : Int)) (x := aLen Go.Proofs.Try.prog 22 (.slice a136 n137 c138) H383) (by kernel_rfl) (u423.sq.lenb (by kernel_rfl)) ?_
                refine s_qk (.int .i64 0) (by kernel_rfl) ?_
                refine s_nil ?_
                refine k422 _ _ ?_
                obtain ⟨o424, hx425, r426⟩ := bind_some r382
                refine w_mid (fun α H427 => Has α [(0, hd_a), (1, hd_b), (10, .slice a121 n122 c123), (12, .slice a150 n151 c152), (15, .slice a194 n195 c196), (131, .slice (some ⟨b275, 0, none⟩) 5 5), (132, .int .i64 5), (133, .int .i64 3)] ∧ FrS f130 H383 H427 ∧ Ow (encI .i64) 1 H427 (.slice a136 n137 c138) o424 f130) (fun K431 k431 => ?_) (fun α H427 hM => ?_)
                · refine w_block ?_
                  obtain ⟨n433, hn434⟩ := loopO_iff.1 hx425
                  refine w_loopn (fun n α H435 => ∃ (l6 : List (Int)), ∃ (i7 : Int), iterO (fun s => z_viaductlaw09_WalkMemory_l3 y126 s.1 s.2) n (l6, i7) = some o424 ∧ Has α [(0, hd_a), (1, hd_b), (10, .slice a121 n122 c123), (12, .slice a150 n151 c152), (15, .slice a194 n195 c196), (18, .slice a136 n137 c138), (131, .slice (some ⟨b275, 0, none⟩) 5 5), (132, .int .i64 5), (133, .int .i64 3), (138, .int .i64 (y126.length : Int)), (139, .int .i64 i7)] ∧ FrS f130 H383 H435 ∧ Ow (encI .i64) 1 H435 (.slice a136 n137 c138) l6 f130) n433 ⟨y126, 0, hn434, ⟨by kernel_rfl, by kernel_rfl, by kernel_rfl, by kernel_rfl, by kernel_rfl, by kernel_rfl, by kernel_rfl, by kernel_rfl, by kernel_rfl, by kernel_rfl, by kernel_rfl, trivial⟩, (FrS.refl (W := f130) e384.wf), u423⟩ ?_
                  rintro n433 α H435 ⟨l6, i7, hi440, hh439, e436, m438⟩ K445 k445
                  obtain ⟨n441, z442, rfl, hz443, hn444⟩ := iter_succ hi440
                  obtain ⟨β, rfl⟩ := has_ex hh439
                  clear hh439
                  replace hz443 : z_viaductlaw09_WalkMemory_l3 y126 l6 i7 = some z442 := hz443
                  unfold z_viaductlaw09_WalkMemory_l3 at hz443
                  refine w_seqk fun K446 k446 => ?_
                  refine w_reg (by kernel_rfl) ?_
                  refine s_qk (.bool (decide (i7 < (y126.length : Int)))) (by kernel_rfl) ?_
                  refine s_nil ?_
                  refine k446 _ _ ?_
                  refine w_seqk fun K447 k447 => ?_
                  refine w_condp (i7 < (y126.length : Int)) (by kernel_rfl) rfl (fun h448 => ?_) (fun h448 => ?_)
                  · have r449 := ite_t h448 hz443
                    refine w_skip ?_
                    refine k447 _ _ ?_
                    refine w_seqk fun K450 k450 => ?_
                    refine w_block ?_
                    refine w_seqk fun K451 k451 => ?_
                    refine w_reg (by kernel_rfl) ?_
                    refine s_qk (.int .i64 i7) (by kernel_rfl) ?_
                    refine s_qk (.int .i64 i7) (by kernel_rfl) ?_
                    refine s_nil ?_
                    refine k451 _ _ ?_
                    refine w_reg (by kernel_rfl) ?_
                    refine s_qk (.slice a136 n137 c138) (by kernel_rfl) ?_
                    refine s_qk (.int .i64 i7) (by kernel_rfl) ?_
                    obtain ⟨g452, r453⟩ := G_some r449
                    refine s_ql (elp (.slice a136 n137 c138) 1 i7.toNat 0) (x := aIndexAddr Go.Proofs.Try.prog 22 (.slice a136 n137 c138) (.int .i64 i7)) (by kernel_rfl) (m438.sq.idxb (by kernel_rfl) g452.1 g452.2) ?_
                    obtain ⟨H454, q455, e456, hm457⟩ := Ow.store (P := Go.Proofs.Try.prog) (t := 3) (off := 0) e436.wf m438 g452.1 g452.2 (.int .i64 (-99)) [.int .i64 (-99)] (by kernel_rfl) (by kernel_rfl) rfl (-99) (Nat.le_of_ble_eq_true rfl) (by kernel_rfl)
                    refine s_ek (undef) (by kernel_rfl) (map_ok q455) ?_
                    refine s_nil ?_
                    refine k450 _ _ ?_
                    refine w_reg (by kernel_rfl) ?_
                    obtain ⟨g458, r459⟩ := G_some r453
                    refine s_w ((i7 + 1)) (k := .i64) (x := (i7 + 1)) (by kernel_rfl) (wrap64 (by have := g458; omega)) ?_
                    refine s_qk (.int .i64 (i7 + 1)) (by kernel_rfl) ?_
                    refine s_nil ?_
                    obtain rfl := Option.some.inj r459
                    exact k445 n441 _ _ (Nat.lt_succ_self _) ⟨(l6.set i7.toNat (-99)), (i7 + 1), hn444, ⟨by kernel_rfl, by kernel_rfl, by kernel_rfl, by kernel_rfl, by kernel_rfl, by kernel_rfl, by kernel_rfl, by kernel_rfl, by kernel_rfl, by kernel_rfl, by kernel_rfl, trivial⟩, (FrS.step e384.wf (FrS.step e384.wf (FrS.refl (W := f130) e384.wf) e436 Inn.refl') e456 Inn.refl'), hm457⟩
                  · have r460 := ite_f h448 hz443
                    refine w_exit (th_exit (th_exit (bl_eq ?_)))
                    obtain rfl := Option.some.inj r460
                    obtain rfl := it_inr hn444
                    exact k431 _ _ ⟨⟨by kernel_rfl, by kernel_rfl, by kernel_rfl, by kernel_rfl, by kernel_rfl, by kernel_rfl, by kernel_rfl, by kernel_rfl, trivial⟩, (FrS.step e384.wf (FrS.refl (W := f130) e384.wf) e436 Inn.refl'), m438⟩
                · obtain ⟨hh432, e428, m430⟩ := hM
                  obtain ⟨β, rfl⟩ := has_ex hh432
                  clear hh432
                  refine k419 _ _ ?_
                  refine w_reg (by kernel_rfl) ?_
                  refine s_qk (.int .i64 4) (by kernel_rfl) ?_
                  refine s_qk (.int .i64 4) (by kernel_rfl) ?_
                  refine s_nil ?_
                  refine w_unroll ?_
                  refine w_seqk fun K461 k461 => ?_
                  refine w_reg (by kernel_rfl) ?_
                  refine s_qk (.bool true) (by kernel_rfl) ?_
                  refine s_nil ?_
                  refine k461 _ _ ?_
                  refine w_seqk fun K462 k462 => ?_
                  refine w_cond true (by kernel_rfl) rfl (fun _ => ?_) (fun h => by cases h)
                  refine w_skip ?_
                  refine k462 _ _ ?_
                  refine w_seqk fun K463 k463 => ?_
                  refine w_block ?_
                  refine w_seqk fun K464 k464 => ?_
                  refine w_reg (by kernel_rfl) ?_
                  refine s_qk (.pointer (some ⟨b275, 4, none⟩)) (by kernel_rfl) ?_
                  have u465 := (u421.frS e428 (Dj.symm (hb278.djn (m133.lt.le (Nat.le_trans (Nat.le_trans e146.next e164.next) e186.next)))))
                  refine s_ql (.slice a172 n173 c174) (x := aLoad Go.Proofs.Try.prog 22 (.pointer (some ⟨b275, 4, none⟩)) H427) (by kernel_rfl) (u465.ld (by kernel_rfl)) ?_
                  refine s_qk (.slice a172 n173 c174) (by kernel_rfl) ?_
                  refine s_nil ?_
                  refine k464 _ _ ?_
                  refine w_seqk fun K466 k466 => ?_
                  refine w_reg (by kernel_rfl) ?_
                  refine s_qk (.slice a172 n173 c174) (by kernel_rfl) ?_
                  have u467 := (((((u280.ext e277).fr e296 (Dj.symm (i167.djn (hm29.lt.le (Nat.le_trans (Nat.le_trans (Nat.le_trans (Nat.le_trans (Nat.le_trans (Nat.le_trans (Nat.le_trans (Nat.le_trans (Nat.le_trans (Nat.le_trans e33.next e41.next) e53.next) e65.next) e71.next) e79.next) e91.next) e103.next) e117.next) e132.next) e146.next))))).fr e340 (Dj.symm (i167.djn (hm67.lt.le (Nat.le_trans (Nat.le_trans (Nat.le_trans (Nat.le_trans (Nat.le_trans (Nat.le_trans e71.next e79.next) e91.next) e103.next) e117.next) e132.next) e146.next))))).fr e384 (Dj.symm (i167.djn (m104.lt.le (Nat.le_trans (Nat.le_trans e117.next e132.next) e146.next))))).fr e428 (Dj.symm (i167.djn (m133.lt.le e146.next))))
                  refine s_ql (.int .i64 (y156.1.length : Int)) (x := aLen Go.Proofs.Try.prog 22 (.slice a172 n173 c174) H427) (by kernel_rfl) (u467.sq.lenb (by kernel_rfl)) ?_
                  refine s_qk (.int .i64 0) (by kernel_rfl) ?_
                  refine s_nil ?_
                  refine k466 _ _ ?_
                  obtain ⟨o468, hx469, r470⟩ := bind_some r426
                  refine w_mid (fun α H471 => Has α [(0, hd_a), (1, hd_b), (10, .slice a121 n122 c123), (12, .slice a150 n151 c152), (15, .slice a194 n195 c196), (131, .slice (some ⟨b275, 0, none⟩) 5 5), (132, .int .i64 5), (133, .int .i64 4)] ∧ FrS f160 H427 H471 ∧ Ow (encI .i64) 1 H471 (.slice a172 n173 c174) o468 f160) (fun K475 k475 => ?_) (fun α H471 hM => ?_)
                  · refine w_block ?_
                    obtain ⟨n477, hn478⟩ := loopO_iff.1 hx469
                    refine w_loopn (fun n α H479 => ∃ (l8 : List (Int)), ∃ (i9 : Int), iterO (fun s => z_viaductlaw09_WalkMemory_l4 y156 s.1 s.2) n (l8, i9) = some o468 ∧ Has α [(0, hd_a), (1, hd_b), (10, .slice a121 n122 c123), (12, .slice a150 n151 c152), (15, .slice a194 n195 c196), (18, .slice a172 n173 c174), (131, .slice (some ⟨b275, 0, none⟩) 5 5), (132, .int .i64 5), (133, .int .i64 4), (138, .int .i64 (y156.1.length : Int)), (139, .int .i64 i9)] ∧ FrS f160 H427 H479 ∧ Ow (encI .i64) 1 H479 (.slice a172 n173 c174) l8 f160) n477 ⟨y156.1, 0, hn478, ⟨by kernel_rfl, by kernel_rfl, by kernel_rfl, by kernel_rfl, by kernel_rfl, by kernel_rfl, by kernel_rfl, by kernel_rfl, by kernel_rfl, by kernel_rfl, by kernel_rfl, trivial⟩, (FrS.refl (W := f160) e428.wf), u467⟩ ?_
                    rintro n477 α H479 ⟨l8, i9, hi484, hh483, e480, m482⟩ K489 k489
                    obtain ⟨n485, z486, rfl, hz487, hn488⟩ := iter_succ hi484
                    obtain ⟨β, rfl⟩ := has_ex hh483
                    clear hh483
                    replace hz487 : z_viaductlaw09_WalkMemory_l4 y156 l8 i9 = some z486 := hz487
                    unfold z_viaductlaw09_WalkMemory_l4 at hz487
                    refine w_seqk fun K490 k490 => ?_
                    refine w_reg (by kernel_rfl) ?_
                    refine s_qk (.bool (decide (i9 < (y156.1.length : Int)))) (by kernel_rfl) ?_
                    refine s_nil ?_
                    refine k490 _ _ ?_
                    refine w_seqk fun K491 k491 => ?_
                    refine w_condp (i9 < (y156.1.length : Int)) (by kernel_rfl) rfl (fun h492 => ?_) (fun h492 => ?_)
                    · have r493 := ite_t h492 hz487
                      refine w_skip ?_
                      refine k491 _ _ ?_
                      refine w_seqk fun K494 k494 => ?_
                      refine w_block ?_
                      refine w_seqk fun K495 k495 => ?_
                      refine w_reg (by kernel_rfl) ?_
                      refine s_qk (.int .i64 i9) (by kernel_rfl) ?_
                      refine s_qk (.int .i64 i9) (by kernel_rfl) ?_
                      refine s_nil ?_
                      refine k495 _ _ ?_
                      refine w_reg (by kernel_rfl) ?_
                      refine s_qk (.slice a172 n173 c174) (by kernel_rfl) ?_
                      refine s_qk (.int .i64 i9) (by kernel_rfl) ?_
                      obtain ⟨g496, r497⟩ := G_some r493
                      refine s_ql (elp (.slice a172 n173 c174) 1 i9.toNat 0) (x := aIndexAddr Go.Proofs.Try.prog 22 (.slice a172 n173 c174) (.int .i64 i9)) (by kernel_rfl) (m482.sq.idxb (by kernel_rfl) g496.1 g496.2) ?_
                      obtain ⟨H498, q499, e500, hm501⟩ := Ow.store (P := Go.Proofs.Try.prog) (t := 3) (off := 0) e480.wf m482 g496.1 g496.2 (.int .i64 (-99)) [.int .i64 (-99)] (by kernel_rfl) (by kernel_rfl) rfl (-99) (Nat.le_of_ble_eq_true rfl) (by kernel_rfl)
                      refine s_ek (undef) (by kernel_rfl) (map_ok q499) ?_
                      refine s_nil ?_
                      refine k494 _ _ ?_
                      refine w_reg (by kernel_rfl) ?_
                      obtain ⟨g502, r503⟩ := G_some r497
                      refine s_w ((i9 + 1)) (k := .i64) (x := (i9 + 1)) (by kernel_rfl) (wrap64 (by have := g502; omega)) ?_
                      refine s_qk (.int .i64 (i9 + 1)) (by kernel_rfl) ?_
                      refine s_nil ?_
                      obtain rfl := Option.some.inj r503
                      exact k489 n485 _ _ (Nat.lt_succ_self _) ⟨(l8.set i9.toNat (-99)), (i9 + 1), hn488, ⟨by kernel_rfl, by kernel_rfl, by kernel_rfl, by kernel_rfl, by kernel_rfl, by kernel_rfl, by kernel_rfl, by kernel_rfl, by kernel_rfl, by kernel_rfl, by kernel_rfl, trivial⟩, (FrS.step e428.wf (FrS.step e428.wf (FrS.refl (W := f160) e428.wf) e480 Inn.refl') e500 Inn.refl'), hm501⟩
                    · have r504 := ite_f h492 hz487
                      refine w_exit (th_exit (th_exit (bl_eq ?_)))
                      obtain rfl := Option.some.inj r504
                      obtain rfl := it_inr hn488
                      exact k475 _ _ ⟨⟨by kernel_rfl, by kernel_rfl, by kernel_rfl, by kernel_rfl, by kernel_rfl, by kernel_rfl, by kernel_rfl, by kernel_rfl, trivial⟩, (FrS.step e428.wf (FrS.refl (W := f160) e428.wf) e480 Inn.refl'), m482⟩
                  · obtain ⟨hh476, e472, m474⟩ := hM
                    obtain ⟨β, rfl⟩ := has_ex hh476
                    clear hh476
                    refine k463 _ _ ?_
                    refine w_reg (by kernel_rfl) ?_
                    refine s_qk (.int .i64 5) (by kernel_rfl) ?_
                    refine s_qk (.int .i64 5) (by kernel_rfl) ?_
                    refine s_nil ?_
                    refine w_unroll ?_
                    refine w_seqk fun K505 k505 => ?_
                    refine w_reg (by kernel_rfl) ?_
                    refine s_qk (.bool false) (by kernel_rfl) ?_
                    refine s_nil ?_
                    refine k505 _ _ ?_
                    refine w_seqk fun K506 k506 => ?_
                    refine w_cond false (by kernel_rfl) rfl (fun h => by cases h) (fun _ => ?_)
                    refine w_exit (th_exit (th_exit (bl_eq ?_)))
                    refine k273 _ _ ?_
                    refine w_seqk fun K507 k507 => ?_
                    refine w_reg (by kernel_rfl) ?_
                    refine s_qk (hd_a) (by kernel_rfl) ?_
                    refine s_qk (hd_b) (by kernel_rfl) ?_
                    have u508 := (((((((((((((((((((u36.fr e33 (hf28.djn h_a.lt)).ext e41).fr e53 (hf28.djn h_a.lt)).ext e65).fr e71 (hf66.djn (h_a.lt.le (Nat.le_trans (Nat.le_trans (Nat.le_trans e27.next e33.next) e41.next) e53.next)))).ext e79).fr e91 (hf66.djn (h_a.lt.le (Nat.le_trans (Nat.le_trans (Nat.le_trans e27.next e33.next) e41.next) e53.next)))).fr e103 Dj.nil_l).fr e117 Dj.nil_l).fr e132 Dj.nil_l).fr e146 Dj.nil_l).fr e164 Dj.nil_l).fr e186 Dj.nil_l).ext e277).fr e296 (hf28.djn h_a.lt)).fr e340 (hf66.djn (h_a.lt.le (Nat.le_trans (Nat.le_trans (Nat.le_trans e27.next e33.next) e41.next) e53.next)))).fr e384 (i105.djn (h_a.lt.le (Nat.le_trans (Nat.le_trans (Nat.le_trans (Nat.le_trans (Nat.le_trans (Nat.le_trans (Nat.le_trans e27.next e33.next) e41.next) e53.next) e65.next) e71.next) e79.next) e91.next)))).fr e428 (i134.djn (h_a.lt.le (Nat.le_trans (Nat.le_trans (Nat.le_trans (Nat.le_trans (Nat.le_trans (Nat.le_trans (Nat.le_trans (Nat.le_trans (Nat.le_trans e27.next e33.next) e41.next) e53.next) e65.next) e71.next) e79.next) e91.next) e103.next) e117.next)))).fr e472 (i167.djn (h_a.lt.le (Nat.le_trans (Nat.le_trans (Nat.le_trans (Nat.le_trans (Nat.le_trans (Nat.le_trans (Nat.le_trans (Nat.le_trans (Nat.le_trans (Nat.le_trans (Nat.le_trans e27.next e33.next) e41.next) e53.next) e65.next) e71.next) e79.next) e91.next) e103.next) e117.next) e132.next) e146.next))))
                    have u509 := (((((((((((((((u74.fr e71 (hf66.djn (h_b.lt.le (Nat.le_trans (Nat.le_trans (Nat.le_trans e27.next e33.next) e41.next) e53.next)))).ext e79).fr e91 (hf66.djn (h_b.lt.le (Nat.le_trans (Nat.le_trans (Nat.le_trans e27.next e33.next) e41.next) e53.next)))).fr e103 Dj.nil_l).fr e117 Dj.nil_l).fr e132 Dj.nil_l).fr e146 Dj.nil_l).fr e164 Dj.nil_l).fr e186 Dj.nil_l).ext e277).fr e296 (hf28.djn h_b.lt)).fr e340 (hf66.djn (h_b.lt.le (Nat.le_trans (Nat.le_trans (Nat.le_trans e27.next e33.next) e41.next) e53.next)))).fr e384 (i105.djn (h_b.lt.le (Nat.le_trans (Nat.le_trans (Nat.le_trans (Nat.le_trans (Nat.le_trans (Nat.le_trans (Nat.le_trans e27.next e33.next) e41.next) e53.next) e65.next) e71.next) e79.next) e91.next)))).fr e428 (i134.djn (h_b.lt.le (Nat.le_trans (Nat.le_trans (Nat.le_trans (Nat.le_trans (Nat.le_trans (Nat.le_trans (Nat.le_trans (Nat.le_trans (Nat.le_trans e27.next e33.next) e41.next) e53.next) e65.next) e71.next) e79.next) e91.next) e103.next) e117.next)))).fr e472 (i167.djn (h_b.lt.le (Nat.le_trans (Nat.le_trans (Nat.le_trans (Nat.le_trans (Nat.le_trans (Nat.le_trans (Nat.le_trans (Nat.le_trans (Nat.le_trans (Nat.le_trans (Nat.le_trans e27.next e33.next) e41.next) e53.next) e65.next) e71.next) e79.next) e91.next) e103.next) e117.next) e132.next) e146.next))))
                    obtain ⟨y510, hy511, r512⟩ := bind_some r470
                    refine s_ck 17 #[hd_a, hd_b] (by kernel_rfl) (c_viaductref09_DocJoin e472.wf u508 u509 hy511) ?_
                    rintro _ H515 ⟨s513, f514, rfl, e516, m517, i518⟩
                    obtain ⟨a520, n521, c522, rfl⟩ := m517.form
                    refine s_qk (.tuple #[.slice a520 n521 c522, .agg #[.int .i64 y510.2, .slice none 0 0]]) (by kernel_rfl) ?_
                    refine s_qk (.slice a520 n521 c522) (by kernel_rfl) ?_
                    refine s_qk (.agg #[.int .i64 y510.2, .slice none 0 0]) (by kernel_rfl) ?_
                    refine s_rwk e516.wf [.int .i64 0, .slice none 0 0] (by kernel_rfl) fun b523 H524 e525 hb526 r527 => ?_
                    refine s_qk (.slice a520 n521 c522) (by kernel_rfl) ?_
                    obtain ⟨H529, q530, e531, r532⟩ := Row.store (P := Go.Proofs.Try.prog) (t := 41) (p := 0) e525.wf r527 (.agg #[.int .i64 y510.2, .slice none 0 0]) [.int .i64 y510.2, .slice none 0 0] (by kernel_rfl) (by kernel_rfl) (one_cons (rfl) (one_cons (rfl) (one_nil))) (Nat.le_of_ble_eq_true (by kernel_rfl)) [.int .i64 y510.2, .slice none 0 0] (by kernel_rfl)
                    refine s_ek (undef) (by kernel_rfl) (map_ok q530) ?_
                    refine s_nil ?_
                    refine k507 _ _ ?_
                    refine w_seqk fun K533 k533 => ?_
                    refine w_reg (by kernel_rfl) ?_
                    refine s_qk (.slice a121 n122 c123) (by kernel_rfl) ?_
                    refine s_qk (hd_a) (by kernel_rfl) ?_
                    have u534 := (((u508.fr e516 Dj.nil_l).ext e525).fr e531 (hb526.djn (h_a.lt.le (Nat.le_trans (Nat.le_trans (Nat.le_trans (Nat.le_trans (Nat.le_trans (Nat.le_trans (Nat.le_trans (Nat.le_trans (Nat.le_trans (Nat.le_trans (Nat.le_trans (Nat.le_trans (Nat.le_trans (Nat.le_trans (Nat.le_trans (Nat.le_trans (Nat.le_trans (Nat.le_trans (Nat.le_trans (Nat.le_trans e27.next e33.next) e41.next) e53.next) e65.next) e71.next) e79.next) e91.next) e103.next) e117.next) e132.next) e146.next) e164.next) e186.next) e277.next) e296.next) e340.next) e384.next) e428.next) e472.next) e516.next))))
                    obtain ⟨y535, hy536, r537⟩ := bind_some r512
                    refine s_ck 18 #[hd_a] (by kernel_rfl) (c_viaductref09_Simple e531.wf u534 hy536) ?_
                    rintro s538 H540 ⟨_, f539, rfl, e541, m542, i543⟩
                    obtain ⟨a545, n546, c547, rfl⟩ := m542.form
                    have u548 := ((((((((((((((m118.fr e132 Dj.nil_l).fr e146 Dj.nil_l).fr e164 Dj.nil_l).fr e186 Dj.nil_l).ext e277).fr e296 (Dj.symm (i119.djn (hm29.lt.le (Nat.le_trans (Nat.le_trans (Nat.le_trans (Nat.le_trans (Nat.le_trans (Nat.le_trans (Nat.le_trans e33.next e41.next) e53.next) e65.next) e71.next) e79.next) e91.next) e103.next))))).fr e340 (Dj.symm (i119.djn (hm67.lt.le (Nat.le_trans (Nat.le_trans (Nat.le_trans e71.next e79.next) e91.next) e103.next))))).fr e384 (Dj.symm (i119.djn m104.lt))).fr e428 (i134.djn m118.lt)).fr e472 (i167.djn (m118.lt.le (Nat.le_trans e132.next e146.next)))).fr e516 Dj.nil_l).ext e525).fr e531 (hb526.djn (m118.lt.le (Nat.le_trans (Nat.le_trans (Nat.le_trans (Nat.le_trans (Nat.le_trans (Nat.le_trans (Nat.le_trans (Nat.le_trans (Nat.le_trans (Nat.le_trans e132.next e146.next) e164.next) e186.next) e277.next) e296.next) e340.next) e384.next) e428.next) e472.next) e516.next)))).fr e541 Dj.nil_l)
                    obtain ⟨y549, hy550, r551⟩ := bind_some r537
                    refine s_ck 12 #[.slice a121 n122 c123, .slice a545 n546 c547] (by kernel_rfl) (c_viaductref02_SameInts e541.wf u548.sq m542.sq hy550) ?_
                    rintro _ _ ⟨rfl, rfl⟩
                    by_cases h554 : y549 = true
                    · have r555 := ite_t h554 r551
                      rw [h554]
                      refine s_qk (.bool true) (by kernel_rfl) ?_
                      refine s_qk (.slice a150 n151 c152) (by kernel_rfl) ?_
                      refine s_qk (hd_a) (by kernel_rfl) ?_
                      have u557 := (u534.fr e541 Dj.nil_l)
                      obtain ⟨y558, hy559, r560⟩ := bind_some r555
                      refine s_ck 19 #[hd_a] (by kernel_rfl) (c_viaductref09_Back e541.wf u557 hy559) ?_
                      rintro s561 H563 ⟨_, f562, rfl, e564, m565, i566⟩
                      obtain ⟨a568, n569, c570, rfl⟩ := m565.form
                      have u571 := (((((((((((((m147.fr e164 Dj.nil_l).fr e186 Dj.nil_l).ext e277).fr e296 (Dj.symm (i148.djn (hm29.lt.le (Nat.le_trans (Nat.le_trans (Nat.le_trans (Nat.le_trans (Nat.le_trans (Nat.le_trans (Nat.le_trans (Nat.le_trans (Nat.le_trans e33.next e41.next) e53.next) e65.next) e71.next) e79.next) e91.next) e103.next) e117.next) e132.next))))).fr e340 (Dj.symm (i148.djn (hm67.lt.le (Nat.le_trans (Nat.le_trans (Nat.le_trans (Nat.le_trans (Nat.le_trans e71.next e79.next) e91.next) e103.next) e117.next) e132.next))))).fr e384 (Dj.symm (i148.djn (m104.lt.le (Nat.le_trans e117.next e132.next))))).fr e428 (Dj.symm (i148.djn m133.lt))).fr e472 (i167.djn m147.lt)).fr e516 Dj.nil_l).ext e525).fr e531 (hb526.djn (m147.lt.le (Nat.le_trans (Nat.le_trans (Nat.le_trans (Nat.le_trans (Nat.le_trans (Nat.le_trans (Nat.le_trans (Nat.le_trans e164.next e186.next) e277.next) e296.next) e340.next) e384.next) e428.next) e472.next) e516.next)))).fr e541 Dj.nil_l).fr e564 Dj.nil_l)
                      obtain ⟨y572, hy573, r574⟩ := bind_some r560
                      refine s_ck 12 #[.slice a150 n151 c152, .slice a568 n569 c570] (by kernel_rfl) (c_viaductref02_SameInts e564.wf u571.sq m565.sq hy573) ?_
                      rintro _ _ ⟨rfl, rfl⟩
                      by_cases h577 : y572 = true
                      · have r578 := ite_t h577 r574
                        rw [h577]
                        refine s_qk (.bool true) (by kernel_rfl) ?_
                        refine s_qk (.bool true) (by kernel_rfl) ?_
                        refine s_qk (.slice a194 n195 c196) (by kernel_rfl) ?_
                        refine s_qk (.slice a520 n521 c522) (by kernel_rfl) ?_
                        have u580 := (((((((((((m187.ext e277).fr e296 (Dj.symm (i189.djn (hm29.lt.le (Nat.le_trans (Nat.le_trans (Nat.le_trans (Nat.le_trans (Nat.le_trans (Nat.le_trans (Nat.le_trans (Nat.le_trans (Nat.le_trans (Nat.le_trans (Nat.le_trans e33.next e41.next) e53.next) e65.next) e71.next) e79.next) e91.next) e103.next) e117.next) e132.next) e146.next) e164.next))))).fr e340 (Dj.symm (i189.djn (hm67.lt.le (Nat.le_trans (Nat.le_trans (Nat.le_trans (Nat.le_trans (Nat.le_trans (Nat.le_trans (Nat.le_trans e71.next e79.next) e91.next) e103.next) e117.next) e132.next) e146.next) e164.next))))).fr e384 (Dj.symm (i189.djn (m104.lt.le (Nat.le_trans (Nat.le_trans (Nat.le_trans e117.next e132.next) e146.next) e164.next))))).fr e428 (Dj.symm (i189.djn (m133.lt.le (Nat.le_trans e146.next e164.next))))).fr e472 (Dj.symm (i189.djn m165.lt))).fr e516 Dj.nil_l).ext e525).fr e531 (hb526.djn (m187.lt.le (Nat.le_trans (Nat.le_trans (Nat.le_trans (Nat.le_trans (Nat.le_trans (Nat.le_trans e277.next e296.next) e340.next) e384.next) e428.next) e472.next) e516.next)))).fr e541 Dj.nil_l).fr e564 Dj.nil_l)
                        have u581 := ((((m517.ext e525).fr e531 (hb526.djn m517.lt)).fr e541 Dj.nil_l).fr e564 Dj.nil_l)
                        obtain ⟨y582, hy583, r584⟩ := bind_some r578
                        refine s_ck 12 #[.slice a194 n195 c196, .slice a520 n521 c522] (by kernel_rfl) (c_viaductref02_SameInts e564.wf u580.sq u581.sq hy583) ?_
                        rintro _ _ ⟨rfl, rfl⟩
                        refine s_qk (.bool y582) (by kernel_rfl) ?_
                        refine s_qk (.bool y582) (by kernel_rfl) ?_
                        refine s_nil ?_
                        refine k533 _ _ ?_
                        refine w_ret ?_
                        refine b_ret (fn := Go.Proofs.Try.f4) (vs := [.bool y582]) (aRes_tmp (by kernel_rfl) (rfl)) ?_
                        obtain rfl := Option.some.inj r584
                        exact ⟨rfl, (FrS.step wf (FrS.step wf (FrS.step wf ((FrS.step wf (FrS.step wf (FrS.step wf (FrS.step wf (FrS.step wf (FrS.step wf ((FrS.step wf (FrS.step wf (FrS.step wf (FrS.step wf (FrS.step wf (FrS.step wf (FrS.step wf ((FrS.step wf ((FrS.step wf ((FrS.step wf ((FrS.refl (W := []) wf).extR e27) e33 (hf28.fresh (Nat.le_refl _))).extR e41) e53 (hf28.fresh (Nat.le_refl _))).extR e65) e71 (hf66.fresh (Nat.le_trans (Nat.le_trans (Nat.le_trans e27.next e33.next) e41.next) e53.next))).extR e79) e91 (hf66.fresh (Nat.le_trans (Nat.le_trans (Nat.le_trans e27.next e33.next) e41.next) e53.next))) e103 Inn.nil) e117 Inn.nil) e132 Inn.nil) e146 Inn.nil) e164 Inn.nil) e186 Inn.nil).extR e277) e296 (hf28.fresh (Nat.le_refl _))) e340 (hf66.fresh (Nat.le_trans (Nat.le_trans (Nat.le_trans e27.next e33.next) e41.next) e53.next))) e384 (i105.fresh (Nat.le_trans (Nat.le_trans (Nat.le_trans (Nat.le_trans (Nat.le_trans (Nat.le_trans (Nat.le_trans e27.next e33.next) e41.next) e53.next) e65.next) e71.next) e79.next) e91.next))) e428 (i134.fresh (Nat.le_trans (Nat.le_trans (Nat.le_trans (Nat.le_trans (Nat.le_trans (Nat.le_trans (Nat.le_trans (Nat.le_trans (Nat.le_trans e27.next e33.next) e41.next) e53.next) e65.next) e71.next) e79.next) e91.next) e103.next) e117.next))) e472 (i167.fresh (Nat.le_trans (Nat.le_trans (Nat.le_trans (Nat.le_trans (Nat.le_trans (Nat.le_trans (Nat.le_trans (Nat.le_trans (Nat.le_trans (Nat.le_trans (Nat.le_trans e27.next e33.next) e41.next) e53.next) e65.next) e71.next) e79.next) e91.next) e103.next) e117.next) e132.next) e146.next))) e516 Inn.nil).extR e525) e531 (hb526.fresh (Nat.le_trans (Nat.le_trans (Nat.le_trans (Nat.le_trans (Nat.le_trans (Nat.le_trans (Nat.le_trans (Nat.le_trans (Nat.le_trans (Nat.le_trans (Nat.le_trans (Nat.le_trans (Nat.le_trans (Nat.le_trans (Nat.le_trans (Nat.le_trans (Nat.le_trans (Nat.le_trans (Nat.le_trans (Nat.le_trans e27.next e33.next) e41.next) e53.next) e65.next) e71.next) e79.next) e91.next) e103.next) e117.next) e132.next) e146.next) e164.next) e186.next) e277.next) e296.next) e340.next) e384.next) e428.next) e472.next) e516.next))) e541 Inn.nil) e564 Inn.nil)⟩
                      · have r587 := ite_f h577 r574
                        rw [nb h577]
                        refine s_qk (.bool false) (by kernel_rfl) ?_
                        refine s_qk (.bool false) (by kernel_rfl) ?_
                        refine s_no (by kernel_rfl) ?_
                        refine s_no (by kernel_rfl) ?_
                        refine s_no (by kernel_rfl) ?_
                        refine s_qk (.bool false) (by kernel_rfl) ?_
                        refine s_qk (.bool false) (by kernel_rfl) ?_
                        refine s_nil ?_
                        refine k533 _ _ ?_
                        refine w_ret ?_
                        refine b_ret (fn := Go.Proofs.Try.f4) (vs := [.bool false]) (aRes_tmp (by kernel_rfl) (rfl)) ?_
                        obtain rfl := Option.some.inj r587
                        exact ⟨rfl, (FrS.step wf (FrS.step wf (FrS.step wf ((FrS.step wf (FrS.step wf (FrS.step wf (FrS.step wf (FrS.step wf (FrS.step wf ((FrS.step wf (FrS.step wf (FrS.step wf (FrS.step wf (FrS.step wf (FrS.step wf (FrS.step wf ((FrS.step wf ((FrS.step wf ((FrS.step wf ((FrS.refl (W := []) wf).extR e27) e33 (hf28.fresh (Nat.le_refl _))).extR e41) e53 (hf28.fresh (Nat.le_refl _))).extR e65) e71 (hf66.fresh (Nat.le_trans (Nat.le_trans (Nat.le_trans e27.next e33.next) e41.next) e53.next))).extR e79) e91 (hf66.fresh (Nat.le_trans (Nat.le_trans (Nat.le_trans e27.next e33.next) e41.next) e53.next))) e103 Inn.nil) e117 Inn.nil) e132 Inn.nil) e146 Inn.nil) e164 Inn.nil) e186 Inn.nil).extR e277) e296 (hf28.fresh (Nat.le_refl _))) e340 (hf66.fresh (Nat.le_trans (Nat.le_trans (Nat.le_trans e27.next e33.next) e41.next) e53.next))) e384 (i105.fresh (Nat.le_trans (Nat.le_trans (Nat.le_trans (Nat.le_trans (Nat.le_trans (Nat.le_trans (Nat.le_trans e27.next e33.next) e41.next) e53.next) e65.next) e71.next) e79.next) e91.next))) e428 (i134.fresh (Nat.le_trans (Nat.le_trans (Nat.le_trans (Nat.le_trans (Nat.le_trans (Nat.le_trans (Nat.le_trans (Nat.le_trans (Nat.le_trans e27.next e33.next) e41.next) e53.next) e65.next) e71.next) e79.next) e91.next) e103.next) e117.next))) e472 (i167.fresh (Nat.le_trans (Nat.le_trans (Nat.le_trans (Nat.le_trans (Nat.le_trans (Nat.le_trans (Nat.le_trans (Nat.le_trans (Nat.le_trans (Nat.le_trans (Nat.le_trans e27.next e33.next) e41.next) e53.next) e65.next) e71.next) e79.next) e91.next) e103.next) e117.next) e132.next) e146.next))) e516 Inn.nil).extR e525) e531 (hb526.fresh (Nat.le_trans (Nat.le_trans (Nat.le_trans (Nat.le_trans (Nat.le_trans (Nat.le_trans (Nat.le_trans (Nat.le_trans (Nat.le_trans (Nat.le_trans (Nat.le_trans (Nat.le_trans (Nat.le_trans (Nat.le_trans (Nat.le_trans (Nat.le_trans (Nat.le_trans (Nat.le_trans (Nat.le_trans (Nat.le_trans e27.next e33.next) e41.next) e53.next) e65.next) e71.next) e79.next) e91.next) e103.next) e117.next) e132.next) e146.next) e164.next) e186.next) e277.next) e296.next) e340.next) e384.next) e428.next) e472.next) e516.next))) e541 Inn.nil) e564 Inn.nil)⟩
                    · have r589 := ite_f h554 r551
                      rw [nb h554]
                      refine s_qk (.bool false) (by kernel_rfl) ?_
                      refine s_no (by kernel_rfl) ?_
                      refine s_no (by kernel_rfl) ?_
                      refine s_no (by kernel_rfl) ?_
                      refine s_no (by kernel_rfl) ?_
                      refine s_qk (.bool false) (by kernel_rfl) ?_
                      refine s_qk (.bool false) (by kernel_rfl) ?_
                      refine s_no (by kernel_rfl) ?_
                      refine s_no (by kernel_rfl) ?_
                      refine s_no (by kernel_rfl) ?_
                      refine s_qk (.bool false) (by kernel_rfl) ?_
                      refine s_qk (.bool false) (by kernel_rfl) ?_
                      refine s_nil ?_
                      refine k533 _ _ ?_
                      refine w_ret ?_
                      refine b_ret (fn := Go.Proofs.Try.f4) (vs := [.bool false]) (aRes_tmp (by kernel_rfl) (rfl)) ?_
                      obtain rfl := Option.some.inj r589
                      exact ⟨rfl, (FrS.step wf (FrS.step wf ((FrS.step wf (FrS.step wf (FrS.step wf (FrS.step wf (FrS.step wf (FrS.step wf ((FrS.step wf (FrS.step wf (FrS.step wf (FrS.step wf (FrS.step wf (FrS.step wf (FrS.step wf ((FrS.step wf ((FrS.step wf ((FrS.step wf ((FrS.refl (W := []) wf).extR e27) e33 (hf28.fresh (Nat.le_refl _))).extR e41) e53 (hf28.fresh (Nat.le_refl _))).extR e65) e71 (hf66.fresh (Nat.le_trans (Nat.le_trans (Nat.le_trans e27.next e33.next) e41.next) e53.next))).extR e79) e91 (hf66.fresh (Nat.le_trans (Nat.le_trans (Nat.le_trans e27.next e33.next) e41.next) e53.next))) e103 Inn.nil) e117 Inn.nil) e132 Inn.nil) e146 Inn.nil) e164 Inn.nil) e186 Inn.nil).extR e277) e296 (hf28.fresh (Nat.le_refl _))) e340 (hf66.fresh (Nat.le_trans (Nat.le_trans (Nat.le_trans e27.next e33.next) e41.next) e53.next))) e384 (i105.fresh (Nat.le_trans (Nat.le_trans (Nat.le_trans (Nat.le_trans (Nat.le_trans (Nat.le_trans (Nat.le_trans e27.next e33.next) e41.next) e53.next) e65.next) e71.next) e79.next) e91.next))) e428 (i134.fresh (Nat.le_trans (Nat.le_trans (Nat.le_trans (Nat.le_trans (Nat.le_trans (Nat.le_trans (Nat.le_trans (Nat.le_trans (Nat.le_trans e27.next e33.next) e41.next) e53.next) e65.next) e71.next) e79.next) e91.next) e103.next) e117.next))) e472 (i167.fresh (Nat.le_trans (Nat.le_trans (Nat.le_trans (Nat.le_trans (Nat.le_trans (Nat.le_trans (Nat.le_trans (Nat.le_trans (Nat.le_trans (Nat.le_trans (Nat.le_trans e27.next e33.next) e41.next) e53.next) e65.next) e71.next) e79.next) e91.next) e103.next) e117.next) e132.next) e146.next))) e516 Inn.nil).extR e525) e531 (hb526.fresh (Nat.le_trans (Nat.le_trans (Nat.le_trans (Nat.le_trans (Nat.le_trans (Nat.le_trans (Nat.le_trans (Nat.le_trans (Nat.le_trans (Nat.le_trans (Nat.le_trans (Nat.le_trans (Nat.le_trans (Nat.le_trans (Nat.le_trans (Nat.le_trans (Nat.le_trans (Nat.le_trans (Nat.le_trans (Nat.le_trans e27.next e33.next) e41.next) e53.next) e65.next) e71.next) e79.next) e91.next) e103.next) e117.next) e132.next) e146.next) e164.next) e186.next) e277.next) e296.next) e340.next) e384.next) e428.next) e472.next) e516.next))) e541 Inn.nil)⟩


end Go.Vd
