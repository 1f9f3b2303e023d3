/- The walks of the functions (printed by a program of ours). -/
import Derived.Test.YtnepbkkdhalbiaaGreatDoorPwf3
import Derived.Test.YtnepbkkdhalbiaaGreatDoorPwfIWf
import Derived.Test.YtnepbkkdhalbiaaGreatDoorPwfVeN
import Derived.Test.YtnepbkkdhalbiaaGreatDoorPwfSoA
import Derived.Test.YtnepbkkdhalbiaaGreatDoorPwfVeV
set_option linter.unusedVariables false
set_option linter.unusedSimpArgs false
set_option linter.unusedSectionVars false
/-! (KWf5) -/

set_option maxRecDepth 100000
set_option maxHeartbeats 4000000
set_option linter.unusedVariables false
namespace Go.Vd
open Go.Proofs
attribute [local irreducible] wpSeq wpOrd aWp
theorem c_viaductlaw12_laid {H : AH} {hd_Arcs : Value} {fp_Arcs : Fp} {hd_script : Value} {fp_script : Fp} {N_ : Int} {Arcs : List (Int × Int × Int)} {script : List (Int × Int × Int × Int × Int)} {r : (Unit) ⊕ (List (Bool × List (Int × Int × Int) × List (Int × Int × Int)) × Int × Int × List (Bool) × List (Int × Int × Int × Int))}
    (wf : WF H) (h_Arcs : Sq enc_i64_i64_i64 3 H hd_Arcs Arcs fp_Arcs) (h_script : Sq enc_u8_i64_i64_u64_i64 5 H hd_script script fp_script) (hr : z_viaductlaw12_laid N_ Arcs script = some r) :
    ACalls Tryz.prog 8 #[.agg #[i_ N_, hd_Arcs], hd_script] H fun v H' => Sum.elim (fun (r : Unit) => v = .tuple #[.pointer none, .agg #[.slice none 0 0, .slice none 0 0], .bool false] /\ FrS [] H H') (fun (r : List (Bool × List (Int × Int × Int) × List (Int × Int × Int)) × Int × Int × List (Bool) × List (Int × Int × Int × Int)) => ∃ (s3 : Value) (f4 : Fp) (b7 : Nat) (s10 : Value) (f11 : Fp) (s14 : Value) (f15 : Fp), v = .tuple #[pt_ b7 0, .agg #[s10, s14], .bool true] /\ FrS [] H H' /\ Nd enc_i64_u64_i64 3 H' s3 r.1 f4 [] /\ Row H' b7 [s3, i_ r.2.1, i_ r.2.2.1] /\ Ow encB 1 H' s10 r.2.2.2.1 f11 /\ Sq enc_i64_i64_u64_i64 4 H' s14 r.2.2.2.2 f15 /\ Inn [] H f4 /\ Inn [] H [b7] /\ Inn [] H f11 /\ Inn [] H f15 /\ Dj f4 [b7] /\ Dj f4 f11 /\ Dj [b7] f11 /\ Dj f4 f15 /\ Dj [b7] f15 /\ Dj f11 f15) r := by
 refine ab_ Tryz.func8 ?_
 unfold z_viaductlaw12_laid at hr
 refine sq_ fun k26 => g_' ?_
 refine s_rwl wf [i_ N_, hd_Arcs] (one_cons (rfl) (one_cons (h_Arcs.one1) (one_nil))) (by kernel_rfl) fun b27 H28 e29 hb30 r31 => ?_
 refine q_ (.pointer none) ?_
 refine rk_ e29.wf [.slice none 0 0, .slice none 0 0] fun b33 H34 e35 hb36 r37 => ?_
 refine q_ (.bool false) (s_nil (k26 _ _ (sq_ fun k39 => sq_ fun k40 => ?_)))
 obtain ⟨o41, hx42, r43⟩ := bs_ hr
 refine w_mid (fun α H44 => Has α [(1, hd_script), (2, pt_ b27 0), (5, pt_ b33 0), (21, .bool o41)] /\ FrS [] H34 H44) (fun _ k46 => ?_) (fun α H44 hM => ?_)
 ·refine g_' ?_
  have u48 := (r31.ext e35)
  refine lr_ 24 0 (.agg #[i_ N_, hd_Arcs]) u48 ?_
  have u49 := ((h_Arcs.ext e29).ext e35)
  obtain ⟨y50, hy51, r52⟩ := bs_ hx42
  refine ck_ (c_viaductref04_Few e35.wf u49 hy51) ?_
  rintro _ H53 ⟨rfl, e54⟩
  by_cases h55 : y50 = true
  ·have r56 := ite_t h55 r52
   rw [h55]
   refine q_ (.bool false) (q_ (.bool false) (q_ (hd_script) ?_))
   have u58 := (((h_script.ext e29).ext e35).fr e54 dn_)
   refine u58.ln_ 25 (q_ (.bool (decide ((script.length : Int) > 60))) (q_ (.bool (decide ((script.length : Int) > 60))) (s_nil ?_)))
   obtain rfl := oi_ r56
   exact k46 _ _ ⟨ha_, (fs_ e35.wf (fr_ e35.wf) e54 in_)⟩
  have r59 := ite_f h55 r52
  rw [nb h55]
  refine q_ (.bool true) (q_ (.bool true) (n_' (n_' (n_' (q_ (.bool true) (s_nil ?_))))))
  obtain rfl := oi_ r59
  exact k46 _ _ ⟨ha_, (fs_ e35.wf (fr_ e35.wf) e54 in_)⟩
 obtain ⟨hh47, e45⟩ := hM
 obtain ⟨β, rfl⟩ := has_ex hh47
 clear hh47
 refine k40 _ _ ?_
 refine wb_ (o41) (fun h61 => ?_) fun h61 => ?_
 ·have r62 := ite_t h61 r43
  refine sq_ fun k63 => g_' (q_ (.agg #[.slice none 0 0, .slice none 0 0]) (q_ (.pointer none) ?_))
  have u68 := (r37.frS e45 dn_)
  obtain ⟨H64, q65, e66, r67⟩ := ra_ 33 0 e45.wf u68 [.slice none 0 0, .slice none 0 0] [.slice none 0 0, .slice none 0 0]
  refine ek_ q65 (q_ (.bool false) (s_nil (k63 _ _ ?_)))
  refine w_ret (th_ret ?_)
  refine b_ret (vs := [.pointer none, .agg #[.slice none 0 0, .slice none 0 0], .bool false]) (aRes_tmp (by kernel_rfl) (aRes_cell (Eq.trans (b := aL_ 33 (pt_ b33 0) H64) (by kernel_rfl) (r67.l_)) (rt_ (rfl)))) ?_
  obtain rfl := oi_ r62
  exact (elimP_l ⟨rfl, (fs_ wf (fs_ wf (((f0_ wf).extR e29).extR e35) e45 in_) e66 (hb36.fresh e29.n))⟩)
 have r69 := ite_bf h61 r43
 refine w_skip (k39 _ _ (sq_ fun k70 => g_' ?_))
 have u71 := ((r31.ext e35).frS e45 dn_)
 refine lr_ 24 0 (.agg #[i_ N_, hd_Arcs]) u71 ?_
 have u72 := (((h_Arcs.ext e29).ext e35).fr e45 dn_)
 obtain ⟨y73, hy74, r75⟩ := bs_ r69
 rcases y73 with y76 | y77
 ·exact (no_none (elim_l r75)).elim
 have r78 := elim_r r75
 refine ck_ (c_overlay_New e45.wf u72 hy74) ?_
 rintro _ H82 ⟨s79, f80, b81, rfl, e83, m84, m85, i86, i87, d88⟩
 obtain ⟨a91, n92, c93, rfl⟩ := m84.form
 refine q_ (.tuple #[pt_ b81 0, .nilIface]) (q_ (pt_ b81 0) (q_ (.nilIface) (q_ (pt_ b81 0) (q_ (.nilIface) (s_nil (k70 _ _ (sq_ fun k94 => g_' ?_)))))))
 have u95 := (u71.frS e83 dn_)
 refine lr_ 24 0 (.agg #[i_ N_, hd_Arcs]) u95 ?_
 have u96 := (u72.fr e83 dn_)
 obtain ⟨y97, hy98, r99⟩ := bs_ r78
 refine ck_ (c_viaductref11_DocNew e83.wf u96 hy98) ?_
 rintro _ H106 ⟨s100, f101, s102, f103, s104, f105, rfl, e107, m108, m109, m110, i111, i112, i113, d114, d115, d116⟩
 obtain ⟨a120, n121, c122, rfl⟩ := m108.form
 obtain ⟨a123, n124, c125, rfl⟩ := m109.form
 obtain ⟨a126, n127, c128, rfl⟩ := m110.form
 refine q_ (.tuple #[.agg #[.slice a120 n121 c122, .slice a123 n124 c125], .agg #[i_ y97.2.2.1, .slice a126 n127 c128]]) (q_ (.agg #[.slice a120 n121 c122, .slice a123 n124 c125]) (q_ (.agg #[i_ y97.2.2.1, .slice a126 n127 c128]) ?_))
 refine rk_ e107.wf [.slice none 0 0, .slice none 0 0] fun b129 H130 e131 hb132 r133 => ?_
 refine rk_ e131.wf [i_ 0, .slice none 0 0] fun b135 H136 e137 hb138 r139 => ?_
 have u145 := (r133.ext e137)
 have u146 := ((m109.ext e131).ext e137)
 have u147 := ((m108.ext e131).ext e137)
 obtain ⟨H141, q142, e143, r144⟩ := ra_ 33 0 e137.wf u145 [.slice a120 n121 c122, .slice a123 n124 c125] [.slice a120 n121 c122, .slice a123 n124 c125]
 refine ek_ q142 ?_
 have d152 := (hb138.djn r133.ltF)
 have u153 := (r139.frS e143 (Dj.symm d152))
 have u154 := (((m110.ext e131).ext e137).fr e143 (hb132.djn m110.lt))
 obtain ⟨H148, q149, e150, r151⟩ := ra_ 44 0 e143.wf u153 [i_ y97.2.2.1, .slice a126 n127 c128] [i_ y97.2.2.1, .slice a126 n127 c128]
 refine ek_ q149 (s_nil (k94 _ _ (sq_ fun k155 => sq_ fun k156 => g_' (q_ (hd_script) ?_))))
 have n157 := (t_ (t_ (t_ (t_ e29.n e35.n) e45.n) e83.n) e107.n)
 have d158 := (hb132.djn (h_script.lt.le n157))
 have n159 := (t_ (t_ (t_ (t_ (t_ e29.n e35.n) e45.n) e83.n) e107.n) e131.n)
 have d160 := (hb138.djn (h_script.lt.le n159))
 have u161 := (((((((((h_script.ext e29).ext e35).fr e45 dn_).fr e83 dn_).fr e107 dn_).ext e131).ext e137).fr e143 d158).fr e150 d160)
 refine u161.ln_ 25 (q_ (i_ 0) (s_nil (k156 _ _ ?_)))
 obtain ⟨o162, hx163, r164⟩ := bs_ r99
 refine w_mid (fun α H165 => ∃ (f169 : Fp) (s174 : Value) (f175 : Fp) (s178 : Value) (f179 : Fp), Has α [(5, pt_ b33 0), (7, pt_ b81 0), (9, pt_ b129 0)] /\ FrS ([b129] ++ ([b81] ++ f80)) H148 H165 /\ Nd enc_i64_u64_i64 3 H165 (.slice a91 n92 c93) o162.1 f169 [] /\ Row H165 b81 [.slice a91 n92 c93, i_ o162.2.1, i_ o162.2.2.1] /\ Ow encB 1 H165 s174 o162.2.2.2.1 f175 /\ Sq enc_i64_i64_u64_i64 4 H165 s178 o162.2.2.2.2 f179 /\ Row H165 b129 [s174, s178] /\ Inn f80 H148 f169 /\ Inn f101 H148 f175 /\ Inn f103 H148 f179 /\ Dj f169 f175 /\ Dj f169 f179 /\ Dj f175 f179) (fun _ k188 => ?_) (fun α H165 hM => ?_)
 ·refine w_block ?_
  obtain ⟨n190, hn191⟩ := loopO_iff.1 hx163
  have d221 := (hb132.djn (m84.lt.le e107.n))
  have n222 := (t_ e107.n e131.n)
  have d223 := (hb138.djn (m84.lt.le n222))
  have u224 := (((((m84.fr e107 dn_).ext e131).ext e137).fr e143 d221).fr e150 d223)
  have d225 := (hb132.djn (m85.ltF.le e107.n))
  have d226 := (hb138.djn (m85.ltF.le n222))
  have u227 := (((((m85.frS e107 dn_).ext e131).ext e137).frS e143 d225).frS e150 d226)
  have d228 := (hb138.djn (m108.lt.le e131.n))
  have u229 := ((u147.fr e143 (hb132.djn m108.lt)).fr e150 d228)
  have d230 := (hb138.djn (m109.lt.le e131.n))
  have u231 := ((u146.fr e143 (hb132.djn m109.lt)).fr e150 d230)
  have u232 := (r144.frS e150 d152)
  have d233 := (i111.djn m84.lt)
  have d234 := (i112.djn m84.lt)
  refine w_loopn (fun n α H192 => ∃ (i0 : Int), ∃ (o1 : List (Bool × List (Int × Int × Int) × List (Int × Int × Int))), ∃ (o2 : Int), ∃ (o3 : Int), ∃ (m4 : List (Bool)), ∃ (m5 : List (Int × Int × Int × Int)), ∃ (f196 : Fp), ∃ (s201 : Value), ∃ (f202 : Fp), ∃ (s205 : Value), ∃ (f206 : Fp), iterO (fun zz_ => z_viaductlaw12_laid_l0 script zz_.1 zz_.2.1 zz_.2.2.1 zz_.2.2.2.1 zz_.2.2.2.2.1 zz_.2.2.2.2.2) n (i0, o1, o2, o3, m4, m5) = some o162 /\ Has α [(5, pt_ b33 0), (7, pt_ b81 0), (9, pt_ b129 0), (33, hd_script), (34, i_ (script.length : Int)), (35, i_ i0)] /\ FrS ([b129] ++ ([b81] ++ f80)) H148 H192 /\ Nd enc_i64_u64_i64 3 H192 (.slice a91 n92 c93) o1 f196 [] /\ Row H192 b81 [.slice a91 n92 c93, i_ o2, i_ o3] /\ Ow encB 1 H192 s201 m4 f202 /\ Sq enc_i64_i64_u64_i64 4 H192 s205 m5 f206 /\ Row H192 b129 [s201, s205] /\ Inn f80 H148 f196 /\ Inn f101 H148 f202 /\ Inn f103 H148 f206 /\ Dj f196 f202 /\ Dj f196 f206 /\ Dj f202 f206) n190 ⟨0, y77.1, y77.2.1, y77.2.2, y97.1, y97.2.1, f80, (.slice a120 n121 c122), f101, (.slice a123 n124 c125), f103, hn191, ha_, (fr_ e150.wf), u224, u227, u229, u231.sq, u232, ir_, ir_, ir_, (Dj.symm d233), (Dj.symm d234), d114⟩ ?_
  rintro n190 α H192 ⟨i0, o1, o2, o3, m4, m5, f196, s201, f202, s205, f206, hi216, hh215, e193, m195, m198, m200, m204, m208, i209, i210, i211, d212, d213, d214⟩ K235 k235
  obtain ⟨n217, z218, rfl, hz219, hn220⟩ := iter_succ hi216
  obtain ⟨β, rfl⟩ := has_ex hh215
  clear hh215
  replace hz219 : z_viaductlaw12_laid_l0 script i0 o1 o2 o3 m4 m5 = some z218 := hz219
  unfold z_viaductlaw12_laid_l0 at hz219
  obtain ⟨a236, n237, c238, rfl⟩ := m200.form
  obtain ⟨a239, n240, c241, rfl⟩ := m204.form
  refine sq_ fun k242 => g_' (q_ (.bool (decide (i0 < (script.length : Int)))) (s_nil (k242 _ _ (sq_ fun k243 => ?_))))
  refine wc_ (i0 < (script.length : Int)) (fun h244 => ?_) fun h244 => ?_
  ·have r245 := ite_t h244 hz219
   refine w_skip (k243 _ _ (sq_ fun k246 => w_block (sq_ fun k247 => g_' ?_)))
   obtain ⟨g248, r249⟩ := G_some r245
   have n250 := (t_ (t_ e29.n e35.n) e45.n)
   have d251 := (i86.djn (h_script.lt.le n250))
   have d252 := (i87.djn (h_script.lt.le n250))
   have u253 := (u161.fr e193 (Dj.app d158 (Dj.app d252 d251)))
   refine u253.ix_ 25 g248 h244 (le_ 89 0 (.agg #[.int .u8 ((gt script i0).1), i_ ((gt script i0).2.1), i_ ((gt script i0).2.2.1), .int .u64 ((gt script i0).2.2.2.1), i_ ((gt script i0).2.2.2.2)]) u253 g248 h244 ?_)
   refine rk_ e193.wf [.int .u8 0, i_ 0, i_ 0, .int .u64 0, i_ 0] fun b254 H255 e256 hb257 r258 => ?_
   obtain ⟨H260, q261, e262, r263⟩ := ra_ 89 0 e256.wf r258 [.int .u8 ((gt script i0).1), i_ ((gt script i0).2.1), i_ ((gt script i0).2.2.1), .int .u64 ((gt script i0).2.2.2.1), i_ ((gt script i0).2.2.2.2)] [.int .u8 ((gt script i0).1), i_ ((gt script i0).2.1), i_ ((gt script i0).2.2.1), .int .u64 ((gt script i0).2.2.2.1), i_ ((gt script i0).2.2.2.2)]
   refine ek_ q261 (s_nil (k247 _ _ (sq_ fun k264 => sq_ fun k265 => g_' (q_ (pt_ b254 0) (lr_ 5 0 (.int .u8 ((gt script i0).1)) r263 (q_ (.bool (decide (((gt script i0).1) = 1))) (s_nil (k265 _ _ ?_))))))))
   obtain ⟨o266, hx267, r268⟩ := bs_ r249
   refine w_mid (fun α H269 => ∃ (f273 : Fp) (s278 : Value) (f279 : Fp), Has α [(5, pt_ b33 0), (7, pt_ b81 0), (9, pt_ b129 0), (12, pt_ b254 0), (33, hd_script), (34, i_ (script.length : Int)), (35, i_ i0)] /\ FrS ([b129] ++ ([b81] ++ f196)) H260 H269 /\ Nd enc_i64_u64_i64 3 H269 (.slice a91 n92 c93) o266.1 f273 [] /\ Row H269 b81 [.slice a91 n92 c93, i_ o2, i_ o266.2.1] /\ Sq enc_i64_i64_u64_i64 4 H269 s278 o266.2.2 f279 /\ Row H269 b129 [.slice a236 n237 c238, s278] /\ Inn f196 H260 f273 /\ Inn f206 H260 f279 /\ Dj f273 f279) (fun _ k285 => ?_) (fun α H269 hM => ?_)
   ·refine wc_ (((gt script i0).1) = 1) (fun h287 => ?_) fun h287 => ?_
    ·have r288 := ite_t h287 hx267
     refine sq_ fun k289 => g_' (q_ (pt_ b81 0) (q_ (pt_ b254 1) (lr_ 3 1 (i_ ((gt script i0).2.1)) r263 (q_ (pt_ b254 2) (lr_ 3 2 (i_ ((gt script i0).2.2.1)) r263 (q_ (pt_ b254 3) (lr_ 27 3 (.int .u64 ((gt script i0).2.2.2.1)) r263 (q_ (pt_ b254 4) (lr_ 3 4 (i_ ((gt script i0).2.2.2.2)) r263 ?_)))))))))
     have u290 := ((m195.ext e256).fr e262 (hb257.djn m195.lt))
     have n291 := (t_ (t_ (t_ (t_ (t_ e107.n e131.n) e137.n) e143.n) e150.n) e193.n)
     have d292 := (hb257.djn (m85.ltF.le n291))
     have u293 := ((m198.ext e256).frS e262 d292)
     have n294 := (t_ (t_ (t_ (t_ e107.n e131.n) e137.n) e143.n) e150.n)
     have d295 := (i209.dj d88 (m85.ltF.le n294))
     obtain ⟨y296, hy297, r298⟩ := bs_ r288
     refine ck_ (c_overlay_Overlay_Put e262.wf u290 u293 (Dj.symm d295) hy297) ?_
     rintro _ H302 ⟨v299, f300, f301, rfl, e303, m304, m305, m306, i307, i308, d309⟩
     refine s_nil (k289 _ _ (sq_ fun k311 => g_' ?_))
     have n312 := (t_ (t_ (t_ e137.n e143.n) e150.n) e193.n)
     have d313 := (hb257.djn (r133.ltF.le n312))
     have d314 := (hb132.djn (m84.lt.le e107.n))
     have n315 := (t_ (t_ e137.n e143.n) e150.n)
     have d316 := (i209.dj (Dj.symm d314) (r133.ltF.le n315))
     have d317 := (hb132.djn (m85.ltF.le e107.n))
     have u318 := (((m208.ext e256).frS e262 d313).frS e303 (Dj.app (Dj.symm d317) d316))
     refine lr_ 33 0 (.agg #[.slice a236 n237 c238, .slice a239 n240 c241]) u318 (q_ (pt_ b254 1) ?_)
     have d319 := (hb257.djn m195.lt)
     have u320 := (r263.frS e303 (Dj.app (Dj.symm d292) (Dj.symm d319)))
     refine lr_ 3 1 (i_ ((gt script i0).2.1)) u320 (q_ (pt_ b254 2) (lr_ 3 2 (i_ ((gt script i0).2.2.1)) u320 (q_ (pt_ b254 3) (lr_ 27 3 (.int .u64 ((gt script i0).2.2.2.1)) u320 (q_ (pt_ b254 4) (lr_ 3 4 (i_ ((gt script i0).2.2.2.2)) u320 ?_))))))
     have d321 := (i210.dj (i111.djn m85.ltF) (m85.ltF.le n294))
     have u322 := (((m200.ext e256).fr e262 (hb257.djn m200.lt)).fr e303 (Dj.app (Dj.symm d321) d212))
     have d323 := (i211.dj (i112.djn m85.ltF) (m85.ltF.le n294))
     have u324 := (((m204.ext e256).fr e262 (hb257.djn m204.lt)).fr e303 (Dj.app (Dj.symm d323) d213))
     obtain ⟨y325, hy326, r327⟩ := bs_ r298
     refine ck_ (c_viaductref11_DocPut e303.wf u322.sq u324 hy326) ?_
     rintro _ H328 ⟨rfl, e329⟩
     refine rk_ e329.wf [i_ 0, .slice none 0 0] fun b330 H331 e332 hb333 r334 => ?_
     obtain ⟨H336, q337, e338, r339⟩ := ra_ 44 0 e332.wf r334 [i_ y325, .slice none 0 0] [i_ y325, .slice none 0 0]
     refine ek_ q337 (s_nil (k311 _ _ (sq_ fun k340 => g_' (lr_ 44 0 (.agg #[i_ y325, .slice none 0 0]) r339 ?_))))
     obtain ⟨y341, hy342, r343⟩ := bs_ r327
     refine ck_ (c_viaductref01_Err_Bad e338.wf (Sq.nil (enc := enc_i64_i64) (sz := 2) (by decide)) hy342) ?_
     rintro _ H344 ⟨rfl, e345⟩
     refine q_ (.bool (!y341)) (s_nil (k340 _ _ ?_))
     refine wb_ ((!y341)) (fun h346 => ?_) fun h346 => ?_
     ·have r347 := ite_t h346 r343
      refine g_' ?_
      have n348 := (t_ (t_ (t_ (t_ (t_ (t_ (t_ e137.n e143.n) e150.n) e193.n) e256.n) e262.n) e303.n) e329.n)
      have d349 := (hb333.djn (r133.ltF.le n348))
      have u350 := ((((u318.frS e329 dn_).ext e332).frS e338 d349).frS e345 dn_)
      refine lr_ 33 0 (.agg #[.slice a236 n237 c238, .slice a239 n240 c241]) u350 (q_ (pt_ b254 1) ?_)
      have n351 := (t_ (t_ e262.n e303.n) e329.n)
      have d352 := (hb333.djn (r258.ltF.le n351))
      have u353 := ((((u320.frS e329 dn_).ext e332).frS e338 d352).frS e345 dn_)
      refine lr_ 3 1 (i_ ((gt script i0).2.1)) u353 (q_ (pt_ b254 2) (lr_ 3 2 (i_ ((gt script i0).2.2.1)) u353 (q_ (pt_ b254 3) (lr_ 27 3 (.int .u64 ((gt script i0).2.2.2.1)) u353 (q_ (pt_ b254 4) (lr_ 3 4 (i_ ((gt script i0).2.2.2.2)) u353 (q_ (.agg #[i_ ((gt script i0).2.1), i_ ((gt script i0).2.2.1), .int .u64 ((gt script i0).2.2.2.1), i_ ((gt script i0).2.2.2.2)]) ?_)))))))
      have n354 := (t_ (t_ (t_ e256.n e262.n) e303.n) e329.n)
      have d355 := (hb333.djn (m200.lt.le n354))
      have u356 := ((((u322.fr e329 dn_).ext e332).fr e338 d355).fr e345 dn_)
      have d357 := (hb333.djn (m204.lt.le n354))
      have u358 := ((((u324.fr e329 dn_).ext e332).fr e338 d357).fr e345 dn_)
      obtain ⟨y359, hy360, r361⟩ := bs_ r347
      refine ck_ (c_viaductref11_Put e345.wf u356.sq u358 hy360) ?_
      rintro _ H364 ⟨s362, f363, rfl, e365, m366, i367⟩
      obtain ⟨a369, n370, c371, rfl⟩ := m366.form
      refine q_ (.tuple #[.agg #[.slice a236 n237 c238, .slice a369 n370 c371], .bool y359.2]) (q_ (.agg #[.slice a236 n237 c238, .slice a369 n370 c371]) (q_ (.bool y359.2) ?_))
      have u376 := (u350.frS e365 dn_)
      have u377 := (u356.fr e365 dn_)
      obtain ⟨H372, q373, e374, r375⟩ := ra_ 33 0 e365.wf u376 [.slice a236 n237 c238, .slice a369 n370 c371] [.slice a236 n237 c238, .slice a369 n370 c371]
      refine ek_ q373 (s_nil ?_)
      have n378 := (t_ e303.n e329.n)
      have d379 := (hb333.djn (m305.lt.le e329.n))
      have n380 := (t_ (t_ (t_ (t_ (t_ e137.n e143.n) e150.n) e193.n) e256.n) e262.n)
      have d381 := (i308.dj d316 (r133.ltF.le n380))
      have u382 := ((((((m305.fr e329 dn_).ext e332).fr e338 d379).fr e345 dn_).fr e365 dn_).fr e374 (Dj.symm d381))
      have n383 := (t_ (t_ (t_ (t_ (t_ (t_ (t_ (t_ (t_ e107.n e131.n) e137.n) e143.n) e150.n) e193.n) e256.n) e262.n) e303.n) e329.n)
      have d384 := (hb333.djn (m85.ltF.le n383))
      have u385 := ((((((m306.frS e329 dn_).ext e332).frS e338 d384).frS e345 dn_).frS e365 dn_).frS e374 d317)
      have d386 := (hb132.djn m109.lt)
      have d387 := (i211.dj (Dj.symm d386) (r133.ltF.le n315))
      have n388 := (t_ (t_ (t_ (t_ (t_ (t_ (t_ (t_ (t_ (t_ e137.n e143.n) e150.n) e193.n) e256.n) e262.n) e303.n) e329.n) e332.n) e338.n) e345.n)
      have d389 := (i367.dj d387 (r133.ltF.le n388))
      have u390 := (m366.fr e374 (Dj.symm d389))
      have n391 := (t_ (t_ (t_ (t_ e303.n e329.n) e332.n) e338.n) e345.n)
      have n392 := (t_ e256.n e262.n)
      have d393 := (i308.dj d213 (m204.lt.le n392))
      have n394 := (t_ (t_ (t_ e329.n e332.n) e338.n) e345.n)
      have d395 := (i367.dj (Dj.symm d393) (m305.lt.le n394))
      obtain rfl := oi_ r361
      exact k285 _ _ ⟨f301, (.slice a369 n370 c371), f363, ha_, (fs_ e262.wf (fs_ e262.wf (fs_ e262.wf (fs_ e262.wf ((fs_ e262.wf (fs_ e262.wf (fr_ e262.wf) e303 (Inn.app (Inn.right Inn.left) (Inn.right (Inn.right ir_)))) e329 in_).extR e332) e338 (hb333.fresh n378)) e345 in_) e365 in_) e374 Inn.left), u382, u385, u390, r375, (Inn.trans ir_ (Nat.le_refl _) i308), (Inn.trans ir_ n391 i367), (Dj.symm d395)⟩
     have r396 := ite_bf h346 r343
     refine w_skip ?_
     have n397 := (t_ e303.n e329.n)
     have d398 := (hb333.djn (m305.lt.le e329.n))
     have u399 := ((((m305.fr e329 dn_).ext e332).fr e338 d398).fr e345 dn_)
     have n400 := (t_ (t_ (t_ (t_ (t_ (t_ (t_ (t_ (t_ e107.n e131.n) e137.n) e143.n) e150.n) e193.n) e256.n) e262.n) e303.n) e329.n)
     have d401 := (hb333.djn (m85.ltF.le n400))
     have u402 := ((((m306.frS e329 dn_).ext e332).frS e338 d401).frS e345 dn_)
     have n403 := (t_ (t_ (t_ e256.n e262.n) e303.n) e329.n)
     have d404 := (hb333.djn (m204.lt.le n403))
     have u405 := ((((u324.fr e329 dn_).ext e332).fr e338 d404).fr e345 dn_)
     have n406 := (t_ (t_ (t_ (t_ (t_ (t_ (t_ e137.n e143.n) e150.n) e193.n) e256.n) e262.n) e303.n) e329.n)
     have d407 := (hb333.djn (r133.ltF.le n406))
     have u408 := ((((u318.frS e329 dn_).ext e332).frS e338 d407).frS e345 dn_)
     have n409 := (t_ e256.n e262.n)
     have d410 := (i308.dj d213 (m204.lt.le n409))
     obtain rfl := oi_ r396
     exact k285 _ _ ⟨f301, (.slice a239 n240 c241), f206, ha_, (fs_ e262.wf (fs_ e262.wf ((fs_ e262.wf (fs_ e262.wf (fr_ e262.wf) e303 (Inn.app (Inn.right Inn.left) (Inn.right (Inn.right ir_)))) e329 in_).extR e332) e338 (hb333.fresh n397)) e345 in_), u399, u402, u405, u408, (Inn.trans ir_ (Nat.le_refl _) i308), ir_, d410⟩
    have r411 := ite_f h287 hx267
    refine w_skip ?_
    have u412 := ((m195.ext e256).fr e262 (hb257.djn m195.lt))
    have n413 := (t_ (t_ (t_ (t_ (t_ e107.n e131.n) e137.n) e143.n) e150.n) e193.n)
    have d414 := (hb257.djn (m85.ltF.le n413))
    have u415 := ((m198.ext e256).frS e262 d414)
    have u416 := ((m204.ext e256).fr e262 (hb257.djn m204.lt))
    have n417 := (t_ (t_ (t_ e137.n e143.n) e150.n) e193.n)
    have d418 := (hb257.djn (r133.ltF.le n417))
    have u419 := ((m208.ext e256).frS e262 d418)
    obtain rfl := oi_ r411
    exact k285 _ _ ⟨f196, (.slice a239 n240 c241), f206, ha_, (fr_ e262.wf), u412, u415, u416, u419, ir_, ir_, d213⟩
   obtain ⟨f273, s278, f279, hh286, e270, m272, m275, m277, m281, i282, i283, d284⟩ := hM
   obtain ⟨β, rfl⟩ := has_ex hh286
   clear hh286
   obtain ⟨a420, n421, c422, rfl⟩ := m277.form
   refine k264 _ _ (sq_ fun k423 => g_' (q_ (pt_ b254 0) ?_))
   have d424 := (hb257.djn m195.lt)
   have n425 := (t_ (t_ (t_ (t_ (t_ e107.n e131.n) e137.n) e143.n) e150.n) e193.n)
   have d426 := (hb257.djn (m85.ltF.le n425))
   have n427 := (t_ (t_ (t_ e137.n e143.n) e150.n) e193.n)
   have d428 := (hb257.djn (r133.ltF.le n427))
   have u429 := (r263.frS e270 (Dj.app (Dj.symm d428) (Dj.app (Dj.symm d426) (Dj.symm d424))))
   refine lr_ 5 0 (.int .u8 ((gt script i0).1)) u429 (q_ (.bool (decide (((gt script i0).1) = 2))) (s_nil (k423 _ _ ?_)))
   refine wc_ (((gt script i0).1) = 2) (fun h430 => ?_) fun h430 => ?_
   ·have r431 := ite_t h430 r268
    refine sq_ fun k432 => g_' (q_ (pt_ b81 0) (q_ (pt_ b254 1) (lr_ 3 1 (i_ ((gt script i0).2.1)) u429 ?_)))
    have n433 := (t_ (t_ (t_ (t_ e107.n e131.n) e137.n) e143.n) e150.n)
    have d434 := (i209.dj d88 (m85.ltF.le n433))
    have n435 := (t_ (t_ (t_ (t_ (t_ (t_ (t_ e107.n e131.n) e137.n) e143.n) e150.n) e193.n) e256.n) e262.n)
    have d436 := (i282.dj d434 (m85.ltF.le n435))
    obtain ⟨y437, hy438, r439⟩ := bs_ r431
    refine ck_ (c_overlay_Overlay_Remove e270.wf m272 m275 d436 hy438) ?_
    rintro v440 H443 ⟨_, f441, f442, rfl, e444, m445, m446, m447, i448, i449, d450⟩
    refine s_nil (k432 _ _ (sq_ fun k452 => g_' ?_))
    have d453 := (hb132.djn (m84.lt.le e107.n))
    have n454 := (t_ (t_ e137.n e143.n) e150.n)
    have d455 := (i209.dj (Dj.symm d453) (r133.ltF.le n454))
    have n456 := (t_ (t_ (t_ (t_ (t_ e137.n e143.n) e150.n) e193.n) e256.n) e262.n)
    have d457 := (i282.dj d455 (r133.ltF.le n456))
    have d458 := (hb132.djn (m85.ltF.le e107.n))
    have u459 := (m281.frS e444 (Dj.app (Dj.symm d458) d457))
    refine lr_ 33 0 (.agg #[.slice a236 n237 c238, .slice a420 n421 c422]) u459 (q_ (pt_ b254 1) ?_)
    have d460 := (i282.dj (Dj.symm d424) (r258.ltF.le e262.n))
    have u461 := (u429.frS e444 (Dj.app (Dj.symm d426) d460))
    refine lr_ 3 1 (i_ ((gt script i0).2.1)) u461 ?_
    have d462 := (i210.dj (i111.djn m85.ltF) (m85.ltF.le n433))
    have d463 := (hb132.djn m108.lt)
    have d464 := (i210.dj (Dj.symm d463) (r133.ltF.le n454))
    have n465 := (t_ e256.n e262.n)
    have d466 := (i282.dj d212 (m200.lt.le n465))
    have u467 := ((((m200.ext e256).fr e262 (hb257.djn m200.lt)).fr e270 (Dj.app (Dj.symm d464) (Dj.app (Dj.symm d462) d212))).fr e444 (Dj.app (Dj.symm d462) d466))
    have d468 := (i211.dj (i112.djn m85.ltF) (m85.ltF.le n433))
    have d469 := (i283.dj d468 (m85.ltF.le n435))
    have u470 := (m277.fr e444 (Dj.app (Dj.symm d469) d284))
    obtain ⟨y471, hy472, r473⟩ := bs_ r439
    refine ck_ (c_viaductref11_Lives e444.wf u467.sq u470 hy472) ?_
    rintro _ H474 ⟨rfl, e475⟩
    refine s_nil (k452 _ _ ?_)
    refine wb_ (y471) (fun h476 => ?_) fun h476 => ?_
    ·have r477 := ite_t h476 r473
     refine g_' ?_
     have u478 := (u459.frS e475 dn_)
     refine lr_ 33 0 (.agg #[.slice a236 n237 c238, .slice a420 n421 c422]) u478 (q_ (pt_ b254 1) ?_)
     have u479 := (u461.frS e475 dn_)
     refine lr_ 3 1 (i_ ((gt script i0).2.1)) u479 ?_
     have u480 := (u467.fr e475 dn_)
     have u481 := (u470.fr e475 dn_)
     obtain ⟨y482, hy483, r484⟩ := bs_ r477
     refine ck_ (c_viaductref11_Remove e475.wf u480.sq u481 hy483) ?_
     rintro _ H489 ⟨s485, f486, s487, f488, rfl, e490, m491, m492, i493, i494, d495⟩
     obtain ⟨a498, n499, c500, rfl⟩ := m491.form
     obtain ⟨a501, n502, c503, rfl⟩ := m492.form
     have u508 := (u478.frS e490 dn_)
     obtain ⟨H504, q505, e506, r507⟩ := ra_ 33 0 e490.wf u508 [.slice a498 n499 c500, .slice a501 n502 c503] [.slice a498 n499 c500, .slice a501 n502 c503]
     refine ek_ q505 (s_nil (k246 _ _ (g_' ?_)))
     obtain ⟨g509, r510⟩ := G_some r484
     refine w_' ((i0 + 1)) (wrap64 (by have := g509; omega)) (q_ (i_ (i0 + 1)) (s_nil ?_))
     have n511 := (t_ (t_ e193.n e256.n) e262.n)
     have n512 := (t_ (t_ (t_ (t_ (t_ (t_ e137.n e143.n) e150.n) e193.n) e256.n) e262.n) e270.n)
     have d513 := (i449.dj d457 (r133.ltF.le n512))
     have u514 := (((m446.fr e475 dn_).fr e490 dn_).fr e506 (Dj.symm d513))
     have u515 := (((m447.frS e475 dn_).frS e490 dn_).frS e506 d458)
     have n516 := (t_ (t_ (t_ (t_ (t_ (t_ (t_ (t_ e137.n e143.n) e150.n) e193.n) e256.n) e262.n) e270.n) e444.n) e475.n)
     have d517 := (i493.djn (r133.ltF.le n516))
     have u518 := (m491.fr e506 (Dj.symm d517))
     have d519 := (i494.djn (r133.ltF.le n516))
     have u520 := (m492.fr e506 (Dj.symm d519))
     have n521 := (t_ (t_ (t_ e193.n e256.n) e262.n) e270.n)
     have n522 := (t_ (t_ (t_ (t_ (t_ e193.n e256.n) e262.n) e270.n) e444.n) e475.n)
     have d523 := (i493.djn (m446.lt.le e475.n))
     have d524 := (i494.djn (m446.lt.le e475.n))
     obtain rfl := oi_ r510
     exact k235 n217 _ _ lt_ ⟨(i0 + 1), y437.2.1, y437.2.2.1, y437.2.2.2, y482.1, y482.2, f442, (.slice a498 n499 c500), f486, (.slice a501 n502 c503), f488, hn220, ha_, (fs_ e150.wf (fs_ e150.wf (fs_ e150.wf (fs_ e150.wf (fs_ e150.wf (fs_ e150.wf ((fs_ e150.wf (fr_ e150.wf) e193 ir_).extR e256) e262 (hb257.fresh e193.n)) e270 (Inn.app Inn.left (Inn.app (Inn.right Inn.left) (Inn.trans (Inn.right (Inn.right ir_)) (Nat.le_refl _) i209)))) e444 (Inn.app (Inn.right Inn.left) (Inn.trans (Inn.trans (Inn.right (Inn.right ir_)) (Nat.le_refl _) i209) n511 i282))) e475 in_) e490 in_) e506 Inn.left), u514, u515, u518, u520.sq, r507, (Inn.trans (Inn.trans (Inn.trans ir_ (Nat.le_refl _) i209) n511 i282) n521 i449), (i493.fresh n522), (i494.fresh n522), (Dj.symm d523), (Dj.symm d524), d495⟩
    have r525 := ite_bf h476 r473
    refine w_skip (k246 _ _ (g_' ?_))
    obtain ⟨g526, r527⟩ := G_some r525
    refine w_' ((i0 + 1)) (wrap64 (by have := g526; omega)) (q_ (i_ (i0 + 1)) (s_nil ?_))
    have n528 := (t_ (t_ e193.n e256.n) e262.n)
    have u529 := (m446.fr e475 dn_)
    have u530 := (m447.frS e475 dn_)
    have u531 := (u467.fr e475 dn_)
    have u532 := (u470.fr e475 dn_)
    have u533 := (u459.frS e475 dn_)
    have n534 := (t_ (t_ (t_ e193.n e256.n) e262.n) e270.n)
    have n535 := (t_ (t_ e256.n e262.n) e270.n)
    have d536 := (i449.dj d466 (m200.lt.le n535))
    have d537 := (i283.dj (Dj.symm d214) (m200.lt.le n465))
    obtain rfl := oi_ r527
    exact k235 n217 _ _ lt_ ⟨(i0 + 1), y437.2.1, y437.2.2.1, y437.2.2.2, m4, o266.2.2, f442, (.slice a236 n237 c238), f202, (.slice a420 n421 c422), f279, hn220, ha_, (fs_ e150.wf (fs_ e150.wf (fs_ e150.wf (fs_ e150.wf ((fs_ e150.wf (fr_ e150.wf) e193 ir_).extR e256) e262 (hb257.fresh e193.n)) e270 (Inn.app Inn.left (Inn.app (Inn.right Inn.left) (Inn.trans (Inn.right (Inn.right ir_)) (Nat.le_refl _) i209)))) e444 (Inn.app (Inn.right Inn.left) (Inn.trans (Inn.trans (Inn.right (Inn.right ir_)) (Nat.le_refl _) i209) n528 i282))) e475 in_), u529, u530, u531, u532, u533, (Inn.trans (Inn.trans (Inn.trans ir_ (Nat.le_refl _) i209) n528 i282) n534 i449), (Inn.trans ir_ (Nat.le_refl _) i210), (Inn.trans (Inn.trans ir_ (Nat.le_refl _) i211) n528 i283), d536, (i449.dj d284 m277.lt), (Dj.symm d537)⟩
   have r538 := ite_f h430 r268
   refine w_skip (k246 _ _ (g_' ?_))
   obtain ⟨g539, r540⟩ := G_some r538
   refine w_' ((i0 + 1)) (wrap64 (by have := g539; omega)) (q_ (i_ (i0 + 1)) (s_nil ?_))
   have n541 := (t_ (t_ (t_ (t_ e107.n e131.n) e137.n) e143.n) e150.n)
   have d542 := (i210.dj (i111.djn m85.ltF) (m85.ltF.le n541))
   have d543 := (hb132.djn m108.lt)
   have n544 := (t_ (t_ e137.n e143.n) e150.n)
   have d545 := (i210.dj (Dj.symm d543) (r133.ltF.le n544))
   have u546 := (((m200.ext e256).fr e262 (hb257.djn m200.lt)).fr e270 (Dj.app (Dj.symm d545) (Dj.app (Dj.symm d542) d212)))
   have n547 := (t_ (t_ e193.n e256.n) e262.n)
   have n548 := (t_ e256.n e262.n)
   have d549 := (i282.dj d212 (m200.lt.le n548))
   have d550 := (i283.dj (Dj.symm d214) (m200.lt.le n548))
   obtain rfl := oi_ r540
   exact k235 n217 _ _ lt_ ⟨(i0 + 1), o266.1, o2, o266.2.1, m4, o266.2.2, f273, (.slice a236 n237 c238), f202, (.slice a420 n421 c422), f279, hn220, ha_, (fs_ e150.wf (fs_ e150.wf ((fs_ e150.wf (fr_ e150.wf) e193 ir_).extR e256) e262 (hb257.fresh e193.n)) e270 (Inn.app Inn.left (Inn.app (Inn.right Inn.left) (Inn.trans (Inn.right (Inn.right ir_)) (Nat.le_refl _) i209)))), m272, m275, u546, m277, m281, (Inn.trans (Inn.trans ir_ (Nat.le_refl _) i209) n547 i282), (Inn.trans ir_ (Nat.le_refl _) i210), (Inn.trans (Inn.trans ir_ (Nat.le_refl _) i211) n547 i283), d549, d284, (Dj.symm d550)⟩
  have r551 := ite_f h244 hz219
  refine w_exit (th_exit (th_exit (bl_eq ?_)))
  obtain rfl := oi_ r551
  obtain rfl := it_inr hn220
  exact k188 _ _ ⟨f196, (.slice a236 n237 c238), f202, (.slice a239 n240 c241), f206, ha_, (fs_ e150.wf (fr_ e150.wf) e193 ir_), m195, m198, m200, m204, m208, (Inn.trans ir_ (Nat.le_refl _) i209), (Inn.trans ir_ (Nat.le_refl _) i210), (Inn.trans ir_ (Nat.le_refl _) i211), d212, d213, d214⟩
 obtain ⟨f169, s174, f175, s178, f179, hh189, e166, m168, m171, m173, m177, m181, i182, i183, i184, d185, d186, d187⟩ := hM
 obtain ⟨β, rfl⟩ := has_ex hh189
 clear hh189
 obtain ⟨a552, n553, c554, rfl⟩ := m173.form
 obtain ⟨a555, n556, c557, rfl⟩ := m177.form
 refine k155 _ _ (sq_ fun k558 => ?_)
 refine w_draw [0, 1, 2, 3, 4] (by kernel_rfl) ?_
 refine e_' (pt_ b81 0) (mr_ 33 0 (.agg #[.slice a552 n553 c554, .slice a555 n556 c557]) m181 (e_' (pt_ b81 0) ?_))
 have n563 := (t_ (t_ e45.n e83.n) e107.n)
 have d564 := (hb132.djn (r37.ltF.le n563))
 have n565 := (t_ (t_ (t_ e45.n e83.n) e107.n) e131.n)
 have d566 := (hb138.djn (r37.ltF.le n565))
 have d567 := (i86.djn (r37.ltF.le e45.n))
 have d568 := (i87.djn (r37.ltF.le e45.n))
 have u569 := ((((((((r37.frS e45 dn_).frS e83 dn_).frS e107 dn_).ext e131).ext e137).frS e143 d564).frS e150 d566).frS e166 (Dj.app d564 (Dj.app d568 d567)))
 obtain ⟨H559, q560, e561, r562⟩ := ra_ 33 0 e166.wf u569 [.slice a552 n553 c554, .slice a555 n556 c557] [.slice a552 n553 c554, .slice a555 n556 c557]
 refine fk_ q560 (st_nil) (e_' (.bool true) ?_)
 refine d_nil ?_
 refine k558 _ _ ?_
 refine w_ret ?_
 refine b_ret (vs := [pt_ b81 0, .agg #[.slice a552 n553 c554, .slice a555 n556 c557], .bool true]) (aRes_tmp (by kernel_rfl) (aRes_cell (Eq.trans (b := aL_ 33 (pt_ b33 0) H559) (by kernel_rfl) (r562.l_)) (rt_ (rfl)))) ?_
 have n570 := (t_ (t_ e29.n e35.n) e45.n)
 have n571 := (t_ (t_ (t_ (t_ (t_ (t_ e45.n e83.n) e107.n) e131.n) e137.n) e143.n) e150.n)
 have d572 := (i182.dj d567 (r37.ltF.le n571))
 have u573 := (m168.fr e561 (Dj.symm d572))
 have u574 := (m171.frS e561 (Dj.symm d568))
 have n575 := (t_ e45.n e83.n)
 have d576 := (i111.djn (r37.ltF.le n575))
 have d577 := (i183.dj d576 (r37.ltF.le n571))
 have u578 := (m173.fr e561 (Dj.symm d577))
 have d579 := (i112.djn (r37.ltF.le n575))
 have d580 := (i184.dj d579 (r37.ltF.le n571))
 have u581 := (m177.fr e561 (Dj.symm d580))
 have n582 := (t_ (t_ (t_ (t_ (t_ (t_ (t_ (t_ e29.n e35.n) e45.n) e83.n) e107.n) e131.n) e137.n) e143.n) e150.n)
 have n583 := (t_ (t_ (t_ e29.n e35.n) e45.n) e83.n)
 have n584 := (t_ (t_ (t_ (t_ e107.n e131.n) e137.n) e143.n) e150.n)
 have d585 := (i182.dj d88 (m85.ltF.le n584))
 have d586 := (i183.dj (i111.djn m85.ltF) (m85.ltF.le n584))
 have d587 := (i184.dj (i112.djn m85.ltF) (m85.ltF.le n584))
 obtain rfl := oi_ r164
 exact (elimP_r ⟨(.slice a91 n92 c93), f169, b81, (.slice a552 n553 c554), f175, (.slice a555 n556 c557), f179, rfl, (fs_ wf (fs_ wf (fs_ wf (fs_ wf (((fs_ wf (fs_ wf (fs_ wf (((f0_ wf).extR e29).extR e35) e45 in_) e83 in_) e107 in_).extR e131).extR e137) e143 (hb132.fresh n157)) e150 (hb138.fresh n159)) e166 (Inn.app (hb132.fresh n157) (Inn.app (i87.fresh n570) (i86.fresh n570)))) e561 (hb36.fresh e29.n)), u573, u574, u578, u581, (Inn.trans (i86.fresh n570) n582 i182), (i87.fresh n570), (Inn.trans (i111.fresh n583) n582 i183), (Inn.trans (i112.fresh n583) n582 i184), d585, d185, (Dj.symm d586), d186, (Dj.symm d587), d187⟩)
theorem c_viaductref02_TwinInts {H : AH} {hd_l : Value} {fp_l : Fp} {l : List (Int)} {r : List (Int)}
    (wf : WF H) (h_l : Sq (encI .i64) 1 H hd_l l fp_l) (hr : z_viaductref02_TwinInts l = some r) :
    ACalls Tryz.prog 10 #[hd_l] H fun v H' => ∃ (s3 : Value) (f4 : Fp), v = s3 /\ FrS [] H H' /\ Ow (encI .i64) 1 H' s3 r f4 /\ Inn [] H f4 := by
 refine ab_ Tryz.func10 ?_
 unfold z_viaductref02_TwinInts at hr
 refine sq_ fun k6 => g_' (q_ (.slice none 0 0) (s_nil (k6 _ _ (sq_ fun k7 => g_' (q_ (.slice none 0 0) (s_nil (k7 _ _ (sq_ fun k8 => sq_ fun k9 => g_' (q_ (hd_l) (h_l.ln_ 26 (q_ (i_ 0) (s_nil (k9 _ _ ?_)))))))))))))
 obtain ⟨o10, hx11, r12⟩ := bs_ hr
 refine w_mid (fun α H13 => ∃ (s17 : Value) (f18 : Fp), Has α [(3, s17)] /\ FrS [] H H13 /\ Ow (encI .i64) 1 H13 s17 o10 f18 /\ Inn [] H f18) (fun _ k20 => ?_) (fun α H13 hM => ?_)
 ·refine w_block ?_
  obtain ⟨n22, hn23⟩ := loopO_iff.1 hx11
  refine w_loopn (fun n α H24 => ∃ (m0 : List (Int)), ∃ (i1 : Int), ∃ (s28 : Value), ∃ (f29 : Fp), iterO (fun zz_ => z_viaductref02_TwinInts_l0 l zz_.1 zz_.2) n (m0, i1) = some o10 /\ Has α [(3, s28), (6, hd_l), (7, i_ (l.length : Int)), (8, i_ i1)] /\ FrS [] H H24 /\ Ow (encI .i64) 1 H24 s28 m0 f29 /\ Inn [] H f29) n22 ⟨[], 0, (.slice none 0 0), [], hn23, ha_, (f0_ wf), (Ow.nil (by decide)), in_⟩ ?_
  rintro n22 α H24 ⟨m0, i1, s28, f29, hi32, hh31, e25, m27, i30⟩ K37 k37
  obtain ⟨n33, z34, rfl, hz35, hn36⟩ := iter_succ hi32
  obtain ⟨β, rfl⟩ := has_ex hh31
  clear hh31
  replace hz35 : z_viaductref02_TwinInts_l0 l m0 i1 = some z34 := hz35
  unfold z_viaductref02_TwinInts_l0 at hz35
  obtain ⟨a38, n39, c40, rfl⟩ := m27.form
  refine sq_ fun k41 => g_' (q_ (.bool (decide (i1 < (l.length : Int)))) (s_nil (k41 _ _ (sq_ fun k42 => ?_))))
  refine wc_ (i1 < (l.length : Int)) (fun h43 => ?_) fun h43 => ?_
  ·have r44 := ite_t h43 hz35
   refine w_skip (k42 _ _ (sq_ fun k45 => w_block (sq_ fun k46 => g_' ?_)))
   obtain ⟨g47, r48⟩ := G_some r44
   have u49 := (h_l.fr e25 dn_)
   refine u49.ix_ 26 g47 h43 (le_ 3 0 (i_ (gt l i1)) u49 g47 h43 (q_ (i_ (gt l i1)) (s_nil (k46 _ _ (g_' (q_ (.slice a38 n39 c40) (q_ (i_ (gt l i1)) ?_)))))))
   refine s_owk (enc := (encI .i64)) (sz := 1) e25.wf [(gt l i1)] 1 (by decide) (fun _ _ => rfl) (fun _ _ => rfl) rfl (by kernel_rfl) fun s50 f51 H52 e53 hf54 hm55 => ?_
   obtain ⟨a56, n57, c58, rfl⟩ := hm55.form
   have u60 := (m27.ext e53)
   obtain ⟨g61, r62⟩ := G_some r48
   obtain ⟨s63, H64, f65, q69, e66, hm67, hf68⟩ := Ow.append (P := Tryz.prog) 8 e53.wf u60 hm55.sq (fun _ _ => rfl) (at_ := #[26, 26]) rfl rfl (by kernel_rfl) (by kernel_rfl) (by decide) (by have := g61; first | omega | (simp only [List.length_cons, List.length_nil] at this ⊢; omega) | (simp at this ⊢; omega))
   obtain ⟨a70, n71, c72, rfl⟩ := hm67.form
   refine s_ek (.slice a70 n71 c72) (by kernel_rfl) (q69) ?_
   refine q_ (.slice a70 n71 c72) (s_nil (k45 _ _ (g_' ?_)))
   obtain ⟨g74, r75⟩ := G_some r62
   refine w_' ((i1 + 1)) (wrap64 (by have := g74; omega)) (q_ (i_ (i1 + 1)) (s_nil ?_))
   have n76 := (t_ e25.n e53.n)
   obtain rfl := oi_ r75
   exact k37 n33 _ _ lt_ ⟨(m0 ++ [(gt l i1)]), (i1 + 1), (.slice a70 n71 c72), f65, hn36, ha_, (fs_ wf ((fs_ wf (f0_ wf) e25 in_).extR e53) e66 (i30.fresh (Nat.le_refl _))), hm67, (Inn.trans (i30.fresh (Nat.le_refl _)) n76 hf68)⟩
  have r77 := ite_f h43 hz35
  refine w_exit (th_exit (th_exit (bl_eq ?_)))
  obtain rfl := oi_ r77
  obtain rfl := it_inr hn36
  exact k20 _ _ ⟨(.slice a38 n39 c40), f29, ha_, (fs_ wf (f0_ wf) e25 in_), m27, (i30.fresh (Nat.le_refl _))⟩
 obtain ⟨s17, f18, hh21, e14, m16, i19⟩ := hM
 obtain ⟨β, rfl⟩ := has_ex hh21
 clear hh21
 obtain ⟨a78, n79, c80, rfl⟩ := m16.form
 refine k8 _ _ (sq_ fun k81 => g_' (q_ (.slice a78 n79 c80) (q_ (.slice a78 n79 c80) (s_nil (k81 _ _ ?_)))))
 refine w_ret ?_
 refine br_ [.slice a78 n79 c80] ?_
 obtain rfl := oi_ r12
 exact ⟨(.slice a78 n79 c80), f18, rfl, (fs_ wf (f0_ wf) e14 in_), m16, (i19.fresh (Nat.le_refl _))⟩
theorem c_witness_queue_Push {H : AH} {b_q : Nat} {b_q_ : Nat} {hd_q_2 : Value} {fp_q_2 : Fp} {hd_q_7 : Value} {fp_q_7 : Fp} {b_q_8 : Nat} {q_2 : List (Bool × List (Int × Int × Int) × List (Int × Int × Int))} {q_3 : Int} {q_4 : Int} {q_5 : Int} {q_6 : Int} {q_7 : List (Int × Int)} {q_8 : Int -> Option (Int × Int × Int)} {dist : Int} {node : Int} {r : List (Int × Int)}
    (wf : WF H) (h_q_2 : Nd enc_i64_u64_i64 3 H hd_q_2 q_2 fp_q_2 []) (h_q_ : Row H b_q_ [hd_q_2, i_ q_3, i_ q_4]) (h_q_7 : Ow enc_u64_i64 2 H hd_q_7 q_7 fp_q_7) (h_q_8 : Ms .i64 enc_u64_i64_i64 H b_q_8 q_8) (h_q : Row H b_q [pt_ b_q_ 0, i_ q_5, i_ q_6, hd_q_7, .map (some b_q_8)]) (dj_fp_q_7_b_q : Dj fp_q_7 [b_q]) (hr : z_witness_queue_Push q_2 q_3 q_4 q_5 q_6 q_7 q_8 dist node = some r) :
    ACalls Tryz.prog 156 #[pt_ b_q 3, .iface 186 (.agg #[.int .u64 dist, i_ node])] H fun v H' => ∃ (s3 : Value) (f4 : Fp), v = .tuple #[] /\ FrS ([b_q] ++ fp_q_7) H H' /\ Ow enc_u64_i64 2 H' s3 r f4 /\ Row H' b_q [pt_ b_q_ 0, i_ q_5, i_ q_6, s3, .map (some b_q_8)] /\ Inn fp_q_7 H f4 := by
 refine ab_ Tryz.func156 ?_
 unfold z_witness_queue_Push at hr
 refine w_draw [0, 1, 2, 3, 4, 5, 6, 7, 8, 9] (by kernel_rfl) ?_
 refine e_' (pt_ b_q 3) (e_' (pt_ b_q 3) (e_' (pt_ b_q 3) (mr_ 105 3 (hd_q_7) h_q (e_' (.iface 186 (.agg #[.int .u64 dist, i_ node])) (e_' (.agg #[.int .u64 dist, i_ node]) ?_)))))
 refine d_owk (enc := enc_u64_i64) (sz := 2) wf [(dist, node)] 1 (by decide) (fun _ _ => rfl) (fun _ _ => rfl) rfl (by kernel_rfl) fun s8 f9 H10 e11 hf12 hm13 => ?_
 obtain ⟨a14, n15, c16, rfl⟩ := hm13.form
 have u18 := (h_q_7.ext e11)
 obtain ⟨g19, r20⟩ := G_some hr
 obtain ⟨s21, H22, f23, q27, e24, hm25, hf26⟩ := Ow.append (P := Tryz.prog) 16 e11.wf u18 hm13.sq (fun _ _ => rfl) (at_ := #[105, 105]) rfl rfl (by kernel_rfl) (by kernel_rfl) (by decide) (by have := g19; first | omega | (simp only [List.length_cons, List.length_nil] at this ⊢; omega) | (simp at this ⊢; omega))
 obtain ⟨a28, n29, c30, rfl⟩ := hm25.form
 refine d_ek (.slice a28 n29 c30) (by kernel_rfl) (q27) (st_nil) ?_
 refine e_' (pt_ b_q 3) ?_
 have u36 := ((h_q.ext e11).frS e24 dj_fp_q_7_b_q)
 obtain ⟨H32, q33, e34, r35⟩ := rb_ 105 3 e24.wf u36 (.slice a28 n29 c30) [pt_ b_q_ 0, i_ q_5, i_ q_6, .slice a28 n29 c30, .map (some b_q_8)]
 refine fk_ q33 (st_nil) ?_
 refine d_nil ?_
 refine b_nrm (vs := []) (rfl) ?_
 have d37 := (hf26.dj dj_fp_q_7_b_q (h_q.ltF.le e11.n))
 have u38 := (hm25.fr e34 (Dj.symm d37))
 obtain rfl := oi_ r20
 exact ⟨(.slice a28 n29 c30), f23, rfl, (fs_ wf (fs_ wf ((fr_ wf).extR e11) e24 (Inn.right ir_)) e34 Inn.left), u38, r35, (Inn.trans ir_ e11.n hf26)⟩
theorem c_witness_queue_Len {H : AH} {hd_q : Value} {fp_q : Fp} {q : List (Int × Int)} {r : Int}
    (wf : WF H) (h_q : Sq enc_u64_i64 2 H hd_q q fp_q) (hr : z_witness_queue_Len q = some r) :
    ACalls Tryz.prog 146 #[hd_q] H fun v H' => v = i_ r /\ H = H' := by
 refine ab_ Tryz.func146 ?_
 unfold z_witness_queue_Len at hr
 refine sq_ fun k1 => g_' (q_ (i_ 0) (s_nil (k1 _ _ (sq_ fun k2 => g_' (q_ (hd_q) (h_q.ln_ 105 (q_ (i_ (q.length : Int)) (s_nil (k2 _ _ ?_)))))))))
 refine w_ret ?_
 refine br_ [i_ (q.length : Int)] ?_
 obtain rfl := oi_ hr
 exact ⟨rfl, rfl⟩
theorem c_witness_queue_Less {H : AH} {hd_q : Value} {fp_q : Fp} {q : List (Int × Int)} {i : Int} {j : Int} {r : Bool}
    (wf : WF H) (h_q : Sq enc_u64_i64 2 H hd_q q fp_q) (hr : z_witness_queue_Less q i j = some r) :
    ACalls Tryz.prog 147 #[hd_q, i_ i, i_ j] H fun v H' => v = .bool r /\ H = H' := by
 refine ab_ Tryz.func147 ?_
 unfold z_witness_queue_Less at hr
 refine sq_ fun k1 => g_' (q_ (.bool false) (s_nil (k1 _ _ (sq_ fun k2 => ?_))))
 refine w_draw [0, 1, 2, 3, 4, 5, 6, 7, 8, 9, 10, 11, 12, 13, 14, 15, 16, 17, 18, 19, 20, 21, 22, 23, 24, 25, 26, 27, 28, 29, 30, 31, 32, 33, 34, 35, 36, 37] (by kernel_rfl) ?_
 refine e_' (hd_q) (e_' (i_ i) ?_)
 obtain ⟨g3, r4⟩ := G_some hr
 refine h_q.mx_ 105 g3.1 g3.2 (m_' (elp hd_q 2 i.toNat 0) (aFieldAddr Tryz.prog 186 (elp hd_q 2 i.toNat 0) 0) (Sq.fldq (d := 0) h_q g3.1 g3.2 (by kernel_rfl)) (me_ 27 0 (.int .u64 ((gt q i).1)) h_q g3.1 g3.2 (e_' (hd_q) (e_' (i_ j) ?_))))
 obtain ⟨g5, r6⟩ := G_some r4
 refine h_q.mx_ 105 g5.1 g5.2 (m_' (elp hd_q 2 j.toNat 0) (aFieldAddr Tryz.prog 186 (elp hd_q 2 j.toNat 0) 0) (Sq.fldq (d := 0) h_q g5.1 g5.2 (by kernel_rfl)) (me_ 27 0 (.int .u64 ((gt q j).1)) h_q g5.1 g5.2 ?_))
 refine db_ (((gt q i).1) < ((gt q j).1)) (fun h7 => ?_) fun h7 => ?_
 ·have r8 := ite_t h7 r6
  refine e_' (.bool true) (j_' (j_' (j_' (j_' (j_' (j_' (j_' (j_' (j_' (j_' (j_' (j_' (j_' (j_' (j_' (j_' (j_' (j_' (j_' (j_' (j_' (j_' (j_' (j_' (e_' (.bool true) (e_' (.bool true) ?_))))))))))))))))))))))))))
  refine d_nil ?_
  refine k2 _ _ ?_
  refine w_ret ?_
  refine br_ [.bool true] ?_
  obtain rfl := oi_ r8
  exact ⟨rfl, rfl⟩
 have r9 := ite_f h7 r6
 refine e_' (.bool false) (e_' (hd_q) (e_' (i_ i) (h_q.mx_ 105 g3.1 g3.2 (m_' (elp hd_q 2 i.toNat 0) (aFieldAddr Tryz.prog 186 (elp hd_q 2 i.toNat 0) 0) (Sq.fldq (d := 0) h_q g3.1 g3.2 (by kernel_rfl)) (me_ 27 0 (.int .u64 ((gt q i).1)) h_q g3.1 g3.2 (e_' (hd_q) (e_' (i_ j) (h_q.mx_ 105 g5.1 g5.2 (m_' (elp hd_q 2 j.toNat 0) (aFieldAddr Tryz.prog 186 (elp hd_q 2 j.toNat 0) 0) (Sq.fldq (d := 0) h_q g5.1 g5.2 (by kernel_rfl)) (me_ 27 0 (.int .u64 ((gt q j).1)) h_q g5.1 g5.2 ?_))))))))))
 refine db_ (((gt q i).1) = ((gt q j).1)) (fun h10 => ?_) fun h10 => ?_
 ·have r11 := ite_t h10 r9
  refine e_' (.bool true) (e_' (hd_q) (e_' (i_ i) (h_q.mx_ 105 g3.1 g3.2 (m_' (elp hd_q 2 i.toNat 1) (aFieldAddr Tryz.prog 186 (elp hd_q 2 i.toNat 0) 1) (Sq.fldq (d := 1) h_q g3.1 g3.2 (by kernel_rfl)) (me_ 3 1 (i_ ((gt q i).2)) h_q g3.1 g3.2 (e_' (hd_q) (e_' (i_ j) (h_q.mx_ 105 g5.1 g5.2 (m_' (elp hd_q 2 j.toNat 1) (aFieldAddr Tryz.prog 186 (elp hd_q 2 j.toNat 0) 1) (Sq.fldq (d := 1) h_q g5.1 g5.2 (by kernel_rfl)) (me_ 3 1 (i_ ((gt q j).2)) h_q g5.1 g5.2 (e_' (.bool (decide (((gt q i).2) < ((gt q j).2)))) (e_' (.bool (decide (((gt q i).2) < ((gt q j).2)))) (e_' (.bool (decide (((gt q i).2) < ((gt q j).2)))) (e_' (.bool (decide (((gt q i).2) < ((gt q j).2)))) ?_))))))))))))))
  refine d_nil ?_
  refine k2 _ _ ?_
  refine w_ret ?_
  refine br_ [.bool (decide (((gt q i).2) < ((gt q j).2)))] ?_
  obtain rfl := oi_ r11
  exact ⟨rfl, rfl⟩
 have r12 := ite_f h10 r9
 refine e_' (.bool false) (j_' (j_' (j_' (j_' (j_' (j_' (j_' (j_' (j_' (j_' (j_' (e_' (.bool false) (e_' (.bool false) (e_' (.bool false) ?_))))))))))))))
 refine d_nil ?_
 refine k2 _ _ ?_
 refine w_ret ?_
 refine br_ [.bool false] ?_
 obtain rfl := oi_ r12
 exact ⟨rfl, rfl⟩
theorem c_witness_queue_Swap {H : AH} {hd_q : Value} {fp_q : Fp} {q : List (Int × Int)} {i : Int} {j : Int} {r : List (Int × Int)}
    (wf : WF H) (h_q : Ow enc_u64_i64 2 H hd_q q fp_q) (hr : z_witness_queue_Swap q i j = some r) :
    ACalls Tryz.prog 148 #[hd_q, i_ i, i_ j] H fun v H' => v = .tuple #[] /\ FrS fp_q H H' /\ Ow enc_u64_i64 2 H' hd_q r fp_q := by
 refine ab_ Tryz.func148 ?_
 unfold z_witness_queue_Swap at hr
 refine w_draw [0, 1, 2, 3, 4, 5, 6, 7, 8, 9, 10, 11, 12, 13, 14, 15] (by kernel_rfl) ?_
 refine e_' (hd_q) (e_' (i_ i) (e_' (hd_q) (e_' (i_ j) (e_' (hd_q) (e_' (i_ j) ?_)))))
 obtain ⟨g3, r4⟩ := G_some hr
 refine h_q.sq.mx_ 105 g3.1 g3.2 (me_ 186 0 (.agg #[.int .u64 ((gt q j).1), i_ ((gt q j).2)]) h_q.sq g3.1 g3.2 (e_' (hd_q) (e_' (i_ i) ?_)))
 obtain ⟨g5, r6⟩ := G_some r4
 refine h_q.sq.mx_ 105 g5.1 g5.2 (me_ 186 0 (.agg #[.int .u64 ((gt q i).1), i_ ((gt q i).2)]) h_q.sq g5.1 g5.2 (h_q.sq.mx_ 105 g5.1 g5.2 ?_))
 obtain ⟨H7, q8, e9, hm10⟩ := Ow.store (P := Tryz.prog) (t := 186) (off := 0) wf h_q g5.1 g5.2 (.agg #[.int .u64 ((gt q j).1), i_ ((gt q j).2)]) [.int .u64 ((gt q j).1), i_ ((gt q j).2)] (by kernel_rfl) (by kernel_rfl) rfl ((gt q j).1, (gt q j).2) (Nat.le_of_ble_eq_true rfl) (by kernel_rfl)
 refine fk_ q8 (st_nil) ?_
 obtain ⟨g11, r12⟩ := G_some r6
 refine hm10.sq.mx_ 105 g3.1 g11 ?_
 obtain ⟨H13, q14, e15, hm16⟩ := Ow.store (P := Tryz.prog) (t := 186) (off := 0) e9.wf hm10 g3.1 g11 (.agg #[.int .u64 ((gt q i).1), i_ ((gt q i).2)]) [.int .u64 ((gt q i).1), i_ ((gt q i).2)] (by kernel_rfl) (by kernel_rfl) rfl ((gt q i).1, (gt q i).2) (Nat.le_of_ble_eq_true rfl) (by kernel_rfl)
 refine fk_ q14 (st_nil) ?_
 refine d_nil ?_
 refine b_nrm (vs := []) (rfl) ?_
 obtain rfl := oi_ r12
 exact ⟨rfl, (fs_ wf (fs_ wf (fr_ wf) e9 ir_) e15 ir_), hm16⟩
theorem c_container_heap_up {H : AH} {b_h : Nat} {b_h_ : Nat} {hd_h_2 : Value} {fp_h_2 : Fp} {hd_h_7 : Value} {fp_h_7 : Fp} {b_h_8 : Nat} {h_2 : List (Bool × List (Int × Int × Int) × List (Int × Int × Int))} {h_3 : Int} {h_4 : Int} {h_5 : Int} {h_6 : Int} {h_7 : List (Int × Int)} {h_8 : Int -> Option (Int × Int × Int)} {j : Int} {r : List (Int × Int)}
    (wf : WF H) (h_h_2 : Nd enc_i64_u64_i64 3 H hd_h_2 h_2 fp_h_2 []) (h_h_ : Row H b_h_ [hd_h_2, i_ h_3, i_ h_4]) (h_h_7 : Ow enc_u64_i64 2 H hd_h_7 h_7 fp_h_7) (h_h_8 : Ms .i64 enc_u64_i64_i64 H b_h_8 h_8) (h_h : Row H b_h [pt_ b_h_ 0, i_ h_5, i_ h_6, hd_h_7, .map (some b_h_8)]) (dj_fp_h_7_b_h : Dj fp_h_7 [b_h]) (hr : z_container_heap_up h_2 h_3 h_4 h_5 h_6 h_7 h_8 j = some r) :
    ACalls Tryz.prog 104 #[.iface 184 (pt_ b_h 3), i_ j] H fun v H' => v = .tuple #[] /\ FrS fp_h_7 H H' /\ Ow enc_u64_i64 2 H' hd_h_7 r fp_h_7 := by
 refine ab_ Tryz.func104 ?_
 unfold z_container_heap_up at hr
 obtain ⟨o3, hx4, r5⟩ := bs_ hr
 refine w_mid (fun α H6 => Has α [] /\ FrS fp_h_7 H H6 /\ Ow enc_u64_i64 2 H6 hd_h_7 o3 fp_h_7) (fun _ k10 => ?_) (fun α H6 hM => ?_)
 ·refine w_block ?_
  obtain ⟨n12, hn13⟩ := loopO_iff.1 hx4
  refine w_loopn (fun n α H14 => ∃ (h0 : List (Int × Int)), ∃ (j1 : Int), iterO (fun zz_ => z_container_heap_up_l0 zz_.1 zz_.2) n (h0, j1) = some o3 /\ Has α [(0, .iface 184 (pt_ b_h 3)), (1, i_ j1)] /\ FrS fp_h_7 H H14 /\ Ow enc_u64_i64 2 H14 hd_h_7 h0 fp_h_7) n12 ⟨h_7, j, hn13, ha_, (fr_ wf), h_h_7⟩ ?_
  rintro n12 α H14 ⟨h0, j1, hi19, hh18, e15, m17⟩ K24 k24
  obtain ⟨n20, z21, rfl, hz22, hn23⟩ := iter_succ hi19
  obtain ⟨β, rfl⟩ := has_ex hh18
  clear hh18
  replace hz22 : z_container_heap_up_l0 h0 j1 = some z21 := hz22
  unfold z_container_heap_up_l0 at hz22
  refine w_block (sq_ fun k25 => g_' (q_ (i_ j1) ?_))
  obtain ⟨g26, r27⟩ := G_some hz22
  refine w_' ((j1 - 1)) (wrap64 g26) ?_
  obtain ⟨g28, r29⟩ := G_some r27
  refine w_' ((Int.tdiv (j1 - 1) 2)) (wrap64 g28) (q_ (i_ (Int.tdiv (j1 - 1) 2)) (s_nil (k25 _ _ (sq_ fun k30 => sq_ fun k31 => ?_))))
  obtain ⟨o32, hx33, r34⟩ := bs_ r29
  refine w_mid (fun α H35 => Has α [(0, .iface 184 (pt_ b_h 3)), (1, i_ j1), (4, i_ (Int.tdiv (j1 - 1) 2)), (17, .bool o32)] /\ H14 = H35) (fun _ k37 => ?_) (fun α H35 hM => ?_)
  ·refine g_' (q_ (i_ (Int.tdiv (j1 - 1) 2)) (q_ (i_ j1) ?_))
   refine sb_ ((Int.tdiv (j1 - 1) 2) = j1) (fun h39 => ?_) fun h39 => ?_
   ·have r40 := ite_t h39 hx33
    refine q_ (.bool true) (n_' (n_' (n_' (n_' (n_' (q_ (.bool true) (s_nil ?_)))))))
    obtain rfl := oi_ r40
    exact k37 _ _ ⟨ha_, rfl⟩
   have r41 := ite_f h39 hx33
   refine q_ (.bool false) (q_ (.iface 184 (pt_ b_h 3)) (q_ (i_ j1) (q_ (i_ (Int.tdiv (j1 - 1) 2)) ?_)))
   obtain ⟨y42, hy43, r44⟩ := bs_ r41
   have u45 := (h_h.frS e15 dj_fp_h_7_b_h)
   refine s_cl 147 105 ⟨b_h, 3, none⟩ #[i_ j1, i_ (Int.tdiv (j1 - 1) 2)] (hd_h_7) #[hd_h_7, i_ j1, i_ (Int.tdiv (j1 - 1) 2)] (by kernel_rfl) (by kernel_rfl) (u45.l_) (c_witness_queue_Less e15.wf m17.sq hy43) ?_
   rintro _ _ ⟨rfl, rfl⟩
   refine q_ (.bool (!y42)) (q_ (.bool (!y42)) (s_nil ?_))
   obtain rfl := oi_ r44
   exact k37 _ _ ⟨ha_, rfl⟩
  obtain ⟨hh38, rfl⟩ := hM
  obtain ⟨β, rfl⟩ := has_ex hh38
  clear hh38
  refine k31 _ _ ?_
  refine wb_ (o32) (fun h48 => ?_) fun h48 => ?_
  ·have r49 := ite_t h48 r34
   refine w_exit (th_exit (bl_ne (by decide) (th_exit (bl_eq ?_))))
   obtain rfl := oi_ r49
   obtain rfl := it_inr hn23
   exact k10 _ _ ⟨trivial, (fs_ wf (fr_ wf) e15 ir_), m17⟩
  have r50 := ite_bf h48 r34
  refine w_skip (k30 _ _ (sq_ fun k51 => g_' (q_ (.iface 184 (pt_ b_h 3)) (q_ (i_ (Int.tdiv (j1 - 1) 2)) (q_ (i_ j1) ?_)))))
  obtain ⟨y52, hy53, r54⟩ := bs_ r50
  have u55 := (h_h.frS e15 dj_fp_h_7_b_h)
  refine s_cl 148 105 ⟨b_h, 3, none⟩ #[i_ (Int.tdiv (j1 - 1) 2), i_ j1] (hd_h_7) #[hd_h_7, i_ (Int.tdiv (j1 - 1) 2), i_ j1] (by kernel_rfl) (by kernel_rfl) (u55.l_) (c_witness_queue_Swap e15.wf m17 hy53) ?_
  rintro _ H56 ⟨rfl, e57, m58⟩
  refine s_nil (k51 _ _ (g_' (q_ (i_ (Int.tdiv (j1 - 1) 2)) (q_ (i_ (Int.tdiv (j1 - 1) 2)) (s_nil ?_)))))
  obtain rfl := oi_ r54
  exact k24 n20 _ _ lt_ ⟨y52, (Int.tdiv (j1 - 1) 2), hn23, ha_, (fs_ wf (fs_ wf (fr_ wf) e15 ir_) e57 ir_), m58⟩
 obtain ⟨hh11, e7, m9⟩ := hM
 obtain ⟨β, rfl⟩ := has_ex hh11
 clear hh11
 refine b_nrm (vs := []) (rfl) ?_
 obtain rfl := oi_ r5
 exact ⟨rfl, (fs_ wf (fr_ wf) e7 ir_), m9⟩
theorem c_container_heap_Push {H : AH} {b_h : Nat} {b_h_ : Nat} {hd_h_2 : Value} {fp_h_2 : Fp} {hd_h_7 : Value} {fp_h_7 : Fp} {b_h_8 : Nat} {h_2 : List (Bool × List (Int × Int × Int) × List (Int × Int × Int))} {h_3 : Int} {h_4 : Int} {h_5 : Int} {h_6 : Int} {h_7 : List (Int × Int)} {h_8 : Int -> Option (Int × Int × Int)} {dist : Int} {node : Int} {r : List (Int × Int)}
    (wf : WF H) (h_h_2 : Nd enc_i64_u64_i64 3 H hd_h_2 h_2 fp_h_2 []) (h_h_ : Row H b_h_ [hd_h_2, i_ h_3, i_ h_4]) (h_h_7 : Ow enc_u64_i64 2 H hd_h_7 h_7 fp_h_7) (h_h_8 : Ms .i64 enc_u64_i64_i64 H b_h_8 h_8) (h_h : Row H b_h [pt_ b_h_ 0, i_ h_5, i_ h_6, hd_h_7, .map (some b_h_8)]) (dj_fp_h_7_b_h : Dj fp_h_7 [b_h]) (dj_fp_h_7_fp_h_2 : Dj fp_h_7 fp_h_2) (dj_b_h_fp_h_2 : Dj [b_h] fp_h_2) (dj_fp_h_7_b_h_ : Dj fp_h_7 [b_h_]) (dj_b_h_b_h_ : Dj [b_h] [b_h_]) (dj_fp_h_7_b_h_8 : Dj fp_h_7 [b_h_8]) (dj_b_h_b_h_8 : Dj [b_h] [b_h_8]) (hr : z_container_heap_Push h_2 h_3 h_4 h_5 h_6 h_7 h_8 dist node = some r) :
    ACalls Tryz.prog 88 #[.iface 184 (pt_ b_h 3), .iface 186 (.agg #[.int .u64 dist, i_ node])] H fun v H' => ∃ (s3 : Value) (f4 : Fp), v = .tuple #[] /\ FrS ([b_h] ++ fp_h_7) H H' /\ Ow enc_u64_i64 2 H' s3 r f4 /\ Row H' b_h [pt_ b_h_ 0, i_ h_5, i_ h_6, s3, .map (some b_h_8)] /\ Inn fp_h_7 H f4 := by
 refine ab_ Tryz.func88 ?_
 unfold z_container_heap_Push at hr
 refine sq_ fun k8 => g_' (q_ (.iface 184 (pt_ b_h 3)) (q_ (.iface 186 (.agg #[.int .u64 dist, i_ node])) ?_))
 obtain ⟨y9, hy10, r11⟩ := bs_ hr
 refine ck_ (c_witness_queue_Push wf h_h_2 h_h_ h_h_7 h_h_8 h_h dj_fp_h_7_b_h hy10) ?_
 rintro _ H14 ⟨s12, f13, rfl, e15, m16, m17, i18⟩
 obtain ⟨a20, n21, c22, rfl⟩ := m16.form
 refine s_nil (k8 _ _ (g_' (q_ (.iface 184 (pt_ b_h 3)) (q_ (.iface 184 (pt_ b_h 3)) ?_))))
 obtain ⟨y23, hy24, r25⟩ := bs_ r11
 refine s_cl 146 105 ⟨b_h, 3, none⟩ #[] (.slice a20 n21 c22) #[.slice a20 n21 c22] (by kernel_rfl) (by kernel_rfl) (m17.l_) (c_witness_queue_Len e15.wf m16.sq hy24) ?_
 rintro _ _ ⟨rfl, rfl⟩
 obtain ⟨g28, r29⟩ := G_some r25
 refine w_' ((y23 - 1)) (wrap64 g28) ?_
 have u30 := (h_h_2.fr e15 (Dj.app dj_b_h_fp_h_2 dj_fp_h_7_fp_h_2))
 have u31 := (h_h_.frS e15 (Dj.app dj_b_h_b_h_ dj_fp_h_7_b_h_))
 have u32 := (h_h_8.frS e15 (Dj.app dj_b_h_b_h_8 dj_fp_h_7_b_h_8))
 have d33 := (i18.dj dj_fp_h_7_b_h h_h.ltF)
 obtain ⟨y34, hy35, r36⟩ := bs_ r29
 refine ck_ (c_container_heap_up e15.wf u30 u31 m16 u32 m17 d33 hy35) ?_
 rintro _ H37 ⟨rfl, e38, m39⟩
 refine s_nil ?_
 refine b_nrm (vs := []) (rfl) ?_
 have u40 := (m17.frS e38 d33)
 obtain rfl := oi_ r36
 exact ⟨(.slice a20 n21 c22), f13, rfl, (fs_ wf (fs_ wf (fr_ wf) e15 ir_) e38 (Inn.trans (Inn.right ir_) (Nat.le_refl _) i18)), m39, u40, (Inn.trans ir_ (Nat.le_refl _) i18)⟩
theorem c_witness_seek_set {H : AH} {b_s : Nat} {b_s_ : Nat} {hd_s_2 : Value} {fp_s_2 : Fp} {hd_s_7 : Value} {fp_s_7 : Fp} {b_s_8 : Nat} {s_2 : List (Bool × List (Int × Int × Int) × List (Int × Int × Int))} {s_3 : Int} {s_4 : Int} {s_5 : Int} {s_6 : Int} {s_7 : List (Int × Int)} {s_8 : Int -> Option (Int × Int × Int)} {v_ : Int} {dist : Int} {hops : Int} {settled : Int} {r : (Int -> Option (Int × Int × Int)) × List (Int × Int)}
    (wf : WF H) (h_s_2 : Nd enc_i64_u64_i64 3 H hd_s_2 s_2 fp_s_2 []) (h_s_ : Row H b_s_ [hd_s_2, i_ s_3, i_ s_4]) (h_s_7 : Ow enc_u64_i64 2 H hd_s_7 s_7 fp_s_7) (h_s_8 : Ms .i64 enc_u64_i64_i64 H b_s_8 s_8) (h_s : Row H b_s [pt_ b_s_ 0, i_ s_5, i_ s_6, hd_s_7, .map (some b_s_8)]) (dj_b_s_8_fp_s_2 : Dj [b_s_8] fp_s_2) (dj_b_s_8_b_s_ : Dj [b_s_8] [b_s_]) (dj_b_s_8_fp_s_7 : Dj [b_s_8] fp_s_7) (dj_b_s_8_b_s : Dj [b_s_8] [b_s]) (dj_fp_s_7_b_s : Dj fp_s_7 [b_s]) (dj_fp_s_7_fp_s_2 : Dj fp_s_7 fp_s_2) (dj_b_s_fp_s_2 : Dj [b_s] fp_s_2) (dj_fp_s_7_b_s_ : Dj fp_s_7 [b_s_]) (dj_b_s_b_s_ : Dj [b_s] [b_s_]) (hr : z_witness_seek_set s_2 s_3 s_4 s_5 s_6 s_7 s_8 v_ dist hops settled = some r) :
    ACalls Tryz.prog 64 #[pt_ b_s 0, i_ v_, .agg #[.int .u64 dist, i_ hops, i_ settled]] H fun v H' => ∃ (s5 : Value) (f6 : Fp), v = .tuple #[] /\ FrS ([b_s] ++ ([b_s_8] ++ fp_s_7)) H H' /\ Ms .i64 enc_u64_i64_i64 H' b_s_8 r.1 /\ Ow enc_u64_i64 2 H' s5 r.2 f6 /\ Row H' b_s [pt_ b_s_ 0, i_ s_5, i_ s_6, s5, .map (some b_s_8)] /\ Inn fp_s_7 H f6 := by
 refine ab_ Tryz.func64 ?_
 unfold z_witness_seek_set at hr
 refine sq_ fun k10 => g_' ?_
 refine rl_ wf [.int .u64 dist, i_ hops, i_ settled] fun b11 H12 e13 hb14 r15 => ?_
 refine s_nil (k10 _ _ (sq_ fun k17 => ?_))
 refine w_draw [0, 1, 2, 3, 4, 5, 6] (by kernel_rfl) ?_
 refine e_' (pt_ b_s 0) (e_' (pt_ b_s 0) (e_' (pt_ b_s 4) ?_))
 have u18 := (h_s.ext e13)
 refine mr_ 103 4 (.map (some b_s_8)) u18 (e_' (i_ v_) (mr_ 110 0 (.agg #[.int .u64 dist, i_ hops, i_ settled]) r15 ?_))
 have u23 := (h_s_8.ext e13)
 obtain ⟨H19, q21, e20, mp22⟩ := u23.put (P := Tryz.prog) e13.wf (t := 103) (zv := .agg #[.int .u64 0, i_ 0, i_ 0]) (val := .agg #[.int .u64 dist, i_ hops, i_ settled]) (by kernel_rfl) v_ (dist, hops, settled) rfl
 have e24 := e20.frS (W := [b_s_8]) (List.mem_singleton.2 rfl)
 refine fk_ q21 (st_nil) ?_
 refine d_nil ?_
 refine k17 _ _ ?_
 refine w_draw [0, 1, 2, 3, 4, 5, 6, 7, 8, 9] (by kernel_rfl) ?_
 refine e_' (pt_ b_s 0) (e_' (pt_ b_s 0) (e_' (pt_ b_s 3) (e_' (.iface 184 (pt_ b_s 3)) (e_' (pt_ b11 0) ?_))))
 have d25 := (hb14.djn h_s_8.ltF)
 have u26 := (r15.frS e24 (Dj.symm d25))
 refine mr_ 27 0 (.int .u64 dist) u26 (e_' (i_ v_) (e_' (.agg #[.int .u64 dist, i_ v_]) (e_' (.iface 186 (.agg #[.int .u64 dist, i_ v_])) ?_)))
 have u27 := ((h_s_2.ext e13).fr e24 dj_b_s_8_fp_s_2)
 have u28 := ((h_s_.ext e13).frS e24 dj_b_s_8_b_s_)
 have u29 := ((h_s_7.ext e13).fr e24 dj_b_s_8_fp_s_7)
 have u30 := (u18.frS e24 dj_b_s_8_b_s)
 obtain ⟨y31, hy32, r33⟩ := bs_ hr
 refine dk_ (c_container_heap_Push e24.wf u27 u28 u29 mp22 u30 dj_fp_s_7_b_s dj_fp_s_7_fp_s_2 dj_b_s_fp_s_2 dj_fp_s_7_b_s_ dj_b_s_b_s_ (Dj.symm dj_b_s_8_fp_s_7) (Dj.symm dj_b_s_8_b_s) hy32) ?_
 rintro _ H36 ⟨s34, f35, rfl, e37, m38, m39, i40⟩
 obtain ⟨a42, n43, c44, rfl⟩ := m38.form
 refine ⟨st_nil, ?_⟩
 refine d_nil ?_
 refine b_nrm (vs := []) (rfl) ?_
 have u45 := (mp22.frS e37 (Dj.app (Dj.symm dj_b_s_8_b_s) (Dj.symm dj_b_s_8_fp_s_7)))
 have n46 := (t_ e13.n e24.n)
 obtain rfl := oi_ r33
 exact ⟨(.slice a42 n43 c44), f35, rfl, (fs_ wf (fs_ wf ((fr_ wf).extR e13) e24 (Inn.right Inn.left)) e37 (Inn.app Inn.left (Inn.right (Inn.right ir_)))), u45, m38, m39, (Inn.trans ir_ n46 i40)⟩
end Go.Vd

/-! (KWf6) -/

set_option maxRecDepth 100000
set_option maxHeartbeats 4000000
set_option linter.unusedVariables false
namespace Go.Vd
open Go.Proofs
attribute [local irreducible] wpSeq wpOrd aWp
theorem c_container_heap_down {H : AH} {b_h : Nat} {b_h_ : Nat} {hd_h_2 : Value} {fp_h_2 : Fp} {hd_h_7 : Value} {fp_h_7 : Fp} {b_h_8 : Nat} {h_2 : List (Bool × List (Int × Int × Int) × List (Int × Int × Int))} {h_3 : Int} {h_4 : Int} {h_5 : Int} {h_6 : Int} {h_7 : List (Int × Int)} {h_8 : Int -> Option (Int × Int × Int)} {i0 : Int} {n_ : Int} {r : Bool × List (Int × Int)}
    (wf : WF H) (h_h_2 : Nd enc_i64_u64_i64 3 H hd_h_2 h_2 fp_h_2 []) (h_h_ : Row H b_h_ [hd_h_2, i_ h_3, i_ h_4]) (h_h_7 : Ow enc_u64_i64 2 H hd_h_7 h_7 fp_h_7) (h_h_8 : Ms .i64 enc_u64_i64_i64 H b_h_8 h_8) (h_h : Row H b_h [pt_ b_h_ 0, i_ h_5, i_ h_6, hd_h_7, .map (some b_h_8)]) (dj_fp_h_7_b_h : Dj fp_h_7 [b_h]) (hr : z_container_heap_down h_2 h_3 h_4 h_5 h_6 h_7 h_8 i0 n_ = some r) :
    ACalls Tryz.prog 105 #[.iface 184 (pt_ b_h 3), i_ i0, i_ n_] H fun v H' => v = .bool r.1 /\ FrS fp_h_7 H H' /\ Ow enc_u64_i64 2 H' hd_h_7 r.2 fp_h_7 := by
 refine ab_ Tryz.func105 ?_
 unfold z_container_heap_down at hr
 refine sq_ fun k3 => g_' (q_ (.bool false) (s_nil (k3 _ _ (sq_ fun k4 => g_' (q_ (i_ i0) (q_ (i_ i0) (s_nil (k4 _ _ (sq_ fun k5 => ?_)))))))))
 obtain ⟨o6, hx7, r8⟩ := bs_ hr
 refine w_mid (fun α H9 => Has α [(1, i_ i0), (7, i_ o6.1)] /\ FrS fp_h_7 H H9 /\ Ow enc_u64_i64 2 H9 hd_h_7 o6.2 fp_h_7) (fun _ k13 => ?_) (fun α H9 hM => ?_)
 ·refine w_block ?_
  obtain ⟨n15, hn16⟩ := loopO_iff.1 hx7
  refine w_loopn (fun n α H17 => ∃ (h0 : List (Int × Int)), ∃ (i1 : Int), iterO (fun zz_ => z_container_heap_down_l0 n_ zz_.1 zz_.2) n (h0, i1) = some o6 /\ Has α [(0, .iface 184 (pt_ b_h 3)), (1, i_ i0), (2, i_ n_), (7, i_ i1)] /\ FrS fp_h_7 H H17 /\ Ow enc_u64_i64 2 H17 hd_h_7 h0 fp_h_7) n15 ⟨h_7, i0, hn16, ha_, (fr_ wf), h_h_7⟩ ?_
  rintro n15 α H17 ⟨h0, i1, hi22, hh21, e18, m20⟩ K27 k27
  obtain ⟨n23, z24, rfl, hz25, hn26⟩ := iter_succ hi22
  obtain ⟨β, rfl⟩ := has_ex hh21
  clear hh21
  replace hz25 : z_container_heap_down_l0 n_ h0 i1 = some z24 := hz25
  unfold z_container_heap_down_l0 at hz25
  refine w_block (sq_ fun k28 => g_' (q_ (i_ i1) ?_))
  obtain ⟨g29, r30⟩ := G_some hz25
  refine w_' ((2 * i1)) (wrap64 g29) ?_
  obtain ⟨g31, r32⟩ := G_some r30
  refine w_' (((2 * i1) + 1)) (wrap64 g31) (q_ (i_ ((2 * i1) + 1)) (s_nil (k28 _ _ (sq_ fun k33 => sq_ fun k34 => ?_))))
  obtain ⟨o35, hx36, r37⟩ := bs_ r32
  refine w_mid (fun α H38 => Has α [(0, .iface 184 (pt_ b_h 3)), (1, i_ i0), (2, i_ n_), (7, i_ i1), (8, i_ ((2 * i1) + 1)), (21, .bool o35)] /\ H17 = H38) (fun _ k40 => ?_) (fun α H38 hM => ?_)
  ·refine g_' (q_ (i_ ((2 * i1) + 1)) (q_ (i_ n_) ?_))
   refine sb_ (((2 * i1) + 1) ≥ n_) (fun h42 => ?_) fun h42 => ?_
   ·have r43 := ite_t h42 hx36
    refine q_ (.bool true) (n_' (n_' (q_ (.bool true) (s_nil ?_))))
    obtain rfl := oi_ r43
    exact k40 _ _ ⟨ha_, rfl⟩
   have r44 := ite_f h42 hx36
   refine q_ (.bool false) (q_ (i_ ((2 * i1) + 1)) (q_ (.bool (decide (((2 * i1) + 1) < 0))) (q_ (.bool (decide (((2 * i1) + 1) < 0))) (s_nil ?_))))
   obtain rfl := oi_ r44
   exact k40 _ _ ⟨ha_, rfl⟩
  obtain ⟨hh41, rfl⟩ := hM
  obtain ⟨β, rfl⟩ := has_ex hh41
  clear hh41
  refine k34 _ _ ?_
  refine wb_ (o35) (fun h45 => ?_) fun h45 => ?_
  ·have r46 := ite_t h45 r37
   refine w_exit (th_exit (bl_ne (by decide) (th_exit (bl_eq ?_))))
   obtain rfl := oi_ r46
   obtain rfl := it_inr hn26
   exact k13 _ _ ⟨ha_, (fs_ wf (fr_ wf) e18 ir_), m20⟩
  have r47 := ite_bf h45 r37
  refine w_skip (k33 _ _ (sq_ fun k48 => g_' (q_ (i_ ((2 * i1) + 1)) (q_ (i_ ((2 * i1) + 1)) (s_nil (k48 _ _ (sq_ fun k49 => sq_ fun k50 => g_' (q_ (i_ ((2 * i1) + 1)) ?_))))))))
  obtain ⟨g51, r52⟩ := G_some r47
  refine w_' ((((2 * i1) + 1) + 1)) (wrap64 g51) (q_ (i_ (((2 * i1) + 1) + 1)) (s_nil (k50 _ _ (sq_ fun k53 => ?_))))
  obtain ⟨o54, hx55, r56⟩ := bs_ r52
  refine w_mid (fun α H57 => Has α [(0, .iface 184 (pt_ b_h 3)), (1, i_ i0), (2, i_ n_), (7, i_ i1), (9, i_ ((2 * i1) + 1)), (10, i_ (((2 * i1) + 1) + 1)), (33, .bool o54)] /\ H17 = H57) (fun _ k59 => ?_) (fun α H57 hM => ?_)
  ·refine g_' (q_ (i_ (((2 * i1) + 1) + 1)) (q_ (i_ n_) ?_))
   refine sb_ ((((2 * i1) + 1) + 1) < n_) (fun h61 => ?_) fun h61 => ?_
   ·have r62 := ite_t h61 hx55
    refine q_ (.bool true) (q_ (.iface 184 (pt_ b_h 3)) (q_ (i_ (((2 * i1) + 1) + 1)) (q_ (i_ ((2 * i1) + 1)) ?_)))
    obtain ⟨y63, hy64, r65⟩ := bs_ r62
    have u66 := (h_h.frS e18 dj_fp_h_7_b_h)
    refine s_cl 147 105 ⟨b_h, 3, none⟩ #[i_ (((2 * i1) + 1) + 1), i_ ((2 * i1) + 1)] (hd_h_7) #[hd_h_7, i_ (((2 * i1) + 1) + 1), i_ ((2 * i1) + 1)] (by kernel_rfl) (by kernel_rfl) (u66.l_) (c_witness_queue_Less e18.wf m20.sq hy64) ?_
    rintro _ _ ⟨rfl, rfl⟩
    refine q_ (.bool y63) (s_nil ?_)
    obtain rfl := oi_ r65
    exact k59 _ _ ⟨ha_, rfl⟩
   have r69 := ite_f h61 hx55
   refine q_ (.bool false) (n_' (n_' (n_' (n_' (q_ (.bool false) (s_nil ?_))))))
   obtain rfl := oi_ r69
   exact k59 _ _ ⟨ha_, rfl⟩
  obtain ⟨hh60, rfl⟩ := hM
  obtain ⟨β, rfl⟩ := has_ex hh60
  clear hh60
  refine k53 _ _ ?_
  obtain ⟨o70, hx71, r72⟩ := bs_ r56
  refine w_mid (fun α H73 => Has α [(0, .iface 184 (pt_ b_h 3)), (1, i_ i0), (2, i_ n_), (7, i_ i1), (9, i_ o70)] /\ H17 = H73) (fun _ k75 => ?_) (fun α H73 hM => ?_)
  ·refine wb_ (o54) (fun h77 => ?_) fun h77 => ?_
   ·have r78 := ite_t h77 hx71
    refine g_' (q_ (i_ (((2 * i1) + 1) + 1)) (q_ (i_ (((2 * i1) + 1) + 1)) (s_nil ?_)))
    obtain rfl := oi_ r78
    exact k75 _ _ ⟨ha_, rfl⟩
   have r79 := ite_bf h77 hx71
   refine w_skip ?_
   obtain rfl := oi_ r79
   exact k75 _ _ ⟨ha_, rfl⟩
  obtain ⟨hh76, rfl⟩ := hM
  obtain ⟨β, rfl⟩ := has_ex hh76
  clear hh76
  refine k49 _ _ (sq_ fun k80 => sq_ fun k81 => g_' (q_ (.iface 184 (pt_ b_h 3)) (q_ (i_ o70) (q_ (i_ i1) ?_))))
  obtain ⟨y82, hy83, r84⟩ := bs_ r72
  have u85 := (h_h.frS e18 dj_fp_h_7_b_h)
  refine s_cl 147 105 ⟨b_h, 3, none⟩ #[i_ o70, i_ i1] (hd_h_7) #[hd_h_7, i_ o70, i_ i1] (by kernel_rfl) (by kernel_rfl) (u85.l_) (c_witness_queue_Less e18.wf m20.sq hy83) ?_
  rintro _ _ ⟨rfl, rfl⟩
  refine q_ (.bool (!y82)) (s_nil (k81 _ _ ?_))
  refine wb_ ((!y82)) (fun h88 => ?_) fun h88 => ?_
  ·have r89 := ite_t h88 r84
   refine w_exit (th_exit (bl_ne (by decide) (th_exit (bl_eq ?_))))
   obtain rfl := oi_ r89
   obtain rfl := it_inr hn26
   exact k13 _ _ ⟨ha_, (fs_ wf (fr_ wf) e18 ir_), m20⟩
  have r90 := ite_bf h88 r84
  refine w_skip (k80 _ _ (sq_ fun k91 => g_' (q_ (.iface 184 (pt_ b_h 3)) (q_ (i_ i1) (q_ (i_ o70) ?_)))))
  obtain ⟨y92, hy93, r94⟩ := bs_ r90
  refine s_cl 148 105 ⟨b_h, 3, none⟩ #[i_ i1, i_ o70] (hd_h_7) #[hd_h_7, i_ i1, i_ o70] (by kernel_rfl) (by kernel_rfl) (u85.l_) (c_witness_queue_Swap e18.wf m20 hy93) ?_
  rintro _ H95 ⟨rfl, e96, m97⟩
  refine s_nil (k91 _ _ (g_' (q_ (i_ o70) (q_ (i_ o70) (s_nil ?_)))))
  obtain rfl := oi_ r94
  exact k27 n23 _ _ lt_ ⟨y92, o70, hn26, ha_, (fs_ wf (fs_ wf (fr_ wf) e18 ir_) e96 ir_), m97⟩
 obtain ⟨hh14, e10, m12⟩ := hM
 obtain ⟨β, rfl⟩ := has_ex hh14
 clear hh14
 refine k5 _ _ (sq_ fun k98 => g_' (q_ (i_ o6.1) (q_ (i_ i0) (q_ (.bool (decide (o6.1 > i0))) (q_ (.bool (decide (o6.1 > i0))) (s_nil (k98 _ _ ?_)))))))
 refine w_ret ?_
 refine br_ [.bool (decide (o6.1 > i0))] ?_
 obtain rfl := oi_ r8
 exact ⟨rfl, (fs_ wf (fr_ wf) e10 ir_), m12⟩
theorem c_witness_queue_Pop {H : AH} {b_q : Nat} {b_q_ : Nat} {hd_q_2 : Value} {fp_q_2 : Fp} {hd_q_7 : Value} {fp_q_7 : Fp} {b_q_8 : Nat} {q_2 : List (Bool × List (Int × Int × Int) × List (Int × Int × Int))} {q_3 : Int} {q_4 : Int} {q_5 : Int} {q_6 : Int} {q_7 : List (Int × Int)} {q_8 : Int -> Option (Int × Int × Int)} {r : Int × Int × List (Int × Int)}
    (wf : WF H) (h_q_2 : Nd enc_i64_u64_i64 3 H hd_q_2 q_2 fp_q_2 []) (h_q_ : Row H b_q_ [hd_q_2, i_ q_3, i_ q_4]) (h_q_7 : Ow enc_u64_i64 2 H hd_q_7 q_7 fp_q_7) (h_q_8 : Ms .i64 enc_u64_i64_i64 H b_q_8 q_8) (h_q : Row H b_q [pt_ b_q_ 0, i_ q_5, i_ q_6, hd_q_7, .map (some b_q_8)]) (dj_b_q_fp_q_7 : Dj [b_q] fp_q_7) (hr : z_witness_queue_Pop q_2 q_3 q_4 q_5 q_6 q_7 q_8 = some r) :
    ACalls Tryz.prog 155 #[pt_ b_q 3] H fun v H' => ∃ (s3 : Value), v = .iface 186 (.agg #[.int .u64 r.1, i_ r.2.1]) /\ FrS [b_q] H H' /\ Ow enc_u64_i64 2 H' s3 r.2.2 fp_q_7 /\ Row H' b_q [pt_ b_q_ 0, i_ q_5, i_ q_6, s3, .map (some b_q_8)] := by
 refine ab_ Tryz.func155 ?_
 unfold z_witness_queue_Pop at hr
 refine sq_ fun k6 => g_' (q_ (.nilIface) (s_nil (k6 _ _ (sq_ fun k7 => g_' (q_ (pt_ b_q 3) (q_ (pt_ b_q 3) (lr_ 105 3 (hd_q_7) h_q (h_q_7.sq.ln_ 105 ?_))))))))
 obtain ⟨g8, r9⟩ := G_some hr
 refine w_' (((q_7.length : Int) - 1)) (wrap64 g8) (q_ (i_ ((q_7.length : Int) - 1)) (s_nil (k7 _ _ (sq_ fun k10 => g_' (q_ (pt_ b_q 3) (q_ (pt_ b_q 3) (lr_ 105 3 (hd_q_7) h_q (q_ (i_ ((q_7.length : Int) - 1)) ?_))))))))
 obtain ⟨g11, r12⟩ := G_some r9
 refine h_q_7.sq.ix_ 105 g11.1 g11.2 (le_ 186 0 (.agg #[.int .u64 ((gt q_7 ((q_7.length : Int) - 1)).1), i_ ((gt q_7 ((q_7.length : Int) - 1)).2)]) h_q_7.sq g11.1 g11.2 ?_)
 refine rk_ wf [.int .u64 0, i_ 0] fun b13 H14 e15 hb16 r17 => ?_
 obtain ⟨H19, q20, e21, r22⟩ := ra_ 186 0 e15.wf r17 [.int .u64 ((gt q_7 ((q_7.length : Int) - 1)).1), i_ ((gt q_7 ((q_7.length : Int) - 1)).2)] [.int .u64 ((gt q_7 ((q_7.length : Int) - 1)).1), i_ ((gt q_7 ((q_7.length : Int) - 1)).2)]
 refine ek_ q20 (s_nil (k10 _ _ (sq_ fun k23 => g_' (q_ (pt_ b_q 3) (q_ (pt_ b_q 3) (q_ (pt_ b_q 3) ?_))))))
 have u24 := ((h_q.ext e15).frS e21 (hb16.djn h_q.ltF))
 refine lr_ 105 3 (hd_q_7) u24 (q_ (i_ ((q_7.length : Int) - 1)) ?_)
 obtain ⟨g25, r26⟩ := G_some r12
 have u30 := ((h_q_7.ext e15).fr e21 (hb16.djn h_q_7.lt))
 obtain ⟨s27, q28, hs29⟩ := Ow.head (P := Tryz.prog) u30 (t := 105) (by kernel_rfl) (hi := (some (i_ ((q_7.length : Int) - 1)))) (r := ((q_7.length : Int) - 1).toNat) (aBound_int _ (by have := g25; omega)) (by have := g25; omega)
 obtain ⟨a31, n32, c33, rfl⟩ := hs29.form
 refine s_ql (.slice a31 n32 c33) (by kernel_rfl) q28 ?_
 refine q_ (pt_ b_q 3) ?_
 obtain ⟨H35, q36, e37, r38⟩ := rb_ 105 3 e21.wf u24 (.slice a31 n32 c33) [pt_ b_q_ 0, i_ q_5, i_ q_6, .slice a31 n32 c33, .map (some b_q_8)]
 refine ek_ q36 (s_nil (k23 _ _ (sq_ fun k39 => g_' ?_)))
 have d40 := (hb16.djn h_q.ltF)
 have u41 := (r22.frS e37 (Dj.symm d40))
 refine lr_ 186 0 (.agg #[.int .u64 ((gt q_7 ((q_7.length : Int) - 1)).1), i_ ((gt q_7 ((q_7.length : Int) - 1)).2)]) u41 (q_ (.iface 186 (.agg #[.int .u64 ((gt q_7 ((q_7.length : Int) - 1)).1), i_ ((gt q_7 ((q_7.length : Int) - 1)).2)])) (q_ (.iface 186 (.agg #[.int .u64 ((gt q_7 ((q_7.length : Int) - 1)).1), i_ ((gt q_7 ((q_7.length : Int) - 1)).2)])) (s_nil (k39 _ _ ?_))))
 refine w_ret ?_
 refine br_ [.iface 186 (.agg #[.int .u64 ((gt q_7 ((q_7.length : Int) - 1)).1), i_ ((gt q_7 ((q_7.length : Int) - 1)).2)])] ?_
 have u42 := (hs29.fr e37 dj_b_q_fp_q_7)
 obtain rfl := oi_ r26
 exact ⟨(.slice a31 n32 c33), rfl, (fs_ wf (fs_ wf ((fr_ wf).extR e15) e21 (hb16.fresh (Nat.le_refl _))) e37 ir_), u42, r38⟩
theorem c_container_heap_Pop {H : AH} {b_h : Nat} {b_h_ : Nat} {hd_h_2 : Value} {fp_h_2 : Fp} {hd_h_7 : Value} {fp_h_7 : Fp} {b_h_8 : Nat} {h_2 : List (Bool × List (Int × Int × Int) × List (Int × Int × Int))} {h_3 : Int} {h_4 : Int} {h_5 : Int} {h_6 : Int} {h_7 : List (Int × Int)} {h_8 : Int -> Option (Int × Int × Int)} {r : Int × Int × List (Int × Int) × List (Int × Int)}
    (wf : WF H) (h_h_2 : Nd enc_i64_u64_i64 3 H hd_h_2 h_2 fp_h_2 []) (h_h_ : Row H b_h_ [hd_h_2, i_ h_3, i_ h_4]) (h_h_7 : Ow enc_u64_i64 2 H hd_h_7 h_7 fp_h_7) (h_h_8 : Ms .i64 enc_u64_i64_i64 H b_h_8 h_8) (h_h : Row H b_h [pt_ b_h_ 0, i_ h_5, i_ h_6, hd_h_7, .map (some b_h_8)]) (dj_fp_h_7_fp_h_2 : Dj fp_h_7 fp_h_2) (dj_fp_h_7_b_h_ : Dj fp_h_7 [b_h_]) (dj_fp_h_7_b_h_8 : Dj fp_h_7 [b_h_8]) (dj_fp_h_7_b_h : Dj fp_h_7 [b_h]) (hr : z_container_heap_Pop h_2 h_3 h_4 h_5 h_6 h_7 h_8 = some r) :
    ACalls Tryz.prog 89 #[.iface 184 (pt_ b_h 3)] H fun v H' => ∃ (s5 : Value), v = .iface 186 (.agg #[.int .u64 r.1, i_ r.2.1]) /\ FrS ([b_h] ++ fp_h_7) H H' /\ Ow enc_u64_i64 2 H' hd_h_7 r.2.2.1 fp_h_7 /\ Ow enc_u64_i64 2 H' s5 r.2.2.2 fp_h_7 /\ Row H' b_h [pt_ b_h_ 0, i_ h_5, i_ h_6, s5, .map (some b_h_8)] := by
 refine ab_ Tryz.func89 ?_
 unfold z_container_heap_Pop at hr
 refine sq_ fun k8 => g_' (q_ (.nilIface) (s_nil (k8 _ _ (sq_ fun k9 => g_' (q_ (.iface 184 (pt_ b_h 3)) ?_)))))
 obtain ⟨y10, hy11, r12⟩ := bs_ hr
 refine s_cl 146 105 ⟨b_h, 3, none⟩ #[] (hd_h_7) #[hd_h_7] (by kernel_rfl) (by kernel_rfl) (h_h.l_) (c_witness_queue_Len wf h_h_7.sq hy11) ?_
 rintro _ _ ⟨rfl, rfl⟩
 obtain ⟨g15, r16⟩ := G_some r12
 refine w_' ((y10 - 1)) (wrap64 g15) (q_ (i_ (y10 - 1)) (s_nil (k9 _ _ (sq_ fun k17 => g_' (q_ (.iface 184 (pt_ b_h 3)) (q_ (i_ (y10 - 1)) ?_))))))
 obtain ⟨y18, hy19, r20⟩ := bs_ r16
 refine s_cl 148 105 ⟨b_h, 3, none⟩ #[i_ 0, i_ (y10 - 1)] (hd_h_7) #[hd_h_7, i_ 0, i_ (y10 - 1)] (by kernel_rfl) (by kernel_rfl) (h_h.l_) (c_witness_queue_Swap wf h_h_7 hy19) ?_
 rintro _ H21 ⟨rfl, e22, m23⟩
 refine s_nil (k17 _ _ (sq_ fun k24 => g_' (q_ (.iface 184 (pt_ b_h 3)) (q_ (i_ (y10 - 1)) ?_))))
 have u25 := (h_h_2.fr e22 dj_fp_h_7_fp_h_2)
 have u26 := (h_h_.frS e22 dj_fp_h_7_b_h_)
 have u27 := (h_h_8.frS e22 dj_fp_h_7_b_h_8)
 have u28 := (h_h.frS e22 dj_fp_h_7_b_h)
 obtain ⟨y29, hy30, r31⟩ := bs_ r20
 refine ck_ (c_container_heap_down e22.wf u25 u26 m23 u27 u28 dj_fp_h_7_b_h hy30) ?_
 rintro _ H32 ⟨rfl, e33, m34⟩
 refine s_nil (k24 _ _ (sq_ fun k35 => g_' (q_ (.iface 184 (pt_ b_h 3)) ?_)))
 have u36 := (u25.fr e33 dj_fp_h_7_fp_h_2)
 have u37 := (u26.frS e33 dj_fp_h_7_b_h_)
 have u38 := (u27.frS e33 dj_fp_h_7_b_h_8)
 have u39 := (u28.frS e33 dj_fp_h_7_b_h)
 obtain ⟨y40, hy41, r42⟩ := bs_ r31
 refine ck_ (c_witness_queue_Pop e33.wf u36 u37 m34 u38 u39 (Dj.symm dj_fp_h_7_b_h) hy41) ?_
 rintro _ H44 ⟨s43, rfl, e45, m46, m47⟩
 obtain ⟨a49, n50, c51, rfl⟩ := m46.form
 refine q_ (.iface 186 (.agg #[.int .u64 y40.1, i_ y40.2.1])) (s_nil (k35 _ _ ?_))
 refine w_ret ?_
 refine br_ [.iface 186 (.agg #[.int .u64 y40.1, i_ y40.2.1])] ?_
 have u52 := (m34.fr e45 (Dj.symm dj_fp_h_7_b_h))
 obtain rfl := oi_ r42
 exact ⟨(.slice a49 n50 c51), rfl, (fs_ wf (fs_ wf (fs_ wf (fr_ wf) e22 (Inn.right ir_)) e33 (Inn.right ir_)) e45 Inn.left), u52, m46, m47⟩
theorem c_witness_seek_next {H : AH} {b_s : Nat} {b_s_ : Nat} {hd_s_2 : Value} {fp_s_2 : Fp} {hd_s_7 : Value} {fp_s_7 : Fp} {b_s_8 : Nat} {s_2 : List (Bool × List (Int × Int × Int) × List (Int × Int × Int))} {s_3 : Int} {s_4 : Int} {s_5 : Int} {s_6 : Int} {s_7 : List (Int × Int)} {s_8 : Int -> Option (Int × Int × Int)} {r : Int × Int × Int × Int × Bool × List (Int × Int)}
    (wf : WF H) (h_s_2 : Nd enc_i64_u64_i64 3 H hd_s_2 s_2 fp_s_2 []) (h_s_ : Row H b_s_ [hd_s_2, i_ s_3, i_ s_4]) (h_s_7 : Ow enc_u64_i64 2 H hd_s_7 s_7 fp_s_7) (h_s_8 : Ms .i64 enc_u64_i64_i64 H b_s_8 s_8) (h_s : Row H b_s [pt_ b_s_ 0, i_ s_5, i_ s_6, hd_s_7, .map (some b_s_8)]) (dj_fp_s_7_fp_s_2 : Dj fp_s_7 fp_s_2) (dj_fp_s_7_b_s_ : Dj fp_s_7 [b_s_]) (dj_fp_s_7_b_s_8 : Dj fp_s_7 [b_s_8]) (dj_fp_s_7_b_s : Dj fp_s_7 [b_s]) (dj_b_s_b_s_8 : Dj [b_s] [b_s_8]) (dj_b_s_fp_s_2 : Dj [b_s] fp_s_2) (dj_b_s_b_s_ : Dj [b_s] [b_s_]) (hr : z_witness_seek_next s_2 s_3 s_4 s_5 s_6 s_7 s_8 = some r) :
    ACalls Tryz.prog 65 #[pt_ b_s 0] H fun v H' => ∃ (s3 : Value), v = .tuple #[i_ r.1, .agg #[.int .u64 r.2.1, i_ r.2.2.1, i_ r.2.2.2.1], .bool r.2.2.2.2.1] /\ FrS ([b_s] ++ fp_s_7) H H' /\ Ow enc_u64_i64 2 H' s3 r.2.2.2.2.2 fp_s_7 /\ Row H' b_s [pt_ b_s_ 0, i_ s_5, i_ s_6, s3, .map (some b_s_8)] := by
 refine ab_ Tryz.func65 ?_
 unfold z_witness_seek_next at hr
 refine sq_ fun k6 => g_' (q_ (i_ 0) ?_)
 refine rk_ wf [.int .u64 0, i_ 0, i_ 0] fun b7 H8 e9 hb10 r11 => ?_
 refine q_ (.bool false) (s_nil (k6 _ _ (sq_ fun k13 => ?_)))
 obtain ⟨z17, hx15, r16⟩ := bs_ hr
 refine w_mid (fun α H18 => ∃ o14, z17 = Sum.inr o14 /\ ∃ (s22 : Value), Has α [(3, pt_ b7 0)] /\ FrS ([b_s] ++ fp_s_7) H8 H18 /\ Ow enc_u64_i64 2 H18 s22 o14 fp_s_7 /\ Row H18 b_s [pt_ b_s_ 0, i_ s_5, i_ s_6, s22, .map (some b_s_8)]) (fun _ k25 => ?_) (fun α H18 hM => ?_)
 ·refine w_block ?_
  obtain ⟨n27, hn28⟩ := loopO_iff.1 hx15
  have u42 := (h_s_7.ext e9)
  have u43 := (h_s.ext e9)
  refine w_loopn (fun n α H29 => ∃ (s0 : List (Int × Int)), ∃ (s33 : Value), iterO (fun zz_ => z_witness_seek_next_l0 s_2 s_3 s_4 s_5 s_6 s_8 zz_) n s0 = some z17 /\ Has α [(0, pt_ b_s 0), (3, pt_ b7 0)] /\ FrS ([b_s] ++ fp_s_7) H8 H29 /\ Ow enc_u64_i64 2 H29 s33 s0 fp_s_7 /\ Row H29 b_s [pt_ b_s_ 0, i_ s_5, i_ s_6, s33, .map (some b_s_8)]) n27 ⟨s_7, (hd_s_7), hn28, ha_, (fr_ e9.wf), u42, u43⟩ ?_
  rintro n27 α H29 ⟨s0, s33, hi37, hh36, e30, m32, m35⟩ K44 k44
  obtain ⟨n38, z39, rfl, hz40, hn41⟩ := iter_succ hi37
  obtain ⟨β, rfl⟩ := has_ex hh36
  clear hh36
  replace hz40 : z_witness_seek_next_l0 s_2 s_3 s_4 s_5 s_6 s_8 s0 = some z39 := hz40
  unfold z_witness_seek_next_l0 at hz40
  obtain ⟨a45, n46, c47, rfl⟩ := m32.form
  refine sq_ fun k48 => sq_ fun k49 => g_' (q_ (pt_ b_s 0) (q_ (pt_ b_s 0) (q_ (pt_ b_s 3) (lr_ 105 3 (.slice a45 n46 c47) m35 (m32.sq.ln_ 105 (q_ (.bool (decide ((s0.length : Int) > 0))) (s_nil (k49 _ _ ?_))))))))
  refine wc_ ((s0.length : Int) > 0) (fun h50 => ?_) fun h50 => ?_
  ·have r51 := ite_t h50 hz40
   refine w_skip (k48 _ _ (w_block (sq_ fun k52 => g_' (q_ (pt_ b_s 0) (q_ (pt_ b_s 0) (q_ (pt_ b_s 3) (q_ (.iface 184 (pt_ b_s 3)) ?_)))))))
   have u53 := ((h_s_2.ext e9).fr e30 (Dj.app dj_b_s_fp_s_2 dj_fp_s_7_fp_s_2))
   have u54 := ((h_s_.ext e9).frS e30 (Dj.app dj_b_s_b_s_ dj_fp_s_7_b_s_))
   have u55 := ((h_s_8.ext e9).frS e30 (Dj.app dj_b_s_b_s_8 dj_fp_s_7_b_s_8))
   obtain ⟨y56, hy57, r58⟩ := bs_ r51
   refine ck_ (c_container_heap_Pop e30.wf u53 u54 m32 u55 m35 dj_fp_s_7_fp_s_2 dj_fp_s_7_b_s_ dj_fp_s_7_b_s_8 dj_fp_s_7_b_s hy57) ?_
   rintro _ H60 ⟨s59, rfl, e61, m62, m63, m64⟩
   obtain ⟨a66, n67, c68, rfl⟩ := m63.form
   refine q_ (.agg #[.int .u64 y56.1, i_ y56.2.1]) ?_
   refine rk_ e61.wf [.int .u64 0, i_ 0] fun b69 H70 e71 hb72 r73 => ?_
   obtain ⟨H75, q76, e77, r78⟩ := ra_ 186 0 e71.wf r73 [.int .u64 y56.1, i_ y56.2.1] [.int .u64 y56.1, i_ y56.2.1]
   refine ek_ q76 (s_nil (k52 _ _ (sq_ fun k79 => ?_)))
   refine w_draw [0, 1, 2, 3, 4, 5, 6, 7, 8] (by kernel_rfl) ?_
   refine e_' (pt_ b_s 0) (e_' (pt_ b_s 0) (e_' (pt_ b_s 4) ?_))
   have n80 := (t_ (t_ e9.n e30.n) e61.n)
   have d81 := (hb72.djn (h_s.ltF.le n80))
   have u82 := ((m64.ext e71).frS e77 d81)
   refine mr_ 103 4 (.map (some b_s_8)) u82 (e_' (pt_ b69 1) (mr_ 3 1 (i_ y56.2.1) r78 ?_))
   have d83 := (hb72.djn (h_s_8.ltF.le n80))
   have u84 := (((u55.frS e61 (Dj.app dj_b_s_b_s_8 dj_fp_s_7_b_s_8)).ext e71).frS e77 d83)
   refine m_' (.agg #[.int .u64 (((s_8 y56.2.1).getD ((0, 0, 0) : Int × Int × Int)).1), i_ (((s_8 y56.2.1).getD ((0, 0, 0) : Int × Int × Int)).2.1), i_ (((s_8 y56.2.1).getD ((0, 0, 0) : Int × Int × Int)).2.2)]) (aLookup Tryz.prog 103 (.map (some b_s_8)) (i_ y56.2.1) false H75) (u84.look ((0, 0, 0) : Int × Int × Int) (zv := .agg #[.int .u64 0, i_ 0, i_ 0]) rfl (by kernel_rfl) (by kernel_rfl) _ rfl) ?_
   refine d_rwk e77.wf [.int .u64 0, i_ 0, i_ 0] (by kernel_rfl) fun b85 H86 e87 hb88 r89 => ?_
   obtain ⟨H91, q92, e93, r94⟩ := ra_ 110 0 e87.wf r89 [.int .u64 (((s_8 y56.2.1).getD ((0, 0, 0) : Int × Int × Int)).1), i_ (((s_8 y56.2.1).getD ((0, 0, 0) : Int × Int × Int)).2.1), i_ (((s_8 y56.2.1).getD ((0, 0, 0) : Int × Int × Int)).2.2)] [.int .u64 (((s_8 y56.2.1).getD ((0, 0, 0) : Int × Int × Int)).1), i_ (((s_8 y56.2.1).getD ((0, 0, 0) : Int × Int × Int)).2.1), i_ (((s_8 y56.2.1).getD ((0, 0, 0) : Int × Int × Int)).2.2)]
   refine fk_ q92 (st_nil) ?_
   refine d_nil ?_
   refine k79 _ _ (sq_ fun k95 => g_' (q_ (pt_ b85 2) (lr_ 3 2 (i_ (((s_8 y56.2.1).getD ((0, 0, 0) : Int × Int × Int)).2.2)) r94 ?_)))
   refine sb_ ((((s_8 y56.2.1).getD ((0, 0, 0) : Int × Int × Int)).2.2) = 0) (fun h96 => ?_) fun h96 => ?_
   ·have r97 := ite_t h96 r58
    refine q_ (.bool true) (q_ (pt_ b85 0) (lr_ 27 0 (.int .u64 (((s_8 y56.2.1).getD ((0, 0, 0) : Int × Int × Int)).1)) r94 (q_ (pt_ b69 0) ?_)))
    have d98 := (hb88.djn (r73.ltF.le e77.n))
    have u99 := ((r78.ext e87).frS e93 d98)
    refine lr_ 27 0 (.int .u64 y56.1) u99 (q_ (.bool (decide ((((s_8 y56.2.1).getD ((0, 0, 0) : Int × Int × Int)).1) = y56.1))) (q_ (.bool (decide ((((s_8 y56.2.1).getD ((0, 0, 0) : Int × Int × Int)).1) = y56.1))) (s_nil (k95 _ _ ?_))))
    refine wc_ ((((s_8 y56.2.1).getD ((0, 0, 0) : Int × Int × Int)).1) = y56.1) (fun h100 => ?_) fun h100 => ?_
    ·have r101 := ite_t h100 r97
     refine sq_ fun k102 => ?_
     refine w_draw [0, 1, 2, 3, 4, 5] (by kernel_rfl) ?_
     refine e_' (pt_ b69 1) (mr_ 3 1 (i_ y56.2.1) u99 (mr_ 110 0 (.agg #[.int .u64 (((s_8 y56.2.1).getD ((0, 0, 0) : Int × Int × Int)).1), i_ (((s_8 y56.2.1).getD ((0, 0, 0) : Int × Int × Int)).2.1), i_ (((s_8 y56.2.1).getD ((0, 0, 0) : Int × Int × Int)).2.2)]) r94 (e_' (i_ y56.2.1) ?_)))
     have d107 := (hb10.djn h_s_7.lt)
     have d108 := (hb10.djn h_s.ltF)
     have n109 := (t_ e30.n e61.n)
     have d110 := (hb72.djn (r11.ltF.le n109))
     have n111 := (t_ (t_ (t_ e30.n e61.n) e71.n) e77.n)
     have d112 := (hb88.djn (r11.ltF.le n111))
     have u113 := ((((((r11.frS e30 (Dj.app (Dj.symm d108) (Dj.symm d107))).frS e61 (Dj.app (Dj.symm d108) (Dj.symm d107))).ext e71).frS e77 d110).ext e87).frS e93 d112)
     obtain ⟨H103, q104, e105, r106⟩ := ra_ 110 0 e93.wf u113 [.int .u64 (((s_8 y56.2.1).getD ((0, 0, 0) : Int × Int × Int)).1), i_ (((s_8 y56.2.1).getD ((0, 0, 0) : Int × Int × Int)).2.1), i_ (((s_8 y56.2.1).getD ((0, 0, 0) : Int × Int × Int)).2.2)] [.int .u64 (((s_8 y56.2.1).getD ((0, 0, 0) : Int × Int × Int)).1), i_ (((s_8 y56.2.1).getD ((0, 0, 0) : Int × Int × Int)).2.1), i_ (((s_8 y56.2.1).getD ((0, 0, 0) : Int × Int × Int)).2.2)]
     refine fk_ q104 (st_nil) (e_' (.bool true) ?_)
     refine d_nil ?_
     refine k102 _ _ ?_
     refine w_ret (bl_ret (th_ret (bl_ret (th_ret (th_ret ?_)))))
     obtain ⟨v114, hv115, hz116⟩ := map_some r101
     subst hz116
     obtain rfl := it_inr hn41
     have hq117 := elim_inl r16
     rw [hq117] at hv115
     refine b_ret (vs := [i_ y56.2.1, .agg #[.int .u64 (((s_8 y56.2.1).getD ((0, 0, 0) : Int × Int × Int)).1), i_ (((s_8 y56.2.1).getD ((0, 0, 0) : Int × Int × Int)).2.1), i_ (((s_8 y56.2.1).getD ((0, 0, 0) : Int × Int × Int)).2.2)], .bool true]) (aRes_tmp (by kernel_rfl) (aRes_cell (Eq.trans (b := aL_ 110 (pt_ b7 0) H103) (by kernel_rfl) (r106.l_)) (rt_ (rfl)))) ?_
     have n118 := (t_ (t_ (t_ (t_ e9.n e30.n) e61.n) e71.n) e77.n)
     have d119 := (hb72.djn (h_s_7.lt.le n80))
     have d120 := (hb88.djn (h_s_7.lt.le n118))
     have u121 := (((((m63.ext e71).fr e77 d119).ext e87).fr e93 d120).fr e105 d107)
     have d122 := (hb88.djn (h_s.ltF.le n118))
     have u123 := (((u82.ext e87).frS e93 d122).frS e105 d108)
     obtain rfl := oi_ hv115
     exact ⟨(.slice a66 n67 c68), rfl, (fs_ wf (fs_ wf ((fs_ wf ((fs_ wf (fs_ wf ((fr_ wf).extR e9) e30 ir_) e61 ir_).extR e71) e77 (hb72.fresh n80)).extR e87) e93 (hb88.fresh n118)) e105 (hb10.fresh (Nat.le_refl _))), u121, u123⟩
    have r124 := ite_f h100 r97
    refine w_skip ?_
    have n125 := (t_ e30.n e61.n)
    have n126 := (t_ (t_ (t_ e30.n e61.n) e71.n) e77.n)
    have d127 := (hb72.djn (h_s_7.lt.le n80))
    have n128 := (t_ (t_ (t_ (t_ e9.n e30.n) e61.n) e71.n) e77.n)
    have d129 := (hb88.djn (h_s_7.lt.le n128))
    have u130 := ((((m63.ext e71).fr e77 d127).ext e87).fr e93 d129)
    have d131 := (hb88.djn (h_s.ltF.le n128))
    have u132 := ((u82.ext e87).frS e93 d131)
    obtain rfl := oi_ r124
    exact k44 n38 _ _ lt_ ⟨y56.2.2.2, (.slice a66 n67 c68), hn41, ha_, (fs_ e9.wf ((fs_ e9.wf ((fs_ e9.wf (fs_ e9.wf (fr_ e9.wf) e30 ir_) e61 ir_).extR e71) e77 (hb72.fresh n125)).extR e87) e93 (hb88.fresh n126)), u130, u132⟩
   have r133 := ite_f h96 r58
   refine q_ (.bool false) (n_' (n_' (n_' (n_' (n_' (q_ (.bool false) (s_nil (k95 _ _ ?_))))))))
   refine wb_ false (fun h => by cases h) fun _ => ?_
   refine w_skip ?_
   have n134 := (t_ e30.n e61.n)
   have n135 := (t_ (t_ (t_ e30.n e61.n) e71.n) e77.n)
   have d136 := (hb72.djn (h_s_7.lt.le n80))
   have n137 := (t_ (t_ (t_ (t_ e9.n e30.n) e61.n) e71.n) e77.n)
   have d138 := (hb88.djn (h_s_7.lt.le n137))
   have u139 := ((((m63.ext e71).fr e77 d136).ext e87).fr e93 d138)
   have d140 := (hb88.djn (h_s.ltF.le n137))
   have u141 := ((u82.ext e87).frS e93 d140)
   obtain rfl := oi_ r133
   exact k44 n38 _ _ lt_ ⟨y56.2.2.2, (.slice a66 n67 c68), hn41, ha_, (fs_ e9.wf ((fs_ e9.wf ((fs_ e9.wf (fs_ e9.wf (fr_ e9.wf) e30 ir_) e61 ir_).extR e71) e77 (hb72.fresh n134)).extR e87) e93 (hb88.fresh n135)), u139, u141⟩
  have r142 := ite_f h50 hz40
  refine w_exit (th_exit (th_exit (bl_eq ?_)))
  obtain rfl := oi_ r142
  obtain rfl := it_inr hn41
  exact k25 _ _ ⟨_, rfl, (.slice a45 n46 c47), ha_, (fs_ e9.wf (fr_ e9.wf) e30 ir_), m32, m35⟩
 obtain ⟨o14, rfl, s22, hh26, e19, m21, m24⟩ := hM
 have r143 := elim_inr r16
 obtain ⟨β, rfl⟩ := has_ex hh26
 clear hh26
 obtain ⟨a144, n145, c146, rfl⟩ := m21.form
 refine k13 _ _ (sq_ fun k147 => g_' (q_ (.agg #[.int .u64 0, i_ 0, i_ 0]) (q_ (i_ 0) ?_)))
 have d152 := (hb10.djn h_s_7.lt)
 have d153 := (hb10.djn h_s.ltF)
 have u154 := (r11.frS e19 (Dj.app (Dj.symm d153) (Dj.symm d152)))
 obtain ⟨H148, q149, e150, r151⟩ := ra_ 110 0 e19.wf u154 [.int .u64 0, i_ 0, i_ 0] [.int .u64 0, i_ 0, i_ 0]
 refine ek_ q149 (q_ (.bool false) (s_nil (k147 _ _ ?_)))
 refine w_ret ?_
 refine b_ret (vs := [i_ 0, .agg #[.int .u64 0, i_ 0, i_ 0], .bool false]) (aRes_tmp (by kernel_rfl) (aRes_cell (Eq.trans (b := aL_ 110 (pt_ b7 0) H148) (by kernel_rfl) (r151.l_)) (rt_ (rfl)))) ?_
 have u155 := (m21.fr e150 d152)
 have u156 := (m24.frS e150 d153)
 obtain rfl := oi_ r143
 exact ⟨(.slice a144 n145 c146), rfl, (fs_ wf (fs_ wf ((fr_ wf).extR e9) e19 ir_) e150 (hb10.fresh (Nat.le_refl _))), u155, u156⟩
theorem c_slices_Clone {H : AH} {hd_s : Value} {fp_s : Fp} {s : List (Int × Int × Int)} {r : List (Int × Int × Int)}
    (wf : WF H) (h_s : Sq enc_i64_u64_i64 3 H hd_s s fp_s) (hr : z_slices_Clone s = some r) :
    ACalls Tryz.prog 57 #[hd_s] H fun v H' => ∃ (s3 : Value) (f4 : Fp), v = s3 /\ FrS [] H H' /\ Ow enc_i64_u64_i64 3 H' s3 r f4 /\ Inn [] H f4 := by
 refine ab_ Tryz.func57 ?_
 unfold z_slices_Clone at hr
 refine sq_ fun k6 => g_' (q_ (.slice none 0 0) (s_nil (k6 _ _ (sq_ fun k7 => sq_ fun k8 => g_' (q_ (hd_s) ?_)))))
 rcases Sq.nilOr h_s with ⟨rfl, rfl⟩ | ⟨a9, n10, c11, rfl⟩
 ·refine q_ (.bool true) (s_nil (k8 _ _ ?_))
  refine wb_ true (fun _ => ?_) fun h => by cases h
  refine sq_ fun k12 => g_' (q_ (.slice none 0 0) (s_nil (k12 _ _ ?_)))
  refine w_ret (th_ret ?_)
  refine br_ [.slice none 0 0] ?_
  have hn_ : some ([] : List (Int × Int × Int)) = some r := by simpa [G] using hr
  obtain rfl := oi_ hn_
  exact ⟨(.slice none 0 0), [], rfl, (f0_ wf), (Ow.nil (by decide)), in_⟩
 refine q_ (.bool false) (s_nil (k8 _ _ ?_))
 refine wb_ false (fun h => by cases h) fun _ => ?_
 refine w_skip (k7 _ _ (sq_ fun k13 => g_' ?_))
 refine s_owk (enc := enc_i64_u64_i64) (sz := 3) wf ([] : List (Int × Int × Int)) 0 (by decide) (fun _ _ => rfl) (fun _ _ => rfl) rfl (by kernel_rfl) fun s14 f15 H16 e17 hf18 hm19 => ?_
 obtain ⟨a20, n21, c22, rfl⟩ := hm19.form
 refine q_ (.slice (some a9) n10 c11) ?_
 obtain ⟨g24, r25⟩ := G_some hr
 have u33 := (h_s.ext e17)
 obtain ⟨s26, H27, f28, q32, e29, hm30, hf31⟩ := Ow.append (P := Tryz.prog) 24 e17.wf hm19 u33 (fun _ _ => rfl) (at_ := #[75, 75]) rfl rfl (by kernel_rfl) (by kernel_rfl) (by decide) (by have := g24; first | omega | (simp only [List.length_cons, List.length_nil] at this ⊢; omega) | (simp at this ⊢; omega))
 obtain ⟨a34, n35, c36, rfl⟩ := hm30.form
 refine s_ek (.slice a34 n35 c36) (by kernel_rfl) (q32) ?_
 refine q_ (.slice a34 n35 c36) (s_nil (k13 _ _ ?_))
 refine w_ret ?_
 refine br_ [.slice a34 n35 c36] ?_
 obtain rfl := oi_ r25
 exact ⟨(.slice a34 n35 c36), f28, rfl, (fs_ wf ((f0_ wf).extR e17) e29 (hf18.fresh (Nat.le_refl _))), hm30, (Inn.trans (hf18.fresh (Nat.le_refl _)) e17.n hf31)⟩
theorem c_overlay_Overlay_Out {H : AH} {b_o : Nat} {hd_o_ : Value} {fp_o_ : Fp} {o_ : List (Bool × List (Int × Int × Int) × List (Int × Int × Int))} {o_2 : Int} {o_3 : Int} {v_ : Int} {r : List (Int × Int × Int)}
    (wf : WF H) (h_o_ : Nd enc_i64_u64_i64 3 H hd_o_ o_ fp_o_ []) (h_o : Row H b_o [hd_o_, i_ o_2, i_ o_3]) (hr : z_overlay_Overlay_Out o_ o_2 o_3 v_ = some r) :
    ACalls Tryz.prog 29 #[pt_ b_o 0, i_ v_] H fun v H' => ∃ (s3 : Value) (f4 : Fp), v = s3 /\ FrS [] H H' /\ Ow enc_i64_u64_i64 3 H' s3 r f4 /\ Inn [] H f4 := by
 refine ab_ Tryz.func29 ?_
 unfold z_overlay_Overlay_Out at hr
 refine sq_ fun k6 => g_' (q_ (.slice none 0 0) (s_nil (k6 _ _ (sq_ fun k7 => sq_ fun k8 => g_' (q_ (pt_ b_o 0) (q_ (i_ v_) ?_))))))
 obtain ⟨y9, hy10, r11⟩ := bs_ hr
 refine ck_ (c_overlay_Overlay_Alive wf h_o_ h_o hy10) ?_
 rintro _ _ ⟨rfl, rfl⟩
 refine q_ (.bool (!y9)) (s_nil (k8 _ _ ?_))
 refine wb_ ((!y9)) (fun h14 => ?_) fun h14 => ?_
 ·have r15 := ite_t h14 r11
  refine sq_ fun k16 => g_' (q_ (.slice none 0 0) (s_nil (k16 _ _ ?_)))
  refine w_ret (th_ret ?_)
  refine br_ [.slice none 0 0] ?_
  obtain rfl := oi_ r15
  exact ⟨(.slice none 0 0), [], rfl, (f0_ wf), (Ow.nil (by decide)), in_⟩
 have r17 := ite_bf h14 r11
 refine w_skip (k7 _ _ (sq_ fun k18 => g_' (q_ (pt_ b_o 0) (q_ (pt_ b_o 0) (q_ (pt_ b_o 0) (lr_ 123 0 (hd_o_) h_o (q_ (i_ v_) ?_)))))))
 obtain ⟨g19, r20⟩ := G_some r17
 refine h_o_.ix_ 123 g19.1 g19.2 (l_' (elp hd_o_ 3 v_.toNat 1) (aFieldAddr Tryz.prog 138 (elp hd_o_ 3 v_.toNat 0) 1) (Nd.fldq (d := 1) h_o_ g19.1 g19.2 (by kernel_rfl)) ?_)
 obtain ⟨u21, u22, hl23, hk24⟩ := Nd.at h_o_ g19.1 g19.2
 have kd25 : KdS enc_i64_u64_i64 3 H u21 ((gt o_ v_).2.1) fp_o_ hd_o_ 3 v_.toNat 1 := hk24 false (by simp)
 obtain ⟨a26, n27, c28, rfl⟩ := kd25.sq.form
 refine l_' (.slice a26 n27 c28) (aL_ 75 (elp hd_o_ 3 v_.toNat 1) H) (hl23 _ _ _ _ (by kernel_rfl)) ?_
 obtain ⟨y30, hy31, r32⟩ := bs_ r20
 refine ck_ (c_slices_Clone wf kd25.sq hy31) ?_
 rintro s33 H35 ⟨_, f34, rfl, e36, m37, i38⟩
 obtain ⟨a40, n41, c42, rfl⟩ := m37.form
 refine q_ (.slice a40 n41 c42) (s_nil (k18 _ _ ?_))
 refine w_ret ?_
 refine br_ [.slice a40 n41 c42] ?_
 obtain rfl := oi_ r32
 exact ⟨(.slice a40 n41 c42), f34, rfl, (fs_ wf (f0_ wf) e36 in_), m37, (i38.fresh (Nat.le_refl _))⟩
theorem c_witness_seek_settle {H : AH} {b_s : Nat} {b_s_ : Nat} {hd_s_2 : Value} {fp_s_2 : Fp} {hd_s_7 : Value} {fp_s_7 : Fp} {b_s_8 : Nat} {s_2 : List (Bool × List (Int × Int × Int) × List (Int × Int × Int))} {s_3 : Int} {s_4 : Int} {s_5 : Int} {s_6 : Int} {s_7 : List (Int × Int)} {s_8 : Int -> Option (Int × Int × Int)} {v_ : Int} {dist : Int} {hops : Int} {settled : Int} {r : (Int -> Option (Int × Int × Int)) × List (Int × Int)}
    (wf : WF H) (h_s_2 : Nd enc_i64_u64_i64 3 H hd_s_2 s_2 fp_s_2 []) (h_s_ : Row H b_s_ [hd_s_2, i_ s_3, i_ s_4]) (h_s_7 : Ow enc_u64_i64 2 H hd_s_7 s_7 fp_s_7) (h_s_8 : Ms .i64 enc_u64_i64_i64 H b_s_8 s_8) (h_s : Row H b_s [pt_ b_s_ 0, i_ s_5, i_ s_6, hd_s_7, .map (some b_s_8)]) (dj_b_s_8_b_s : Dj [b_s_8] [b_s]) (dj_b_s_8_fp_s_7 : Dj [b_s_8] fp_s_7) (dj_b_s_8_fp_s_2 : Dj [b_s_8] fp_s_2) (dj_b_s_8_b_s_ : Dj [b_s_8] [b_s_]) (dj_fp_s_7_b_s : Dj fp_s_7 [b_s]) (dj_fp_s_7_fp_s_2 : Dj fp_s_7 fp_s_2) (dj_b_s_fp_s_2 : Dj [b_s] fp_s_2) (dj_fp_s_7_b_s_ : Dj fp_s_7 [b_s_]) (dj_b_s_b_s_ : Dj [b_s] [b_s_]) (dj_fp_s_7_b_s_8 : Dj fp_s_7 [b_s_8]) (hr : z_witness_seek_settle s_2 s_3 s_4 s_5 s_6 s_7 s_8 v_ dist hops settled = some r) :
    ACalls Tryz.prog 66 #[pt_ b_s 0, i_ v_, .agg #[.int .u64 dist, i_ hops, i_ settled]] H fun v H' => ∃ (s5 : Value) (f6 : Fp), v = .tuple #[] /\ FrS ([b_s] ++ ([b_s_8] ++ fp_s_7)) H H' /\ Ms .i64 enc_u64_i64_i64 H' b_s_8 r.1 /\ Ow enc_u64_i64 2 H' s5 r.2 f6 /\ Row H' b_s [pt_ b_s_ 0, i_ s_5, i_ s_6, s5, .map (some b_s_8)] /\ Inn fp_s_7 H f6 := by
 refine ab_ Tryz.func66 ?_
 unfold z_witness_seek_settle at hr
 refine sq_ fun k10 => g_' ?_
 refine rl_ wf [.int .u64 dist, i_ hops, i_ settled] fun b11 H12 e13 hb14 r15 => ?_
 refine s_nil (k10 _ _ (sq_ fun k17 => g_' (q_ (pt_ b11 2) ?_)))
 obtain ⟨H18, q19, e20, r21⟩ := rb_ 3 2 e13.wf r15 (i_ 1) [.int .u64 dist, i_ hops, i_ 1]
 refine ek_ q19 (s_nil (k17 _ _ (sq_ fun k22 => ?_)))
 refine w_draw [0, 1, 2, 3, 4, 5, 6] (by kernel_rfl) ?_
 refine e_' (pt_ b_s 0) (e_' (pt_ b_s 0) (e_' (pt_ b_s 4) ?_))
 have u23 := ((h_s.ext e13).frS e20 (hb14.djn h_s.ltF))
 refine mr_ 103 4 (.map (some b_s_8)) u23 (e_' (i_ v_) (mr_ 110 0 (.agg #[.int .u64 dist, i_ hops, i_ 1]) r21 ?_))
 have u28 := ((h_s_8.ext e13).frS e20 (hb14.djn h_s_8.ltF))
 obtain ⟨H24, q26, e25, mp27⟩ := u28.put (P := Tryz.prog) e20.wf (t := 103) (zv := .agg #[.int .u64 0, i_ 0, i_ 0]) (val := .agg #[.int .u64 dist, i_ hops, i_ 1]) (by kernel_rfl) v_ (dist, hops, 1) rfl
 have e29 := e25.frS (W := [b_s_8]) (List.mem_singleton.2 rfl)
 refine fk_ q26 (st_nil) ?_
 refine d_nil ?_
 refine k22 _ _ (sq_ fun k30 => sq_ fun k31 => ?_)
 refine w_draw [0, 1, 2, 3, 4, 5, 6] (by kernel_rfl) ?_
 refine e_' (pt_ b11 1) ?_
 have d32 := (hb14.djn h_s_8.ltF)
 have u33 := (r21.frS e29 (Dj.symm d32))
 refine mr_ 3 1 (i_ hops) u33 (e_' (pt_ b_s 0) (e_' (pt_ b_s 0) (e_' (pt_ b_s 2) ?_)))
 have u34 := (u23.frS e29 dj_b_s_8_b_s)
 refine mr_ 3 2 (i_ s_6) u34 (e_' (.bool (decide (hops ≥ s_6))) ?_)
 refine d_nil ?_
 refine k31 _ _ ?_
 refine wc_ (hops ≥ s_6) (fun h35 => ?_) fun h35 => ?_
 ·have r36 := ite_t h35 hr
  refine w_ret (th_ret ?_)
  refine b_ret (vs := []) (rfl) ?_
  have u37 := (((h_s_7.ext e13).fr e20 (hb14.djn h_s_7.lt)).fr e29 dj_b_s_8_fp_s_7)
  obtain rfl := oi_ r36
  exact ⟨(hd_s_7), fp_s_7, rfl, (fs_ wf (fs_ wf ((fr_ wf).extR e13) e20 (hb14.fresh (Nat.le_refl _))) e29 (Inn.right Inn.left)), mp27, u37, u34, ir_⟩
 have r38 := ite_f h35 hr
 refine w_skip (k30 _ _ (sq_ fun k39 => g_' (q_ (pt_ b_s 0) (q_ (pt_ b_s 0) (q_ (pt_ b_s 0) (lr_ 29 0 (pt_ b_s_ 0) u34 (q_ (i_ v_) ?_)))))))
 have u40 := (((h_s_2.ext e13).fr e20 (hb14.djn h_s_2.lt)).fr e29 dj_b_s_8_fp_s_2)
 have u41 := (((h_s_.ext e13).frS e20 (hb14.djn h_s_.ltF)).frS e29 dj_b_s_8_b_s_)
 obtain ⟨y42, hy43, r44⟩ := bs_ r38
 refine ck_ (c_overlay_Overlay_Out e29.wf u40 u41 hy43) ?_
 rintro s45 H47 ⟨_, f46, rfl, e48, m49, i50⟩
 obtain ⟨a52, n53, c54, rfl⟩ := m49.form
 refine m49.sq.ln_ 75 (q_ (i_ 0) (s_nil (k39 _ _ ?_)))
 obtain ⟨o55, hx56, r57⟩ := bs_ r44
 refine w_mid (fun α H58 => ∃ (s64 : Value) (f65 : Fp), Has α [] /\ FrS ([b_s] ++ ([b_s_8] ++ fp_s_7)) H47 H58 /\ Ms .i64 enc_u64_i64_i64 H58 b_s_8 o55.1 /\ Ow enc_u64_i64 2 H58 s64 o55.2 f65 /\ Row H58 b_s [pt_ b_s_ 0, i_ s_5, i_ s_6, s64, .map (some b_s_8)] /\ Inn fp_s_7 H47 f65) (fun _ k69 => ?_) (fun α H58 hM => ?_)
 ·refine w_block ?_
  obtain ⟨n71, hn72⟩ := loopO_iff.1 hx56
  have u90 := ((((h_s_7.ext e13).fr e20 (hb14.djn h_s_7.lt)).fr e29 dj_b_s_8_fp_s_7).fr e48 dn_)
  have u91 := (mp27.frS e48 dn_)
  have u92 := (u34.frS e48 dn_)
  refine w_loopn (fun n α H73 => ∃ (s0 : List (Int × Int)), ∃ (s1 : Int -> Option (Int × Int × Int)), ∃ (i2 : Int), ∃ (s77 : Value), ∃ (f78 : Fp), iterO (fun zz_ => z_witness_seek_settle_l0 s_2 s_3 s_4 s_5 s_6 dist hops y42 zz_.1 zz_.2.1 zz_.2.2) n (s0, s1, i2) = some o55 /\ Has α [(0, pt_ b_s 0), (5, pt_ b11 0), (30, .slice a52 n53 c54), (31, i_ (y42.length : Int)), (32, i_ i2)] /\ FrS ([b_s] ++ ([b_s_8] ++ fp_s_7)) H47 H73 /\ Ow enc_u64_i64 2 H73 s77 s0 f78 /\ Ms .i64 enc_u64_i64_i64 H73 b_s_8 s1 /\ Row H73 b_s [pt_ b_s_ 0, i_ s_5, i_ s_6, s77, .map (some b_s_8)] /\ Inn fp_s_7 H47 f78) n71 ⟨s_7, (fun x => if x = v_ then some (dist, hops, 1) else s_8 x), 0, (hd_s_7), fp_s_7, hn72, ha_, (fr_ e48.wf), u90, u91, u92, ir_⟩ ?_
  rintro n71 α H73 ⟨s0, s1, i2, s77, f78, hi85, hh84, e74, m76, m80, m82, i83⟩ K93 k93
  obtain ⟨n86, z87, rfl, hz88, hn89⟩ := iter_succ hi85
  obtain ⟨β, rfl⟩ := has_ex hh84
  clear hh84
  replace hz88 : z_witness_seek_settle_l0 s_2 s_3 s_4 s_5 s_6 dist hops y42 s0 s1 i2 = some z87 := hz88
  unfold z_witness_seek_settle_l0 at hz88
  obtain ⟨a94, n95, c96, rfl⟩ := m76.form
  refine sq_ fun k97 => g_' (q_ (.bool (decide (i2 < (y42.length : Int)))) (s_nil (k97 _ _ (sq_ fun k98 => ?_))))
  refine wc_ (i2 < (y42.length : Int)) (fun h99 => ?_) fun h99 => ?_
  ·have r100 := ite_t h99 hz88
   refine w_skip (k98 _ _ (sq_ fun k101 => w_block (sq_ fun k102 => g_' ?_)))
   obtain ⟨g103, r104⟩ := G_some r100
   have n105 := (t_ (t_ e13.n e20.n) e29.n)
   have d106 := (i50.djn (h_s_7.lt.le n105))
   have d107 := (i50.djn (h_s_8.ltF.le n105))
   have d108 := (i50.djn (h_s.ltF.le n105))
   have u109 := (m49.fr e74 (Dj.app (Dj.symm d108) (Dj.app (Dj.symm d107) (Dj.symm d106))))
   refine u109.sq.ix_ 75 g103 h99 (le_ 80 0 (.agg #[i_ ((gt y42 i2).1), .int .u64 ((gt y42 i2).2.1), i_ ((gt y42 i2).2.2)]) u109.sq g103 h99 ?_)
   refine rk_ e74.wf [i_ 0, .int .u64 0, i_ 0] fun b110 H111 e112 hb113 r114 => ?_
   obtain ⟨H116, q117, e118, r119⟩ := ra_ 80 0 e112.wf r114 [i_ ((gt y42 i2).1), .int .u64 ((gt y42 i2).2.1), i_ ((gt y42 i2).2.2)] [i_ ((gt y42 i2).1), .int .u64 ((gt y42 i2).2.1), i_ ((gt y42 i2).2.2)]
   refine ek_ q117 (s_nil (k102 _ _ (sq_ fun k120 => ?_)))
   refine w_draw [0, 1, 2, 3, 4, 5, 6, 7, 8, 9, 10, 11, 12] (by kernel_rfl) ?_
   refine e_' (pt_ b_s 0) (e_' (pt_ b_s 0) (e_' (pt_ b_s 4) ?_))
   have n121 := (t_ (t_ (t_ (t_ e13.n e20.n) e29.n) e48.n) e74.n)
   have d122 := (hb113.djn (h_s.ltF.le n121))
   have u123 := ((m82.ext e112).frS e118 d122)
   refine mr_ 103 4 (.map (some b_s_8)) u123 (e_' (pt_ b110 0) (mr_ 3 0 (i_ ((gt y42 i2).1)) r119 ?_))
   have d124 := (hb113.djn (h_s_8.ltF.le n121))
   have u125 := ((m80.ext e112).frS e118 d124)
   refine m_' (.tuple #[.agg #[.int .u64 (((s1 ((gt y42 i2).1)).getD ((0, 0, 0) : Int × Int × Int)).1), i_ (((s1 ((gt y42 i2).1)).getD ((0, 0, 0) : Int × Int × Int)).2.1), i_ (((s1 ((gt y42 i2).1)).getD ((0, 0, 0) : Int × Int × Int)).2.2)], .bool ((s1 ((gt y42 i2).1)).isSome)]) (aLookup Tryz.prog 103 (.map (some b_s_8)) (i_ ((gt y42 i2).1)) true H116) (u125.look2 ((0, 0, 0) : Int × Int × Int) (zv := .agg #[.int .u64 0, i_ 0, i_ 0]) rfl (by kernel_rfl) (by kernel_rfl) _ rfl) (e_' (.tuple #[.agg #[.int .u64 (((s1 ((gt y42 i2).1)).getD ((0, 0, 0) : Int × Int × Int)).1), i_ (((s1 ((gt y42 i2).1)).getD ((0, 0, 0) : Int × Int × Int)).2.1), i_ (((s1 ((gt y42 i2).1)).getD ((0, 0, 0) : Int × Int × Int)).2.2)], .bool ((s1 ((gt y42 i2).1)).isSome)]) (e_' (.agg #[.int .u64 (((s1 ((gt y42 i2).1)).getD ((0, 0, 0) : Int × Int × Int)).1), i_ (((s1 ((gt y42 i2).1)).getD ((0, 0, 0) : Int × Int × Int)).2.1), i_ (((s1 ((gt y42 i2).1)).getD ((0, 0, 0) : Int × Int × Int)).2.2)]) (e_' (.bool ((s1 ((gt y42 i2).1)).isSome)) ?_)))
   refine d_rwk e118.wf [.int .u64 0, i_ 0, i_ 0] (by kernel_rfl) fun b126 H127 e128 hb129 r130 => ?_
   obtain ⟨H132, q133, e134, r135⟩ := ra_ 110 0 e128.wf r130 [.int .u64 (((s1 ((gt y42 i2).1)).getD ((0, 0, 0) : Int × Int × Int)).1), i_ (((s1 ((gt y42 i2).1)).getD ((0, 0, 0) : Int × Int × Int)).2.1), i_ (((s1 ((gt y42 i2).1)).getD ((0, 0, 0) : Int × Int × Int)).2.2)] [.int .u64 (((s1 ((gt y42 i2).1)).getD ((0, 0, 0) : Int × Int × Int)).1), i_ (((s1 ((gt y42 i2).1)).getD ((0, 0, 0) : Int × Int × Int)).2.1), i_ (((s1 ((gt y42 i2).1)).getD ((0, 0, 0) : Int × Int × Int)).2.2)]
   refine fk_ q133 (st_nil) (e_' (.bool ((s1 ((gt y42 i2).1)).isSome)) ?_)
   refine d_nil ?_
   refine k120 _ _ (sq_ fun k136 => g_' (q_ (pt_ b11 0) ?_))
   have d137 := (hb14.djn h_s_7.lt)
   have d138 := (hb14.djn h_s.ltF)
   have n139 := (t_ (t_ (t_ e20.n e29.n) e48.n) e74.n)
   have d140 := (hb113.djn (r15.ltF.le n139))
   have n141 := (t_ (t_ (t_ (t_ (t_ e20.n e29.n) e48.n) e74.n) e112.n) e118.n)
   have d142 := (hb129.djn (r15.ltF.le n141))
   have u143 := ((((((u33.frS e48 dn_).frS e74 (Dj.app (Dj.symm d138) (Dj.app (Dj.symm d32) (Dj.symm d137)))).ext e112).frS e118 d140).ext e128).frS e134 d142)
   refine lr_ 27 0 (.int .u64 dist) u143 (q_ (pt_ b110 1) ?_)
   have d144 := (hb129.djn (r114.ltF.le e118.n))
   have u145 := ((r119.ext e128).frS e134 d144)
   refine lr_ 27 1 (.int .u64 ((gt y42 i2).2.1)) u145 ?_
   obtain ⟨g146, r147⟩ := G_some r104
   refine s_w ((dist + ((gt y42 i2).2.1))) (k := .u64) (x := (dist + ((gt y42 i2).2.1))) (by kernel_rfl) (wrapu64 g146) ?_
   refine q_ (pt_ b11 1) (lr_ 3 1 (i_ hops) u143 ?_)
   obtain ⟨g148, r149⟩ := G_some r147
   refine w_' ((hops + 1)) (wrap64 g148) (q_ (.agg #[.int .u64 (dist + ((gt y42 i2).2.1)), i_ (hops + 1), i_ 0]) ?_)
   refine rk_ e134.wf [.int .u64 0, i_ 0, i_ 0] fun b150 H151 e152 hb153 r154 => ?_
   obtain ⟨H156, q157, e158, r159⟩ := ra_ 110 0 e152.wf r154 [.int .u64 (dist + ((gt y42 i2).2.1)), i_ (hops + 1), i_ 0] [.int .u64 (dist + ((gt y42 i2).2.1)), i_ (hops + 1), i_ 0]
   refine ek_ q157 (s_nil (k136 _ _ (sq_ fun k160 => sq_ fun k161 => ?_)))
   obtain ⟨o162, hx163, r164⟩ := bs_ r149
   refine w_mid (fun α H165 => Has α [(0, pt_ b_s 0), (5, pt_ b11 0), (7, pt_ b110 0), (10, pt_ b150 0), (30, .slice a52 n53 c54), (31, i_ (y42.length : Int)), (32, i_ i2), (76, .bool o162)] /\ H156 = H165) (fun _ k167 => ?_) (fun α H165 hM => ?_)
   ·refine w_draw [0, 1, 2, 3, 4, 5, 6, 7, 8, 9, 10, 11, 12, 13, 14, 15, 16, 17, 18, 19, 20, 21] (by kernel_rfl) ?_
    refine e_' (pt_ b110 0) ?_
    have n169 := (t_ (t_ e118.n e128.n) e134.n)
    have d170 := (hb153.djn (r114.ltF.le n169))
    have u171 := ((u145.ext e152).frS e158 d170)
    refine mr_ 3 0 (i_ ((gt y42 i2).1)) u171 (e_' (pt_ b_s 0) (e_' (pt_ b_s 0) (e_' (pt_ b_s 1) ?_)))
    have n172 := (t_ (t_ (t_ (t_ (t_ (t_ e13.n e20.n) e29.n) e48.n) e74.n) e112.n) e118.n)
    have d173 := (hb129.djn (h_s.ltF.le n172))
    have n174 := (t_ (t_ (t_ (t_ (t_ (t_ (t_ (t_ e13.n e20.n) e29.n) e48.n) e74.n) e112.n) e118.n) e128.n) e134.n)
    have d175 := (hb153.djn (h_s.ltF.le n174))
    have u176 := ((((u123.ext e128).frS e134 d173).ext e152).frS e158 d175)
    refine mr_ 3 1 (i_ s_5) u176 ?_
    refine db_ (((gt y42 i2).1) = s_5) (fun h177 => ?_) fun h177 => ?_
    ·have r178 := ite_t h177 hx163
     refine e_' (.bool true) (j_' (j_' (j_' (e_' (.bool true) (e_' (.bool true) (j_' (j_' (j_' (j_' (j_' (j_' (j_' (j_' (e_' (.bool true) ?_))))))))))))))
     refine d_nil ?_
     obtain rfl := oi_ r178
     exact k167 _ _ ⟨ha_, rfl⟩
    have r179 := ite_f h177 hx163
    refine e_' (.bool false) (e_' (pt_ b126 2) ?_)
    have d180 := (hb153.djn (r130.ltF.le e134.n))
    have u181 := ((r135.ext e152).frS e158 d180)
    refine mr_ 3 2 (i_ (((s1 ((gt y42 i2).1)).getD ((0, 0, 0) : Int × Int × Int)).2.2)) u181 ?_
    refine db_ ((((s1 ((gt y42 i2).1)).getD ((0, 0, 0) : Int × Int × Int)).2.2) > 0) (fun h182 => ?_) fun h182 => ?_
    ·have r183 := ite_t h182 r179
     refine e_' (.bool true) (e_' (.bool true) (j_' (j_' (j_' (j_' (j_' (j_' (j_' (j_' (e_' (.bool true) ?_))))))))))
     refine d_nil ?_
     obtain rfl := oi_ r183
     exact k167 _ _ ⟨ha_, rfl⟩
    have r184 := ite_f h182 r179
    refine e_' (.bool false) (e_' (.bool false) (e_' (.bool ((s1 ((gt y42 i2).1)).isSome)) (e_' (.bool ((s1 ((gt y42 i2).1)).isSome)) ?_)))
    by_cases h185 : (s1 ((gt y42 i2).1)).isSome = true
    ·have r186 := ite_t h185 r184
     rw [h185]
     refine e_' (pt_ b126 0) (mr_ 27 0 (.int .u64 (((s1 ((gt y42 i2).1)).getD ((0, 0, 0) : Int × Int × Int)).1)) u181 (e_' (pt_ b150 0) (mr_ 27 0 (.int .u64 (dist + ((gt y42 i2).2.1))) r159 (e_' (.bool (decide ((((s1 ((gt y42 i2).1)).getD ((0, 0, 0) : Int × Int × Int)).1) ≤ (dist + ((gt y42 i2).2.1))))) (e_' (.bool (decide ((((s1 ((gt y42 i2).1)).getD ((0, 0, 0) : Int × Int × Int)).1) ≤ (dist + ((gt y42 i2).2.1))))) (e_' (.bool (decide ((((s1 ((gt y42 i2).1)).getD ((0, 0, 0) : Int × Int × Int)).1) ≤ (dist + ((gt y42 i2).2.1))))) ?_))))))
     refine d_nil ?_
     obtain rfl := oi_ r186
     exact k167 _ _ ⟨ha_, rfl⟩
    have r187 := ite_f h185 r184
    rw [nb h185]
    refine j_' (j_' (j_' (j_' (j_' (e_' (.bool false) (e_' (.bool false) ?_))))))
    refine d_nil ?_
    obtain rfl := oi_ r187
    exact k167 _ _ ⟨ha_, rfl⟩
   obtain ⟨hh168, rfl⟩ := hM
   obtain ⟨β, rfl⟩ := has_ex hh168
   clear hh168
   refine k161 _ _ ?_
   refine wb_ (o162) (fun h188 => ?_) fun h188 => ?_
   ·have r189 := ite_t h188 r164
    refine w_exit (th_exit (bl_eq ?_))
    refine k101 _ _ (g_' ?_)
    obtain ⟨g190, r191⟩ := G_some r189
    refine w_' ((i2 + 1)) (wrap64 (by have := g190; omega)) (q_ (i_ (i2 + 1)) (s_nil ?_))
    have n192 := (t_ (t_ e74.n e112.n) e118.n)
    have n193 := (t_ (t_ (t_ (t_ e74.n e112.n) e118.n) e128.n) e134.n)
    have n194 := (t_ e112.n e118.n)
    have d195 := (hb129.djn (m76.lt.le n194))
    have n196 := (t_ (t_ (t_ e112.n e118.n) e128.n) e134.n)
    have d197 := (hb153.djn (m76.lt.le n196))
    have u198 := ((((((m76.ext e112).fr e118 (hb113.djn m76.lt)).ext e128).fr e134 d195).ext e152).fr e158 d197)
    have n199 := (t_ (t_ (t_ (t_ (t_ (t_ e13.n e20.n) e29.n) e48.n) e74.n) e112.n) e118.n)
    have d200 := (hb129.djn (h_s_8.ltF.le n199))
    have n201 := (t_ (t_ (t_ (t_ (t_ (t_ (t_ (t_ e13.n e20.n) e29.n) e48.n) e74.n) e112.n) e118.n) e128.n) e134.n)
    have d202 := (hb153.djn (h_s_8.ltF.le n201))
    have u203 := ((((u125.ext e128).frS e134 d200).ext e152).frS e158 d202)
    have d204 := (hb129.djn (h_s.ltF.le n199))
    have d205 := (hb153.djn (h_s.ltF.le n201))
    have u206 := ((((u123.ext e128).frS e134 d204).ext e152).frS e158 d205)
    obtain rfl := oi_ r191
    exact k93 n86 _ _ lt_ ⟨s0, s1, (i2 + 1), (.slice a94 n95 c96), f78, hn89, ha_, (fs_ e48.wf ((fs_ e48.wf ((fs_ e48.wf ((fs_ e48.wf (fr_ e48.wf) e74 ir_).extR e112) e118 (hb113.fresh e74.n)).extR e128) e134 (hb129.fresh n192)).extR e152) e158 (hb153.fresh n193)), u198, u203, u206, (Inn.trans ir_ (Nat.le_refl _) i83)⟩
   have r207 := ite_bf h188 r164
   refine w_skip (k160 _ _ (g_' (q_ (pt_ b_s 0) (q_ (pt_ b110 0) ?_))))
   have n208 := (t_ (t_ e118.n e128.n) e134.n)
   have d209 := (hb153.djn (r114.ltF.le n208))
   have u210 := ((u145.ext e152).frS e158 d209)
   refine lr_ 3 0 (i_ ((gt y42 i2).1)) u210 (lr_ 110 0 (.agg #[.int .u64 (dist + ((gt y42 i2).2.1)), i_ (hops + 1), i_ 0]) r159 ?_)
   have d211 := (hb113.djn (h_s_2.lt.le n121))
   have n212 := (t_ (t_ (t_ (t_ (t_ (t_ e13.n e20.n) e29.n) e48.n) e74.n) e112.n) e118.n)
   have d213 := (hb129.djn (h_s_2.lt.le n212))
   have n214 := (t_ (t_ (t_ (t_ (t_ (t_ (t_ (t_ e13.n e20.n) e29.n) e48.n) e74.n) e112.n) e118.n) e128.n) e134.n)
   have d215 := (hb153.djn (h_s_2.lt.le n214))
   have u216 := ((((((((u40.fr e48 dn_).fr e74 (Dj.app dj_b_s_fp_s_2 (Dj.app dj_b_s_8_fp_s_2 dj_fp_s_7_fp_s_2))).ext e112).fr e118 d211).ext e128).fr e134 d213).ext e152).fr e158 d215)
   have d217 := (hb113.djn (h_s_.ltF.le n121))
   have d218 := (hb129.djn (h_s_.ltF.le n212))
   have d219 := (hb153.djn (h_s_.ltF.le n214))
   have u220 := ((((((((u41.frS e48 dn_).frS e74 (Dj.app dj_b_s_b_s_ (Dj.app dj_b_s_8_b_s_ dj_fp_s_7_b_s_))).ext e112).frS e118 d217).ext e128).frS e134 d218).ext e152).frS e158 d219)
   have n221 := (t_ e112.n e118.n)
   have d222 := (hb129.djn (m76.lt.le n221))
   have n223 := (t_ (t_ (t_ e112.n e118.n) e128.n) e134.n)
   have d224 := (hb153.djn (m76.lt.le n223))
   have u225 := ((((((m76.ext e112).fr e118 (hb113.djn m76.lt)).ext e128).fr e134 d222).ext e152).fr e158 d224)
   have d226 := (hb129.djn (h_s_8.ltF.le n212))
   have d227 := (hb153.djn (h_s_8.ltF.le n214))
   have u228 := ((((u125.ext e128).frS e134 d226).ext e152).frS e158 d227)
   have d229 := (hb129.djn (h_s.ltF.le n212))
   have d230 := (hb153.djn (h_s.ltF.le n214))
   have u231 := ((((u123.ext e128).frS e134 d229).ext e152).frS e158 d230)
   have n232 := (t_ (t_ (t_ e13.n e20.n) e29.n) e48.n)
   have d233 := (i83.dj dj_fp_s_7_b_s_8 (h_s_8.ltF.le n232))
   have d234 := (i83.dj dj_fp_s_7_b_s (h_s.ltF.le n232))
   have d235 := (i83.dj dj_fp_s_7_fp_s_2 (h_s_2.lt.le n232))
   have d236 := (i83.dj dj_fp_s_7_b_s_ (h_s_.ltF.le n232))
   obtain ⟨y237, hy238, r239⟩ := bs_ r207
   refine ck_ (c_witness_seek_set e158.wf u216 u220 u225 u228 u231 dj_b_s_8_fp_s_2 dj_b_s_8_b_s_ (Dj.symm d233) dj_b_s_8_b_s d234 d235 dj_b_s_fp_s_2 d236 dj_b_s_b_s_ hy238) ?_
   rintro _ H242 ⟨s240, f241, rfl, e243, m244, m245, m246, i247⟩
   obtain ⟨a249, n250, c251, rfl⟩ := m245.form
   refine s_nil (k101 _ _ (g_' ?_))
   obtain ⟨g252, r253⟩ := G_some r239
   refine w_' ((i2 + 1)) (wrap64 (by have := g252; omega)) (q_ (i_ (i2 + 1)) (s_nil ?_))
   have n254 := (t_ (t_ e74.n e112.n) e118.n)
   have n255 := (t_ (t_ (t_ (t_ e74.n e112.n) e118.n) e128.n) e134.n)
   have n256 := (t_ (t_ (t_ (t_ (t_ (t_ e74.n e112.n) e118.n) e128.n) e134.n) e152.n) e158.n)
   obtain rfl := oi_ r253
   exact k93 n86 _ _ lt_ ⟨y237.2, y237.1, (i2 + 1), (.slice a249 n250 c251), f241, hn89, ha_, (fs_ e48.wf (fs_ e48.wf ((fs_ e48.wf ((fs_ e48.wf ((fs_ e48.wf (fr_ e48.wf) e74 ir_).extR e112) e118 (hb113.fresh e74.n)).extR e128) e134 (hb129.fresh n254)).extR e152) e158 (hb153.fresh n255)) e243 (Inn.app Inn.left (Inn.app (Inn.right Inn.left) (Inn.trans (Inn.right (Inn.right ir_)) (Nat.le_refl _) i83)))), m245, m244, m246, (Inn.trans (Inn.trans ir_ (Nat.le_refl _) i83) n256 i247)⟩
  have r257 := ite_f h99 hz88
  refine w_exit (th_exit (th_exit (bl_eq ?_)))
  obtain rfl := oi_ r257
  obtain rfl := it_inr hn89
  exact k69 _ _ ⟨(.slice a94 n95 c96), f78, trivial, (fs_ e48.wf (fr_ e48.wf) e74 ir_), m80, m76, m82, (Inn.trans ir_ (Nat.le_refl _) i83)⟩
 obtain ⟨s64, f65, hh70, e59, m61, m63, m67, i68⟩ := hM
 obtain ⟨β, rfl⟩ := has_ex hh70
 clear hh70
 obtain ⟨a258, n259, c260, rfl⟩ := m63.form
 refine b_nrm (vs := []) (rfl) ?_
 have n261 := (t_ (t_ (t_ e13.n e20.n) e29.n) e48.n)
 obtain rfl := oi_ r57
 exact ⟨(.slice a258 n259 c260), f65, rfl, (fs_ wf (fs_ wf (fs_ wf (fs_ wf ((fr_ wf).extR e13) e20 (hb14.fresh (Nat.le_refl _))) e29 (Inn.right Inn.left)) e48 in_) e59 ir_), m61, m63, m67, (Inn.trans ir_ n261 i68)⟩
theorem c_witness_seek_run {H : AH} {b_s : Nat} {b_s_ : Nat} {hd_s_2 : Value} {fp_s_2 : Fp} {hd_s_7 : Value} {fp_s_7 : Fp} {b_s_8 : Nat} {s_2 : List (Bool × List (Int × Int × Int) × List (Int × Int × Int))} {s_3 : Int} {s_4 : Int} {s_5 : Int} {s_6 : Int} {s_7 : List (Int × Int)} {s_8 : Int -> Option (Int × Int × Int)} {u : Int} {most : Int} {settles : Int} {r : (Int -> Option (Int × Int × Int)) × List (Int × Int)}
    (wf : WF H) (h_s_2 : Nd enc_i64_u64_i64 3 H hd_s_2 s_2 fp_s_2 []) (h_s_ : Row H b_s_ [hd_s_2, i_ s_3, i_ s_4]) (h_s_7 : Ow enc_u64_i64 2 H hd_s_7 s_7 fp_s_7) (h_s_8 : Ms .i64 enc_u64_i64_i64 H b_s_8 s_8) (h_s : Row H b_s [pt_ b_s_ 0, i_ s_5, i_ s_6, hd_s_7, .map (some b_s_8)]) (dj_b_s_8_fp_s_2 : Dj [b_s_8] fp_s_2) (dj_b_s_8_b_s_ : Dj [b_s_8] [b_s_]) (dj_b_s_8_fp_s_7 : Dj [b_s_8] fp_s_7) (dj_b_s_8_b_s : Dj [b_s_8] [b_s]) (dj_fp_s_7_b_s : Dj fp_s_7 [b_s]) (dj_fp_s_7_fp_s_2 : Dj fp_s_7 fp_s_2) (dj_b_s_fp_s_2 : Dj [b_s] fp_s_2) (dj_fp_s_7_b_s_ : Dj fp_s_7 [b_s_]) (dj_b_s_b_s_ : Dj [b_s] [b_s_]) (hr : z_witness_seek_run s_2 s_3 s_4 s_5 s_6 s_7 s_8 u most settles = some r) :
    ACalls Tryz.prog 44 #[pt_ b_s 0, i_ u, .int .u64 most, i_ settles] H fun v H' => ∃ (s5 : Value) (f6 : Fp), v = .tuple #[] /\ FrS ([b_s] ++ ([b_s_8] ++ fp_s_7)) H H' /\ Ms .i64 enc_u64_i64_i64 H' b_s_8 r.1 /\ Ow enc_u64_i64 2 H' s5 r.2 f6 /\ Row H' b_s [pt_ b_s_ 0, i_ s_5, i_ s_6, s5, .map (some b_s_8)] /\ Inn fp_s_7 H f6 := by
 refine ab_ Tryz.func44 ?_
 unfold z_witness_seek_run at hr
 refine sq_ fun k10 => g_' (q_ (pt_ b_s 0) (q_ (i_ u) (q_ (.agg #[.int .u64 0, i_ 0, i_ 0]) ?_)))
 obtain ⟨y11, hy12, r13⟩ := bs_ hr
 refine ck_ (c_witness_seek_set wf h_s_2 h_s_ h_s_7 h_s_8 h_s dj_b_s_8_fp_s_2 dj_b_s_8_b_s_ dj_b_s_8_fp_s_7 dj_b_s_8_b_s dj_fp_s_7_b_s dj_fp_s_7_fp_s_2 dj_b_s_fp_s_2 dj_fp_s_7_b_s_ dj_b_s_b_s_ hy12) ?_
 rintro _ H16 ⟨s14, f15, rfl, e17, m18, m19, m20, i21⟩
 obtain ⟨a23, n24, c25, rfl⟩ := m19.form
 refine s_nil (k10 _ _ (sq_ fun k26 => g_' (q_ (i_ settles) (l_' (i_ (max 0 settles)) (aMax Tryz.prog [i_ 0, i_ settles]) (aMax_two _ _) (q_ (i_ 0) (s_nil (k26 _ _ ?_)))))))
 obtain ⟨z30, hx28, r29⟩ := bs_ r13
 refine w_mid (fun α H31 => ∃ o27, z30 = Sum.inr o27 /\ ∃ (s37 : Value) (f38 : Fp), Has α [] /\ FrS ([b_s] ++ ([b_s_8] ++ f15)) H16 H31 /\ Ms .i64 enc_u64_i64_i64 H31 b_s_8 o27.1 /\ Ow enc_u64_i64 2 H31 s37 o27.2 f38 /\ Row H31 b_s [pt_ b_s_ 0, i_ s_5, i_ s_6, s37, .map (some b_s_8)] /\ Inn f15 H16 f38) (fun _ k42 => ?_) (fun α H31 hM => ?_)
 ·refine w_block ?_
  obtain ⟨n44, hn45⟩ := loopO_iff.1 hx28
  refine w_loopn (fun n α H46 => ∃ (s0 : List (Int × Int)), ∃ (s1 : Int -> Option (Int × Int × Int)), ∃ (i2 : Int), ∃ (s50 : Value), ∃ (f51 : Fp), iterO (fun zz_ => z_witness_seek_run_l0 s_2 s_3 s_4 s_5 s_6 most settles zz_.1 zz_.2.1 zz_.2.2) n (s0, s1, i2) = some z30 /\ Has α [(0, pt_ b_s 0), (2, .int .u64 most), (16, i_ (max 0 settles)), (17, i_ i2)] /\ FrS ([b_s] ++ ([b_s_8] ++ f15)) H16 H46 /\ Ow enc_u64_i64 2 H46 s50 s0 f51 /\ Ms .i64 enc_u64_i64_i64 H46 b_s_8 s1 /\ Row H46 b_s [pt_ b_s_ 0, i_ s_5, i_ s_6, s50, .map (some b_s_8)] /\ Inn f15 H16 f51) n44 ⟨y11.2, y11.1, 0, (.slice a23 n24 c25), f15, hn45, ha_, (fr_ e17.wf), m19, m18, m20, ir_⟩ ?_
  rintro n44 α H46 ⟨s0, s1, i2, s50, f51, hi58, hh57, e47, m49, m53, m55, i56⟩ K63 k63
  obtain ⟨n59, z60, rfl, hz61, hn62⟩ := iter_succ hi58
  obtain ⟨β, rfl⟩ := has_ex hh57
  clear hh57
  replace hz61 : z_witness_seek_run_l0 s_2 s_3 s_4 s_5 s_6 most settles s0 s1 i2 = some z60 := hz61
  unfold z_witness_seek_run_l0 at hz61
  obtain ⟨a64, n65, c66, rfl⟩ := m49.form
  refine sq_ fun k67 => g_' (q_ (.bool (decide (i2 < (max 0 settles)))) (s_nil (k67 _ _ (sq_ fun k68 => ?_))))
  refine wc_ (i2 < (max 0 settles)) (fun h69 => ?_) fun h69 => ?_
  ·have r70 := ite_t h69 hz61
   refine w_skip (k68 _ _ (sq_ fun k71 => w_block (sq_ fun k72 => g_' (q_ (pt_ b_s 0) ?_))))
   have d73 := (i21.dj dj_fp_s_7_fp_s_2 h_s_2.lt)
   have u74 := ((h_s_2.fr e17 (Dj.app dj_b_s_fp_s_2 (Dj.app dj_b_s_8_fp_s_2 dj_fp_s_7_fp_s_2))).fr e47 (Dj.app dj_b_s_fp_s_2 (Dj.app dj_b_s_8_fp_s_2 d73)))
   have d75 := (i21.dj dj_fp_s_7_b_s_ h_s_.ltF)
   have u76 := ((h_s_.frS e17 (Dj.app dj_b_s_b_s_ (Dj.app dj_b_s_8_b_s_ dj_fp_s_7_b_s_))).frS e47 (Dj.app dj_b_s_b_s_ (Dj.app dj_b_s_8_b_s_ d75)))
   have d77 := (i56.dj d73 (h_s_2.lt.le e17.n))
   have d78 := (i56.dj d75 (h_s_.ltF.le e17.n))
   have d79 := (i21.dj (Dj.symm dj_b_s_8_fp_s_7) h_s_8.ltF)
   have d80 := (i56.dj d79 (h_s_8.ltF.le e17.n))
   have d81 := (i21.dj dj_fp_s_7_b_s h_s.ltF)
   have d82 := (i56.dj d81 (h_s.ltF.le e17.n))
   obtain ⟨y83, hy84, r85⟩ := bs_ r70
   refine ck_ (c_witness_seek_next e47.wf u74 u76 m49 m53 m55 d77 d78 d80 d82 (Dj.symm dj_b_s_8_b_s) dj_b_s_fp_s_2 dj_b_s_b_s_ hy84) ?_
   rintro _ H87 ⟨s86, rfl, e88, m89, m90⟩
   obtain ⟨a92, n93, c94, rfl⟩ := m89.form
   refine q_ (.tuple #[i_ y83.1, .agg #[.int .u64 y83.2.1, i_ y83.2.2.1, i_ y83.2.2.2.1], .bool y83.2.2.2.2.1]) (q_ (i_ y83.1) (q_ (.agg #[.int .u64 y83.2.1, i_ y83.2.2.1, i_ y83.2.2.2.1]) (q_ (.bool y83.2.2.2.2.1) ?_)))
   refine rk_ e88.wf [.int .u64 0, i_ 0, i_ 0] fun b95 H96 e97 hb98 r99 => ?_
   refine q_ (i_ y83.1) ?_
   obtain ⟨H101, q102, e103, r104⟩ := ra_ 110 0 e97.wf r99 [.int .u64 y83.2.1, i_ y83.2.2.1, i_ y83.2.2.2.1] [.int .u64 y83.2.1, i_ y83.2.2.1, i_ y83.2.2.2.1]
   refine ek_ q102 (q_ (.bool y83.2.2.2.2.1) (s_nil (k72 _ _ (sq_ fun k105 => sq_ fun k106 => ?_))))
   obtain ⟨o107, hx108, r109⟩ := bs_ r85
   refine w_mid (fun α H110 => Has α [(0, pt_ b_s 0), (2, .int .u64 most), (8, i_ y83.1), (9, pt_ b95 0), (16, i_ (max 0 settles)), (17, i_ i2), (32, .bool o107)] /\ H101 = H110) (fun _ k112 => ?_) (fun α H110 hM => ?_)
   ·refine g_' (q_ (.bool y83.2.2.2.2.1) (q_ (.bool (!y83.2.2.2.2.1)) (q_ (.bool (!y83.2.2.2.2.1)) ?_)))
    by_cases h114 : (!y83.2.2.2.2.1) = true
    ·have r115 := ite_t h114 hx108
     rw [h114]
     refine n_' (n_' (n_' (n_' (q_ (.bool true) (s_nil ?_)))))
     obtain rfl := oi_ r115
     exact k112 _ _ ⟨ha_, rfl⟩
    have r116 := ite_f h114 hx108
    rw [nb h114]
    refine q_ (pt_ b95 0) (lr_ 27 0 (.int .u64 y83.2.1) r104 (q_ (.int .u64 most) (q_ (.bool (decide (y83.2.1 > most))) (q_ (.bool (decide (y83.2.1 > most))) (s_nil ?_)))))
    obtain rfl := oi_ r116
    exact k112 _ _ ⟨ha_, rfl⟩
   obtain ⟨hh113, rfl⟩ := hM
   obtain ⟨β, rfl⟩ := has_ex hh113
   clear hh113
   refine k106 _ _ ?_
   refine wb_ (o107) (fun h117 => ?_) fun h117 => ?_
   ·have r118 := ite_t h117 r109
    refine w_ret (th_ret (bl_ret (th_ret (th_ret (bl_ret (th_ret ?_))))))
    obtain ⟨v119, hv120, hz121⟩ := map_some r118
    subst hz121
    obtain rfl := it_inr hn62
    have hq122 := elim_inl r29
    rw [hq122] at hv120
    refine b_ret (vs := []) (rfl) ?_
    have n123 := (t_ (t_ e17.n e47.n) e88.n)
    have d124 := (hb98.djn (h_s_8.ltF.le n123))
    have u125 := (((m53.frS e88 (Dj.app (Dj.symm dj_b_s_8_b_s) d80)).ext e97).frS e103 d124)
    have d126 := (hb98.djn (m49.lt.le e88.n))
    have u127 := ((m89.ext e97).fr e103 d126)
    have d128 := (hb98.djn (h_s.ltF.le n123))
    have u129 := ((m90.ext e97).frS e103 d128)
    obtain rfl := oi_ hv120
    exact ⟨(.slice a92 n93 c94), f51, rfl, (fs_ wf ((fs_ wf (fs_ wf (fs_ wf (fr_ wf) e17 ir_) e47 (Inn.app Inn.left (Inn.app (Inn.right Inn.left) (Inn.trans (Inn.right (Inn.right ir_)) (Nat.le_refl _) i21)))) e88 (Inn.app Inn.left (Inn.trans (Inn.trans (Inn.right (Inn.right ir_)) (Nat.le_refl _) i21) e17.n i56))).extR e97) e103 (hb98.fresh n123)), u125, u127, u129, (Inn.trans (Inn.trans ir_ (Nat.le_refl _) i21) e17.n i56)⟩
   have r130 := ite_bf h117 r109
   refine w_skip (k105 _ _ (g_' (q_ (pt_ b_s 0) (q_ (i_ y83.1) (lr_ 110 0 (.agg #[.int .u64 y83.2.1, i_ y83.2.2.1, i_ y83.2.2.2.1]) r104 ?_)))))
   have n131 := (t_ (t_ e17.n e47.n) e88.n)
   have d132 := (hb98.djn (h_s_2.lt.le n131))
   have u133 := (((u74.fr e88 (Dj.app dj_b_s_fp_s_2 d77)).ext e97).fr e103 d132)
   have d134 := (hb98.djn (h_s_.ltF.le n131))
   have u135 := (((u76.frS e88 (Dj.app dj_b_s_b_s_ d78)).ext e97).frS e103 d134)
   have d136 := (hb98.djn (m49.lt.le e88.n))
   have u137 := ((m89.ext e97).fr e103 d136)
   have d138 := (hb98.djn (h_s_8.ltF.le n131))
   have u139 := (((m53.frS e88 (Dj.app (Dj.symm dj_b_s_8_b_s) d80)).ext e97).frS e103 d138)
   have d140 := (hb98.djn (h_s.ltF.le n131))
   have u141 := ((m90.ext e97).frS e103 d140)
   obtain ⟨y142, hy143, r144⟩ := bs_ r130
   refine ck_ (c_witness_seek_settle e103.wf u133 u135 u137 u139 u141 dj_b_s_8_b_s (Dj.symm d80) dj_b_s_8_fp_s_2 dj_b_s_8_b_s_ d82 d77 dj_b_s_fp_s_2 d78 dj_b_s_b_s_ d80 hy143) ?_
   rintro _ H147 ⟨s145, f146, rfl, e148, m149, m150, m151, i152⟩
   obtain ⟨a154, n155, c156, rfl⟩ := m150.form
   refine s_nil (k71 _ _ (g_' ?_))
   obtain ⟨g157, r158⟩ := G_some r144
   refine w_' ((i2 + 1)) (wrap64 g157) (q_ (i_ (i2 + 1)) (s_nil ?_))
   have n159 := (t_ e47.n e88.n)
   have n160 := (t_ (t_ (t_ e47.n e88.n) e97.n) e103.n)
   obtain rfl := oi_ r158
   exact k63 n59 _ _ lt_ ⟨y142.2, y142.1, (i2 + 1), (.slice a154 n155 c156), f146, hn62, ha_, (fs_ e17.wf (fs_ e17.wf ((fs_ e17.wf (fs_ e17.wf (fr_ e17.wf) e47 ir_) e88 (Inn.app Inn.left (Inn.trans (Inn.right (Inn.right ir_)) (Nat.le_refl _) i56))).extR e97) e103 (hb98.fresh n159)) e148 (Inn.app Inn.left (Inn.app (Inn.right Inn.left) (Inn.trans (Inn.right (Inn.right ir_)) (Nat.le_refl _) i56)))), m150, m149, m151, (Inn.trans (Inn.trans ir_ (Nat.le_refl _) i56) n160 i152)⟩
  have r161 := ite_f h69 hz61
  refine w_exit (th_exit (th_exit (bl_eq ?_)))
  obtain rfl := oi_ r161
  obtain rfl := it_inr hn62
  exact k42 _ _ ⟨_, rfl, (.slice a64 n65 c66), f51, trivial, (fs_ e17.wf (fr_ e17.wf) e47 ir_), m53, m49, m55, (Inn.trans ir_ (Nat.le_refl _) i56)⟩
 obtain ⟨o27, rfl, s37, f38, hh43, e32, m34, m36, m40, i41⟩ := hM
 have r162 := elim_inr r29
 obtain ⟨β, rfl⟩ := has_ex hh43
 clear hh43
 obtain ⟨a163, n164, c165, rfl⟩ := m36.form
 refine b_nrm (vs := []) (rfl) ?_
 obtain rfl := oi_ r162
 exact ⟨(.slice a163 n164 c165), f38, rfl, (fs_ wf (fs_ wf (fr_ wf) e17 ir_) e32 (Inn.app Inn.left (Inn.app (Inn.right Inn.left) (Inn.trans (Inn.right (Inn.right ir_)) (Nat.le_refl _) i21)))), m34, m36, m40, (Inn.trans (Inn.trans ir_ (Nat.le_refl _) i21) e17.n i41)⟩
end Go.Vd

/-! (KWf7) -/

set_option maxRecDepth 100000
set_option maxHeartbeats 4000000
set_option linter.unusedVariables false
namespace Go.Vd
open Go.Proofs
attribute [local irreducible] wpSeq wpOrd aWp
theorem c_witness_Find {H : AH} {b_o : Nat} {hd_o_ : Value} {fp_o_ : Fp} {hd_goals : Value} {fp_goals : Fp} {o_ : List (Bool × List (Int × Int × Int) × List (Int × Int × Int))} {o_2 : Int} {o_3 : Int} {u : Int} {skip : Int} {goals : List (Int)} {most : Int} {hops : Int} {settles : Int} {r : List (Int) × Er}
    (wf : WF H) (h_o_ : Nd enc_i64_u64_i64 3 H hd_o_ o_ fp_o_ []) (h_o : Row H b_o [hd_o_, i_ o_2, i_ o_3]) (h_goals : Sq (encI .i64) 1 H hd_goals goals fp_goals) (hr : z_witness_Find o_ o_2 o_3 u skip goals most hops settles = some r) :
    ACalls Tryz.prog 9 #[pt_ b_o 0, i_ u, i_ skip, hd_goals, .int .u64 most, i_ hops, i_ settles] H fun v H' => ∃ (s3 : Value) (f4 : Fp) (v7 : Value) (f8 : Fp), v = .tuple #[s3, v7] /\ FrS [] H H' /\ Ow (encI .u64) 1 H' s3 r.1 f4 /\ Ev 78 116 H' v7 r.2 f8 /\ Inn [] H f4 /\ Inn [] H f8 /\ Dj f4 f8 := by
 refine ab_ Tryz.func9 ?_
 unfold z_witness_Find at hr
 refine sq_ fun k12 => g_' (q_ (.slice none 0 0) (q_ (.nilIface) (s_nil (k12 _ _ (sq_ fun k13 => sq_ fun k14 => g_' (q_ (pt_ b_o 0) (q_ (.bool false) (s_nil (k14 _ _ ?_)))))))))
 refine wb_ false (fun h => by cases h) fun _ => ?_
 refine w_skip (k13 _ _ (sq_ fun k15 => sq_ fun k16 => g_' (q_ (pt_ b_o 0) (q_ (i_ u) ?_))))
 obtain ⟨y17, hy18, r19⟩ := bs_ hr
 refine ck_ (c_overlay_Overlay_Alive wf h_o_ h_o hy18) ?_
 rintro _ _ ⟨rfl, rfl⟩
 refine q_ (.bool (!y17)) (s_nil (k16 _ _ ?_))
 refine wb_ ((!y17)) (fun h22 => ?_) fun h22 => ?_
 ·have r23 := ite_t h22 r19
  refine sq_ fun k24 => g_' (q_ (.iface 78 (i_ 7)) (q_ (.slice none 0 0) (q_ (.iface 78 (i_ 7)) (s_nil (k24 _ _ ?_)))))
  refine w_ret (th_ret ?_)
  refine br_ [.slice none 0 0, .iface 78 (i_ 7)] ?_
  obtain rfl := oi_ r23
  exact ⟨(.slice none 0 0), [], (.iface 78 (i_ 7)), [], rfl, (f0_ wf), (Ow.nil (by decide)), Ev.no, in_, in_, dn_⟩
 have r25 := ite_bf h22 r19
 refine w_skip (k15 _ _ (sq_ fun k26 => sq_ fun k27 => g_' (q_ (hd_goals) (h_goals.ln_ 26 (q_ (i_ 0) (s_nil (k27 _ _ ?_)))))))
 obtain ⟨z31, hx29, r30⟩ := bs_ r25
 refine w_mid (fun α H32 => ∃ o28, z31 = Sum.inr o28 /\ Has α [(0, pt_ b_o 0), (1, i_ u), (2, i_ skip), (3, hd_goals), (4, .int .u64 most), (5, i_ hops), (6, i_ settles)] /\ H = H32) (fun _ k34 => ?_) (fun α H32 hM => ?_)
 ·refine w_block ?_
  obtain ⟨n36, hn37⟩ := loopO_iff.1 hx29
  refine w_loopn (fun n α H38 => ∃ (i0 : Int), iterO (fun zz_ => z_witness_Find_l0 o_ o_2 o_3 goals zz_) n i0 = some z31 /\ Has α [(0, pt_ b_o 0), (1, i_ u), (2, i_ skip), (3, hd_goals), (4, .int .u64 most), (5, i_ hops), (6, i_ settles), (33, hd_goals), (34, i_ (goals.length : Int)), (35, i_ i0)] /\ H = H38) n36 ⟨0, hn37, ha_, rfl⟩ ?_
  rintro n36 α H38 ⟨i0, hi41, hh40, rfl⟩ K46 k46
  obtain ⟨n42, z43, rfl, hz44, hn45⟩ := iter_succ hi41
  obtain ⟨β, rfl⟩ := has_ex hh40
  clear hh40
  replace hz44 : z_witness_Find_l0 o_ o_2 o_3 goals i0 = some z43 := hz44
  unfold z_witness_Find_l0 at hz44
  refine sq_ fun k47 => g_' (q_ (.bool (decide (i0 < (goals.length : Int)))) (s_nil (k47 _ _ (sq_ fun k48 => ?_))))
  refine wc_ (i0 < (goals.length : Int)) (fun h49 => ?_) fun h49 => ?_
  ·have r50 := ite_t h49 hz44
   refine w_skip (k48 _ _ (sq_ fun k51 => w_block (sq_ fun k52 => g_' (q_ (i_ i0) ?_))))
   obtain ⟨g53, r54⟩ := G_some r50
   refine h_goals.ix_ 26 g53 h49 (le_ 3 0 (i_ (gt goals i0)) h_goals g53 h49 (q_ (i_ i0) (q_ (i_ (gt goals i0)) (s_nil (k52 _ _ (sq_ fun k55 => g_' (q_ (pt_ b_o 0) (q_ (i_ (gt goals i0)) ?_))))))))
   obtain ⟨y56, hy57, r58⟩ := bs_ r54
   refine ck_ (c_overlay_Overlay_Alive wf h_o_ h_o hy57) ?_
   rintro _ _ ⟨rfl, rfl⟩
   refine q_ (.bool (!y56)) (s_nil (k55 _ _ ?_))
   refine wb_ ((!y56)) (fun h61 => ?_) fun h61 => ?_
   ·have r62 := ite_t h61 r58
    refine sq_ fun k63 => g_' (q_ (i_ i0) (q_ (.iface 78 (i_ 7)) ?_))
    obtain ⟨y64, hy65, r66⟩ := bs_ r62
    refine ck_ (c_fault_At wf (Ev.no (tf := 116)) hy65) ?_
    rintro v67 H69 ⟨_, f68, rfl, e70, m71, i72⟩
    refine q_ (.slice none 0 0) (q_ (v67) (s_nil (k63 _ _ ?_)))
    refine w_ret (bl_ret (th_ret (th_ret (bl_ret (th_ret (th_ret ?_))))))
    obtain ⟨v74, hv75, hz76⟩ := map_some r66
    subst hz76
    obtain rfl := it_inr hn45
    have hq77 := elim_inl r30
    rw [hq77] at hv75
    refine br_ [.slice none 0 0, v67] ?_
    obtain rfl := oi_ hv75
    exact ⟨(.slice none 0 0), [], (v67), f68, rfl, (fs_ wf (f0_ wf) e70 in_), (Ow.nil (by decide)), m71, in_, (i72.fresh (Nat.le_refl _)), dn_⟩
   have r78 := ite_bf h61 r58
   refine w_skip (k51 _ _ (g_' ?_))
   obtain ⟨g79, r80⟩ := G_some r78
   refine w_' ((i0 + 1)) (wrap64 (by have := g79; omega)) (q_ (i_ (i0 + 1)) (s_nil ?_))
   obtain rfl := oi_ r80
   exact k46 n42 _ _ lt_ ⟨(i0 + 1), hn45, ha_, rfl⟩
  have r81 := ite_f h49 hz44
  refine w_exit (th_exit (th_exit (bl_eq ?_)))
  obtain rfl := oi_ r81
  obtain rfl := it_inr hn45
  exact k34 _ _ ⟨_, rfl, ha_, rfl⟩
 obtain ⟨o28, rfl, hh35, rfl⟩ := hM
 have r82 := elim_inr r30
 obtain ⟨β, rfl⟩ := has_ex hh35
 clear hh35
 refine k26 _ _ (sq_ fun k83 => g_' (q_ (pt_ b_o 0) (q_ (i_ skip) (q_ (i_ hops) ?_))))
 refine s_ms .i64 enc_u64_i64_i64 wf (by kernel_rfl) fun b84 H85 e86 hb87 mp88 => ?_
 refine q_ (.agg #[pt_ b_o 0, i_ skip, i_ hops, .slice none 0 0, .map (some b84)]) ?_
 refine rl_ e86.wf [pt_ b_o 0, i_ skip, i_ hops, .slice none 0 0, .map (some b84)] fun b90 H91 e92 hb93 r94 => ?_
 refine q_ (pt_ b90 0) (s_nil (k83 _ _ (sq_ fun k96 => g_' (q_ (pt_ b90 0) (q_ (i_ u) (q_ (.int .u64 most) (q_ (i_ settles) ?_)))))))
 have u97 := ((h_o_.ext e86).ext e92)
 have u98 := ((h_o.ext e86).ext e92)
 have u99 := (mp88.ext e92)
 have d100 := (hb93.djn mp88.ltF)
 have d101 := (hb93.djn (h_o_.lt.le e86.n))
 have d102 := (hb93.djn (h_o.ltF.le e86.n))
 obtain ⟨y103, hy104, r105⟩ := bs_ r82
 refine ck_ (c_witness_seek_run e92.wf u97 u98 (Ow.nil (enc := enc_u64_i64) (sz := 2) (by decide)) u99 r94 (hb87.djn h_o_.lt) (hb87.djn h_o.ltF) Dj.nil_r (Dj.symm d100) dn_ dn_ d101 dn_ d102 hy104) ?_
 rintro _ H108 ⟨s106, f107, rfl, e109, m110, m111, m112, i113⟩
 obtain ⟨a115, n116, c117, rfl⟩ := m111.form
 refine s_nil (k96 _ _ (sq_ fun k118 => g_' (q_ (.slice none 0 0) (s_nil (k118 _ _ (sq_ fun k119 => sq_ fun k120 => g_' (q_ (hd_goals) ?_)))))))
 have d121 := (hb93.djn (h_goals.lt.le e86.n))
 have u122 := (((h_goals.ext e86).ext e92).fr e109 (Dj.app d121 (Dj.app (hb87.djn h_goals.lt) dn_)))
 refine u122.ln_ 26 (q_ (i_ 0) (s_nil (k120 _ _ ?_)))
 obtain ⟨o123, hx124, r125⟩ := bs_ r105
 refine w_mid (fun α H126 => ∃ (s130 : Value) (f131 : Fp), Has α [(19, s130)] /\ FrS [] H108 H126 /\ Ow (encI .u64) 1 H126 s130 o123 f131 /\ Inn [] H108 f131) (fun _ k133 => ?_) (fun α H126 hM => ?_)
 ·refine w_block ?_
  obtain ⟨n135, hn136⟩ := loopO_iff.1 hx124
  refine w_loopn (fun n α H137 => ∃ (l1 : List (Int)), ∃ (i2 : Int), ∃ (s141 : Value), ∃ (f142 : Fp), iterO (fun zz_ => z_witness_Find_l1 goals y103 zz_.1 zz_.2) n (l1, i2) = some o123 /\ Has α [(18, pt_ b90 0), (19, s141), (59, hd_goals), (60, i_ (goals.length : Int)), (61, i_ i2)] /\ FrS [] H108 H137 /\ Ow (encI .u64) 1 H137 s141 l1 f142 /\ Inn [] H108 f142) n135 ⟨[], 0, (.slice none 0 0), [], hn136, ha_, (fr_ e109.wf), (Ow.nil (by decide)), in_⟩ ?_
  rintro n135 α H137 ⟨l1, i2, s141, f142, hi145, hh144, e138, m140, i143⟩ K150 k150
  obtain ⟨n146, z147, rfl, hz148, hn149⟩ := iter_succ hi145
  obtain ⟨β, rfl⟩ := has_ex hh144
  clear hh144
  replace hz148 : z_witness_Find_l1 goals y103 l1 i2 = some z147 := hz148
  unfold z_witness_Find_l1 at hz148
  obtain ⟨a151, n152, c153, rfl⟩ := m140.form
  refine sq_ fun k154 => g_' (q_ (.bool (decide (i2 < (goals.length : Int)))) (s_nil (k154 _ _ (sq_ fun k155 => ?_))))
  refine wc_ (i2 < (goals.length : Int)) (fun h156 => ?_) fun h156 => ?_
  ·have r157 := ite_t h156 hz148
   refine w_skip (k155 _ _ (sq_ fun k158 => w_block (sq_ fun k159 => g_' ?_)))
   obtain ⟨g160, r161⟩ := G_some r157
   have u162 := (u122.fr e138 dn_)
   refine u162.ix_ 26 g160 h156 (le_ 3 0 (i_ (gt goals i2)) u162 g160 h156 (q_ (i_ (gt goals i2)) (s_nil (k159 _ _ (sq_ fun k163 => g_' (q_ (.int .u64 18446744073709551615) (s_nil (k163 _ _ (sq_ fun k164 => sq_ fun k165 => g_' (q_ (pt_ b90 0) (q_ (pt_ b90 0) (q_ (pt_ b90 4) ?_))))))))))))
   have u166 := (m112.frS e138 dn_)
   refine lr_ 103 4 (.map (some b84)) u166 (q_ (i_ (gt goals i2)) ?_)
   have u167 := (m110.frS e138 dn_)
   refine l_' (.tuple #[.agg #[.int .u64 (((y103.1 (gt goals i2)).getD ((0, 0, 0) : Int × Int × Int)).1), i_ (((y103.1 (gt goals i2)).getD ((0, 0, 0) : Int × Int × Int)).2.1), i_ (((y103.1 (gt goals i2)).getD ((0, 0, 0) : Int × Int × Int)).2.2)], .bool ((y103.1 (gt goals i2)).isSome)]) (aLookup Tryz.prog 103 (.map (some b84)) (i_ (gt goals i2)) true H137) (u167.look2 ((0, 0, 0) : Int × Int × Int) (zv := .agg #[.int .u64 0, i_ 0, i_ 0]) rfl (by kernel_rfl) (by kernel_rfl) _ rfl) (q_ (.tuple #[.agg #[.int .u64 (((y103.1 (gt goals i2)).getD ((0, 0, 0) : Int × Int × Int)).1), i_ (((y103.1 (gt goals i2)).getD ((0, 0, 0) : Int × Int × Int)).2.1), i_ (((y103.1 (gt goals i2)).getD ((0, 0, 0) : Int × Int × Int)).2.2)], .bool ((y103.1 (gt goals i2)).isSome)]) (q_ (.agg #[.int .u64 (((y103.1 (gt goals i2)).getD ((0, 0, 0) : Int × Int × Int)).1), i_ (((y103.1 (gt goals i2)).getD ((0, 0, 0) : Int × Int × Int)).2.1), i_ (((y103.1 (gt goals i2)).getD ((0, 0, 0) : Int × Int × Int)).2.2)]) (q_ (.bool ((y103.1 (gt goals i2)).isSome)) ?_)))
   refine rk_ e138.wf [.int .u64 0, i_ 0, i_ 0] fun b168 H169 e170 hb171 r172 => ?_
   obtain ⟨H174, q175, e176, r177⟩ := ra_ 110 0 e170.wf r172 [.int .u64 (((y103.1 (gt goals i2)).getD ((0, 0, 0) : Int × Int × Int)).1), i_ (((y103.1 (gt goals i2)).getD ((0, 0, 0) : Int × Int × Int)).2.1), i_ (((y103.1 (gt goals i2)).getD ((0, 0, 0) : Int × Int × Int)).2.2)] [.int .u64 (((y103.1 (gt goals i2)).getD ((0, 0, 0) : Int × Int × Int)).1), i_ (((y103.1 (gt goals i2)).getD ((0, 0, 0) : Int × Int × Int)).2.1), i_ (((y103.1 (gt goals i2)).getD ((0, 0, 0) : Int × Int × Int)).2.2)]
   refine ek_ q175 (q_ (.bool ((y103.1 (gt goals i2)).isSome)) (s_nil (k165 _ _ (sq_ fun k178 => g_' (q_ (.bool ((y103.1 (gt goals i2)).isSome)) (s_nil (k178 _ _ ?_)))))))
   refine wb_ ((y103.1 (gt goals i2)).isSome) (fun h179 => ?_) fun h179 => ?_
   ·have r180 := ite_t h179 r161
    refine g_' (q_ (pt_ b168 0) (lr_ 27 0 (.int .u64 (((y103.1 (gt goals i2)).getD ((0, 0, 0) : Int × Int × Int)).1)) r177 (q_ (.int .u64 (((y103.1 (gt goals i2)).getD ((0, 0, 0) : Int × Int × Int)).1)) (s_nil (k164 _ _ (g_' (q_ (.slice a151 n152 c153) (q_ (.int .u64 (((y103.1 (gt goals i2)).getD ((0, 0, 0) : Int × Int × Int)).1)) ?_))))))))
    refine s_owk (enc := (encI .u64)) (sz := 1) e176.wf [((y103.1 (gt goals i2)).getD ((0, 0, 0) : Int × Int × Int)).1] 1 (by decide) (fun _ _ => rfl) (fun _ _ => rfl) rfl (by kernel_rfl) fun s181 f182 H183 e184 hf185 hm186 => ?_
    obtain ⟨a187, n188, c189, rfl⟩ := hm186.form
    have u191 := (((m140.ext e170).fr e176 (hb171.djn m140.lt)).ext e184)
    obtain ⟨g192, r193⟩ := G_some r180
    obtain ⟨s194, H195, f196, q200, e197, hm198, hf199⟩ := Ow.append (P := Tryz.prog) 8 e184.wf u191 hm186.sq (fun _ _ => rfl) (at_ := #[36, 36]) rfl rfl (by kernel_rfl) (by kernel_rfl) (by decide) (by have := g192; first | omega | (simp only [List.length_cons, List.length_nil] at this ⊢; omega) | (simp at this ⊢; omega))
    obtain ⟨a201, n202, c203, rfl⟩ := hm198.form
    refine s_ek (.slice a201 n202 c203) (by kernel_rfl) (q200) ?_
    refine q_ (.slice a201 n202 c203) (s_nil (k158 _ _ (g_' ?_)))
    obtain ⟨g205, r206⟩ := G_some r193
    refine w_' ((i2 + 1)) (wrap64 (by have := g205; omega)) (q_ (i_ (i2 + 1)) (s_nil ?_))
    have n207 := (t_ (t_ (t_ e138.n e170.n) e176.n) e184.n)
    obtain rfl := oi_ r206
    exact k150 n146 _ _ lt_ ⟨(l1 ++ [((y103.1 (gt goals i2)).getD ((0, 0, 0) : Int × Int × Int)).1]), (i2 + 1), (.slice a201 n202 c203), f196, hn149, ha_, (fs_ e109.wf ((fs_ e109.wf ((fs_ e109.wf (fr_ e109.wf) e138 in_).extR e170) e176 (hb171.fresh e138.n)).extR e184) e197 (i143.fresh (Nat.le_refl _))), hm198, (Inn.trans (i143.fresh (Nat.le_refl _)) n207 hf199)⟩
   have r208 := ite_bf h179 r161
   refine w_skip (k164 _ _ (g_' (q_ (.slice a151 n152 c153) (q_ (.int .u64 18446744073709551615) ?_))))
   refine s_owk (enc := (encI .u64)) (sz := 1) e176.wf [18446744073709551615] 1 (by decide) (fun _ _ => rfl) (fun _ _ => rfl) rfl (by kernel_rfl) fun s209 f210 H211 e212 hf213 hm214 => ?_
   obtain ⟨a215, n216, c217, rfl⟩ := hm214.form
   have u219 := (((m140.ext e170).fr e176 (hb171.djn m140.lt)).ext e212)
   obtain ⟨g220, r221⟩ := G_some r208
   obtain ⟨s222, H223, f224, q228, e225, hm226, hf227⟩ := Ow.append (P := Tryz.prog) 8 e212.wf u219 hm214.sq (fun _ _ => rfl) (at_ := #[36, 36]) rfl rfl (by kernel_rfl) (by kernel_rfl) (by decide) (by have := g220; first | omega | (simp only [List.length_cons, List.length_nil] at this ⊢; omega) | (simp at this ⊢; omega))
   obtain ⟨a229, n230, c231, rfl⟩ := hm226.form
   refine s_ek (.slice a229 n230 c231) (by kernel_rfl) (q228) ?_
   refine q_ (.slice a229 n230 c231) (s_nil (k158 _ _ (g_' ?_)))
   obtain ⟨g233, r234⟩ := G_some r221
   refine w_' ((i2 + 1)) (wrap64 (by have := g233; omega)) (q_ (i_ (i2 + 1)) (s_nil ?_))
   have n235 := (t_ (t_ (t_ e138.n e170.n) e176.n) e212.n)
   obtain rfl := oi_ r234
   exact k150 n146 _ _ lt_ ⟨(l1 ++ [18446744073709551615]), (i2 + 1), (.slice a229 n230 c231), f224, hn149, ha_, (fs_ e109.wf ((fs_ e109.wf ((fs_ e109.wf (fr_ e109.wf) e138 in_).extR e170) e176 (hb171.fresh e138.n)).extR e212) e225 (i143.fresh (Nat.le_refl _))), hm226, (Inn.trans (i143.fresh (Nat.le_refl _)) n235 hf227)⟩
  have r236 := ite_f h156 hz148
  refine w_exit (th_exit (th_exit (bl_eq ?_)))
  obtain rfl := oi_ r236
  obtain rfl := it_inr hn149
  exact k133 _ _ ⟨(.slice a151 n152 c153), f142, ha_, (fs_ e109.wf (fr_ e109.wf) e138 in_), m140, (i143.fresh (Nat.le_refl _))⟩
 obtain ⟨s130, f131, hh134, e127, m129, i132⟩ := hM
 obtain ⟨β, rfl⟩ := has_ex hh134
 clear hh134
 obtain ⟨a237, n238, c239, rfl⟩ := m129.form
 refine k119 _ _ (sq_ fun k240 => g_' (q_ (.slice a237 n238 c239) (q_ (.slice a237 n238 c239) (q_ (.nilIface) (s_nil (k240 _ _ ?_))))))
 refine w_ret ?_
 refine br_ [.slice a237 n238 c239, .nilIface] ?_
 have n241 := (t_ (t_ e86.n e92.n) e109.n)
 obtain rfl := oi_ r125
 exact ⟨(.slice a237 n238 c239), f131, (.nilIface), [], rfl, (fs_ wf (fs_ wf (((f0_ wf).extR e86).extR e92) e109 (Inn.app (hb93.fresh e86.n) (Inn.app (hb87.fresh (Nat.le_refl _)) in_))) e127 in_), m129, Ev.nil, (i132.fresh n241), in_, Dj.nil_r⟩
theorem c_viaductref11_put {H : AH} {hd_l : Value} {fp_l : Fp} {l : List (Int × Int × Int)} {Node : Int} {Weight : Int} {Via : Int} {r : List (Int × Int × Int)}
    (wf : WF H) (h_l : Sq enc_i64_u64_i64 3 H hd_l l fp_l) (hr : z_viaductref11_put l Node Weight Via = some r) :
    ACalls Tryz.prog 78 #[hd_l, .agg #[i_ Node, .int .u64 Weight, i_ Via]] H fun v H' => ∃ (s3 : Value) (f4 : Fp), v = s3 /\ FrS [] H H' /\ Ow enc_i64_u64_i64 3 H' s3 r f4 /\ Inn [] H f4 := by
 refine ab_ Tryz.func78 ?_
 unfold z_viaductref11_put at hr
 refine sq_ fun k6 => g_' ?_
 refine rl_ wf [i_ Node, .int .u64 Weight, i_ Via] fun b7 H8 e9 hb10 r11 => ?_
 refine q_ (.slice none 0 0) (s_nil (k6 _ _ (sq_ fun k13 => g_' (q_ (i_ 0) (s_nil (k13 _ _ (sq_ fun k14 => ?_)))))))
 obtain ⟨o15, hx16, r17⟩ := bs_ hr
 refine w_mid (fun α H18 => Has α [(0, hd_l), (3, pt_ b7 0), (5, i_ o15)] /\ H8 = H18) (fun _ k20 => ?_) (fun α H18 hM => ?_)
 ·refine w_block ?_
  obtain ⟨n22, hn23⟩ := loopO_iff.1 hx16
  refine w_loopn (fun n α H24 => ∃ (i0 : Int), iterO (fun zz_ => z_viaductref11_put_l0 l Node zz_) n i0 = some o15 /\ Has α [(0, hd_l), (3, pt_ b7 0), (5, i_ i0)] /\ H8 = H24) n22 ⟨0, hn23, ha_, rfl⟩ ?_
  rintro n22 α H24 ⟨i0, hi27, hh26, rfl⟩ K32 k32
  obtain ⟨n28, z29, rfl, hz30, hn31⟩ := iter_succ hi27
  obtain ⟨β, rfl⟩ := has_ex hh26
  clear hh26
  replace hz30 : z_viaductref11_put_l0 l Node i0 = some z29 := hz30
  unfold z_viaductref11_put_l0 at hz30
  refine sq_ fun k33 => sq_ fun k34 => ?_
  refine w_draw [0, 1, 2, 3, 4, 5, 6, 7, 8, 9, 10, 11, 12, 13] (by kernel_rfl) ?_
  refine e_' (i_ i0) (e_' (hd_l) ?_)
  have u35 := (h_l.ext e9)
  refine u35.mn_ 132 ?_
  refine db_ (i0 < (l.length : Int)) (fun h36 => ?_) fun h36 => ?_
  ·have r37 := ite_t h36 hz30
   refine e_' (.bool true) (e_' (hd_l) (e_' (i_ i0) ?_))
   obtain ⟨g38, r39⟩ := G_some r37
   refine u35.mx_ 132 g38 h36 (m_' (elp hd_l 3 i0.toNat 0) (aFieldAddr Tryz.prog 134 (elp hd_l 3 i0.toNat 0) 0) (Sq.fldq (d := 0) u35 g38 h36 (by kernel_rfl)) (me_ 3 0 (i_ ((gt l i0).1)) u35 g38 h36 (e_' (pt_ b7 0) (mr_ 3 0 (i_ Node) r11 (e_' (.bool (decide (((gt l i0).1) < Node))) (e_' (.bool (decide (((gt l i0).1) < Node))) ?_))))))
   refine d_nil ?_
   refine k34 _ _ ?_
   refine wc_ (((gt l i0).1) < Node) (fun h40 => ?_) fun h40 => ?_
   ·have r41 := ite_t h40 r39
    refine w_skip (k33 _ _ (w_block (g_' (q_ (i_ i0) ?_))))
    obtain ⟨g42, r43⟩ := G_some r41
    refine w_' ((i0 + 1)) (wrap64 (by have := g42; omega)) (q_ (i_ (i0 + 1)) (s_nil ?_))
    obtain rfl := oi_ r43
    exact k32 n28 _ _ lt_ ⟨(i0 + 1), hn31, ha_, rfl⟩
   have r44 := ite_f h40 r39
   refine w_exit (th_exit (th_exit (bl_eq ?_)))
   obtain rfl := oi_ r44
   obtain rfl := it_inr hn31
   exact k20 _ _ ⟨ha_, rfl⟩
  have r45 := ite_f h36 hz30
  refine e_' (.bool false) (j_' (j_' (j_' (j_' (j_' (j_' (j_' (j_' (e_' (.bool false) ?_)))))))))
  refine d_nil ?_
  refine k34 _ _ ?_
  refine wb_ false (fun h => by cases h) fun _ => ?_
  refine w_exit (th_exit (th_exit (bl_eq ?_)))
  obtain rfl := oi_ r45
  obtain rfl := it_inr hn31
  exact k20 _ _ ⟨ha_, rfl⟩
 obtain ⟨hh21, rfl⟩ := hM
 obtain ⟨β, rfl⟩ := has_ex hh21
 clear hh21
 refine k14 _ _ (sq_ fun k46 => g_' (q_ (.slice none 0 0) (s_nil (k46 _ _ (sq_ fun k47 => g_' (q_ (.slice none 0 0) (q_ (hd_l) (q_ (i_ o15) ?_))))))))
 obtain ⟨g48, r49⟩ := G_some r17
 have u53 := (h_l.ext e9)
 obtain ⟨s50, q51, hs52⟩ := Sq.cut (P := Tryz.prog) u53 (t := 132) (by kernel_rfl) (lo := none) (hi := (some (i_ o15))) (l := 0) (r := o15.toNat) (rfl) (aBound_int _ (by have := g48; omega)) (by have := g48; omega) (by have := g48; omega)
 obtain ⟨a54, n55, c56, rfl⟩ := hs52.form
 refine s_ql (.slice a54 n55 c56) (by kernel_rfl) q51 ?_
 obtain ⟨g58, r59⟩ := G_some r49
 obtain ⟨s60, H61, f62, q66, e63, hm64, hf65⟩ := Ow.append (P := Tryz.prog) 24 e9.wf (Ow.nil (enc := enc_i64_u64_i64) (sz := 3) (by decide)) hs52 (fun _ _ => rfl) (at_ := #[132, 132]) rfl rfl (by kernel_rfl) (by kernel_rfl) (by decide) (by have := g58; first | omega | (simp only [List.length_cons, List.length_nil] at this ⊢; omega) | (simp at this ⊢; omega))
 obtain ⟨a67, n68, c69, rfl⟩ := hm64.form
 refine s_ek (.slice a67 n68 c69) (by kernel_rfl) (q66) ?_
 refine q_ (.slice a67 n68 c69) (s_nil (k47 _ _ (sq_ fun k71 => g_' (q_ (.slice a67 n68 c69) ?_))))
 have u72 := (r11.frS e63 dn_)
 refine lr_ 134 0 (.agg #[i_ Node, .int .u64 Weight, i_ Via]) u72 ?_
 refine s_owk (enc := enc_i64_u64_i64) (sz := 3) e63.wf [(Node, Weight, Via)] 1 (by decide) (fun _ _ => rfl) (fun _ _ => rfl) rfl (by kernel_rfl) fun s73 f74 H75 e76 hf77 hm78 => ?_
 obtain ⟨a79, n80, c81, rfl⟩ := hm78.form
 have u83 := (hm64.ext e76)
 obtain ⟨g84, r85⟩ := G_some r59
 obtain ⟨s86, H87, f88, q92, e89, hm90, hf91⟩ := Ow.append (P := Tryz.prog) 24 e76.wf u83 hm78.sq (fun _ _ => rfl) (at_ := #[132, 132]) rfl rfl (by kernel_rfl) (by kernel_rfl) (by decide) (by have := g84; first | omega | (simp only [List.length_cons, List.length_nil] at this ⊢; omega) | (simp at this ⊢; omega))
 obtain ⟨a93, n94, c95, rfl⟩ := hm90.form
 refine s_ek (.slice a93 n94 c95) (by kernel_rfl) (q92) ?_
 refine q_ (.slice a93 n94 c95) (s_nil (k71 _ _ (sq_ fun k97 => g_' (q_ (.slice a93 n94 c95) (q_ (hd_l) (q_ (i_ o15) ?_))))))
 have d101 := (hf65.djn (h_l.lt.le e9.n))
 have u102 := (((u53.fr e63 dn_).ext e76).fr e89 d101)
 obtain ⟨s98, q99, hs100⟩ := Sq.cut (P := Tryz.prog) u102 (t := 132) (by kernel_rfl) (lo := (some (i_ o15))) (hi := none) (l := o15.toNat) (r := l.length) (aBound_int _ (by have := g48; omega)) (rfl) (by have := g48; omega) (by have := g48; omega)
 obtain ⟨a103, n104, c105, rfl⟩ := hs100.form
 refine s_ql (.slice a103 n104 c105) (by kernel_rfl) q99 ?_
 obtain ⟨g107, r108⟩ := G_some r85
 obtain ⟨s109, H110, f111, q115, e112, hm113, hf114⟩ := Ow.append (P := Tryz.prog) 24 e89.wf hm90 hs100 (fun _ _ => rfl) (at_ := #[132, 132]) rfl rfl (by kernel_rfl) (by kernel_rfl) (by decide) (by have := g107; first | omega | (simp only [List.length_cons, List.length_nil] at this ⊢; omega) | (simp at this ⊢; omega))
 obtain ⟨a116, n117, c118, rfl⟩ := hm113.form
 refine s_ek (.slice a116 n117 c118) (by kernel_rfl) (q115) ?_
 refine q_ (.slice a116 n117 c118) (s_nil (k97 _ _ ?_))
 refine w_ret ?_
 refine br_ [.slice a116 n117 c118] ?_
 have n120 := (t_ (t_ e9.n e63.n) e76.n)
 have n121 := (t_ (t_ (t_ e9.n e63.n) e76.n) e89.n)
 obtain rfl := oi_ r108
 exact ⟨(.slice a116 n117 c118), f111, rfl, (fs_ wf (fs_ wf ((fs_ wf ((f0_ wf).extR e9) e63 in_).extR e76) e89 (hf65.fresh e9.n)) e112 (Inn.trans (hf65.fresh e9.n) n120 hf91)), hm113, (Inn.trans (Inn.trans (hf65.fresh e9.n) n120 hf91) n121 hf114)⟩
theorem c_viaductref11_Out {H : AH} {hd_Alive : Value} {fp_Alive : Fp} {hd_Arcs : Value} {fp_Arcs : Fp} {Alive : List (Bool)} {Arcs : List (Int × Int × Int × Int)} {v_ : Int} {r : List (Int × Int × Int)}
    (wf : WF H) (h_Alive : Sq encB 1 H hd_Alive Alive fp_Alive) (h_Arcs : Sq enc_i64_i64_u64_i64 4 H hd_Arcs Arcs fp_Arcs) (hr : z_viaductref11_Out Alive Arcs v_ = some r) :
    ACalls Tryz.prog 55 #[.agg #[hd_Alive, hd_Arcs], i_ v_] H fun v H' => ∃ (s3 : Value) (f4 : Fp), v = s3 /\ FrS [] H H' /\ Ow enc_i64_u64_i64 3 H' s3 r f4 /\ Inn [] H f4 := by
 refine ab_ Tryz.func55 ?_
 unfold z_viaductref11_Out at hr
 refine sq_ fun k6 => g_' ?_
 refine s_rwl wf [hd_Alive, hd_Arcs] (one_cons (h_Alive.one1) (one_cons (h_Arcs.one1) (one_nil))) (by kernel_rfl) fun b7 H8 e9 hb10 r11 => ?_
 refine q_ (.slice none 0 0) (s_nil (k6 _ _ (sq_ fun k13 => g_' (q_ (.slice none 0 0) (s_nil (k13 _ _ (sq_ fun k14 => sq_ fun k15 => g_' (q_ (pt_ b7 1) (lr_ 31 1 (hd_Arcs) r11 ?_)))))))))
 have u16 := (h_Arcs.ext e9)
 refine u16.ln_ 31 (q_ (i_ 0) (s_nil (k15 _ _ ?_)))
 obtain ⟨o17, hx18, r19⟩ := bs_ hr
 refine w_mid (fun α H20 => ∃ (s24 : Value) (f25 : Fp), Has α [(5, s24)] /\ FrS [] H8 H20 /\ Ow enc_i64_u64_i64 3 H20 s24 o17 f25 /\ Inn [] H8 f25) (fun _ k27 => ?_) (fun α H20 hM => ?_)
 ·refine w_block ?_
  obtain ⟨n29, hn30⟩ := loopO_iff.1 hx18
  refine w_loopn (fun n α H31 => ∃ (i0 : Int), ∃ (l1 : List (Int × Int × Int)), ∃ (s35 : Value), ∃ (f36 : Fp), iterO (fun zz_ => z_viaductref11_Out_l0 Arcs v_ zz_.1 zz_.2) n (i0, l1) = some o17 /\ Has α [(1, i_ v_), (5, s35), (9, hd_Arcs), (10, i_ (Arcs.length : Int)), (11, i_ i0)] /\ FrS [] H8 H31 /\ Ow enc_i64_u64_i64 3 H31 s35 l1 f36 /\ Inn [] H8 f36) n29 ⟨0, [], (.slice none 0 0), [], hn30, ha_, (fr_ e9.wf), (Ow.nil (by decide)), in_⟩ ?_
  rintro n29 α H31 ⟨i0, l1, s35, f36, hi39, hh38, e32, m34, i37⟩ K44 k44
  obtain ⟨n40, z41, rfl, hz42, hn43⟩ := iter_succ hi39
  obtain ⟨β, rfl⟩ := has_ex hh38
  clear hh38
  replace hz42 : z_viaductref11_Out_l0 Arcs v_ i0 l1 = some z41 := hz42
  unfold z_viaductref11_Out_l0 at hz42
  obtain ⟨a45, n46, c47, rfl⟩ := m34.form
  refine sq_ fun k48 => g_' (q_ (.bool (decide (i0 < (Arcs.length : Int)))) (s_nil (k48 _ _ (sq_ fun k49 => ?_))))
  refine wc_ (i0 < (Arcs.length : Int)) (fun h50 => ?_) fun h50 => ?_
  ·have r51 := ite_t h50 hz42
   refine w_skip (k49 _ _ (sq_ fun k52 => w_block (sq_ fun k53 => g_' ?_)))
   obtain ⟨g54, r55⟩ := G_some r51
   have u56 := (u16.fr e32 dn_)
   refine u56.ix_ 31 g54 h50 (le_ 96 0 (.agg #[i_ ((gt Arcs i0).1), i_ ((gt Arcs i0).2.1), .int .u64 ((gt Arcs i0).2.2.1), i_ ((gt Arcs i0).2.2.2)]) u56 g54 h50 ?_)
   refine rk_ e32.wf [i_ 0, i_ 0, .int .u64 0, i_ 0] fun b57 H58 e59 hb60 r61 => ?_
   obtain ⟨H63, q64, e65, r66⟩ := ra_ 96 0 e59.wf r61 [i_ ((gt Arcs i0).1), i_ ((gt Arcs i0).2.1), .int .u64 ((gt Arcs i0).2.2.1), i_ ((gt Arcs i0).2.2.2)] [i_ ((gt Arcs i0).1), i_ ((gt Arcs i0).2.1), .int .u64 ((gt Arcs i0).2.2.1), i_ ((gt Arcs i0).2.2.2)]
   refine ek_ q64 (s_nil (k53 _ _ (sq_ fun k67 => g_' (q_ (pt_ b57 0) (lr_ 3 0 (i_ ((gt Arcs i0).1)) r66 (q_ (i_ v_) (q_ (.bool (decide (((gt Arcs i0).1) = v_))) (s_nil (k67 _ _ ?_)))))))))
   refine wc_ (((gt Arcs i0).1) = v_) (fun h68 => ?_) fun h68 => ?_
   ·have r69 := ite_t h68 r55
    refine g_' (q_ (.slice a45 n46 c47) (q_ (pt_ b57 1) (lr_ 3 1 (i_ ((gt Arcs i0).2.1)) r66 (q_ (pt_ b57 2) (lr_ 27 2 (.int .u64 ((gt Arcs i0).2.2.1)) r66 (q_ (pt_ b57 3) (lr_ 3 3 (i_ ((gt Arcs i0).2.2.2)) r66 (q_ (.agg #[i_ ((gt Arcs i0).2.1), .int .u64 ((gt Arcs i0).2.2.1), i_ ((gt Arcs i0).2.2.2)]) ?_))))))))
    have u70 := ((m34.ext e59).fr e65 (hb60.djn m34.lt))
    obtain ⟨y71, hy72, r73⟩ := bs_ r69
    refine ck_ (c_viaductref11_put e65.wf u70.sq hy72) ?_
    rintro s74 H76 ⟨_, f75, rfl, e77, m78, i79⟩
    obtain ⟨a81, n82, c83, rfl⟩ := m78.form
    refine q_ (.slice a81 n82 c83) (s_nil (k52 _ _ (g_' ?_)))
    obtain ⟨g84, r85⟩ := G_some r73
    refine w_' ((i0 + 1)) (wrap64 (by have := g84; omega)) (q_ (i_ (i0 + 1)) (s_nil ?_))
    have n86 := (t_ (t_ e32.n e59.n) e65.n)
    obtain rfl := oi_ r85
    exact k44 n40 _ _ lt_ ⟨(i0 + 1), y71, (.slice a81 n82 c83), f75, hn43, ha_, (fs_ e9.wf (fs_ e9.wf ((fs_ e9.wf (fr_ e9.wf) e32 in_).extR e59) e65 (hb60.fresh e32.n)) e77 in_), m78, (i79.fresh n86)⟩
   have r87 := ite_f h68 r55
   refine w_skip (k52 _ _ (g_' ?_))
   obtain ⟨g88, r89⟩ := G_some r87
   refine w_' ((i0 + 1)) (wrap64 (by have := g88; omega)) (q_ (i_ (i0 + 1)) (s_nil ?_))
   have u90 := ((m34.ext e59).fr e65 (hb60.djn m34.lt))
   obtain rfl := oi_ r89
   exact k44 n40 _ _ lt_ ⟨(i0 + 1), l1, (.slice a45 n46 c47), f36, hn43, ha_, (fs_ e9.wf ((fs_ e9.wf (fr_ e9.wf) e32 in_).extR e59) e65 (hb60.fresh e32.n)), u90, (i37.fresh (Nat.le_refl _))⟩
  have r91 := ite_f h50 hz42
  refine w_exit (th_exit (th_exit (bl_eq ?_)))
  obtain rfl := oi_ r91
  obtain rfl := it_inr hn43
  exact k27 _ _ ⟨(.slice a45 n46 c47), f36, ha_, (fs_ e9.wf (fr_ e9.wf) e32 in_), m34, (i37.fresh (Nat.le_refl _))⟩
 obtain ⟨s24, f25, hh28, e21, m23, i26⟩ := hM
 obtain ⟨β, rfl⟩ := has_ex hh28
 clear hh28
 obtain ⟨a92, n93, c94, rfl⟩ := m23.form
 refine k14 _ _ (sq_ fun k95 => g_' (q_ (.slice a92 n93 c94) (q_ (.slice a92 n93 c94) (s_nil (k95 _ _ ?_)))))
 refine w_ret ?_
 refine br_ [.slice a92 n93 c94] ?_
 obtain rfl := oi_ r19
 exact ⟨(.slice a92 n93 c94), f25, rfl, (fs_ wf ((f0_ wf).extR e9) e21 in_), m23, (i26.fresh e9.n)⟩
theorem c_viaductref12_Rows {H : AH} {hd_Alive : Value} {fp_Alive : Fp} {hd_Arcs : Value} {fp_Arcs : Fp} {Alive : List (Bool)} {Arcs : List (Int × Int × Int × Int)} {skip : Int} {r : List (List (Int × Int))}
    (wf : WF H) (h_Alive : Sq encB 1 H hd_Alive Alive fp_Alive) (h_Arcs : Sq enc_i64_i64_u64_i64 4 H hd_Arcs Arcs fp_Arcs) (hr : z_viaductref12_Rows Alive Arcs skip = some r) :
    ACalls Tryz.prog 68 #[.agg #[hd_Alive, hd_Arcs], i_ skip] H fun v H' => ∃ (s3 : Value) (f4 : Fp), v = s3 /\ FrS [] H H' /\ Nst (CR.sl enc_i64_u64 2) H' s3 r f4 /\ Inn [] H f4 := by
 refine ab_ Tryz.func68 ?_
 unfold z_viaductref12_Rows at hr
 refine sq_ fun k6 => g_' ?_
 refine s_rwl wf [hd_Alive, hd_Arcs] (one_cons (h_Alive.one1) (one_cons (h_Arcs.one1) (one_nil))) (by kernel_rfl) fun b7 H8 e9 hb10 r11 => ?_
 refine q_ (.slice none 0 0) (s_nil (k6 _ _ (sq_ fun k13 => g_' (q_ (pt_ b7 0) (lr_ 30 0 (hd_Alive) r11 ?_)))))
 have u14 := (h_Alive.ext e9)
 refine u14.ln_ 30 ?_
 obtain ⟨g15, r16⟩ := G_some hr
 refine s_mks (t := 154) (m := 24) (l := (Alive.length : Int)) (c := (Alive.length : Int)) (enc := id) (sz := 1) e9.wf [.slice none 0 0] (by kernel_rfl) (by decide) g15.1 (Int.le_refl _) (by omega) (by have := g15; omega) (by kernel_rfl) fun s17 f18 H19 e20 hf21 hm22 => ?_
 replace hm22 := Nst.zeros (C := (CR.sl enc_i64_u64 2)) (x0 := ([] : List (Int × Int))) hm22 (fun _ => cr_sl_mk (Ow.nil (by decide)))
 obtain ⟨a23, n24, c25, rfl⟩ := hm22.form
 have hm22 : Nst (CR.sl enc_i64_u64 2) H19 (.slice a23 n24 c25) (List.replicate Alive.length ([] : List (Int × Int))) f18 := hm22
 refine q_ (.slice a23 n24 c25) (s_nil (k13 _ _ (sq_ fun k27 => sq_ fun k28 => g_' (q_ (.slice a23 n24 c25) (hm22.ln_ 154 (q_ (i_ 0) (s_nil (k28 _ _ ?_))))))))
 obtain ⟨o29, hx30, r31⟩ := bs_ r16
 refine w_mid (fun α H32 => ∃ (f36 : Fp), Has α [(5, .slice a23 n24 c25)] /\ FrS f18 H19 H32 /\ Nst (CR.sl enc_i64_u64 2) H32 (.slice a23 n24 c25) o29 f36 /\ Inn f18 H19 f36) (fun _ k38 => ?_) (fun α H32 hM => ?_)
 ·refine w_block ?_
  obtain ⟨n40, hn41⟩ := loopO_iff.1 hx30
  refine w_loopn (fun n α H42 => ∃ (i2 : Int), ∃ (rows3 : List (List (Int × Int))), ∃ (f46 : Fp), iterO (fun zz_ => z_viaductref12_Rows_l1 Alive Arcs skip zz_.1 zz_.2) n (i2, rows3) = some o29 /\ Has α [(1, i_ skip), (2, pt_ b7 0), (5, .slice a23 n24 c25), (14, i_ ((List.replicate Alive.length ([] : List (Int × Int))).length : Int)), (15, i_ i2)] /\ FrS f18 H19 H42 /\ Nst (CR.sl enc_i64_u64 2) H42 (.slice a23 n24 c25) rows3 f46 /\ Inn f18 H19 f46) n40 ⟨0, (List.replicate Alive.length ([] : List (Int × Int))), f18, hn41, ha_, (fr_ e20.wf), hm22, ir_⟩ ?_
  rintro n40 α H42 ⟨i2, rows3, f46, hi49, hh48, e43, m45, i47⟩ K54 k54
  obtain ⟨n50, z51, rfl, hz52, hn53⟩ := iter_succ hi49
  obtain ⟨β, rfl⟩ := has_ex hh48
  clear hh48
  replace hz52 : z_viaductref12_Rows_l1 Alive Arcs skip i2 rows3 = some z51 := hz52
  unfold z_viaductref12_Rows_l1 at hz52
  refine sq_ fun k55 => g_' (q_ (.bool (decide (i2 < ((List.replicate Alive.length ([] : List (Int × Int))).length : Int)))) (s_nil (k55 _ _ (sq_ fun k56 => ?_))))
  refine wc_ (i2 < ((List.replicate Alive.length ([] : List (Int × Int))).length : Int)) (fun h57 => ?_) fun h57 => ?_
  ·have r58 := ite_t h57 hz52
   refine w_skip (k56 _ _ (sq_ fun k59 => w_block (sq_ fun k60 => g_' (q_ (i_ i2) (q_ (i_ i2) (s_nil (k60 _ _ (sq_ fun k61 => g_' ?_))))))))
   have u62 := ((r11.ext e20).frS e43 (hf21.djn r11.ltF))
   refine lr_ 33 0 (.agg #[hd_Alive, hd_Arcs]) u62 (q_ (i_ i2) ?_)
   have d63 := (hf21.djn (h_Alive.lt.le e9.n))
   have u64 := ((u14.ext e20).fr e43 d63)
   have d65 := (hf21.djn (h_Arcs.lt.le e9.n))
   have u66 := (((h_Arcs.ext e9).ext e20).fr e43 d65)
   obtain ⟨y67, hy68, r69⟩ := bs_ r58
   refine ck_ (c_viaductref11_Out e43.wf u64 u66 hy68) ?_
   rintro s70 H72 ⟨_, f71, rfl, e73, m74, i75⟩
   obtain ⟨a77, n78, c79, rfl⟩ := m74.form
   refine m74.sq.ln_ 132 (q_ (i_ 0) (s_nil (k61 _ _ ?_)))
   obtain ⟨o80, hx81, r82⟩ := bs_ r69
   refine w_mid (fun α H83 => ∃ (f87 : Fp), Has α [(1, i_ skip), (2, pt_ b7 0), (5, .slice a23 n24 c25), (14, i_ ((List.replicate Alive.length ([] : List (Int × Int))).length : Int)), (15, i_ i2)] /\ FrS f46 H72 H83 /\ Nst (CR.sl enc_i64_u64 2) H83 (.slice a23 n24 c25) o80 f87 /\ Inn f46 H72 f87) (fun _ k89 => ?_) (fun α H83 hM => ?_)
   ·refine w_block ?_
    obtain ⟨n91, hn92⟩ := loopO_iff.1 hx81
    have u105 := (m45.fr e73 dn_)
    refine w_loopn (fun n α H93 => ∃ (i0 : Int), ∃ (rows1 : List (List (Int × Int))), ∃ (f97 : Fp), iterO (fun zz_ => z_viaductref12_Rows_l0 skip i2 y67 zz_.1 zz_.2) n (i0, rows1) = some o80 /\ Has α [(1, i_ skip), (2, pt_ b7 0), (5, .slice a23 n24 c25), (6, i_ i2), (14, i_ ((List.replicate Alive.length ([] : List (Int × Int))).length : Int)), (15, i_ i2), (20, .slice a77 n78 c79), (21, i_ (y67.length : Int)), (22, i_ i0)] /\ FrS f46 H72 H93 /\ Nst (CR.sl enc_i64_u64 2) H93 (.slice a23 n24 c25) rows1 f97 /\ Inn f46 H72 f97) n91 ⟨0, rows3, f46, hn92, ha_, (fr_ e73.wf), u105, ir_⟩ ?_
    rintro n91 α H93 ⟨i0, rows1, f97, hi100, hh99, e94, m96, i98⟩ K106 k106
    obtain ⟨n101, z102, rfl, hz103, hn104⟩ := iter_succ hi100
    obtain ⟨β, rfl⟩ := has_ex hh99
    clear hh99
    replace hz103 : z_viaductref12_Rows_l0 skip i2 y67 i0 rows1 = some z102 := hz103
    unfold z_viaductref12_Rows_l0 at hz103
    refine sq_ fun k107 => g_' (q_ (.bool (decide (i0 < (y67.length : Int)))) (s_nil (k107 _ _ (sq_ fun k108 => ?_))))
    refine wc_ (i0 < (y67.length : Int)) (fun h109 => ?_) fun h109 => ?_
    ·have r110 := ite_t h109 hz103
     refine w_skip (k108 _ _ (sq_ fun k111 => w_block (sq_ fun k112 => g_' ?_)))
     obtain ⟨g113, r114⟩ := G_some r110
     have d115 := (i75.djn m45.lt)
     have u116 := (m74.fr e94 (Dj.symm d115))
     refine u116.sq.ix_ 132 g113 h109 (le_ 134 0 (.agg #[i_ ((gt y67 i0).1), .int .u64 ((gt y67 i0).2.1), i_ ((gt y67 i0).2.2)]) u116.sq g113 h109 ?_)
     refine rk_ e94.wf [i_ 0, .int .u64 0, i_ 0] fun b117 H118 e119 hb120 r121 => ?_
     obtain ⟨H123, q124, e125, r126⟩ := ra_ 134 0 e119.wf r121 [i_ ((gt y67 i0).1), .int .u64 ((gt y67 i0).2.1), i_ ((gt y67 i0).2.2)] [i_ ((gt y67 i0).1), .int .u64 ((gt y67 i0).2.1), i_ ((gt y67 i0).2.2)]
     refine ek_ q124 (s_nil (k112 _ _ (sq_ fun k127 => g_' (q_ (pt_ b117 0) (lr_ 3 0 (i_ ((gt y67 i0).1)) r126 (q_ (i_ skip) (q_ (.bool (!decide (((gt y67 i0).1) = skip))) (s_nil (k127 _ _ ?_)))))))))
     refine w_condn (((gt y67 i0).1) = skip) (by kernel_rfl) rfl (fun h128 => ?_) (fun h128 => ?_)
     ·have r129 := ite_f h128 r114
      refine w_draw [0, 1, 2, 3, 4, 5, 6, 7, 8, 9, 10, 11, 12, 13, 14] (by kernel_rfl) ?_
      refine e_' (.slice a23 n24 c25) (e_' (i_ i2) (e_' (.slice a23 n24 c25) (e_' (i_ i2) ?_)))
      obtain ⟨g130, r131⟩ := G_some r129
      have u132 := ((m96.ext e119).fr e125 (hb120.djn m96.lt))
      refine u132.mx_ 154 g130.1 g130.2 ?_
      obtain ⟨cs133, f134, hk135, hs136, hl137, hq138⟩ := u132.kid g130.1 g130.2
      obtain ⟨s139, rfl, ho141⟩ := cr_sl_open hk135
      have kd142 : KdS enc_i64_u64 2 H123 s139 (gt rows1 i2) f97 (.slice a23 n24 c25) 1 i2.toNat 0 := ⟨ho141.sq.up hs136 u132.lt, hq138 0 _ rfl (by decide)⟩
      obtain ⟨a143, n144, c145, rfl⟩ := kd142.sq.form
      refine m_' (.slice a143 n144 c145) (aL_ 188 (elp (.slice a23 n24 c25) 1 i2.toNat 0) H123) (hl137 _ _ _ _ (by kernel_rfl)) (e_' (pt_ b117 0) (mr_ 3 0 (i_ ((gt y67 i0).1)) r126 (e_' (pt_ b117 1) (mr_ 27 1 (.int .u64 ((gt y67 i0).2.1)) r126 (e_' (.agg #[i_ ((gt y67 i0).1), .int .u64 ((gt y67 i0).2.1)]) ?_)))))
      refine d_owk (enc := enc_i64_u64) (sz := 2) e125.wf [((gt y67 i0).1, (gt y67 i0).2.1)] 1 (by decide) (fun _ _ => rfl) (fun _ _ => rfl) rfl (by kernel_rfl) fun s147 f148 H149 e150 hf151 hm152 => ?_
      obtain ⟨a153, n154, c155, rfl⟩ := hm152.form
      have u157 := (u132.ext e150)
      have u158 := (kd142.ext e150)
      obtain ⟨f159, f160, hh161, ho162, d163, hs164, hs165⟩ := Nst.borrow cr_sl_lens2 u157 g130.1 g130.2 u158 rfl
      have w166 := Inn.sub' (H := H149) hs164
      have w167 := Inn.sub' (H := H149) hs165
      obtain ⟨g168, r169⟩ := G_some r131
      obtain ⟨s170, H171, f172, q176, e173, hm174, hf175⟩ := Ow.append (P := Tryz.prog) 16 e150.wf ho162 hm152.sq (fun _ _ => rfl) (at_ := #[188, 188]) rfl rfl (by kernel_rfl) (by kernel_rfl) (by decide) (by have := g168; first | omega | (simp only [List.length_cons, List.length_nil] at this ⊢; omega) | (simp at this ⊢; omega))
      obtain ⟨a177, n178, c179, rfl⟩ := hm174.form
      refine d_ek (.slice a177 n178 c179) (by kernel_rfl) (q176) (st_nil) ?_
      have u181 := (hh161.fr e173 (Dj.symm d163))
      refine u181.mx_ 154 g130.1 g130.2 ?_
      have d182 := (hf175.dj (Dj.symm d163) hh161.lt)
      obtain ⟨H183, f184, q185, e186, hm187, hf188⟩ := Hol.close (P := Tryz.prog) (t := 188) e173.wf u181 hm174 (Dj.symm d182) g130.1 g130.2 (by kernel_rfl) (by kernel_rfl) (by kernel_rfl)
      have hm187 : Nst (CR.sl enc_i64_u64 2) H183 (.slice a23 n24 c25) (rows1.set i2.toNat ((gt rows1 i2) ++ [((gt y67 i0).1, (gt y67 i0).2.1)])) f184 := hm187
      have w189 := hf188.grow3 (Inn.trans ir_ (Nat.le_refl _) w166) (Inn.trans (Inn.trans ir_ (Nat.le_refl _) w167) (Nat.le_refl _) hf175) e173.n
      refine fk_ q185 (st_nil) ?_
      refine d_nil ?_
      refine k111 _ _ (g_' ?_)
      obtain ⟨g190, r191⟩ := G_some r169
      refine w_' ((i0 + 1)) (wrap64 (by have := g190; omega)) (q_ (i_ (i0 + 1)) (s_nil ?_))
      have n192 := (t_ (t_ (t_ e94.n e119.n) e125.n) e150.n)
      obtain rfl := oi_ r191
      exact k106 n101 _ _ lt_ ⟨(i0 + 1), (rows1.set i2.toNat ((gt rows1 i2) ++ [((gt y67 i0).1, (gt y67 i0).2.1)])), f184, hn104, ha_, (fs_ e73.wf (fs_ e73.wf ((fs_ e73.wf ((fs_ e73.wf (fr_ e73.wf) e94 ir_).extR e119) e125 (hb120.fresh e94.n)).extR e150) e173 (Inn.trans (Inn.trans ir_ (Nat.le_refl _) i98) n192 w167)) e186 (Inn.trans (Inn.trans ir_ (Nat.le_refl _) i98) n192 w166)), hm187, (Inn.trans (Inn.trans ir_ (Nat.le_refl _) i98) n192 w189)⟩
     have r193 := ite_t h128 r114
     refine w_skip (k111 _ _ (g_' ?_))
     obtain ⟨g194, r195⟩ := G_some r193
     refine w_' ((i0 + 1)) (wrap64 (by have := g194; omega)) (q_ (i_ (i0 + 1)) (s_nil ?_))
     have u196 := ((m96.ext e119).fr e125 (hb120.djn m96.lt))
     obtain rfl := oi_ r195
     exact k106 n101 _ _ lt_ ⟨(i0 + 1), rows1, f97, hn104, ha_, (fs_ e73.wf ((fs_ e73.wf (fr_ e73.wf) e94 ir_).extR e119) e125 (hb120.fresh e94.n)), u196, (Inn.trans ir_ (Nat.le_refl _) i98)⟩
    have r197 := ite_f h109 hz103
    refine w_exit (th_exit (th_exit (bl_eq ?_)))
    obtain rfl := oi_ r197
    obtain rfl := it_inr hn104
    exact k89 _ _ ⟨f97, ha_, (fs_ e73.wf (fr_ e73.wf) e94 ir_), m96, (Inn.trans ir_ (Nat.le_refl _) i98)⟩
   obtain ⟨f87, hh90, e84, m86, i88⟩ := hM
   obtain ⟨β, rfl⟩ := has_ex hh90
   clear hh90
   refine k59 _ _ (g_' ?_)
   obtain ⟨g198, r199⟩ := G_some r82
   refine w_' ((i2 + 1)) (wrap64 g198) (q_ (i_ (i2 + 1)) (s_nil ?_))
   have n200 := (t_ e43.n e73.n)
   obtain rfl := oi_ r199
   exact k54 n50 _ _ lt_ ⟨(i2 + 1), o80, f87, hn53, ha_, (fs_ e20.wf (fs_ e20.wf (fs_ e20.wf (fr_ e20.wf) e43 ir_) e73 in_) e84 (Inn.trans ir_ (Nat.le_refl _) i47)), m86, (Inn.trans (Inn.trans ir_ (Nat.le_refl _) i47) n200 i88)⟩
  have r201 := ite_f h57 hz52
  refine w_exit (th_exit (th_exit (bl_eq ?_)))
  obtain rfl := oi_ r201
  obtain rfl := it_inr hn53
  exact k38 _ _ ⟨f46, ha_, (fs_ e20.wf (fr_ e20.wf) e43 ir_), m45, (Inn.trans ir_ (Nat.le_refl _) i47)⟩
 obtain ⟨f36, hh39, e33, m35, i37⟩ := hM
 obtain ⟨β, rfl⟩ := has_ex hh39
 clear hh39
 refine k27 _ _ (sq_ fun k202 => g_' (q_ (.slice a23 n24 c25) (q_ (.slice a23 n24 c25) (s_nil (k202 _ _ ?_)))))
 refine w_ret ?_
 refine br_ [.slice a23 n24 c25] ?_
 have n203 := (t_ e9.n e20.n)
 obtain rfl := oi_ r31
 exact ⟨(.slice a23 n24 c25), f36, rfl, (fs_ wf (((f0_ wf).extR e9).extR e20) e33 (hf21.fresh e9.n)), m35, (Inn.trans (hf21.fresh e9.n) n203 i37)⟩
theorem c_viaductref08_Search_take {H : AH} {hd_Dist : Value} {fp_Dist : Fp} {hd_Hops : Value} {fp_Hops : Fp} {hd_Has_ : Value} {fp_Has_ : Fp} {hd_Settled : Value} {fp_Settled : Fp} {Dist : List (Int)} {Hops : List (Int)} {Has_ : List (Bool)} {Settled : List (Bool)} {r : Int}
    (wf : WF H) (h_Dist : Sq (encI .u64) 1 H hd_Dist Dist fp_Dist) (h_Hops : Sq (encI .i64) 1 H hd_Hops Hops fp_Hops) (h_Has_ : Sq encB 1 H hd_Has_ Has_ fp_Has_) (h_Settled : Sq encB 1 H hd_Settled Settled fp_Settled) (hr : z_viaductref08_Search_take Dist Hops Has_ Settled = some r) :
    ACalls Tryz.prog 90 #[.agg #[hd_Dist, hd_Hops, hd_Has_, hd_Settled]] H fun v H' => v = i_ r /\ FrS [] H H' := by
 refine ab_ Tryz.func90 ?_
 unfold z_viaductref08_Search_take at hr
 refine sq_ fun k1 => g_' ?_
 refine s_rwl wf [hd_Dist, hd_Hops, hd_Has_, hd_Settled] (one_cons (h_Dist.one1) (one_cons (h_Hops.one1) (one_cons (h_Has_.one1) (one_cons (h_Settled.one1) (one_nil))))) (by kernel_rfl) fun b2 H3 e4 hb5 r6 => ?_
 refine q_ (i_ 0) (s_nil (k1 _ _ (sq_ fun k8 => g_' (q_ (i_ (-1)) (s_nil (k8 _ _ (sq_ fun k9 => sq_ fun k10 => g_' (q_ (pt_ b2 2) (lr_ 30 2 (hd_Has_) r6 ?_)))))))))
 have u11 := (h_Has_.ext e4)
 refine u11.ln_ 30 (q_ (i_ 0) (s_nil (k10 _ _ ?_)))
 obtain ⟨o12, hx13, r14⟩ := bs_ hr
 refine w_mid (fun α H15 => Has α [(3, i_ o12)] /\ H3 = H15) (fun _ k17 => ?_) (fun α H15 hM => ?_)
 ·refine w_block ?_
  obtain ⟨n19, hn20⟩ := loopO_iff.1 hx13
  refine w_loopn (fun n α H21 => ∃ (at0 : Int), ∃ (i1 : Int), iterO (fun zz_ => z_viaductref08_Search_take_l0 Dist Has_ Settled zz_.1 zz_.2) n (at0, i1) = some o12 /\ Has α [(1, pt_ b2 0), (3, i_ at0), (7, i_ (Has_.length : Int)), (8, i_ i1)] /\ H3 = H21) n19 ⟨(-1), 0, hn20, ha_, rfl⟩ ?_
  rintro n19 α H21 ⟨at0, i1, hi24, hh23, rfl⟩ K29 k29
  obtain ⟨n25, z26, rfl, hz27, hn28⟩ := iter_succ hi24
  obtain ⟨β, rfl⟩ := has_ex hh23
  clear hh23
  replace hz27 : z_viaductref08_Search_take_l0 Dist Has_ Settled at0 i1 = some z26 := hz27
  unfold z_viaductref08_Search_take_l0 at hz27
  refine sq_ fun k30 => g_' (q_ (.bool (decide (i1 < (Has_.length : Int)))) (s_nil (k30 _ _ (sq_ fun k31 => ?_))))
  refine wc_ (i1 < (Has_.length : Int)) (fun h32 => ?_) fun h32 => ?_
  ·have r33 := ite_t h32 hz27
   refine w_skip (k31 _ _ (sq_ fun k34 => w_block (sq_ fun k35 => g_' (q_ (i_ i1) (q_ (i_ i1) (s_nil (k35 _ _ (sq_ fun k36 => ?_))))))))
   refine w_draw [0, 1, 2, 3, 4, 5, 6, 7, 8, 9, 10, 11, 12, 13, 14, 15, 16, 17, 18, 19, 20, 21, 22, 23, 24, 25, 26, 27, 28, 29] (by kernel_rfl) ?_
   refine e_' (pt_ b2 2) (mr_ 30 2 (hd_Has_) r6 (e_' (i_ i1) ?_))
   obtain ⟨g37, r38⟩ := G_some r33
   refine u11.mx_ 30 g37 h32 (me_ 4 0 (.bool (gt Has_ i1)) u11 g37 h32 (e_' (.bool (gt Has_ i1)) ?_))
   by_cases h39 : (gt Has_ i1) = true
   ·have r40 := ite_t h39 r38
    rw [h39]
    refine e_' (pt_ b2 3) (mr_ 30 3 (hd_Settled) r6 (e_' (i_ i1) ?_))
    obtain ⟨g41, r42⟩ := G_some r40
    have u43 := (h_Settled.ext e4)
    refine u43.mx_ 30 g37 g41 (me_ 4 0 (.bool (gt Settled i1)) u43 g37 g41 (e_' (.bool (!(gt Settled i1))) (e_' (.bool (!(gt Settled i1))) (e_' (.bool (!(gt Settled i1))) ?_))))
    by_cases h44 : (!(gt Settled i1)) = true
    ·have r45 := ite_t h44 r42
     rw [h44]
     refine e_' (i_ at0) ?_
     refine db_ (at0 < 0) (fun h46 => ?_) fun h46 => ?_
     ·have r47 := ite_t h46 r45
      refine e_' (.bool true) (j_' (j_' (j_' (j_' (j_' (j_' (j_' (j_' (j_' (j_' (j_' (e_' (.bool true) (e_' (.bool true) ?_)))))))))))))
      refine d_nil ?_
      refine k36 _ _ ?_
      refine wb_ true (fun _ => ?_) fun h => by cases h
      refine g_' (q_ (i_ i1) (q_ (i_ i1) (s_nil (k34 _ _ (g_' ?_)))))
      obtain ⟨g48, r49⟩ := G_some r47
      refine w_' ((i1 + 1)) (wrap64 (by have := g48; omega)) (q_ (i_ (i1 + 1)) (s_nil ?_))
      obtain rfl := oi_ r49
      exact k29 n25 _ _ lt_ ⟨i1, (i1 + 1), hn28, ha_, rfl⟩
     have r50 := ite_f h46 r45
     refine e_' (.bool false) (e_' (pt_ b2 0) (mr_ 36 0 (hd_Dist) r6 (e_' (i_ i1) ?_)))
     obtain ⟨g51, r52⟩ := G_some r50
     have u53 := (h_Dist.ext e4)
     refine u53.mx_ 36 g37 g51 (me_ 27 0 (.int .u64 (gt Dist i1)) u53 g37 g51 (e_' (pt_ b2 0) (mr_ 36 0 (hd_Dist) r6 (e_' (i_ at0) ?_))))
     obtain ⟨g54, r55⟩ := G_some r52
     refine u53.mx_ 36 g54.1 g54.2 (me_ 27 0 (.int .u64 (gt Dist at0)) u53 g54.1 g54.2 (e_' (.bool (decide ((gt Dist i1) < (gt Dist at0)))) (e_' (.bool (decide ((gt Dist i1) < (gt Dist at0)))) (e_' (.bool (decide ((gt Dist i1) < (gt Dist at0)))) ?_))))
     refine d_nil ?_
     refine k36 _ _ ?_
     refine wc_ ((gt Dist i1) < (gt Dist at0)) (fun h56 => ?_) fun h56 => ?_
     ·have r57 := ite_t h56 r55
      refine g_' (q_ (i_ i1) (q_ (i_ i1) (s_nil (k34 _ _ (g_' ?_)))))
      obtain ⟨g58, r59⟩ := G_some r57
      refine w_' ((i1 + 1)) (wrap64 (by have := g58; omega)) (q_ (i_ (i1 + 1)) (s_nil ?_))
      obtain rfl := oi_ r59
      exact k29 n25 _ _ lt_ ⟨i1, (i1 + 1), hn28, ha_, rfl⟩
     have r60 := ite_f h56 r55
     refine w_skip (k34 _ _ (g_' ?_))
     obtain ⟨g61, r62⟩ := G_some r60
     refine w_' ((i1 + 1)) (wrap64 (by have := g61; omega)) (q_ (i_ (i1 + 1)) (s_nil ?_))
     obtain rfl := oi_ r62
     exact k29 n25 _ _ lt_ ⟨at0, (i1 + 1), hn28, ha_, rfl⟩
    have r63 := ite_f h44 r42
    rw [nb h44]
    refine j_' (j_' (j_' (j_' (j_' (j_' (j_' (j_' (j_' (j_' (j_' (j_' (j_' (j_' (j_' (e_' (.bool false) ?_)))))))))))))))
    refine d_nil ?_
    refine k36 _ _ ?_
    refine wb_ false (fun h => by cases h) fun _ => ?_
    refine w_skip (k34 _ _ (g_' ?_))
    obtain ⟨g64, r65⟩ := G_some r63
    refine w_' ((i1 + 1)) (wrap64 (by have := g64; omega)) (q_ (i_ (i1 + 1)) (s_nil ?_))
    obtain rfl := oi_ r65
    exact k29 n25 _ _ lt_ ⟨at0, (i1 + 1), hn28, ha_, rfl⟩
   have r66 := ite_f h39 r38
   rw [nb h39]
   refine j_' (j_' (j_' (j_' (j_' (j_' (e_' (.bool false) (e_' (.bool false) (j_' (j_' (j_' (j_' (j_' (j_' (j_' (j_' (j_' (j_' (j_' (j_' (j_' (j_' (j_' (e_' (.bool false) ?_)))))))))))))))))))))))
   refine d_nil ?_
   refine k36 _ _ ?_
   refine wb_ false (fun h => by cases h) fun _ => ?_
   refine w_skip (k34 _ _ (g_' ?_))
   obtain ⟨g67, r68⟩ := G_some r66
   refine w_' ((i1 + 1)) (wrap64 (by have := g67; omega)) (q_ (i_ (i1 + 1)) (s_nil ?_))
   obtain rfl := oi_ r68
   exact k29 n25 _ _ lt_ ⟨at0, (i1 + 1), hn28, ha_, rfl⟩
  have r69 := ite_f h32 hz27
  refine w_exit (th_exit (th_exit (bl_eq ?_)))
  obtain rfl := oi_ r69
  obtain rfl := it_inr hn28
  exact k17 _ _ ⟨ha_, rfl⟩
 obtain ⟨hh18, rfl⟩ := hM
 obtain ⟨β, rfl⟩ := has_ex hh18
 clear hh18
 refine k9 _ _ (sq_ fun k70 => g_' (q_ (i_ o12) (q_ (i_ o12) (s_nil (k70 _ _ ?_)))))
 refine w_ret ?_
 refine br_ [i_ o12] ?_
 obtain rfl := oi_ r14
 exact ⟨rfl, ((f0_ wf).extR e4)⟩
end Go.Vd

/-! (KWf8) -/

set_option maxRecDepth 100000
set_option maxHeartbeats 4000000
set_option linter.unusedVariables false
namespace Go.Vd
open Go.Proofs
attribute [local irreducible] wpSeq wpOrd aWp
theorem c_viaductref08_Run {H : AH} {hd_rows : Value} {fp_rows : Fp} {rows : List (List (Int × Int))} {s : Int} {hops : Int} {settles : Int} {most : Int} {r : List (Int) × List (Int) × List (Bool) × List (Bool)}
    (wf : WF H) (h_rows : Nst (CR.sl enc_i64_u64 2) H hd_rows rows fp_rows) (hr : z_viaductref08_Run rows s hops settles most = some r) :
    ACalls Tryz.prog 67 #[hd_rows, i_ s, i_ hops, i_ settles, .int .u64 most] H fun v H' => ∃ (s3 : Value) (f4 : Fp) (s7 : Value) (f8 : Fp) (s11 : Value) (f12 : Fp) (s15 : Value) (f16 : Fp), v = .agg #[s3, s7, s11, s15] /\ FrS [] H H' /\ Ow (encI .u64) 1 H' s3 r.1 f4 /\ Ow (encI .i64) 1 H' s7 r.2.1 f8 /\ Ow encB 1 H' s11 r.2.2.1 f12 /\ Ow encB 1 H' s15 r.2.2.2 f16 /\ Inn [] H f4 /\ Inn [] H f8 /\ Inn [] H f12 /\ Inn [] H f16 /\ Dj f4 f8 /\ Dj f4 f12 /\ Dj f8 f12 /\ Dj f4 f16 /\ Dj f8 f16 /\ Dj f12 f16 := by
 refine ab_ Tryz.func67 ?_
 unfold z_viaductref08_Run at hr
 refine sq_ fun k27 => g_' ?_
 refine rk_ wf [.slice none 0 0, .slice none 0 0, .slice none 0 0, .slice none 0 0] fun b28 H29 e30 hb31 r32 => ?_
 refine s_nil (k27 _ _ (sq_ fun k34 => g_' (q_ (hd_rows) ?_)))
 have u35 := (h_rows.ext e30)
 refine u35.ln_ 154 (q_ (i_ (rows.length : Int)) (s_nil (k34 _ _ (sq_ fun k36 => ?_))))
 refine w_draw [0, 1, 2, 3, 4, 5, 6, 7, 8, 9, 10] (by kernel_rfl) ?_
 refine e_' (i_ (rows.length : Int)) ?_
 obtain ⟨g37, r38⟩ := G_some hr
 refine d_mks (t := 36) (m := 8) (l := (rows.length : Int)) (c := (rows.length : Int)) (enc := (encI .u64)) (sz := 1) e30.wf (0 : Int) (by kernel_rfl) (by decide) g37.1 (Int.le_refl _) (by omega) (by have := g37; omega) (by kernel_rfl) fun s39 f40 H41 e42 hf43 hm44 => ?_
 obtain ⟨a45, n46, c47, rfl⟩ := hm44.form
 have hm44 : Ow (encI .u64) 1 H41 (.slice a45 n46 c47) (List.replicate rows.length (0 : Int)) f40 := hm44
 refine e_' (i_ (rows.length : Int)) ?_
 refine d_mks (t := 26) (m := 8) (l := (rows.length : Int)) (c := (rows.length : Int)) (enc := (encI .i64)) (sz := 1) e42.wf (0 : Int) (by kernel_rfl) (by decide) g37.1 (Int.le_refl _) (by omega) (by have := g37; omega) (by kernel_rfl) fun s49 f50 H51 e52 hf53 hm54 => ?_
 obtain ⟨a55, n56, c57, rfl⟩ := hm54.form
 have hm54 : Ow (encI .i64) 1 H51 (.slice a55 n56 c57) (List.replicate rows.length (0 : Int)) f50 := hm54
 refine e_' (i_ (rows.length : Int)) ?_
 obtain ⟨g59, r60⟩ := G_some r38
 refine d_mks (t := 30) (m := 1) (l := (rows.length : Int)) (c := (rows.length : Int)) (enc := encB) (sz := 1) e52.wf (false : Bool) (by kernel_rfl) (by decide) g59.1 (Int.le_refl _) (by omega) (by have := g59; omega) (by kernel_rfl) fun s61 f62 H63 e64 hf65 hm66 => ?_
 obtain ⟨a67, n68, c69, rfl⟩ := hm66.form
 have hm66 : Ow encB 1 H63 (.slice a67 n68 c69) (List.replicate rows.length (false : Bool)) f62 := hm66
 refine e_' (i_ (rows.length : Int)) ?_
 refine d_mks (t := 30) (m := 1) (l := (rows.length : Int)) (c := (rows.length : Int)) (enc := encB) (sz := 1) e64.wf (false : Bool) (by kernel_rfl) (by decide) g59.1 (Int.le_refl _) (by omega) (by have := g59; omega) (by kernel_rfl) fun s71 f72 H73 e74 hf75 hm76 => ?_
 obtain ⟨a77, n78, c79, rfl⟩ := hm76.form
 have hm76 : Ow encB 1 H73 (.slice a77 n78 c79) (List.replicate rows.length (false : Bool)) f72 := hm76
 refine e_' (.agg #[.slice a45 n46 c47, .slice a55 n56 c57, .slice a67 n68 c69, .slice a77 n78 c79]) ?_
 refine d_rwk e74.wf [.slice none 0 0, .slice none 0 0, .slice none 0 0, .slice none 0 0] (by kernel_rfl) fun b81 H82 e83 hb84 r85 => ?_
 have u91 := (hm76.ext e83)
 have u92 := ((hm66.ext e74).ext e83)
 have u93 := (((hm54.ext e64).ext e74).ext e83)
 have u94 := ((((hm44.ext e52).ext e64).ext e74).ext e83)
 obtain ⟨H87, q88, e89, r90⟩ := ra_ 152 0 e83.wf r85 [.slice a45 n46 c47, .slice a55 n56 c57, .slice a67 n68 c69, .slice a77 n78 c79] [.slice a45 n46 c47, .slice a55 n56 c57, .slice a67 n68 c69, .slice a77 n78 c79]
 refine fk_ q88 (st_nil) ?_
 refine d_nil ?_
 refine k36 _ _ (sq_ fun k95 => g_' (q_ (pt_ b81 2) (lr_ 30 2 (.slice a67 n68 c69) r90 (q_ (i_ s) ?_))))
 obtain ⟨g96, r97⟩ := G_some r60
 have d98 := (hb84.djn (hm66.lt.le e74.n))
 have u99 := (u92.fr e89 d98)
 refine u99.sq.ix_ 30 g96.1 g96.2 ?_
 obtain ⟨H100, q101, e102, hm103⟩ := Ow.store (P := Tryz.prog) (t := 4) (off := 0) e89.wf u99 g96.1 g96.2 (.bool true) [.bool true] (by kernel_rfl) (by kernel_rfl) rfl true (Nat.le_of_ble_eq_true rfl) (by kernel_rfl)
 refine ek_ q101 (s_nil (k95 _ _ (sq_ fun k104 => sq_ fun k105 => g_' (q_ (i_ 0) (s_nil (k105 _ _ ?_))))))
 obtain ⟨o106, hx107, r108⟩ := bs_ r97
 refine w_mid (fun α H109 => Has α [(10, pt_ b28 0), (12, pt_ b81 0)] /\ FrS (f40 ++ (f50 ++ (f62 ++ f72))) H100 H109 /\ Ow (encI .u64) 1 H109 (.slice a45 n46 c47) o106.1 f40 /\ Ow (encI .i64) 1 H109 (.slice a55 n56 c57) o106.2.1 f50 /\ Ow encB 1 H109 (.slice a67 n68 c69) o106.2.2.1 f62 /\ Ow encB 1 H109 (.slice a77 n78 c79) o106.2.2.2 f72) (fun _ k119 => ?_) (fun α H109 hM => ?_)
 ·refine w_block ?_
  obtain ⟨n121, hn122⟩ := loopO_iff.1 hx107
  have n139 := (t_ (t_ e52.n e64.n) e74.n)
  have d140 := (hb84.djn (hm44.lt.le n139))
  have d141 := (hf65.djn (hm44.lt.le e52.n))
  have u142 := ((u94.fr e89 d140).fr e102 d141)
  have n143 := (t_ e64.n e74.n)
  have d144 := (hb84.djn (hm54.lt.le n143))
  have u145 := ((u93.fr e89 d144).fr e102 (hf65.djn hm54.lt))
  have d146 := (hf75.djn hm66.lt)
  have u147 := ((u91.fr e89 (hb84.djn hm76.lt)).fr e102 (Dj.symm d146))
  refine w_loopn (fun n α H123 => ∃ (b4 : List (Int)), ∃ (b5 : List (Int)), ∃ (b6 : List (Bool)), ∃ (b7 : List (Bool)), ∃ (count8 : Int), iterO (fun zz_ => z_viaductref08_Run_l1 rows hops settles most zz_.1 zz_.2.1 zz_.2.2.1 zz_.2.2.2.1 zz_.2.2.2.2) n (b4, b5, b6, b7, count8) = some o106 /\ Has α [(0, hd_rows), (2, i_ hops), (3, i_ settles), (4, .int .u64 most), (10, pt_ b28 0), (12, pt_ b81 0), (13, i_ count8)] /\ FrS (f40 ++ (f50 ++ (f62 ++ f72))) H100 H123 /\ Ow (encI .u64) 1 H123 (.slice a45 n46 c47) b4 f40 /\ Ow (encI .i64) 1 H123 (.slice a55 n56 c57) b5 f50 /\ Ow encB 1 H123 (.slice a67 n68 c69) b6 f62 /\ Ow encB 1 H123 (.slice a77 n78 c79) b7 f72) n121 ⟨(List.replicate rows.length (0 : Int)), (List.replicate rows.length (0 : Int)), ((List.replicate rows.length (false : Bool)).set s.toNat true), (List.replicate rows.length (false : Bool)), 0, hn122, ha_, (fr_ e102.wf), u142, u145, hm103, u147⟩ ?_
  rintro n121 α H123 ⟨b4, b5, b6, b7, count8, hi134, hh133, e124, m126, m128, m130, m132⟩ K148 k148
  obtain ⟨n135, z136, rfl, hz137, hn138⟩ := iter_succ hi134
  obtain ⟨β, rfl⟩ := has_ex hh133
  clear hh133
  replace hz137 : z_viaductref08_Run_l1 rows hops settles most b4 b5 b6 b7 count8 = some z136 := hz137
  unfold z_viaductref08_Run_l1 at hz137
  refine sq_ fun k149 => sq_ fun k150 => g_' (q_ (i_ count8) (q_ (i_ settles) (q_ (.bool (decide (count8 < settles))) (s_nil (k150 _ _ ?_)))))
  refine wc_ (count8 < settles) (fun h151 => ?_) fun h151 => ?_
  ·have r152 := ite_t h151 hz137
   refine w_skip (k149 _ _ (sq_ fun k153 => w_block (sq_ fun k154 => g_' ?_)))
   have d155 := (hb84.djn hm76.lt)
   have n156 := (t_ e64.n e74.n)
   have d157 := (hb84.djn (hm54.lt.le n156))
   have n158 := (t_ (t_ e52.n e64.n) e74.n)
   have d159 := (hb84.djn (hm44.lt.le n158))
   have u160 := ((r90.frS e102 (Dj.symm d98)).frS e124 (Dj.app (Dj.symm d159) (Dj.app (Dj.symm d157) (Dj.app (Dj.symm d98) (Dj.symm d155)))))
   refine lr_ 152 0 (.agg #[.slice a45 n46 c47, .slice a55 n56 c57, .slice a67 n68 c69, .slice a77 n78 c79]) u160 ?_
   obtain ⟨y161, hy162, r163⟩ := bs_ r152
   refine ck_ (c_viaductref08_Search_take e124.wf m126.sq m128.sq m130.sq m132.sq hy162) ?_
   rintro _ H164 ⟨rfl, e165⟩
   refine q_ (i_ y161) (s_nil (k154 _ _ (sq_ fun k166 => sq_ fun k167 => ?_)))
   obtain ⟨o168, hx169, r170⟩ := bs_ r163
   refine w_mid (fun α H171 => Has α [(0, hd_rows), (2, i_ hops), (3, i_ settles), (4, .int .u64 most), (10, pt_ b28 0), (12, pt_ b81 0), (13, i_ count8), (14, i_ y161), (50, .bool o168)] /\ H164 = H171) (fun _ k173 => ?_) (fun α H171 hM => ?_)
   ·refine g_' (q_ (i_ y161) ?_)
    refine sb_ (y161 < 0) (fun h175 => ?_) fun h175 => ?_
    ·have r176 := ite_t h175 hx169
     refine q_ (.bool true) (n_' (n_' (n_' (n_' (n_' (n_' (n_' (q_ (.bool true) (s_nil ?_)))))))))
     obtain rfl := oi_ r176
     exact k173 _ _ ⟨ha_, rfl⟩
    have r177 := ite_f h175 hx169
    refine q_ (.bool false) (q_ (pt_ b81 0) ?_)
    have u178 := (u160.frS e165 dn_)
    refine lr_ 36 0 (.slice a45 n46 c47) u178 (q_ (i_ y161) ?_)
    obtain ⟨g179, r180⟩ := G_some r177
    have u181 := (m126.fr e165 dn_)
    refine u181.sq.ix_ 36 g179.1 g179.2 (le_ 27 0 (.int .u64 (gt b4 y161)) u181.sq g179.1 g179.2 (q_ (.int .u64 most) (q_ (.bool (decide ((gt b4 y161) > most))) (q_ (.bool (decide ((gt b4 y161) > most))) (s_nil ?_)))))
    obtain rfl := oi_ r180
    exact k173 _ _ ⟨ha_, rfl⟩
   obtain ⟨hh174, rfl⟩ := hM
   obtain ⟨β, rfl⟩ := has_ex hh174
   clear hh174
   refine k167 _ _ ?_
   refine wb_ (o168) (fun h182 => ?_) fun h182 => ?_
   ·have r183 := ite_t h182 r170
    refine w_exit (th_exit (bl_ne (by decide) (th_exit (th_exit (bl_eq ?_)))))
    have u184 := (m126.fr e165 dn_)
    have u185 := (m128.fr e165 dn_)
    have u186 := (m130.fr e165 dn_)
    have u187 := (m132.fr e165 dn_)
    obtain rfl := oi_ r183
    obtain rfl := it_inr hn138
    exact k119 _ _ ⟨ha_, (fs_ e102.wf (fs_ e102.wf (fr_ e102.wf) e124 ir_) e165 in_), u184, u185, u186, u187⟩
   have r188 := ite_bf h182 r170
   refine w_skip (k166 _ _ (sq_ fun k189 => g_' (q_ (pt_ b81 3) ?_)))
   have u190 := (u160.frS e165 dn_)
   refine lr_ 30 3 (.slice a77 n78 c79) u190 (q_ (i_ y161) ?_)
   obtain ⟨g191, r192⟩ := G_some r188
   have u193 := (m132.fr e165 dn_)
   refine u193.sq.ix_ 30 g191.1 g191.2 ?_
   obtain ⟨H194, q195, e196, hm197⟩ := Ow.store (P := Tryz.prog) (t := 4) (off := 0) e165.wf u193 g191.1 g191.2 (.bool true) [.bool true] (by kernel_rfl) (by kernel_rfl) rfl true (Nat.le_of_ble_eq_true rfl) (by kernel_rfl)
   refine ek_ q195 (s_nil (k189 _ _ (sq_ fun k198 => sq_ fun k199 => g_' (q_ (pt_ b81 1) ?_))))
   have u200 := (u190.frS e196 (Dj.symm d155))
   refine lr_ 26 1 (.slice a55 n56 c57) u200 (q_ (i_ y161) ?_)
   obtain ⟨g201, r202⟩ := G_some r192
   have d203 := (hf75.djn (hm54.lt.le e64.n))
   have u204 := ((m128.fr e165 dn_).fr e196 d203)
   refine u204.sq.ix_ 26 g191.1 g201 (le_ 3 0 (i_ (gt b5 y161)) u204.sq g191.1 g201 (q_ (i_ hops) (q_ (.bool (decide ((gt b5 y161) ≥ hops))) (s_nil (k199 _ _ ?_)))))
   refine wc_ ((gt b5 y161) ≥ hops) (fun h205 => ?_) fun h205 => ?_
   ·have r206 := ite_t h205 r202
    refine w_exit (th_exit (bl_eq ?_))
    refine k153 _ _ (g_' (q_ (i_ count8) ?_))
    obtain ⟨g207, r208⟩ := G_some r206
    refine w_' ((count8 + 1)) (wrap64 g207) (q_ (i_ (count8 + 1)) (s_nil ?_))
    have n209 := (t_ e52.n e64.n)
    have d210 := (hf75.djn (hm44.lt.le n209))
    have u211 := ((m126.fr e165 dn_).fr e196 d210)
    have u212 := ((m130.fr e165 dn_).fr e196 (hf75.djn hm66.lt))
    obtain rfl := oi_ r208
    exact k148 n135 _ _ lt_ ⟨b4, b5, b6, (b7.set y161.toNat true), (count8 + 1), hn138, ha_, (fs_ e102.wf (fs_ e102.wf (fs_ e102.wf (fr_ e102.wf) e124 ir_) e165 in_) e196 (Inn.right (Inn.right (Inn.right ir_)))), u211, u204, u212, hm197⟩
   have r213 := ite_f h205 r202
   refine w_skip (k198 _ _ (sq_ fun k214 => g_' (q_ (hd_rows) (q_ (i_ y161) ?_))))
   obtain ⟨g215, r216⟩ := G_some r213
   have n217 := (t_ (t_ (t_ (t_ e30.n e42.n) e52.n) e64.n) e74.n)
   have d218 := (hb84.djn (h_rows.lt.le n217))
   have n219 := (t_ (t_ e30.n e42.n) e52.n)
   have d220 := (hf65.djn (h_rows.lt.le n219))
   have n221 := (t_ (t_ (t_ e30.n e42.n) e52.n) e64.n)
   have d222 := (hf75.djn (h_rows.lt.le n221))
   have n223 := (t_ e30.n e42.n)
   have d224 := (hf53.djn (h_rows.lt.le n223))
   have d225 := (hf43.djn (h_rows.lt.le e30.n))
   have u226 := ((((((((((u35.ext e42).ext e52).ext e64).ext e74).ext e83).fr e89 d218).fr e102 d220).fr e124 (Dj.app d225 (Dj.app d224 (Dj.app d220 d222)))).fr e165 dn_).fr e196 d222)
   refine u226.ix_ 154 g191.1 g215 ?_
   obtain ⟨cs227, f228, hk229, hs230, hl231, hq232⟩ := u226.kid g191.1 g215
   obtain ⟨s233, rfl, ho235⟩ := cr_sl_open hk229
   have kd236 : KdS enc_i64_u64 2 H194 s233 (gt rows y161) fp_rows hd_rows 1 y161.toNat 0 := ⟨ho235.sq.up hs230 u226.lt, hq232 0 _ rfl (by decide)⟩
   obtain ⟨a237, n238, c239, rfl⟩ := kd236.sq.form
   refine l_' (.slice a237 n238 c239) (aL_ 188 (elp hd_rows 1 y161.toNat 0) H194) (hl231 _ _ _ _ (by kernel_rfl)) (kd236.sq.ln_ 188 (q_ (i_ 0) (s_nil (k214 _ _ ?_))))
   obtain ⟨o241, hx242, r243⟩ := bs_ r216
   refine w_mid (fun α H244 => Has α [(0, hd_rows), (2, i_ hops), (3, i_ settles), (4, .int .u64 most), (10, pt_ b28 0), (12, pt_ b81 0), (13, i_ count8)] /\ FrS (f40 ++ (f50 ++ f62)) H194 H244 /\ Ow (encI .u64) 1 H244 (.slice a45 n46 c47) o241.1 f40 /\ Ow (encI .i64) 1 H244 (.slice a55 n56 c57) o241.2.1 f50 /\ Ow encB 1 H244 (.slice a67 n68 c69) o241.2.2 f62) (fun _ k252 => ?_) (fun α H244 hM => ?_)
   ·refine w_block ?_
    obtain ⟨n254, hn255⟩ := loopO_iff.1 hx242
    have n270 := (t_ e52.n e64.n)
    have d271 := (hf75.djn (hm44.lt.le n270))
    have u272 := ((m126.fr e165 dn_).fr e196 d271)
    have u273 := ((m130.fr e165 dn_).fr e196 (hf75.djn hm66.lt))
    refine w_loopn (fun n α H256 => ∃ (b0 : List (Int)), ∃ (b1 : List (Int)), ∃ (b2 : List (Bool)), ∃ (i3 : Int), iterO (fun zz_ => z_viaductref08_Run_l0 rows b7 y161 zz_.1 zz_.2.1 zz_.2.2.1 zz_.2.2.2) n (b0, b1, b2, i3) = some o241 /\ Has α [(0, hd_rows), (2, i_ hops), (3, i_ settles), (4, .int .u64 most), (10, pt_ b28 0), (12, pt_ b81 0), (13, i_ count8), (14, i_ y161), (65, .slice a237 n238 c239), (66, i_ ((gt rows y161).length : Int)), (67, i_ i3)] /\ FrS (f40 ++ (f50 ++ f62)) H194 H256 /\ Ow (encI .u64) 1 H256 (.slice a45 n46 c47) b0 f40 /\ Ow (encI .i64) 1 H256 (.slice a55 n56 c57) b1 f50 /\ Ow encB 1 H256 (.slice a67 n68 c69) b2 f62) n254 ⟨b4, b5, b6, 0, hn255, ha_, (fr_ e196.wf), u272, u204, u273⟩ ?_
    rintro n254 α H256 ⟨b0, b1, b2, i3, hi265, hh264, e257, m259, m261, m263⟩ K274 k274
    obtain ⟨n266, z267, rfl, hz268, hn269⟩ := iter_succ hi265
    obtain ⟨β, rfl⟩ := has_ex hh264
    clear hh264
    replace hz268 : z_viaductref08_Run_l0 rows b7 y161 b0 b1 b2 i3 = some z267 := hz268
    unfold z_viaductref08_Run_l0 at hz268
    refine sq_ fun k275 => g_' (q_ (.bool (decide (i3 < ((gt rows y161).length : Int)))) (s_nil (k275 _ _ (sq_ fun k276 => ?_))))
    refine wc_ (i3 < ((gt rows y161).length : Int)) (fun h277 => ?_) fun h277 => ?_
    ·have r278 := ite_t h277 hz268
     refine w_skip (k276 _ _ (sq_ fun k279 => w_block (sq_ fun k280 => g_' ?_)))
     obtain ⟨g281, r282⟩ := G_some r278
     have u283 := (kd236.fr e257 (Dj.app d225 (Dj.app d224 d220)))
     refine u283.sq.ix_ 188 g281 h277 (le_ 190 0 (.agg #[i_ ((gt (gt rows y161) i3).1), .int .u64 ((gt (gt rows y161) i3).2)]) u283.sq g281 h277 ?_)
     refine rk_ e257.wf [i_ 0, .int .u64 0] fun b284 H285 e286 hb287 r288 => ?_
     obtain ⟨H290, q291, e292, r293⟩ := ra_ 190 0 e286.wf r288 [i_ ((gt (gt rows y161) i3).1), .int .u64 ((gt (gt rows y161) i3).2)] [i_ ((gt (gt rows y161) i3).1), .int .u64 ((gt (gt rows y161) i3).2)]
     refine ek_ q291 (s_nil (k280 _ _ (sq_ fun k294 => ?_)))
     refine w_draw [0, 1, 2, 3, 4, 5, 6, 7, 8] (by kernel_rfl) ?_
     refine e_' (pt_ b81 0) ?_
     have n295 := (t_ (t_ (t_ (t_ (t_ e89.n e102.n) e124.n) e165.n) e196.n) e257.n)
     have d296 := (hb287.djn (r85.ltF.le n295))
     have u297 := (((u200.frS e257 (Dj.app (Dj.symm d159) (Dj.app (Dj.symm d157) (Dj.symm d98)))).ext e286).frS e292 d296)
     refine mr_ 36 0 (.slice a45 n46 c47) u297 (e_' (i_ y161) ?_)
     obtain ⟨g298, r299⟩ := G_some r282
     have n300 := (t_ (t_ (t_ (t_ (t_ (t_ (t_ (t_ (t_ e52.n e64.n) e74.n) e83.n) e89.n) e102.n) e124.n) e165.n) e196.n) e257.n)
     have d301 := (hb287.djn (hm44.lt.le n300))
     have u302 := ((m259.ext e286).fr e292 d301)
     refine u302.sq.mx_ 36 g191.1 g298 (me_ 27 0 (.int .u64 (gt b0 y161)) u302.sq g191.1 g298 (e_' (pt_ b284 1) (mr_ 27 1 (.int .u64 ((gt (gt rows y161) i3).2)) r293 ?_)))
     obtain ⟨g303, r304⟩ := G_some r299
     refine d_w (((gt b0 y161) + ((gt (gt rows y161) i3).2))) (k := .u64) (x := ((gt b0 y161) + ((gt (gt rows y161) i3).2))) (by kernel_rfl) (wrapu64 g303) ?_
     refine e_' (.int .u64 ((gt b0 y161) + ((gt (gt rows y161) i3).2))) ?_
     refine d_nil ?_
     refine k294 _ _ (sq_ fun k305 => ?_)
     obtain ⟨o306, hx307, r308⟩ := bs_ r304
     refine w_mid (fun α H309 => Has α [(0, hd_rows), (2, i_ hops), (3, i_ settles), (4, .int .u64 most), (10, pt_ b28 0), (12, pt_ b81 0), (13, i_ count8), (14, i_ y161), (16, pt_ b284 0), (17, .int .u64 ((gt b0 y161) + ((gt (gt rows y161) i3).2))), (65, .slice a237 n238 c239), (66, i_ ((gt rows y161).length : Int)), (67, i_ i3), (104, .bool o306)] /\ H290 = H309) (fun _ k311 => ?_) (fun α H309 hM => ?_)
     ·refine g_' (q_ (pt_ b81 3) (lr_ 30 3 (.slice a77 n78 c79) u297 (q_ (pt_ b284 0) (lr_ 3 0 (i_ ((gt (gt rows y161) i3).1)) r293 ?_))))
      obtain ⟨g313, r314⟩ := G_some hx307
      have d315 := (hf75.djn hm66.lt)
      have n316 := (t_ e52.n e64.n)
      have d317 := (hf75.djn (hm44.lt.le n316))
      have n318 := (t_ (t_ (t_ (t_ (t_ (t_ e83.n e89.n) e102.n) e124.n) e165.n) e196.n) e257.n)
      have d319 := (hb287.djn (hm76.lt.le n318))
      have u320 := (((hm197.fr e257 (Dj.app (Dj.symm d317) (Dj.app (Dj.symm d203) (Dj.symm d315)))).ext e286).fr e292 d319)
      refine u320.sq.ix_ 30 g313.1 g313.2 (le_ 4 0 (.bool (gt (b7.set y161.toNat true) ((gt (gt rows y161) i3).1))) u320.sq g313.1 g313.2 (q_ (.bool (!(gt (b7.set y161.toNat true) ((gt (gt rows y161) i3).1)))) (q_ (.bool (!(gt (b7.set y161.toNat true) ((gt (gt rows y161) i3).1)))) ?_)))
      by_cases h321 : (!(gt (b7.set y161.toNat true) ((gt (gt rows y161) i3).1))) = true
      ·have r322 := ite_t h321 r314
       rw [h321]
       refine q_ (pt_ b81 2) (lr_ 30 2 (.slice a67 n68 c69) u297 (q_ (pt_ b284 0) (lr_ 3 0 (i_ ((gt (gt rows y161) i3).1)) r293 ?_)))
       obtain ⟨g323, r324⟩ := G_some r322
       have n325 := (t_ (t_ (t_ (t_ (t_ (t_ (t_ e74.n e83.n) e89.n) e102.n) e124.n) e165.n) e196.n) e257.n)
       have d326 := (hb287.djn (hm66.lt.le n325))
       have u327 := ((m263.ext e286).fr e292 d326)
       refine u327.sq.ix_ 30 g313.1 g323 (le_ 4 0 (.bool (gt b2 ((gt (gt rows y161) i3).1))) u327.sq g313.1 g323 (q_ (.bool (!(gt b2 ((gt (gt rows y161) i3).1)))) (q_ (.bool (!(gt b2 ((gt (gt rows y161) i3).1)))) ?_)))
       by_cases h328 : (!(gt b2 ((gt (gt rows y161) i3).1))) = true
       ·have r329 := ite_t h328 r324
        rw [h328]
        refine n_' (n_' (n_' (n_' (n_' (n_' (n_' (n_' (q_ (.bool true) (q_ (.bool true) (s_nil ?_))))))))))
        obtain rfl := oi_ r329
        exact k311 _ _ ⟨ha_, rfl⟩
       have r330 := ite_f h328 r324
       rw [nb h328]
       refine q_ (.int .u64 ((gt b0 y161) + ((gt (gt rows y161) i3).2))) (q_ (pt_ b81 0) (lr_ 36 0 (.slice a45 n46 c47) u297 (q_ (pt_ b284 0) (lr_ 3 0 (i_ ((gt (gt rows y161) i3).1)) r293 ?_))))
       obtain ⟨g331, r332⟩ := G_some r330
       refine u302.sq.ix_ 36 g313.1 g331 (le_ 27 0 (.int .u64 (gt b0 ((gt (gt rows y161) i3).1))) u302.sq g313.1 g331 (q_ (.bool (decide (((gt b0 y161) + ((gt (gt rows y161) i3).2)) < (gt b0 ((gt (gt rows y161) i3).1))))) (q_ (.bool (decide (((gt b0 y161) + ((gt (gt rows y161) i3).2)) < (gt b0 ((gt (gt rows y161) i3).1))))) (q_ (.bool (decide (((gt b0 y161) + ((gt (gt rows y161) i3).2)) < (gt b0 ((gt (gt rows y161) i3).1))))) (s_nil ?_)))))
       obtain rfl := oi_ r332
       exact k311 _ _ ⟨ha_, rfl⟩
      have r333 := ite_f h321 r314
      rw [nb h321]
      refine n_' (n_' (n_' (n_' (n_' (n_' (n_' (n_' (n_' (n_' (n_' (n_' (n_' (n_' (n_' (n_' (n_' (q_ (.bool false) (s_nil ?_))))))))))))))))))
      obtain rfl := oi_ r333
      exact k311 _ _ ⟨ha_, rfl⟩
     obtain ⟨hh312, rfl⟩ := hM
     obtain ⟨β, rfl⟩ := has_ex hh312
     clear hh312
     refine k305 _ _ ?_
     refine wb_ (o306) (fun h334 => ?_) fun h334 => ?_
     ·have r335 := ite_t h334 r308
      refine sq_ fun k336 => g_' (q_ (pt_ b81 2) (lr_ 30 2 (.slice a67 n68 c69) u297 (q_ (pt_ b284 0) (lr_ 3 0 (i_ ((gt (gt rows y161) i3).1)) r293 ?_))))
      obtain ⟨g337, r338⟩ := G_some r335
      have n339 := (t_ (t_ (t_ (t_ (t_ (t_ (t_ e74.n e83.n) e89.n) e102.n) e124.n) e165.n) e196.n) e257.n)
      have d340 := (hb287.djn (hm66.lt.le n339))
      have u341 := ((m263.ext e286).fr e292 d340)
      refine u341.sq.ix_ 30 g337.1 g337.2 ?_
      obtain ⟨H342, q343, e344, hm345⟩ := Ow.store (P := Tryz.prog) (t := 4) (off := 0) e292.wf u341 g337.1 g337.2 (.bool true) [.bool true] (by kernel_rfl) (by kernel_rfl) rfl true (Nat.le_of_ble_eq_true rfl) (by kernel_rfl)
      refine ek_ q343 (s_nil (k336 _ _ (sq_ fun k346 => g_' (q_ (pt_ b81 0) ?_))))
      have u347 := (u297.frS e344 (Dj.symm d98))
      refine lr_ 36 0 (.slice a45 n46 c47) u347 (q_ (pt_ b284 0) ?_)
      have u348 := (r293.frS e344 (Dj.symm d340))
      refine lr_ 3 0 (i_ ((gt (gt rows y161) i3).1)) u348 (q_ (.int .u64 ((gt b0 y161) + ((gt (gt rows y161) i3).2))) ?_)
      obtain ⟨g349, r350⟩ := G_some r338
      have d351 := (hf65.djn (hm44.lt.le e52.n))
      have u352 := (u302.fr e344 d351)
      refine u352.sq.ix_ 36 g337.1 g349 ?_
      obtain ⟨H353, q354, e355, hm356⟩ := Ow.store (P := Tryz.prog) (t := 27) (off := 0) e344.wf u352 g337.1 g349 (.int .u64 ((gt b0 y161) + ((gt (gt rows y161) i3).2))) [.int .u64 ((gt b0 y161) + ((gt (gt rows y161) i3).2))] (by kernel_rfl) (by kernel_rfl) rfl ((gt b0 y161) + ((gt (gt rows y161) i3).2)) (Nat.le_of_ble_eq_true rfl) (by kernel_rfl)
      refine ek_ q354 (s_nil (k346 _ _ ?_))
      refine w_draw [0, 1, 2, 3, 4, 5, 6, 7, 8, 9, 10, 11] (by kernel_rfl) ?_
      refine e_' (pt_ b81 1) ?_
      have u357 := (u347.frS e355 (Dj.symm d159))
      refine mr_ 26 1 (.slice a55 n56 c57) u357 (e_' (pt_ b284 0) ?_)
      have u358 := (u348.frS e355 (Dj.symm d301))
      refine mr_ 3 0 (i_ ((gt (gt rows y161) i3).1)) u358 (e_' (pt_ b81 1) (mr_ 26 1 (.slice a55 n56 c57) u357 (e_' (i_ y161) ?_)))
      obtain ⟨g359, r360⟩ := G_some r350
      have n361 := (t_ (t_ (t_ (t_ (t_ (t_ (t_ (t_ e64.n e74.n) e83.n) e89.n) e102.n) e124.n) e165.n) e196.n) e257.n)
      have d362 := (hb287.djn (hm54.lt.le n361))
      have d363 := (hf53.djn hm44.lt)
      have u364 := ((((m261.ext e286).fr e292 d362).fr e344 (hf65.djn hm54.lt)).fr e355 (Dj.symm d363))
      refine u364.sq.mx_ 26 g191.1 g359 (me_ 3 0 (i_ (gt b1 y161)) u364.sq g191.1 g359 ?_)
      obtain ⟨g365, r366⟩ := G_some r360
      refine d_w (((gt b1 y161) + 1)) (k := .i64) (x := ((gt b1 y161) + 1)) (by kernel_rfl) (wrap64 g365) ?_
      obtain ⟨g367, r368⟩ := G_some r366
      refine u364.sq.mx_ 26 g337.1 g367 ?_
      obtain ⟨H369, q370, e371, hm372⟩ := Ow.store (P := Tryz.prog) (t := 3) (off := 0) e355.wf u364 g337.1 g367 (i_ ((gt b1 y161) + 1)) [i_ ((gt b1 y161) + 1)] (by kernel_rfl) (by kernel_rfl) rfl ((gt b1 y161) + 1) (Nat.le_of_ble_eq_true rfl) (by kernel_rfl)
      refine fk_ q370 (st_nil) ?_
      refine d_nil ?_
      refine k279 _ _ (g_' ?_)
      obtain ⟨g373, r374⟩ := G_some r368
      refine w_' ((i3 + 1)) (wrap64 (by have := g373; omega)) (q_ (i_ (i3 + 1)) (s_nil ?_))
      have u375 := (hm356.fr e371 d363)
      have d376 := (hf65.djn hm54.lt)
      have u377 := ((hm345.fr e355 (Dj.symm d351)).fr e371 (Dj.symm d376))
      obtain rfl := oi_ r374
      exact k274 n266 _ _ lt_ ⟨(b0.set ((gt (gt rows y161) i3).1).toNat ((gt b0 y161) + ((gt (gt rows y161) i3).2))), (b1.set ((gt (gt rows y161) i3).1).toNat ((gt b1 y161) + 1)), (b2.set ((gt (gt rows y161) i3).1).toNat true), (i3 + 1), hn269, ha_, (fs_ e196.wf (fs_ e196.wf (fs_ e196.wf (fs_ e196.wf ((fs_ e196.wf (fr_ e196.wf) e257 ir_).extR e286) e292 (hb287.fresh e257.n)) e344 (Inn.right (Inn.right ir_))) e355 Inn.left) e371 (Inn.right Inn.left)), u375, hm372, u377⟩
     have r378 := ite_bf h334 r308
     refine w_skip (k279 _ _ (g_' ?_))
     obtain ⟨g379, r380⟩ := G_some r378
     refine w_' ((i3 + 1)) (wrap64 (by have := g379; omega)) (q_ (i_ (i3 + 1)) (s_nil ?_))
     have n381 := (t_ (t_ (t_ (t_ (t_ (t_ (t_ (t_ e64.n e74.n) e83.n) e89.n) e102.n) e124.n) e165.n) e196.n) e257.n)
     have d382 := (hb287.djn (hm54.lt.le n381))
     have u383 := ((m261.ext e286).fr e292 d382)
     have n384 := (t_ (t_ (t_ (t_ (t_ (t_ (t_ e74.n e83.n) e89.n) e102.n) e124.n) e165.n) e196.n) e257.n)
     have d385 := (hb287.djn (hm66.lt.le n384))
     have u386 := ((m263.ext e286).fr e292 d385)
     obtain rfl := oi_ r380
     exact k274 n266 _ _ lt_ ⟨b0, b1, b2, (i3 + 1), hn269, ha_, (fs_ e196.wf ((fs_ e196.wf (fr_ e196.wf) e257 ir_).extR e286) e292 (hb287.fresh e257.n)), u302, u383, u386⟩
    have r387 := ite_f h277 hz268
    refine w_exit (th_exit (th_exit (bl_eq ?_)))
    obtain rfl := oi_ r387
    obtain rfl := it_inr hn269
    exact k252 _ _ ⟨ha_, (fs_ e196.wf (fr_ e196.wf) e257 ir_), m259, m261, m263⟩
   obtain ⟨hh253, e245, m247, m249, m251⟩ := hM
   obtain ⟨β, rfl⟩ := has_ex hh253
   clear hh253
   refine k153 _ _ (g_' (q_ (i_ count8) ?_))
   obtain ⟨g388, r389⟩ := G_some r243
   refine w_' ((count8 + 1)) (wrap64 g388) (q_ (i_ (count8 + 1)) (s_nil ?_))
   have d390 := (hf75.djn hm66.lt)
   have n391 := (t_ e52.n e64.n)
   have d392 := (hf75.djn (hm44.lt.le n391))
   have u393 := (hm197.fr e245 (Dj.app (Dj.symm d392) (Dj.app (Dj.symm d203) (Dj.symm d390))))
   obtain rfl := oi_ r389
   exact k148 n135 _ _ lt_ ⟨o241.1, o241.2.1, o241.2.2, (b7.set y161.toNat true), (count8 + 1), hn138, ha_, (fs_ e102.wf (fs_ e102.wf (fs_ e102.wf (fs_ e102.wf (fr_ e102.wf) e124 ir_) e165 in_) e196 (Inn.right (Inn.right (Inn.right ir_)))) e245 (Inn.app Inn.left (Inn.app (Inn.right Inn.left) (Inn.right (Inn.right Inn.left))))), m247, m249, m251, u393⟩
  have r394 := ite_f h151 hz137
  refine w_exit (th_exit (th_exit (bl_eq ?_)))
  obtain rfl := oi_ r394
  obtain rfl := it_inr hn138
  exact k119 _ _ ⟨ha_, (fs_ e102.wf (fr_ e102.wf) e124 ir_), m126, m128, m130, m132⟩
 obtain ⟨hh120, e110, m112, m114, m116, m118⟩ := hM
 obtain ⟨β, rfl⟩ := has_ex hh120
 clear hh120
 refine k104 _ _ (sq_ fun k395 => g_' ?_)
 have d396 := (hb84.djn hm76.lt)
 have n397 := (t_ e64.n e74.n)
 have d398 := (hb84.djn (hm54.lt.le n397))
 have n399 := (t_ (t_ e52.n e64.n) e74.n)
 have d400 := (hb84.djn (hm44.lt.le n399))
 have u401 := ((r90.frS e102 (Dj.symm d98)).frS e110 (Dj.app (Dj.symm d400) (Dj.app (Dj.symm d398) (Dj.app (Dj.symm d98) (Dj.symm d396)))))
 refine lr_ 152 0 (.agg #[.slice a45 n46 c47, .slice a55 n56 c57, .slice a67 n68 c69, .slice a77 n78 c79]) u401 ?_
 have n406 := (t_ (t_ (t_ e42.n e52.n) e64.n) e74.n)
 have d407 := (hb84.djn (r32.ltF.le n406))
 have n408 := (t_ e42.n e52.n)
 have d409 := (hf65.djn (r32.ltF.le n408))
 have n410 := (t_ (t_ e42.n e52.n) e64.n)
 have d411 := (hf75.djn (r32.ltF.le n410))
 have d412 := (hf53.djn (r32.ltF.le e42.n))
 have u413 := ((((((((r32.ext e42).ext e52).ext e64).ext e74).ext e83).frS e89 d407).frS e102 d409).frS e110 (Dj.app (hf43.djn r32.ltF) (Dj.app d412 (Dj.app d409 d411))))
 obtain ⟨H402, q403, e404, r405⟩ := ra_ 152 0 e110.wf u413 [.slice a45 n46 c47, .slice a55 n56 c57, .slice a67 n68 c69, .slice a77 n78 c79] [.slice a45 n46 c47, .slice a55 n56 c57, .slice a67 n68 c69, .slice a77 n78 c79]
 refine ek_ q403 (s_nil (k395 _ _ ?_))
 refine w_ret ?_
 refine b_ret (vs := [.agg #[.slice a45 n46 c47, .slice a55 n56 c57, .slice a67 n68 c69, .slice a77 n78 c79]]) (aRes_cell (Eq.trans (b := aL_ 152 (pt_ b28 0) H402) (by kernel_rfl) (r405.l_)) (rfl)) ?_
 have n414 := (t_ (t_ (t_ (t_ e30.n e42.n) e52.n) e64.n) e74.n)
 have n415 := (t_ (t_ e30.n e42.n) e52.n)
 have n416 := (t_ (t_ (t_ e30.n e42.n) e52.n) e64.n)
 have n417 := (t_ e30.n e42.n)
 have d418 := (hf43.djn r32.ltF)
 have u419 := (m112.fr e404 (Dj.symm d418))
 have u420 := (m114.fr e404 (Dj.symm d412))
 have u421 := (m116.fr e404 (Dj.symm d409))
 have u422 := (m118.fr e404 (Dj.symm d411))
 have d423 := (hf53.djn hm44.lt)
 have d424 := (hf65.djn (hm44.lt.le e52.n))
 have d425 := (hf65.djn hm54.lt)
 have n426 := (t_ e52.n e64.n)
 have d427 := (hf75.djn (hm44.lt.le n426))
 have d428 := (hf75.djn (hm54.lt.le e64.n))
 have d429 := (hf75.djn hm66.lt)
 obtain rfl := oi_ r108
 exact ⟨(.slice a45 n46 c47), f40, (.slice a55 n56 c57), f50, (.slice a67 n68 c69), f62, (.slice a77 n78 c79), f72, rfl, (fs_ wf (fs_ wf (fs_ wf (fs_ wf (((((((f0_ wf).extR e30).extR e42).extR e52).extR e64).extR e74).extR e83) e89 (hb84.fresh n414)) e102 (hf65.fresh n415)) e110 (Inn.app (hf43.fresh e30.n) (Inn.app (hf53.fresh n417) (Inn.app (hf65.fresh n415) (hf75.fresh n416))))) e404 (hb31.fresh (Nat.le_refl _))), u419, u420, u421, u422, (hf43.fresh e30.n), (hf53.fresh n417), (hf65.fresh n415), (hf75.fresh n416), (Dj.symm d423), (Dj.symm d424), (Dj.symm d425), (Dj.symm d427), (Dj.symm d428), (Dj.symm d429)⟩
theorem c_viaductref12_Find {H : AH} {hd_Alive : Value} {fp_Alive : Fp} {hd_Arcs : Value} {fp_Arcs : Fp} {hd_goals : Value} {fp_goals : Fp} {Alive : List (Bool)} {Arcs : List (Int × Int × Int × Int)} {u : Int} {skip : Int} {goals : List (Int)} {most : Int} {hops : Int} {settles : Int} {r : List (Int)}
    (wf : WF H) (h_Alive : Sq encB 1 H hd_Alive Alive fp_Alive) (h_Arcs : Sq enc_i64_i64_u64_i64 4 H hd_Arcs Arcs fp_Arcs) (h_goals : Sq (encI .i64) 1 H hd_goals goals fp_goals) (hr : z_viaductref12_Find Alive Arcs u skip goals most hops settles = some r) :
    ACalls Tryz.prog 46 #[.agg #[hd_Alive, hd_Arcs], i_ u, i_ skip, hd_goals, .int .u64 most, i_ hops, i_ settles] H fun v H' => ∃ (s3 : Value) (f4 : Fp), v = s3 /\ FrS [] H H' /\ Ow (encI .u64) 1 H' s3 r f4 /\ Inn [] H f4 := by
 refine ab_ Tryz.func46 ?_
 unfold z_viaductref12_Find at hr
 refine sq_ fun k6 => g_' ?_
 refine s_rwl wf [hd_Alive, hd_Arcs] (one_cons (h_Alive.one1) (one_cons (h_Arcs.one1) (one_nil))) (by kernel_rfl) fun b7 H8 e9 hb10 r11 => ?_
 refine q_ (.slice none 0 0) (s_nil (k6 _ _ (sq_ fun k13 => g_' (lr_ 33 0 (.agg #[hd_Alive, hd_Arcs]) r11 (q_ (i_ skip) ?_)))))
 have u14 := (h_Alive.ext e9)
 have u15 := (h_Arcs.ext e9)
 obtain ⟨y16, hy17, r18⟩ := bs_ hr
 refine ck_ (c_viaductref12_Rows e9.wf u14 u15 hy17) ?_
 rintro s19 H21 ⟨_, f20, rfl, e22, m23, i24⟩
 obtain ⟨a26, n27, c28, rfl⟩ := m23.form
 refine q_ (i_ u) (q_ (i_ hops) (q_ (i_ settles) (q_ (.int .u64 most) ?_)))
 obtain ⟨y29, hy30, r31⟩ := bs_ r18
 refine ck_ (c_viaductref08_Run e22.wf m23 hy30) ?_
 rintro _ H40 ⟨s32, f33, s34, f35, s36, f37, s38, f39, rfl, e41, m42, m43, m44, m45, i46, i47, i48, i49, d50, d51, d52, d53, d54, d55⟩
 obtain ⟨a60, n61, c62, rfl⟩ := m42.form
 obtain ⟨a63, n64, c65, rfl⟩ := m43.form
 obtain ⟨a66, n67, c68, rfl⟩ := m44.form
 obtain ⟨a69, n70, c71, rfl⟩ := m45.form
 refine rk_ e41.wf [.slice none 0 0, .slice none 0 0, .slice none 0 0, .slice none 0 0] fun b72 H73 e74 hb75 r76 => ?_
 have u82 := (m45.ext e74)
 have u83 := (m44.ext e74)
 have u84 := (m43.ext e74)
 have u85 := (m42.ext e74)
 obtain ⟨H78, q79, e80, r81⟩ := ra_ 152 0 e74.wf r76 [.slice a60 n61 c62, .slice a63 n64 c65, .slice a66 n67 c68, .slice a69 n70 c71] [.slice a60 n61 c62, .slice a63 n64 c65, .slice a66 n67 c68, .slice a69 n70 c71]
 refine ek_ q79 (s_nil (k13 _ _ (sq_ fun k86 => g_' (q_ (.slice none 0 0) (s_nil (k86 _ _ (sq_ fun k87 => sq_ fun k88 => g_' (q_ (hd_goals) ?_))))))))
 have n89 := (t_ (t_ e9.n e22.n) e41.n)
 have d90 := (hb75.djn (h_goals.lt.le n89))
 have u91 := (((((h_goals.ext e9).fr e22 dn_).fr e41 dn_).ext e74).fr e80 d90)
 refine u91.ln_ 26 (q_ (i_ 0) (s_nil (k88 _ _ ?_)))
 obtain ⟨o92, hx93, r94⟩ := bs_ r31
 refine w_mid (fun α H95 => ∃ (s99 : Value) (f100 : Fp), Has α [(16, s99)] /\ FrS [] H78 H95 /\ Ow (encI .u64) 1 H95 s99 o92 f100 /\ Inn [] H78 f100) (fun _ k102 => ?_) (fun α H95 hM => ?_)
 ·refine w_block ?_
  obtain ⟨n104, hn105⟩ := loopO_iff.1 hx93
  refine w_loopn (fun n α H106 => ∃ (l0 : List (Int)), ∃ (i1 : Int), ∃ (s110 : Value), ∃ (f111 : Fp), iterO (fun zz_ => z_viaductref12_Find_l0 goals y29 zz_.1 zz_.2) n (l0, i1) = some o92 /\ Has α [(15, pt_ b72 0), (16, s110), (27, hd_goals), (28, i_ (goals.length : Int)), (29, i_ i1)] /\ FrS [] H78 H106 /\ Ow (encI .u64) 1 H106 s110 l0 f111 /\ Inn [] H78 f111) n104 ⟨[], 0, (.slice none 0 0), [], hn105, ha_, (fr_ e80.wf), (Ow.nil (by decide)), in_⟩ ?_
  rintro n104 α H106 ⟨l0, i1, s110, f111, hi114, hh113, e107, m109, i112⟩ K119 k119
  obtain ⟨n115, z116, rfl, hz117, hn118⟩ := iter_succ hi114
  obtain ⟨β, rfl⟩ := has_ex hh113
  clear hh113
  replace hz117 : z_viaductref12_Find_l0 goals y29 l0 i1 = some z116 := hz117
  unfold z_viaductref12_Find_l0 at hz117
  obtain ⟨a120, n121, c122, rfl⟩ := m109.form
  refine sq_ fun k123 => g_' (q_ (.bool (decide (i1 < (goals.length : Int)))) (s_nil (k123 _ _ (sq_ fun k124 => ?_))))
  refine wc_ (i1 < (goals.length : Int)) (fun h125 => ?_) fun h125 => ?_
  ·have r126 := ite_t h125 hz117
   refine w_skip (k124 _ _ (sq_ fun k127 => w_block (sq_ fun k128 => g_' ?_)))
   obtain ⟨g129, r130⟩ := G_some r126
   have u131 := (u91.fr e107 dn_)
   refine u131.ix_ 26 g129 h125 (le_ 3 0 (i_ (gt goals i1)) u131 g129 h125 (q_ (i_ (gt goals i1)) (s_nil (k128 _ _ (sq_ fun k132 => g_' (q_ (pt_ b72 2) ?_))))))
   have u133 := (r81.frS e107 dn_)
   refine lr_ 30 2 (.slice a66 n67 c68) u133 (q_ (i_ (gt goals i1)) ?_)
   obtain ⟨g134, r135⟩ := G_some r130
   have u136 := ((u83.fr e80 (hb75.djn m44.lt)).fr e107 dn_)
   refine u136.sq.ix_ 30 g134.1 g134.2 (le_ 4 0 (.bool (gt y29.2.2.1 (gt goals i1))) u136.sq g134.1 g134.2 (s_nil (k132 _ _ ?_)))
   refine wb_ ((gt y29.2.2.1 (gt goals i1))) (fun h137 => ?_) fun h137 => ?_
   ·have r138 := ite_t h137 r135
    refine g_' (q_ (.slice a120 n121 c122) (q_ (pt_ b72 0) (lr_ 36 0 (.slice a60 n61 c62) u133 (q_ (i_ (gt goals i1)) ?_))))
    obtain ⟨g139, r140⟩ := G_some r138
    have u141 := ((u85.fr e80 (hb75.djn m42.lt)).fr e107 dn_)
    refine u141.sq.ix_ 36 g134.1 g139 (le_ 27 0 (.int .u64 (gt y29.1 (gt goals i1))) u141.sq g134.1 g139 ?_)
    refine s_owk (enc := (encI .u64)) (sz := 1) e107.wf [(gt y29.1 (gt goals i1))] 1 (by decide) (fun _ _ => rfl) (fun _ _ => rfl) rfl (by kernel_rfl) fun s142 f143 H144 e145 hf146 hm147 => ?_
    obtain ⟨a148, n149, c150, rfl⟩ := hm147.form
    have u152 := (m109.ext e145)
    obtain ⟨g153, r154⟩ := G_some r140
    obtain ⟨s155, H156, f157, q161, e158, hm159, hf160⟩ := Ow.append (P := Tryz.prog) 8 e145.wf u152 hm147.sq (fun _ _ => rfl) (at_ := #[36, 36]) rfl rfl (by kernel_rfl) (by kernel_rfl) (by decide) (by have := g153; first | omega | (simp only [List.length_cons, List.length_nil] at this ⊢; omega) | (simp at this ⊢; omega))
    obtain ⟨a162, n163, c164, rfl⟩ := hm159.form
    refine s_ek (.slice a162 n163 c164) (by kernel_rfl) (q161) ?_
    refine q_ (.slice a162 n163 c164) (s_nil (k127 _ _ (g_' ?_)))
    obtain ⟨g166, r167⟩ := G_some r154
    refine w_' ((i1 + 1)) (wrap64 (by have := g166; omega)) (q_ (i_ (i1 + 1)) (s_nil ?_))
    have n168 := (t_ e107.n e145.n)
    obtain rfl := oi_ r167
    exact k119 n115 _ _ lt_ ⟨(l0 ++ [(gt y29.1 (gt goals i1))]), (i1 + 1), (.slice a162 n163 c164), f157, hn118, ha_, (fs_ e80.wf ((fs_ e80.wf (fr_ e80.wf) e107 in_).extR e145) e158 (i112.fresh (Nat.le_refl _))), hm159, (Inn.trans (i112.fresh (Nat.le_refl _)) n168 hf160)⟩
   have r169 := ite_bf h137 r135
   refine g_' (q_ (.slice a120 n121 c122) ?_)
   refine s_owk (enc := (encI .u64)) (sz := 1) e107.wf [18446744073709551615] 1 (by decide) (fun _ _ => rfl) (fun _ _ => rfl) rfl (by kernel_rfl) fun s170 f171 H172 e173 hf174 hm175 => ?_
   obtain ⟨a176, n177, c178, rfl⟩ := hm175.form
   have u180 := (m109.ext e173)
   obtain ⟨g181, r182⟩ := G_some r169
   obtain ⟨s183, H184, f185, q189, e186, hm187, hf188⟩ := Ow.append (P := Tryz.prog) 8 e173.wf u180 hm175.sq (fun _ _ => rfl) (at_ := #[36, 36]) rfl rfl (by kernel_rfl) (by kernel_rfl) (by decide) (by have := g181; first | omega | (simp only [List.length_cons, List.length_nil] at this ⊢; omega) | (simp at this ⊢; omega))
   obtain ⟨a190, n191, c192, rfl⟩ := hm187.form
   refine s_ek (.slice a190 n191 c192) (by kernel_rfl) (q189) ?_
   refine q_ (.slice a190 n191 c192) (s_nil (k127 _ _ (g_' ?_)))
   obtain ⟨g194, r195⟩ := G_some r182
   refine w_' ((i1 + 1)) (wrap64 (by have := g194; omega)) (q_ (i_ (i1 + 1)) (s_nil ?_))
   have n196 := (t_ e107.n e173.n)
   obtain rfl := oi_ r195
   exact k119 n115 _ _ lt_ ⟨(l0 ++ [18446744073709551615]), (i1 + 1), (.slice a190 n191 c192), f185, hn118, ha_, (fs_ e80.wf ((fs_ e80.wf (fr_ e80.wf) e107 in_).extR e173) e186 (i112.fresh (Nat.le_refl _))), hm187, (Inn.trans (i112.fresh (Nat.le_refl _)) n196 hf188)⟩
  have r197 := ite_f h125 hz117
  refine w_exit (th_exit (th_exit (bl_eq ?_)))
  obtain rfl := oi_ r197
  obtain rfl := it_inr hn118
  exact k102 _ _ ⟨(.slice a120 n121 c122), f111, ha_, (fs_ e80.wf (fr_ e80.wf) e107 in_), m109, (i112.fresh (Nat.le_refl _))⟩
 obtain ⟨s99, f100, hh103, e96, m98, i101⟩ := hM
 obtain ⟨β, rfl⟩ := has_ex hh103
 clear hh103
 obtain ⟨a198, n199, c200, rfl⟩ := m98.form
 refine k87 _ _ (sq_ fun k201 => g_' (q_ (.slice a198 n199 c200) (q_ (.slice a198 n199 c200) (s_nil (k201 _ _ ?_)))))
 refine w_ret ?_
 refine br_ [.slice a198 n199 c200] ?_
 have n202 := (t_ (t_ (t_ (t_ e9.n e22.n) e41.n) e74.n) e80.n)
 obtain rfl := oi_ r94
 exact ⟨(.slice a198 n199 c200), f100, rfl, (fs_ wf (fs_ wf ((fs_ wf (fs_ wf ((f0_ wf).extR e9) e22 in_) e41 in_).extR e74) e80 (hb75.fresh n89)) e96 in_), m98, (i101.fresh n202)⟩
theorem c_viaductref12_DocFind {H : AH} {hd_Alive : Value} {fp_Alive : Fp} {hd_Arcs : Value} {fp_Arcs : Fp} {hd_goals : Value} {fp_goals : Fp} {Alive : List (Bool)} {Arcs : List (Int × Int × Int × Int)} {u : Int} {skip : Int} {goals : List (Int)} {most : Int} {hops : Int} {settles : Int} {r : List (Int) × Int × List (Int × Int)}
    (wf : WF H) (h_Alive : Sq encB 1 H hd_Alive Alive fp_Alive) (h_Arcs : Sq enc_i64_i64_u64_i64 4 H hd_Arcs Arcs fp_Arcs) (h_goals : Sq (encI .i64) 1 H hd_goals goals fp_goals) (hr : z_viaductref12_DocFind Alive Arcs u skip goals most hops settles = some r) :
    ACalls Tryz.prog 11 #[.agg #[hd_Alive, hd_Arcs], i_ u, i_ skip, hd_goals, .int .u64 most, i_ hops, i_ settles] H fun v H' => ∃ (s3 : Value) (f4 : Fp) (s7 : Value) (f8 : Fp), v = .tuple #[s3, .agg #[i_ r.2.1, s7]] /\ FrS [] H H' /\ Ow (encI .u64) 1 H' s3 r.1 f4 /\ Ow enc_i64_i64 2 H' s7 r.2.2 f8 /\ Inn [] H f4 /\ Inn [] H f8 /\ Dj f4 f8 := by
 refine ab_ Tryz.func11 ?_
 unfold z_viaductref12_DocFind at hr
 refine sq_ fun k12 => g_' ?_
 refine s_rwl wf [hd_Alive, hd_Arcs] (one_cons (h_Alive.one1) (one_cons (h_Arcs.one1) (one_nil))) (by kernel_rfl) fun b13 H14 e15 hb16 r17 => ?_
 refine q_ (.slice none 0 0) ?_
 refine rk_ e15.wf [i_ 0, .slice none 0 0] fun b19 H20 e21 hb22 r23 => ?_
 refine s_nil (k12 _ _ (sq_ fun k25 => sq_ fun k26 => g_' ?_))
 have u27 := (r17.ext e21)
 refine lr_ 33 0 (.agg #[hd_Alive, hd_Arcs]) u27 (q_ (i_ u) ?_)
 have u28 := ((h_Alive.ext e15).ext e21)
 have u29 := ((h_Arcs.ext e15).ext e21)
 obtain ⟨y30, hy31, r32⟩ := bs_ hr
 refine ck_ (c_viaductref11_Lives e21.wf u28 u29 hy31) ?_
 rintro _ H33 ⟨rfl, e34⟩
 refine q_ (.bool (!y30)) (s_nil (k26 _ _ ?_))
 refine wb_ ((!y30)) (fun h35 => ?_) fun h35 => ?_
 ·have r36 := ite_t h35 r32
  refine sq_ fun k37 => g_' ?_
  obtain ⟨y38, hy39, r40⟩ := bs_ r36
  refine ck_ (c_viaductref01_E e34.wf hy39) ?_
  rintro _ H41 ⟨rfl, e42⟩
  refine q_ (.slice none 0 0) ?_
  have u47 := ((r23.frS e34 dn_).frS e42 dn_)
  obtain ⟨H43, q44, e45, r46⟩ := ra_ 44 0 e42.wf u47 [i_ y38, .slice none 0 0] [i_ y38, .slice none 0 0]
  refine ek_ q44 (s_nil (k37 _ _ ?_))
  refine w_ret (th_ret ?_)
  refine b_ret (vs := [.slice none 0 0, .agg #[i_ y38, .slice none 0 0]]) (aRes_tmp (by kernel_rfl) (aRes_cell (Eq.trans (b := aL_ 44 (pt_ b19 0) H43) (by kernel_rfl) (r46.l_)) (rfl))) ?_
  obtain rfl := oi_ r40
  exact ⟨(.slice none 0 0), [], (.slice none 0 0), [], rfl, (fs_ wf (fs_ wf (fs_ wf (((f0_ wf).extR e15).extR e21) e34 in_) e42 in_) e45 (hb22.fresh e15.n)), (Ow.nil (by decide)), (Ow.nil (by decide)), in_, in_, dn_⟩
 have r48 := ite_bf h35 r32
 refine w_skip (k25 _ _ (sq_ fun k49 => sq_ fun k50 => g_' (q_ (hd_goals) ?_)))
 have u51 := (((h_goals.ext e15).ext e21).fr e34 dn_)
 refine u51.ln_ 26 (q_ (i_ 0) (s_nil (k50 _ _ ?_)))
 obtain ⟨z55, hx53, r54⟩ := bs_ r48
 refine w_mid (fun α H56 => ∃ o52, z55 = Sum.inr o52 /\ Has α [(1, i_ u), (2, i_ skip), (3, hd_goals), (4, .int .u64 most), (5, i_ hops), (6, i_ settles), (7, pt_ b13 0), (15, pt_ b19 0)] /\ FrS [] H33 H56) (fun _ k58 => ?_) (fun α H56 hM => ?_)
 ·refine w_block ?_
  obtain ⟨n60, hn61⟩ := loopO_iff.1 hx53
  refine w_loopn (fun n α H62 => ∃ (i0 : Int), iterO (fun zz_ => z_viaductref12_DocFind_l0 Alive Arcs goals zz_) n i0 = some z55 /\ Has α [(1, i_ u), (2, i_ skip), (3, hd_goals), (4, .int .u64 most), (5, i_ hops), (6, i_ settles), (7, pt_ b13 0), (15, pt_ b19 0), (23, hd_goals), (24, i_ (goals.length : Int)), (25, i_ i0)] /\ FrS [] H33 H62) n60 ⟨0, hn61, ha_, (fr_ e34.wf)⟩ ?_
  rintro n60 α H62 ⟨i0, hi65, hh64, e63⟩ K70 k70
  obtain ⟨n66, z67, rfl, hz68, hn69⟩ := iter_succ hi65
  obtain ⟨β, rfl⟩ := has_ex hh64
  clear hh64
  replace hz68 : z_viaductref12_DocFind_l0 Alive Arcs goals i0 = some z67 := hz68
  unfold z_viaductref12_DocFind_l0 at hz68
  refine sq_ fun k71 => g_' (q_ (.bool (decide (i0 < (goals.length : Int)))) (s_nil (k71 _ _ (sq_ fun k72 => ?_))))
  refine wc_ (i0 < (goals.length : Int)) (fun h73 => ?_) fun h73 => ?_
  ·have r74 := ite_t h73 hz68
   refine w_skip (k72 _ _ (sq_ fun k75 => w_block (sq_ fun k76 => g_' (q_ (i_ i0) ?_))))
   obtain ⟨g77, r78⟩ := G_some r74
   have u79 := (u51.fr e63 dn_)
   refine u79.ix_ 26 g77 h73 (le_ 3 0 (i_ (gt goals i0)) u79 g77 h73 (q_ (i_ i0) (q_ (i_ (gt goals i0)) (s_nil (k76 _ _ (sq_ fun k80 => g_' ?_))))))
   have u81 := ((u27.frS e34 dn_).frS e63 dn_)
   refine lr_ 33 0 (.agg #[hd_Alive, hd_Arcs]) u81 (q_ (i_ (gt goals i0)) ?_)
   have u82 := ((u28.fr e34 dn_).fr e63 dn_)
   have u83 := ((u29.fr e34 dn_).fr e63 dn_)
   obtain ⟨y84, hy85, r86⟩ := bs_ r78
   refine ck_ (c_viaductref11_Lives e63.wf u82 u83 hy85) ?_
   rintro _ H87 ⟨rfl, e88⟩
   refine q_ (.bool (!y84)) (s_nil (k80 _ _ ?_))
   refine wb_ ((!y84)) (fun h89 => ?_) fun h89 => ?_
   ·have r90 := ite_t h89 r86
    refine sq_ fun k91 => g_' (q_ (i_ i0) ?_)
    obtain ⟨y92, hy93, r94⟩ := bs_ r90
    refine ck_ (c_viaductref01_E e88.wf hy93) ?_
    rintro _ H95 ⟨rfl, e96⟩
    obtain ⟨y97, hy98, r99⟩ := bs_ r94
    refine ck_ (c_viaductref01_At e96.wf (Sq.nil (enc := enc_i64_i64) (sz := 2) (by decide)) hy98) ?_
    rintro _ H102 ⟨s100, f101, rfl, e103, m104, i105⟩
    obtain ⟨a107, n108, c109, rfl⟩ := m104.form
    refine q_ (.slice none 0 0) ?_
    have u114 := (((((r23.frS e34 dn_).frS e63 dn_).frS e88 dn_).frS e96 dn_).frS e103 dn_)
    obtain ⟨H110, q111, e112, r113⟩ := ra_ 44 0 e103.wf u114 [i_ y97.1, .slice a107 n108 c109] [i_ y97.1, .slice a107 n108 c109]
    refine ek_ q111 (s_nil (k91 _ _ ?_))
    refine w_ret (bl_ret (th_ret (th_ret (bl_ret (th_ret (th_ret ?_))))))
    obtain ⟨v115, hv116, hz117⟩ := map_some r99
    subst hz117
    obtain rfl := it_inr hn69
    have hq118 := elim_inl r54
    rw [hq118] at hv116
    refine b_ret (vs := [.slice none 0 0, .agg #[i_ y97.1, .slice a107 n108 c109]]) (aRes_tmp (by kernel_rfl) (aRes_cell (Eq.trans (b := aL_ 44 (pt_ b19 0) H110) (by kernel_rfl) (r113.l_)) (rfl))) ?_
    have n119 := (t_ (t_ (t_ e34.n e63.n) e88.n) e96.n)
    have d120 := (i105.djn (r23.ltF.le n119))
    have u121 := (m104.fr e112 (Dj.symm d120))
    have n122 := (t_ (t_ (t_ (t_ (t_ e15.n e21.n) e34.n) e63.n) e88.n) e96.n)
    obtain rfl := oi_ hv116
    exact ⟨(.slice none 0 0), [], (.slice a107 n108 c109), f101, rfl, (fs_ wf (fs_ wf (fs_ wf (fs_ wf (fs_ wf (fs_ wf (((f0_ wf).extR e15).extR e21) e34 in_) e63 in_) e88 in_) e96 in_) e103 in_) e112 (hb22.fresh e15.n)), (Ow.nil (by decide)), u121, in_, (i105.fresh n122), dn_⟩
   have r123 := ite_bf h89 r86
   refine w_skip (k75 _ _ (g_' ?_))
   obtain ⟨g124, r125⟩ := G_some r123
   refine w_' ((i0 + 1)) (wrap64 (by have := g124; omega)) (q_ (i_ (i0 + 1)) (s_nil ?_))
   obtain rfl := oi_ r125
   exact k70 n66 _ _ lt_ ⟨(i0 + 1), hn69, ha_, (fs_ e34.wf (fs_ e34.wf (fr_ e34.wf) e63 in_) e88 in_)⟩
  have r126 := ite_f h73 hz68
  refine w_exit (th_exit (th_exit (bl_eq ?_)))
  obtain rfl := oi_ r126
  obtain rfl := it_inr hn69
  exact k58 _ _ ⟨_, rfl, ha_, (fs_ e34.wf (fr_ e34.wf) e63 in_)⟩
 obtain ⟨o52, rfl, hh59, e57⟩ := hM
 have r127 := elim_inr r54
 obtain ⟨β, rfl⟩ := has_ex hh59
 clear hh59
 refine k49 _ _ (sq_ fun k128 => g_' ?_)
 have u129 := ((u27.frS e34 dn_).frS e57 dn_)
 refine lr_ 33 0 (.agg #[hd_Alive, hd_Arcs]) u129 (q_ (i_ u) (q_ (i_ skip) (q_ (hd_goals) (q_ (.int .u64 most) (q_ (i_ hops) (q_ (i_ settles) ?_))))))
 have u130 := ((u28.fr e34 dn_).fr e57 dn_)
 have u131 := ((u29.fr e34 dn_).fr e57 dn_)
 have u132 := (u51.fr e57 dn_)
 obtain ⟨y133, hy134, r135⟩ := bs_ r127
 refine ck_ (c_viaductref12_Find e57.wf u130 u131 u132 hy134) ?_
 rintro s136 H138 ⟨_, f137, rfl, e139, m140, i141⟩
 obtain ⟨a143, n144, c145, rfl⟩ := m140.form
 refine q_ (.agg #[i_ 0, .slice none 0 0]) (q_ (.slice a143 n144 c145) ?_)
 have u150 := (((r23.frS e34 dn_).frS e57 dn_).frS e139 dn_)
 obtain ⟨H146, q147, e148, r149⟩ := ra_ 44 0 e139.wf u150 [i_ 0, .slice none 0 0] [i_ 0, .slice none 0 0]
 refine ek_ q147 (s_nil (k128 _ _ ?_))
 refine w_ret ?_
 refine b_ret (vs := [.slice a143 n144 c145, .agg #[i_ 0, .slice none 0 0]]) (aRes_tmp (by kernel_rfl) (aRes_cell (Eq.trans (b := aL_ 44 (pt_ b19 0) H146) (by kernel_rfl) (r149.l_)) (rfl))) ?_
 have n151 := (t_ e34.n e57.n)
 have d152 := (i141.djn (r23.ltF.le n151))
 have u153 := (m140.fr e148 (Dj.symm d152))
 have n154 := (t_ (t_ (t_ e15.n e21.n) e34.n) e57.n)
 obtain rfl := oi_ r135
 exact ⟨(.slice a143 n144 c145), f137, (.slice none 0 0), [], rfl, (fs_ wf (fs_ wf (fs_ wf (fs_ wf (((f0_ wf).extR e15).extR e21) e34 in_) e57 in_) e139 in_) e148 (hb22.fresh e15.n)), u153, (Ow.nil (by decide)), (i141.fresh n154), in_, Dj.nil_r⟩
theorem c_viaductref04_SameRow {H : AH} {hd_a : Value} {fp_a : Fp} {hd_b : Value} {fp_b : Fp} {a : List (Int)} {b : List (Int)} {r : Bool}
    (wf : WF H) (h_a : Sq (encI .u64) 1 H hd_a a fp_a) (h_b : Sq (encI .u64) 1 H hd_b b fp_b) (hr : z_viaductref04_SameRow a b = some r) :
    ACalls Tryz.prog 12 #[hd_a, hd_b] H fun v H' => v = .bool r /\ H = H' := by
 refine ab_ Tryz.func12 ?_
 unfold z_viaductref04_SameRow at hr
 refine sq_ fun k1 => g_' (q_ (.bool false) (s_nil (k1 _ _ (sq_ fun k2 => sq_ fun k3 => g_' (q_ (hd_a) (h_a.ln_ 36 (q_ (hd_b) (h_b.ln_ 36 (q_ (.bool (!decide ((a.length : Int) = (b.length : Int)))) (s_nil (k3 _ _ ?_)))))))))))
 refine w_condn ((a.length : Int) = (b.length : Int)) (by kernel_rfl) rfl (fun h4 => ?_) (fun h4 => ?_)
 ·have r5 := ite_f h4 hr
  refine sq_ fun k6 => g_' (q_ (.bool false) (s_nil (k6 _ _ ?_)))
  refine w_ret (th_ret ?_)
  refine br_ [.bool false] ?_
  obtain rfl := oi_ r5
  exact ⟨rfl, rfl⟩
 have r7 := ite_t h4 hr
 refine w_skip (k2 _ _ (sq_ fun k8 => sq_ fun k9 => g_' (q_ (hd_a) (h_a.ln_ 36 (q_ (i_ 0) (s_nil (k9 _ _ ?_)))))))
 obtain ⟨z13, hx11, r12⟩ := bs_ r7
 refine w_mid (fun α H14 => ∃ o10, z13 = Sum.inr o10 /\ Has α [] /\ H = H14) (fun _ k16 => ?_) (fun α H14 hM => ?_)
 ·refine w_block ?_
  obtain ⟨n18, hn19⟩ := loopO_iff.1 hx11
  refine w_loopn (fun n α H20 => ∃ (i0 : Int), iterO (fun zz_ => z_viaductref04_SameRow_l0 a b zz_) n i0 = some z13 /\ Has α [(0, hd_a), (1, hd_b), (12, i_ (a.length : Int)), (13, i_ i0)] /\ H = H20) n18 ⟨0, hn19, ha_, rfl⟩ ?_
  rintro n18 α H20 ⟨i0, hi23, hh22, rfl⟩ K28 k28
  obtain ⟨n24, z25, rfl, hz26, hn27⟩ := iter_succ hi23
  obtain ⟨β, rfl⟩ := has_ex hh22
  clear hh22
  replace hz26 : z_viaductref04_SameRow_l0 a b i0 = some z25 := hz26
  unfold z_viaductref04_SameRow_l0 at hz26
  refine sq_ fun k29 => g_' (q_ (.bool (decide (i0 < (a.length : Int)))) (s_nil (k29 _ _ (sq_ fun k30 => ?_))))
  refine wc_ (i0 < (a.length : Int)) (fun h31 => ?_) fun h31 => ?_
  ·have r32 := ite_t h31 hz26
   refine w_skip (k30 _ _ (sq_ fun k33 => w_block (sq_ fun k34 => g_' (q_ (i_ i0) (q_ (i_ i0) (s_nil (k34 _ _ (sq_ fun k35 => ?_))))))))
   refine w_draw [0, 1, 2, 3, 4, 5, 6, 7, 8] (by kernel_rfl) ?_
   refine e_' (hd_a) (e_' (i_ i0) ?_)
   obtain ⟨g36, r37⟩ := G_some r32
   refine h_a.mx_ 36 g36 h31 (me_ 27 0 (.int .u64 (gt a i0)) h_a g36 h31 (e_' (hd_b) (e_' (i_ i0) ?_)))
   obtain ⟨g38, r39⟩ := G_some r37
   refine h_b.mx_ 36 g36 g38 (me_ 27 0 (.int .u64 (gt b i0)) h_b g36 g38 (e_' (.bool (!decide ((gt a i0) = (gt b i0)))) ?_))
   refine d_nil ?_
   refine k35 _ _ ?_
   refine w_condn ((gt a i0) = (gt b i0)) (by kernel_rfl) rfl (fun h40 => ?_) (fun h40 => ?_)
   ·have r41 := ite_f h40 r39
    refine sq_ fun k42 => g_' (q_ (.bool false) (s_nil (k42 _ _ ?_)))
    refine w_ret (bl_ret (th_ret (th_ret (bl_ret (th_ret (th_ret ?_))))))
    obtain ⟨v43, hv44, hz45⟩ := map_some r41
    subst hz45
    obtain rfl := it_inr hn27
    have hq46 := elim_inl r12
    rw [hq46] at hv44
    refine br_ [.bool false] ?_
    obtain rfl := oi_ hv44
    exact ⟨rfl, rfl⟩
   have r47 := ite_t h40 r39
   refine w_skip (k33 _ _ (g_' ?_))
   obtain ⟨g48, r49⟩ := G_some r47
   refine w_' ((i0 + 1)) (wrap64 (by have := g48; omega)) (q_ (i_ (i0 + 1)) (s_nil ?_))
   obtain rfl := oi_ r49
   exact k28 n24 _ _ lt_ ⟨(i0 + 1), hn27, ha_, rfl⟩
  have r50 := ite_f h31 hz26
  refine w_exit (th_exit (th_exit (bl_eq ?_)))
  obtain rfl := oi_ r50
  obtain rfl := it_inr hn27
  exact k16 _ _ ⟨_, rfl, trivial, rfl⟩
 obtain ⟨o10, rfl, hh17, rfl⟩ := hM
 have r51 := elim_inr r12
 obtain ⟨β, rfl⟩ := has_ex hh17
 clear hh17
 refine k8 _ _ (sq_ fun k52 => g_' (q_ (.bool true) (s_nil (k52 _ _ ?_))))
 refine w_ret ?_
 refine br_ [.bool true] ?_
 obtain rfl := oi_ r51
 exact ⟨rfl, rfl⟩
end Go.Vd

/-! (KWf9) -/

set_option maxRecDepth 100000
set_option maxHeartbeats 4000000
set_option linter.unusedVariables false
namespace Go.Vd
open Go.Proofs
attribute [local irreducible] wpSeq wpOrd aWp
theorem c_viaductseen_Same {H : AH} {ev_err : Value} {fp_err : Fp} {hd_Places : Value} {fp_Places : Fp} {err : Er} {Code : Int} {Places : List (Int × Int)} {r : Bool}
    (wf : WF H) (h_err : Ev 78 116 H ev_err err fp_err) (h_Places : Sq enc_i64_i64 2 H hd_Places Places fp_Places) (hr : z_viaductseen_Same err Code Places = some r) :
    ACalls Tryz.prog 13 #[ev_err, .agg #[i_ Code, hd_Places]] H fun v H' => v = .bool r /\ FrS [] H H' := by
 refine ab_ Tryz.func13 ?_
 unfold z_viaductseen_Same at hr
 refine sq_ fun k1 => g_' ?_
 refine s_rwl wf [i_ Code, hd_Places] (one_cons (rfl) (one_cons (h_Places.one1) (one_nil))) (by kernel_rfl) fun b2 H3 e4 hb5 r6 => ?_
 refine q_ (.bool false) (s_nil (k1 _ _ (sq_ fun k8 => sq_ fun k9 => g_' (lr_ 44 0 (.agg #[i_ Code, hd_Places]) r6 ?_))))
 have u10 := (h_Places.ext e4)
 obtain ⟨y11, hy12, r13⟩ := bs_ hr
 refine ck_ (c_viaductref01_Err_Bad e4.wf u10 hy12) ?_
 rintro _ H14 ⟨rfl, e15⟩
 refine q_ (.bool (!y11)) (s_nil (k9 _ _ ?_))
 refine wb_ ((!y11)) (fun h16 => ?_) fun h16 => ?_
 ·have r17 := ite_t h16 r13
  refine sq_ fun k18 => g_' (q_ (ev_err) ?_)
  have u22 := ((h_err.ext e4).fr e15 dn_)
  rcases (u22).cases with ⟨h19, rfl⟩ | ⟨h19, t20, x21, rfl⟩
  ·have r23 := ite_t h19 r17
   refine q_ (.bool true) (q_ (.bool true) (s_nil (k18 _ _ ?_)))
   refine w_ret (th_ret ?_)
   refine br_ [.bool true] ?_
   obtain rfl := oi_ r23
   exact ⟨rfl, (fs_ wf ((f0_ wf).extR e4) e15 in_)⟩
  have r24 := ite_f h19 r17
  refine l_' (.bool false) (aBin Tryz.prog .eql 38 (.tmp 15) (.const .nilIface) (.iface t20 x21) .nilIface) (aBin_nil (by kernel_rfl)) (q_ (.bool false) (s_nil (k18 _ _ ?_)))
  refine w_ret (th_ret ?_)
  refine br_ [.bool false] ?_
  obtain rfl := oi_ r24
  exact ⟨rfl, (fs_ wf ((f0_ wf).extR e4) e15 in_)⟩
 have r25 := ite_bf h16 r13
 refine w_skip (k8 _ _ (sq_ fun k26 => sq_ fun k27 => g_' (q_ (ev_err) ?_)))
 have u31 := ((h_err.ext e4).fr e15 dn_)
 rcases (u31).cases with ⟨h28, rfl⟩ | ⟨h28, t29, x30, rfl⟩
 ·have r32 := ite_t h28 r25
  refine q_ (.bool true) (s_nil (k27 _ _ ?_))
  refine wb_ true (fun _ => ?_) fun h => by cases h
  refine sq_ fun k33 => g_' (q_ (.bool false) (s_nil (k33 _ _ ?_)))
  refine w_ret (th_ret ?_)
  refine br_ [.bool false] ?_
  obtain rfl := oi_ r32
  exact ⟨rfl, (fs_ wf ((f0_ wf).extR e4) e15 in_)⟩
 have r34 := ite_f h28 r25
 refine l_' (.bool false) (aBin Tryz.prog .eql 38 (.tmp 17) (.const .nilIface) (.iface t29 x30) .nilIface) (aBin_nil (by kernel_rfl)) (s_nil (k27 _ _ ?_))
 refine wb_ false (fun h => by cases h) fun _ => ?_
 refine w_skip (k26 _ _ (sq_ fun k35 => g_' (q_ (.iface t29 x30) (q_ (.iface t29 x30) (s_nil (k35 _ _ (sq_ fun k36 => sq_ fun k37 => g_' (q_ (pt_ b2 1) ?_))))))))
 have u38 := (r6.frS e15 dn_)
 refine lr_ 42 1 (hd_Places) u38 ?_
 have u39 := (u10.fr e15 dn_)
 refine u39.ln_ 42 (q_ (i_ 0) (s_nil (k37 _ _ ?_)))
 obtain ⟨z43, hx41, r42⟩ := bs_ r34
 refine w_mid (fun α H44 => ∃ o40, z43 = Sum.inr o40 /\ ∃ (v48 : Value), Has α [(0, .iface t29 x30), (3, pt_ b2 0), (5, v48)] /\ FrS [] H14 H44 /\ Ev 78 116 H44 v48 o40 fp_err) (fun _ k49 => ?_) (fun α H44 hM => ?_)
 ·refine w_block ?_
  obtain ⟨n51, hn52⟩ := loopO_iff.1 hx41
  refine w_loopn (fun n α H53 => ∃ (i0 : Int), ∃ (e1 : Er), ∃ (v57 : Value), iterO (fun zz_ => z_viaductseen_Same_l0 Places zz_.1 zz_.2) n (i0, e1) = some z43 /\ Has α [(0, .iface t29 x30), (3, pt_ b2 0), (5, v57), (21, hd_Places), (22, i_ (Places.length : Int)), (23, i_ i0)] /\ FrS [] H14 H53 /\ Ev 78 116 H53 v57 e1 fp_err) n51 ⟨0, err, (.iface t29 x30), hn52, ha_, (fr_ e15.wf), u31⟩ ?_
  rintro n51 α H53 ⟨i0, e1, v57, hi59, hh58, e54, m56⟩ K64 k64
  obtain ⟨n60, z61, rfl, hz62, hn63⟩ := iter_succ hi59
  obtain ⟨β, rfl⟩ := has_ex hh58
  clear hh58
  replace hz62 : z_viaductseen_Same_l0 Places i0 e1 = some z61 := hz62
  unfold z_viaductseen_Same_l0 at hz62
  refine sq_ fun k65 => g_' (q_ (.bool (decide (i0 < (Places.length : Int)))) (s_nil (k65 _ _ (sq_ fun k66 => ?_))))
  refine wc_ (i0 < (Places.length : Int)) (fun h67 => ?_) fun h67 => ?_
  ·have r68 := ite_t h67 hz62
   refine w_skip (k66 _ _ (sq_ fun k69 => w_block (sq_ fun k70 => g_' ?_)))
   obtain ⟨g71, r72⟩ := G_some r68
   have u73 := (u39.fr e54 dn_)
   refine u73.ix_ 42 g71 h67 (le_ 115 0 (.agg #[i_ ((gt Places i0).1), i_ ((gt Places i0).2)]) u73 g71 h67 ?_)
   refine rk_ e54.wf [i_ 0, i_ 0] fun b74 H75 e76 hb77 r78 => ?_
   obtain ⟨H80, q81, e82, r83⟩ := ra_ 115 0 e76.wf r78 [i_ ((gt Places i0).1), i_ ((gt Places i0).2)] [i_ ((gt Places i0).1), i_ ((gt Places i0).2)]
   refine ek_ q81 (s_nil (k70 _ _ (sq_ fun k84 => g_' ?_)))
   refine rk_ e82.wf [.pointer none] fun b85 H86 e87 hb88 r89 => ?_
   refine s_nil (k84 _ _ (sq_ fun k91 => sq_ fun k92 => ?_))
   refine w_draw [0, 1, 2, 3, 4, 5, 6, 7, 8, 9, 10, 11, 12, 13, 14, 15] (by kernel_rfl) ?_
   refine e_' (v57) (e_' (.iface 118 (pt_ b85 0)) ?_)
   by_cases h93 : Er.isAt e1 = true
   ·have r94 := ite_t h93 r72
    have n103 := (t_ (t_ (t_ (t_ e4.n e15.n) e54.n) e76.n) e82.n)
    have d104 := (hb88.djn (h_err.lt.le n103))
    have n105 := (t_ (t_ e4.n e15.n) e54.n)
    have d106 := (hb77.djn (h_err.lt.le n105))
    have u107 := (((m56.ext e76).fr e82 d106).ext e87)
    refine d_ck 47 #[v57, .iface 118 (pt_ b85 0)] (by kernel_rfl) (a_asF_at e87.wf r89 d104 u107 h93) ?_
    rintro _ H95 ⟨rfl, e96, b98, u99, -, i100, r97, r101, v102⟩
    refine ⟨st_nil, ?_⟩
    refine e_' (.bool false) (e_' (.bool false) (mr_ 116 0 (pt_ b98 0) r97 (e_' (.bool false) (e_' (.bool false) (e_' (.bool false) (mr_ 116 0 (pt_ b98 0) r97 (e_' (pt_ b98 0) (e_' (pt_ b98 0) (mr_ 115 0 (.agg #[i_ (Er.fk e1), i_ (Er.fi e1)]) r101 ?_)))))))))
    have d110 := (hb88.djn (r78.ltF.le e82.n))
    have u111 := ((r83.ext e87).frS e96 d110)
    refine mr_ 115 0 (.agg #[i_ ((gt Places i0).1), i_ ((gt Places i0).2)]) u111 (m_' (.bool (!decide ((Er.fk e1) = ((gt Places i0).1) /\ (Er.fi e1) = ((gt Places i0).2)))) (aBin Tryz.prog .neq 115 (.tmp 39) (.tmp 40) (.agg #[i_ (Er.fk e1), i_ (Er.fi e1)]) (.agg #[i_ ((gt Places i0).1), i_ ((gt Places i0).2)])) (aBin_neq115 _ _ (Er.fk e1) (Er.fi e1) ((gt Places i0).1) ((gt Places i0).2)) (e_' (.bool (!decide ((Er.fk e1) = ((gt Places i0).1) /\ (Er.fi e1) = ((gt Places i0).2)))) ?_))
    refine d_nil ?_
    refine k92 _ _ ?_
    refine w_condn ((Er.fk e1) = ((gt Places i0).1) /\ (Er.fi e1) = ((gt Places i0).2)) (by kernel_rfl) rfl (fun h112 => ?_) (fun h112 => ?_)
    ·have r113 := ite_f h112 r94
     refine sq_ fun k114 => g_' (q_ (.bool false) (s_nil (k114 _ _ ?_)))
     refine w_ret (th_ret (bl_ret (th_ret (th_ret (bl_ret (th_ret (th_ret ?_)))))))
     obtain ⟨v115, hv116, hz117⟩ := map_some r113
     subst hz117
     obtain rfl := it_inr hn63
     have hq118 := elim_inl r42
     rw [hq118] at hv116
     refine br_ [.bool false] ?_
     obtain rfl := oi_ hv116
     exact ⟨rfl, (fs_ wf ((fs_ wf ((fs_ wf (fs_ wf ((f0_ wf).extR e4) e15 in_) e54 in_).extR e76) e82 (hb77.fresh n105)).extR e87) e96 (hb88.fresh n103))⟩
    have r119 := ite_t h112 r94
    refine w_skip (k91 _ _ (g_' (lr_ 116 0 (pt_ b98 0) r97 (q_ (pt_ b98 0) (q_ (pt_ b98 2) (lr_ 38 2 (u99) r101 (q_ (u99) (s_nil (k69 _ _ (g_' ?_))))))))))
    obtain ⟨g120, r121⟩ := G_some r119
    refine w_' ((i0 + 1)) (wrap64 (by have := g120; omega)) (q_ (i_ (i0 + 1)) (s_nil ?_))
    have n122 := (t_ (t_ e54.n e76.n) e82.n)
    obtain rfl := oi_ r121
    exact k64 n60 _ _ lt_ ⟨(i0 + 1), (Er.fe e1), (u99), hn63, ha_, (fs_ e15.wf ((fs_ e15.wf ((fs_ e15.wf (fr_ e15.wf) e54 in_).extR e76) e82 (hb77.fresh e54.n)).extR e87) e96 (hb88.fresh n122)), v102⟩
   have r123 := ite_f h93 r72
   have n124 := (t_ (t_ e4.n e15.n) e54.n)
   have d125 := (hb77.djn (h_err.lt.le n124))
   have u126 := (((m56.ext e76).fr e82 d125).ext e87)
   refine d_ck 47 #[v57, .iface 118 (pt_ b85 0)] (by kernel_rfl) (a_asF_no r89 u126 h93) ?_
   rintro _ _ ⟨rfl, rfl⟩
   refine ⟨st_nil, ?_⟩
   refine e_' (.bool true) (e_' (.bool true) (j_' (j_' (e_' (.bool true) (e_' (.bool true) (j_' (j_' (j_' (j_' (j_' (j_' (e_' (.bool true) ?_))))))))))))
   refine d_nil ?_
   refine k92 _ _ ?_
   refine wb_ true (fun _ => ?_) fun h => by cases h
   refine sq_ fun k127 => g_' (q_ (.bool false) (s_nil (k127 _ _ ?_)))
   refine w_ret (th_ret (bl_ret (th_ret (th_ret (bl_ret (th_ret (th_ret ?_)))))))
   obtain ⟨v128, hv129, hz130⟩ := map_some r123
   subst hz130
   obtain rfl := it_inr hn63
   have hq131 := elim_inl r42
   rw [hq131] at hv129
   refine br_ [.bool false] ?_
   obtain rfl := oi_ hv129
   exact ⟨rfl, ((fs_ wf ((fs_ wf (fs_ wf ((f0_ wf).extR e4) e15 in_) e54 in_).extR e76) e82 (hb77.fresh n124)).extR e87)⟩
  have r132 := ite_f h67 hz62
  refine w_exit (th_exit (th_exit (bl_eq ?_)))
  obtain rfl := oi_ r132
  obtain rfl := it_inr hn63
  exact k49 _ _ ⟨_, rfl, (v57), ha_, (fs_ e15.wf (fr_ e15.wf) e54 in_), m56⟩
 obtain ⟨o40, rfl, v48, hh50, e45, m47⟩ := hM
 have r133 := elim_inr r42
 obtain ⟨β, rfl⟩ := has_ex hh50
 clear hh50
 refine k36 _ _ (sq_ fun k134 => g_' ?_)
 refine rk_ e45.wf [.pointer none] fun b135 H136 e137 hb138 r139 => ?_
 refine s_nil (k134 _ _ (sq_ fun k141 => sq_ fun k142 => g_' (q_ (v48) (q_ (.iface 118 (pt_ b135 0)) ?_))))
 by_cases h143 : Er.isAt o40 = true
 ·have r144 := ite_t h143 r133
  have n153 := (t_ (t_ e4.n e15.n) e45.n)
  have d154 := (hb138.djn (h_err.lt.le n153))
  have u155 := (m47.ext e137)
  refine s_ck 47 #[v48, .iface 118 (pt_ b135 0)] (by kernel_rfl) (a_asF_at e137.wf r139 d154 u155 h143) ?_
  rintro _ H145 ⟨rfl, e146, b148, u149, -, i150, r147, r151, v152⟩
  refine s_nil (k142 _ _ ?_)
  refine wb_ true (fun _ => ?_) fun h => by cases h
  refine sq_ fun k158 => g_' (q_ (.bool false) (s_nil (k158 _ _ ?_)))
  refine w_ret (th_ret ?_)
  refine br_ [.bool false] ?_
  obtain rfl := oi_ r144
  exact ⟨rfl, (fs_ wf ((fs_ wf (fs_ wf ((f0_ wf).extR e4) e15 in_) e45 in_).extR e137) e146 (hb138.fresh n153))⟩
 have r159 := ite_f h143 r133
 have u160 := (m47.ext e137)
 refine s_ck 47 #[v48, .iface 118 (pt_ b135 0)] (by kernel_rfl) (a_asF_no r139 u160 h143) ?_
 rintro _ _ ⟨rfl, rfl⟩
 refine s_nil (k142 _ _ ?_)
 refine wb_ false (fun h => by cases h) fun _ => ?_
 refine w_skip (k141 _ _ (sq_ fun k161 => g_' ?_))
 refine rk_ e137.wf [i_ 0] fun b162 H163 e164 hb165 r166 => ?_
 refine s_nil (k161 _ _ (sq_ fun k168 => sq_ fun k169 => ?_))
 obtain ⟨o170, hx171, r172⟩ := bs_ r159
 refine w_mid (fun α H173 => Has α [(0, .iface t29 x30), (3, pt_ b2 0), (60, .bool o170)] /\ FrS [b162] H163 H173) (fun _ k175 => ?_) (fun α H173 hM => ?_)
 ·refine g_' (q_ (.iface t29 x30) (q_ (.iface 121 (pt_ b162 0)) ?_))
  by_cases h177 : (Er.num err).isSome = true
  ·have r178 := ite_t h177 hx171
   have u182 := (((u31.fr e45 dn_).ext e137).ext e164)
   refine s_ck 47 #[.iface t29 x30, .iface 121 (pt_ b162 0)] (by kernel_rfl) (a_asN_y e164.wf r166 u182 h28 h177) ?_
   rintro _ H179 ⟨rfl, e180, r181⟩
   refine q_ (.bool false) (q_ (.bool false) (lr_ 78 0 (i_ ((Er.num err).getD 0)) r181 (q_ (pt_ b2 0) ?_)))
   have n183 := (t_ (t_ e15.n e45.n) e137.n)
   have d184 := (hb165.djn (r6.ltF.le n183))
   have u185 := ((((u38.frS e45 dn_).ext e137).ext e164).frS e180 d184)
   refine lr_ 3 0 (i_ Code) u185 (q_ (.bool (!decide (((Er.num err).getD 0) = Code))) (q_ (.bool (!decide (((Er.num err).getD 0) = Code))) (s_nil ?_)))
   obtain rfl := oi_ r178
   exact k175 _ _ ⟨ha_, (fs_ e164.wf (fr_ e164.wf) e180 ir_)⟩
  have r186 := ite_f h177 hx171
  have u190 := (((u31.fr e45 dn_).ext e137).ext e164)
  refine s_ck 47 #[.iface t29 x30, .iface 121 (pt_ b162 0)] (by kernel_rfl) (a_asN_n e164.wf r166 u190 h28 h177) ?_
  rintro _ H187 ⟨rfl, e188, r189⟩
  refine q_ (.bool true) (q_ (.bool true) (n_' (n_' (n_' (n_' (q_ (.bool true) (s_nil ?_)))))))
  obtain rfl := oi_ r186
  exact k175 _ _ ⟨ha_, (fs_ e164.wf (fr_ e164.wf) e188 ir_)⟩
 obtain ⟨hh176, e174⟩ := hM
 obtain ⟨β, rfl⟩ := has_ex hh176
 clear hh176
 refine k169 _ _ ?_
 refine wb_ (o170) (fun h191 => ?_) fun h191 => ?_
 ·have r192 := ite_t h191 r172
  refine sq_ fun k193 => g_' (q_ (.bool false) (s_nil (k193 _ _ ?_)))
  refine w_ret (th_ret ?_)
  refine br_ [.bool false] ?_
  have n194 := (t_ (t_ (t_ e4.n e15.n) e45.n) e137.n)
  obtain rfl := oi_ r192
  exact ⟨rfl, (fs_ wf (((fs_ wf (fs_ wf ((f0_ wf).extR e4) e15 in_) e45 in_).extR e137).extR e164) e174 (hb165.fresh n194))⟩
 have r195 := ite_bf h191 r172
 refine w_skip (k168 _ _ (sq_ fun k196 => sq_ fun k197 => g_' (q_ (i_ 1) (s_nil (k197 _ _ ?_)))))
 obtain ⟨z201, hx199, r200⟩ := bs_ r195
 refine w_mid (fun α H202 => ∃ o198, z201 = Sum.inr o198 /\ Has α [] /\ H173 = H202) (fun _ k204 => ?_) (fun α H202 hM => ?_)
 ·refine w_block ?_
  obtain ⟨n206, hn207⟩ := loopO_iff.1 hx199
  refine w_loopn (fun n α H208 => ∃ (i2 : Int), iterO (fun zz_ => z_viaductseen_Same_l1 err Code zz_) n i2 = some z201 /\ Has α [(0, .iface t29 x30), (3, pt_ b2 0), (11, i_ i2)] /\ H173 = H208) n206 ⟨1, hn207, ha_, rfl⟩ ?_
  rintro n206 α H208 ⟨i2, hi211, hh210, rfl⟩ K216 k216
  obtain ⟨n212, z213, rfl, hz214, hn215⟩ := iter_succ hi211
  obtain ⟨β, rfl⟩ := has_ex hh210
  clear hh210
  replace hz214 : z_viaductseen_Same_l1 err Code i2 = some z213 := hz214
  unfold z_viaductseen_Same_l1 at hz214
  refine sq_ fun k217 => sq_ fun k218 => g_' (q_ (i_ i2) (q_ (.bool (decide (i2 ≤ 20))) (s_nil (k218 _ _ ?_))))
  refine wc_ (i2 ≤ 20) (fun h219 => ?_) fun h219 => ?_
  ·have r220 := ite_t h219 hz214
   refine w_skip (k217 _ _ (sq_ fun k221 => w_block (sq_ fun k222 => ?_)))
   refine w_draw [0, 1, 2, 4, 5, 6, 7, 3, 8] (by kernel_rfl) ?_
   refine e_' (.iface t29 x30) (e_' (i_ i2) (e_' (.iface 78 (i_ i2)) (e_' (i_ i2) (e_' (pt_ b2 0) ?_))))
   have n223 := (t_ (t_ e15.n e45.n) e137.n)
   have d224 := (hb165.djn (r6.ltF.le n223))
   have u225 := ((((u38.frS e45 dn_).ext e137).ext e164).frS e174 d224)
   refine d_fl (i_ Code) (x := aL_ 3 (pt_ b2 0) H173) (by kernel_rfl) (u225.l_) ?_
   refine e_' (.bool (decide (i2 = Code))) ?_
   have n226 := (t_ (t_ (t_ e4.n e15.n) e45.n) e137.n)
   have d227 := (hb165.djn (h_err.lt.le n226))
   have u228 := ((((u31.fr e45 dn_).ext e137).ext e164).fr e174 d227)
   refine d_ck 48 #[.iface t29 x30, .iface 78 (i_ i2)] (by kernel_rfl) (a_isN u228 h28) ?_
   rintro _ _ ⟨rfl, rfl⟩
   refine ⟨st_ql (y := aL_ 3 (pt_ b2 0) H173) (by kernel_rfl) (u225.l_) (st_nil), ?_⟩
   refine e_' (.bool (!decide ((decide (Er.num err = some i2)) = (decide (i2 = Code))))) ?_
   refine d_nil ?_
   refine k222 _ _ ?_
   refine w_condn ((decide (Er.num err = some i2)) = (decide (i2 = Code))) (by kernel_rfl) rfl (fun h229 => ?_) (fun h229 => ?_)
   ·have r230 := ite_f h229 r220
    refine sq_ fun k231 => g_' (q_ (.bool false) (s_nil (k231 _ _ ?_)))
    refine w_ret (bl_ret (th_ret (th_ret (bl_ret (th_ret (th_ret ?_))))))
    obtain ⟨v232, hv233, hz234⟩ := map_some r230
    subst hz234
    obtain rfl := it_inr hn215
    have hq235 := elim_inl r200
    rw [hq235] at hv233
    refine br_ [.bool false] ?_
    obtain rfl := oi_ hv233
    exact ⟨rfl, (fs_ wf (((fs_ wf (fs_ wf ((f0_ wf).extR e4) e15 in_) e45 in_).extR e137).extR e164) e174 (hb165.fresh n226))⟩
   have r236 := ite_t h229 r220
   refine w_skip (k221 _ _ (g_' (q_ (i_ i2) ?_)))
   obtain ⟨g237, r238⟩ := G_some r236
   refine w_' ((i2 + 1)) (wrap64 g237) (q_ (i_ (i2 + 1)) (s_nil ?_))
   obtain rfl := oi_ r238
   exact k216 n212 _ _ lt_ ⟨(i2 + 1), hn215, ha_, rfl⟩
  have r239 := ite_f h219 hz214
  refine w_exit (th_exit (th_exit (bl_eq ?_)))
  obtain rfl := oi_ r239
  obtain rfl := it_inr hn215
  exact k204 _ _ ⟨_, rfl, trivial, rfl⟩
 obtain ⟨o198, rfl, hh205, rfl⟩ := hM
 have r240 := elim_inr r200
 obtain ⟨β, rfl⟩ := has_ex hh205
 clear hh205
 refine k196 _ _ (sq_ fun k241 => g_' (q_ (.bool true) (s_nil (k241 _ _ ?_))))
 refine w_ret ?_
 refine br_ [.bool true] ?_
 have n242 := (t_ (t_ (t_ e4.n e15.n) e45.n) e137.n)
 obtain rfl := oi_ r240
 exact ⟨rfl, (fs_ wf (((fs_ wf (fs_ wf ((f0_ wf).extR e4) e15 in_) e45 in_).extR e137).extR e164) e174 (hb165.fresh n242))⟩
theorem c_overlay_Overlay_Len {H : AH} {b_o : Nat} {hd_o_ : Value} {fp_o_ : Fp} {o_ : List (Bool × List (Int × Int × Int) × List (Int × Int × Int))} {o_2 : Int} {o_3 : Int} {r : Int}
    (wf : WF H) (h_o_ : Nd enc_i64_u64_i64 3 H hd_o_ o_ fp_o_ []) (h_o : Row H b_o [hd_o_, i_ o_2, i_ o_3]) (hr : z_overlay_Overlay_Len o_ o_2 o_3 = some r) :
    ACalls Tryz.prog 14 #[pt_ b_o 0] H fun v H' => v = i_ r /\ H = H' := by
 refine ab_ Tryz.func14 ?_
 unfold z_overlay_Overlay_Len at hr
 refine sq_ fun k1 => g_' (q_ (i_ 0) (s_nil (k1 _ _ (sq_ fun k2 => sq_ fun k3 => g_' (q_ (pt_ b_o 0) (q_ (.bool false) (s_nil (k3 _ _ ?_))))))))
 refine wb_ false (fun h => by cases h) fun _ => ?_
 refine w_skip (k2 _ _ (sq_ fun k4 => g_' (q_ (pt_ b_o 0) (q_ (pt_ b_o 0) (q_ (pt_ b_o 1) (lr_ 3 1 (i_ o_2) h_o (q_ (i_ o_2) (s_nil (k4 _ _ ?_)))))))))
 refine w_ret ?_
 refine br_ [i_ o_2] ?_
 obtain rfl := oi_ hr
 exact ⟨rfl, rfl⟩
theorem c_viaductref11_Len {H : AH} {hd_Alive : Value} {fp_Alive : Fp} {hd_Arcs : Value} {fp_Arcs : Fp} {Alive : List (Bool)} {Arcs : List (Int × Int × Int × Int)} {r : Int}
    (wf : WF H) (h_Alive : Sq encB 1 H hd_Alive Alive fp_Alive) (h_Arcs : Sq enc_i64_i64_u64_i64 4 H hd_Arcs Arcs fp_Arcs) (hr : z_viaductref11_Len Alive Arcs = some r) :
    ACalls Tryz.prog 15 #[.agg #[hd_Alive, hd_Arcs]] H fun v H' => v = i_ r /\ FrS [] H H' := by
 refine ab_ Tryz.func15 ?_
 unfold z_viaductref11_Len at hr
 refine sq_ fun k1 => g_' ?_
 refine s_rwl wf [hd_Alive, hd_Arcs] (one_cons (h_Alive.one1) (one_cons (h_Arcs.one1) (one_nil))) (by kernel_rfl) fun b2 H3 e4 hb5 r6 => ?_
 refine q_ (i_ 0) (s_nil (k1 _ _ (sq_ fun k8 => g_' (q_ (i_ 0) (s_nil (k8 _ _ (sq_ fun k9 => sq_ fun k10 => g_' (q_ (pt_ b2 0) (lr_ 30 0 (hd_Alive) r6 ?_)))))))))
 have u11 := (h_Alive.ext e4)
 refine u11.ln_ 30 (q_ (i_ 0) (s_nil (k10 _ _ ?_)))
 obtain ⟨o12, hx13, r14⟩ := bs_ hr
 refine w_mid (fun α H15 => Has α [(3, i_ o12)] /\ H3 = H15) (fun _ k17 => ?_) (fun α H15 hM => ?_)
 ·refine w_block ?_
  obtain ⟨n19, hn20⟩ := loopO_iff.1 hx13
  refine w_loopn (fun n α H21 => ∃ (n0 : Int), ∃ (i1 : Int), iterO (fun zz_ => z_viaductref11_Len_l0 Alive zz_.1 zz_.2) n (n0, i1) = some o12 /\ Has α [(3, i_ n0), (7, hd_Alive), (8, i_ (Alive.length : Int)), (9, i_ i1)] /\ H3 = H21) n19 ⟨0, 0, hn20, ha_, rfl⟩ ?_
  rintro n19 α H21 ⟨n0, i1, hi24, hh23, rfl⟩ K29 k29
  obtain ⟨n25, z26, rfl, hz27, hn28⟩ := iter_succ hi24
  obtain ⟨β, rfl⟩ := has_ex hh23
  clear hh23
  replace hz27 : z_viaductref11_Len_l0 Alive n0 i1 = some z26 := hz27
  unfold z_viaductref11_Len_l0 at hz27
  refine sq_ fun k30 => g_' (q_ (.bool (decide (i1 < (Alive.length : Int)))) (s_nil (k30 _ _ (sq_ fun k31 => ?_))))
  refine wc_ (i1 < (Alive.length : Int)) (fun h32 => ?_) fun h32 => ?_
  ·have r33 := ite_t h32 hz27
   refine w_skip (k31 _ _ (sq_ fun k34 => w_block (sq_ fun k35 => g_' ?_)))
   obtain ⟨g36, r37⟩ := G_some r33
   refine u11.ix_ 30 g36 h32 (le_ 4 0 (.bool (gt Alive i1)) u11 g36 h32 (q_ (.bool (gt Alive i1)) (s_nil (k35 _ _ (sq_ fun k38 => g_' (q_ (.bool (gt Alive i1)) (s_nil (k38 _ _ ?_))))))))
   refine wb_ ((gt Alive i1)) (fun h39 => ?_) fun h39 => ?_
   ·have r40 := ite_t h39 r37
    refine g_' (q_ (i_ n0) ?_)
    obtain ⟨g41, r42⟩ := G_some r40
    refine w_' ((n0 + 1)) (wrap64 g41) (q_ (i_ (n0 + 1)) (s_nil (k34 _ _ (g_' ?_))))
    obtain ⟨g43, r44⟩ := G_some r42
    refine w_' ((i1 + 1)) (wrap64 (by have := g43; omega)) (q_ (i_ (i1 + 1)) (s_nil ?_))
    obtain rfl := oi_ r44
    exact k29 n25 _ _ lt_ ⟨(n0 + 1), (i1 + 1), hn28, ha_, rfl⟩
   have r45 := ite_bf h39 r37
   refine w_skip (k34 _ _ (g_' ?_))
   obtain ⟨g46, r47⟩ := G_some r45
   refine w_' ((i1 + 1)) (wrap64 (by have := g46; omega)) (q_ (i_ (i1 + 1)) (s_nil ?_))
   obtain rfl := oi_ r47
   exact k29 n25 _ _ lt_ ⟨n0, (i1 + 1), hn28, ha_, rfl⟩
  have r48 := ite_f h32 hz27
  refine w_exit (th_exit (th_exit (bl_eq ?_)))
  obtain rfl := oi_ r48
  obtain rfl := it_inr hn28
  exact k17 _ _ ⟨ha_, rfl⟩
 obtain ⟨hh18, rfl⟩ := hM
 obtain ⟨β, rfl⟩ := has_ex hh18
 clear hh18
 refine k9 _ _ (sq_ fun k49 => g_' (q_ (i_ o12) (q_ (i_ o12) (s_nil (k49 _ _ ?_)))))
 refine w_ret ?_
 refine br_ [i_ o12] ?_
 obtain rfl := oi_ r14
 exact ⟨rfl, ((f0_ wf).extR e4)⟩
theorem c_overlay_Overlay_Arcs {H : AH} {b_o : Nat} {hd_o_ : Value} {fp_o_ : Fp} {o_ : List (Bool × List (Int × Int × Int) × List (Int × Int × Int))} {o_2 : Int} {o_3 : Int} {r : Int}
    (wf : WF H) (h_o_ : Nd enc_i64_u64_i64 3 H hd_o_ o_ fp_o_ []) (h_o : Row H b_o [hd_o_, i_ o_2, i_ o_3]) (hr : z_overlay_Overlay_Arcs o_ o_2 o_3 = some r) :
    ACalls Tryz.prog 16 #[pt_ b_o 0] H fun v H' => v = i_ r /\ H = H' := by
 refine ab_ Tryz.func16 ?_
 unfold z_overlay_Overlay_Arcs at hr
 refine sq_ fun k1 => g_' (q_ (i_ 0) (s_nil (k1 _ _ (sq_ fun k2 => sq_ fun k3 => g_' (q_ (pt_ b_o 0) (q_ (.bool false) (s_nil (k3 _ _ ?_))))))))
 refine wb_ false (fun h => by cases h) fun _ => ?_
 refine w_skip (k2 _ _ (sq_ fun k4 => g_' (q_ (pt_ b_o 0) (q_ (pt_ b_o 0) (q_ (pt_ b_o 2) (lr_ 3 2 (i_ o_3) h_o (q_ (i_ o_3) (s_nil (k4 _ _ ?_)))))))))
 refine w_ret ?_
 refine br_ [i_ o_3] ?_
 obtain rfl := oi_ hr
 exact ⟨rfl, rfl⟩
theorem c_viaductlaw12_WitnessFinds {H : AH} {hd_Arcs : Value} {fp_Arcs : Fp} {hd_script : Value} {fp_script : Fp} {hd_goals : Value} {fp_goals : Fp} {N_ : Int} {Arcs : List (Int × Int × Int)} {script : List (Int × Int × Int × Int × Int)} {u : Int} {skip : Int} {goals : List (Int)} {most : Int} {hops : Int} {settles : Int} {r : Bool}
    (wf : WF H) (h_Arcs : Sq enc_i64_i64_i64 3 H hd_Arcs Arcs fp_Arcs) (h_script : Sq enc_u8_i64_i64_u64_i64 5 H hd_script script fp_script) (h_goals : Sq (encI .i64) 1 H hd_goals goals fp_goals) (hr : z_viaductlaw12_WitnessFinds N_ Arcs script u skip goals most hops settles = some r) :
    ACalls Tryz.prog 3 #[.agg #[i_ N_, hd_Arcs], hd_script, i_ u, i_ skip, hd_goals, .int .u64 most, i_ hops, i_ settles] H fun v H' => v = .bool r /\ FrS [] H H' := by
 refine ab_ Tryz.func3 ?_
 unfold z_viaductlaw12_WitnessFinds at hr
 refine sq_ fun k1 => g_' ?_
 refine s_rwl wf [i_ N_, hd_Arcs] (one_cons (rfl) (one_cons (h_Arcs.one1) (one_nil))) (by kernel_rfl) fun b2 H3 e4 hb5 r6 => ?_
 refine q_ (.bool false) (s_nil (k1 _ _ (sq_ fun k8 => sq_ fun k9 => g_' ?_)))
 refine s_ck 7 #[] (by kernel_rfl) c_viaductlaw12_awake ?_
 rintro _ _ ⟨rfl, rfl⟩
 refine q_ (.bool false) (s_nil (k9 _ _ ?_))
 refine wb_ false (fun h => by cases h) fun _ => ?_
 refine w_skip (k8 _ _ (sq_ fun k10 => g_' (lr_ 24 0 (.agg #[i_ N_, hd_Arcs]) r6 (q_ (hd_script) ?_))))
 have u11 := (h_Arcs.ext e4)
 have u12 := (h_script.ext e4)
 obtain ⟨y13, hy14, r15⟩ := bs_ hr
 rcases y13 with y16 | y17
 ·have r18 := elim_l r15
  refine ck_ (c_viaductlaw12_laid e4.wf u11 u12 hy14) ?_
  rintro _ H19 ⟨rfl, e20⟩
  refine q_ (.tuple #[.pointer none, .agg #[.slice none 0 0, .slice none 0 0], .bool false]) (q_ (.pointer none) (q_ (.agg #[.slice none 0 0, .slice none 0 0]) (q_ (.bool false) ?_)))
  refine rk_ e20.wf [.slice none 0 0, .slice none 0 0] fun b21 H22 e23 hb24 r25 => ?_
  refine q_ (.pointer none) ?_
  obtain ⟨H27, q28, e29, r30⟩ := ra_ 33 0 e23.wf r25 [.slice none 0 0, .slice none 0 0] [.slice none 0 0, .slice none 0 0]
  refine ek_ q28 (q_ (.bool false) (s_nil (k10 _ _ (sq_ fun k31 => sq_ fun k32 => g_' (q_ (.bool false) (q_ (.bool true) (q_ (.bool true) (n_' (n_' (n_' (q_ (.bool true) (s_nil (k32 _ _ ?_)))))))))))))
  refine wb_ true (fun _ => ?_) fun h => by cases h
  refine sq_ fun k33 => g_' (q_ (.bool true) (s_nil (k33 _ _ ?_)))
  refine w_ret (th_ret ?_)
  refine br_ [.bool true] ?_
  have n34 := (t_ e4.n e20.n)
  obtain rfl := oi_ r18
  exact ⟨rfl, (fs_ wf ((fs_ wf ((f0_ wf).extR e4) e20 in_).extR e23) e29 (hb24.fresh n34))⟩
 have r35 := elim_r r15
 refine ck_ (c_viaductlaw12_laid e4.wf u11 u12 hy14) ?_
 rintro _ H43 ⟨s36, f37, b38, s39, f40, s41, f42, rfl, e44, m45, m46, m47, m48, i49, i50, i51, i52, d53, d54, d55, d56, d57, d58⟩
 obtain ⟨a63, n64, c65, rfl⟩ := m45.form
 obtain ⟨a66, n67, c68, rfl⟩ := m47.form
 obtain ⟨a69, n70, c71, rfl⟩ := m48.form
 refine q_ (.tuple #[pt_ b38 0, .agg #[.slice a66 n67 c68, .slice a69 n70 c71], .bool true]) (q_ (pt_ b38 0) (q_ (.agg #[.slice a66 n67 c68, .slice a69 n70 c71]) (q_ (.bool true) ?_)))
 refine rk_ e44.wf [.slice none 0 0, .slice none 0 0] fun b72 H73 e74 hb75 r76 => ?_
 refine q_ (pt_ b38 0) ?_
 have u82 := (m48.ext e74)
 have u83 := (m47.ext e74)
 obtain ⟨H78, q79, e80, r81⟩ := ra_ 33 0 e74.wf r76 [.slice a66 n67 c68, .slice a69 n70 c71] [.slice a66 n67 c68, .slice a69 n70 c71]
 refine ek_ q79 (q_ (.bool true) (s_nil (k10 _ _ (sq_ fun k84 => sq_ fun k85 => g_' (q_ (.bool true) (q_ (.bool false) (q_ (.bool false) (q_ (hd_goals) ?_))))))))
 have n86 := (t_ e4.n e44.n)
 have d87 := (hb75.djn (h_goals.lt.le n86))
 have u88 := ((((h_goals.ext e4).fr e44 dn_).ext e74).fr e80 d87)
 refine u88.ln_ 26 (q_ (.bool (decide ((goals.length : Int) > 100))) (q_ (.bool (decide ((goals.length : Int) > 100))) (s_nil (k85 _ _ ?_))))
 refine wc_ ((goals.length : Int) > 100) (fun h89 => ?_) fun h89 => ?_
 ·have r90 := ite_t h89 r35
  refine sq_ fun k91 => g_' (q_ (.bool true) (s_nil (k91 _ _ ?_)))
  refine w_ret (th_ret ?_)
  refine br_ [.bool true] ?_
  obtain rfl := oi_ r90
  exact ⟨rfl, (fs_ wf ((fs_ wf ((f0_ wf).extR e4) e44 in_).extR e74) e80 (hb75.fresh n86))⟩
 have r92 := ite_f h89 r35
 refine w_skip (k84 _ _ (sq_ fun k93 => g_' (q_ (pt_ b38 0) (q_ (i_ u) (q_ (i_ skip) (q_ (hd_goals) ?_))))))
 obtain ⟨y94, hy95, r96⟩ := bs_ r92
 refine ck_ (c_viaductref02_TwinInts e80.wf u88 hy95) ?_
 rintro s97 H99 ⟨_, f98, rfl, e100, m101, i102⟩
 obtain ⟨a104, n105, c106, rfl⟩ := m101.form
 refine q_ (.int .u64 most) (q_ (i_ hops) (q_ (i_ settles) ?_))
 have u107 := (((m45.ext e74).fr e80 (hb75.djn m45.lt)).fr e100 dn_)
 have u108 := (((m46.ext e74).frS e80 (hb75.djn m46.ltF)).frS e100 dn_)
 obtain ⟨y109, hy110, r111⟩ := bs_ r96
 refine ck_ (c_witness_Find e100.wf u107 u108 m101.sq hy110) ?_
 rintro _ H116 ⟨s112, f113, v114, f115, rfl, e117, m118, m119, i120, i121, d122⟩
 obtain ⟨a125, n126, c127, rfl⟩ := m118.form
 refine q_ (.tuple #[.slice a125 n126 c127, v114]) (q_ (.slice a125 n126 c127) (q_ (v114) (q_ (.slice a125 n126 c127) (q_ (v114) (s_nil (k93 _ _ (sq_ fun k128 => g_' ?_)))))))
 have u129 := ((r81.frS e100 dn_).frS e117 dn_)
 refine lr_ 33 0 (.agg #[.slice a66 n67 c68, .slice a69 n70 c71]) u129 (q_ (i_ u) (q_ (i_ skip) (q_ (hd_goals) (q_ (.int .u64 most) (q_ (i_ hops) (q_ (i_ settles) ?_))))))
 have u130 := (((u83.fr e80 (hb75.djn m47.lt)).fr e100 dn_).fr e117 dn_)
 have u131 := (((u82.fr e80 (hb75.djn m48.lt)).fr e100 dn_).fr e117 dn_)
 have u132 := ((u88.fr e100 dn_).fr e117 dn_)
 obtain ⟨y133, hy134, r135⟩ := bs_ r111
 refine ck_ (c_viaductref12_DocFind e117.wf u130.sq u131 u132 hy134) ?_
 rintro _ H140 ⟨s136, f137, s138, f139, rfl, e141, m142, m143, i144, i145, d146⟩
 obtain ⟨a149, n150, c151, rfl⟩ := m142.form
 obtain ⟨a152, n153, c154, rfl⟩ := m143.form
 refine q_ (.tuple #[.slice a149 n150 c151, .agg #[i_ y133.2.1, .slice a152 n153 c154]]) (q_ (.slice a149 n150 c151) (q_ (.agg #[i_ y133.2.1, .slice a152 n153 c154]) ?_))
 refine rk_ e141.wf [i_ 0, .slice none 0 0] fun b155 H156 e157 hb158 r159 => ?_
 refine q_ (.slice a149 n150 c151) ?_
 have u165 := (m143.ext e157)
 obtain ⟨H161, q162, e163, r164⟩ := ra_ 44 0 e157.wf r159 [i_ y133.2.1, .slice a152 n153 c154] [i_ y133.2.1, .slice a152 n153 c154]
 refine ek_ q162 (s_nil (k128 _ _ (sq_ fun k166 => ?_)))
 refine w_draw [0, 1, 2, 3, 4, 5, 6, 7, 8, 9, 11, 10, 12, 13, 14, 15, 16, 18, 19, 20, 17, 21, 22, 23] (by kernel_rfl) ?_
 refine e_' (.slice a125 n126 c127) (e_' (.slice a149 n150 c151) ?_)
 have d167 := (hb158.djn (m118.lt.le e141.n))
 have u168 := (((m118.fr e141 dn_).ext e157).fr e163 d167)
 have u169 := ((m142.ext e157).fr e163 (hb158.djn m142.lt))
 obtain ⟨y170, hy171, r172⟩ := bs_ r135
 refine dk_ (c_viaductref04_SameRow e163.wf u168.sq u169.sq hy171) ?_
 rintro _ _ ⟨rfl, rfl⟩
 refine ⟨st_nil, ?_⟩
 by_cases h175 : y170 = true
 ·have r176 := ite_t h175 r172
  rw [h175]
  refine e_' (.bool true) (e_' (v114) (mr_ 44 0 (.agg #[i_ y133.2.1, .slice a152 n153 c154]) r164 ?_))
  have d178 := (hb158.djn (m119.lt.le e141.n))
  have u179 := (((m119.fr e141 dn_).ext e157).fr e163 d178)
  have u180 := (u165.fr e163 (hb158.djn m143.lt))
  obtain ⟨y181, hy182, r183⟩ := bs_ r176
  refine dk_ (c_viaductseen_Same e163.wf u179 u180.sq hy182) ?_
  rintro _ H184 ⟨rfl, e185⟩
  refine ⟨st_nil, ?_⟩
  by_cases h186 : y181 = true
  ·have r187 := ite_t h186 r183
   rw [h186]
   refine e_' (.bool true) (e_' (.bool true) (e_' (pt_ b38 0) ?_))
   have n189 := (t_ (t_ (t_ e80.n e100.n) e117.n) e141.n)
   have d190 := (hb158.djn (r76.ltF.le n189))
   have u191 := ((((u129.frS e141 dn_).ext e157).frS e163 d190).frS e185 dn_)
   refine d_fl (.agg #[.slice a66 n67 c68, .slice a69 n70 c71]) (x := aL_ 33 (pt_ b72 0) H184) (by kernel_rfl) (u191.l_) ?_
   have n192 := (t_ (t_ (t_ (t_ e74.n e80.n) e100.n) e117.n) e141.n)
   have d193 := (hb158.djn (m45.lt.le n192))
   have u194 := (((((u107.fr e117 dn_).fr e141 dn_).ext e157).fr e163 d193).fr e185 dn_)
   have d195 := (hb158.djn (m46.ltF.le n192))
   have u196 := (((((u108.frS e117 dn_).frS e141 dn_).ext e157).frS e163 d195).frS e185 dn_)
   obtain ⟨y197, hy198, r199⟩ := bs_ r187
   refine dk_ (c_overlay_Overlay_Len e185.wf u194 u196 hy198) ?_
   rintro _ _ ⟨rfl, rfl⟩
   refine ⟨st_ql (y := aL_ 33 (pt_ b72 0) H184) (by kernel_rfl) (u191.l_) (st_nil), ?_⟩
   have d202 := (hb158.djn (m47.lt.le n192))
   have u203 := ((((u130.fr e141 dn_).ext e157).fr e163 d202).fr e185 dn_)
   have d204 := (hb158.djn (m48.lt.le n192))
   have u205 := ((((u131.fr e141 dn_).ext e157).fr e163 d204).fr e185 dn_)
   obtain ⟨y206, hy207, r208⟩ := bs_ r199
   refine dk_ (c_viaductref11_Len e185.wf u203.sq u205 hy207) ?_
   rintro _ H209 ⟨rfl, e210⟩
   refine ⟨st_anc (by kernel_rfl) (st_nil), ?_⟩
   refine db_ (y197 = y206) (fun h211 => ?_) fun h211 => ?_
   ·have r212 := ite_t h211 r208
    refine e_' (.bool true) (e_' (.bool true) (e_' (pt_ b38 0) (e_' (pt_ b72 1) ?_)))
    have u213 := (u191.frS e210 dn_)
    refine d_fl (.slice a69 n70 c71) (x := aL_ 31 (pt_ b72 1) H209) (by kernel_rfl) (u213.l_) ?_
    have u214 := (u205.fr e210 dn_)
    refine u214.mn_ 31 ?_
    have u215 := (u194.fr e210 dn_)
    have u216 := (u196.frS e210 dn_)
    obtain ⟨y217, hy218, r219⟩ := bs_ r212
    refine dk_ (c_overlay_Overlay_Arcs e210.wf u215 u216 hy218) ?_
    rintro _ _ ⟨rfl, rfl⟩
    refine ⟨st_ql (y := aL_ 31 (pt_ b72 1) H209) (by kernel_rfl) (u213.l_) (st_anc (by kernel_rfl) (st_nil)), ?_⟩
    refine e_' (.bool (decide (y217 = (y17.2.2.2.2.length : Int)))) (e_' (.bool (decide (y217 = (y17.2.2.2.2.length : Int)))) (e_' (.bool (decide (y217 = (y17.2.2.2.2.length : Int)))) ?_))
    refine d_nil ?_
    refine k166 _ _ ?_
    refine w_ret ?_
    refine br_ [.bool (decide (y217 = (y17.2.2.2.2.length : Int)))] ?_
    have n222 := (t_ (t_ (t_ (t_ (t_ (t_ e4.n e44.n) e74.n) e80.n) e100.n) e117.n) e141.n)
    obtain rfl := oi_ r219
    exact ⟨rfl, (fs_ wf (fs_ wf (fs_ wf ((fs_ wf (fs_ wf (fs_ wf (fs_ wf ((fs_ wf ((f0_ wf).extR e4) e44 in_).extR e74) e80 (hb75.fresh n86)) e100 in_) e117 in_) e141 in_).extR e157) e163 (hb158.fresh n222)) e185 in_) e210 in_)⟩
   have r223 := ite_f h211 r208
   refine e_' (.bool false) (e_' (.bool false) (j_' (j_' (j_' (j_' (j_' (j_' (e_' (.bool false) (e_' (.bool false) ?_)))))))))
   refine d_nil ?_
   refine k166 _ _ ?_
   refine w_ret ?_
   refine br_ [.bool false] ?_
   have n224 := (t_ (t_ (t_ (t_ (t_ (t_ e4.n e44.n) e74.n) e80.n) e100.n) e117.n) e141.n)
   obtain rfl := oi_ r223
   exact ⟨rfl, (fs_ wf (fs_ wf (fs_ wf ((fs_ wf (fs_ wf (fs_ wf (fs_ wf ((fs_ wf ((f0_ wf).extR e4) e44 in_).extR e74) e80 (hb75.fresh n86)) e100 in_) e117 in_) e141 in_).extR e157) e163 (hb158.fresh n224)) e185 in_) e210 in_)⟩
  have r225 := ite_f h186 r183
  rw [nb h186]
  refine e_' (.bool false) (e_' (.bool false) (j_' (j_' (j_' (j_' (j_' (e_' (.bool false) (e_' (.bool false) (j_' (j_' (j_' (j_' (j_' (j_' (e_' (.bool false) (e_' (.bool false) ?_))))))))))))))))
  refine d_nil ?_
  refine k166 _ _ ?_
  refine w_ret ?_
  refine br_ [.bool false] ?_
  have n227 := (t_ (t_ (t_ (t_ (t_ (t_ e4.n e44.n) e74.n) e80.n) e100.n) e117.n) e141.n)
  obtain rfl := oi_ r225
  exact ⟨rfl, (fs_ wf (fs_ wf ((fs_ wf (fs_ wf (fs_ wf (fs_ wf ((fs_ wf ((f0_ wf).extR e4) e44 in_).extR e74) e80 (hb75.fresh n86)) e100 in_) e117 in_) e141 in_).extR e157) e163 (hb158.fresh n227)) e185 in_)⟩
 have r228 := ite_f h175 r172
 rw [nb h175]
 refine e_' (.bool false) (j_' (j_' (j_' (e_' (.bool false) (e_' (.bool false) (j_' (j_' (j_' (j_' (j_' (e_' (.bool false) (e_' (.bool false) (j_' (j_' (j_' (j_' (j_' (j_' (e_' (.bool false) (e_' (.bool false) ?_))))))))))))))))))))
 refine d_nil ?_
 refine k166 _ _ ?_
 refine w_ret ?_
 refine br_ [.bool false] ?_
 have n230 := (t_ (t_ (t_ (t_ (t_ (t_ e4.n e44.n) e74.n) e80.n) e100.n) e117.n) e141.n)
 obtain rfl := oi_ r228
 exact ⟨rfl, (fs_ wf ((fs_ wf (fs_ wf (fs_ wf (fs_ wf ((fs_ wf ((f0_ wf).extR e4) e44 in_).extR e74) e80 (hb75.fresh n86)) e100 in_) e117 in_) e141 in_).extR e157) e163 (hb158.fresh n230))⟩
end Go.Vd
